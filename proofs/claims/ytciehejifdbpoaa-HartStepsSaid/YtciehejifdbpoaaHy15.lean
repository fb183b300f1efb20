import Derived.Test.YtciehejifdbpoaaHy14
section
set_option linter.unusedSimpArgs false
set_option linter.unusedVariables false
namespace Go.Proofs.Ytciehejifdbpoaa.Hl
open Go.RowKit Go.Maps Go.Proofs.Ytciehejifdbpoaa.Grow Go.Proofs.Ytciehejifdbpoaa.Rv Go.Proofs.Ytciehejifdbpoaa.As Go.Proofs.Ytciehejifdbpoaa.Ht Go.Proofs.Ytciehejifdbpoaa.PHartQuotients Go.Proofs.Ytciehejifdbpoaa.PHartSteps
open Go.Proofs.YtciehejifdbpoaaW.PrintWords Go.Proofs.YtciehejifdbpoaaW.PrintLast Go.Proofs.YtciehejifdbpoaaW.PrintMore

/-! ### The walk of HartSteps -/
theorem words_size {H : HowS} (hok : HowOk H) : 0 < (strOf (wordsB H.ws)).size ∧ (strOf (wordsB H.ws)).size ≤ 400 := by
  rw [strOf_size]
  rw [wordsB_len]
  have h0 := hok.w0
  have h1 := hok.w1
  omega
theorem made_ref {w : World} {wv : Value} {H : HowS} (hw : WordsAt w wv H.ws) (hok : HowOk H) (hr : H.regs.length = 32) {hc : Array Value} (hhc : howC wv H = hc) :
    Calls Try.prog 37 #[.agg hc] w fun e w' => ∃ (p : Nat) (B : HB) (RG : Array Value), e = .returned (.tuple #[.pointer (some ⟨p, 0, none⟩), .pointer (some ⟨B.mp, 0, none⟩), .agg RG]) ∧
      HartIs w' p B 0 (madeS H 32) ∧ (∀ k, HF p B k → w.heap.size ≤ k) ∧ RefIs w' RG (madeS H 32) ∧ Below w.heap.size w w' := by
  subst hhc
  exact (made_good hw hok hr).mono fun e w' h => by
    obtain ⟨p, B, g, h1, h2, h3, h4, h5, h6⟩ := h
    refine ⟨p, B, _, h1, h2, h3, ?_, h6⟩
    refine ⟨⟨_, strOf (wordsB H.ws), H.data, rfl, ?_, ?_, ?_, ?_⟩, partR_len _ _, ?_⟩
    · refine ⟨rfl, .inr ⟨g, 2, _, rfl, Nat.zero_le _, h5, Nat.le_refl _, by unfold maxLen; decide, rfl, rfl⟩⟩
    · rfl
    · exact words_size hok
    · exact ⟨hok.d0, hok.d1⟩
    · exact ⟨by show (0 : Int) ≤ 4096; decide, by show (4096 : Int) < _; decide⟩
theorem RefIs.size {w : World} {c : Array Value} {S : HartS} (h : RefIs w c S) : c.size = 34 := by
  obtain ⟨mv, d0, d1, e, hr, hm⟩ := h.ex
  rw [e]; exact stC_size _ _ h.len
theorem RefIs.one {w : World} {c : Array Value} {S : HartS} (h : RefIs w c S) : c.all (·.oneCell') = true := by
  obtain ⟨mv, d0, d1, e, hr, hm⟩ := h.ex
  rw [e]; exact stC_one' hr.one _ _
theorem RefIs.row {w : World} {c : Array Value} {S : HartS} (h : RefIs w c S) {k : Nat} {b : Array Value} (hk : w.heap[k]? = some (.cells b 80 (0, 0))) (cs : Array Value) : RefIs (w.setRow k cs) c S := by
  obtain ⟨mv, d0, d1, e, hr, hm⟩ := h.ex
  exact ⟨⟨mv, d0, d1, e, ref_row hr hk cs, hm⟩, h.len, h.pc⟩
theorem hart_row80 {w : World} {p n : Nat} {B : HB} {S : HartS} (h : HartIs w p B n S) {k : Nat} {b : Array Value} (hk : w.heap[k]? = some (.cells b 80 (0, 0))) (cs : Array Value) : HartIs (w.setRow k cs) p B n S := by
  obtain ⟨cap, m1⟩ := h.mem.head
  obtain ⟨cur, m2, m3⟩ := h.mem.row
  obtain ⟨f, s1, s2⟩ := h.seen
  obtain ⟨es, c, sb⟩ := s1.block
  have hh := h.head
  have nb : ∀ j, j ≠ k → (w.setRow k cs).heap[j]? = w.heap[j]? := fun j hj => setRow_other _ _ _ _ hj
  refine ⟨(nb _ fun e => by rw [e, hk] at hh; simp at hh).trans hh, h.len, ⟨⟨cap, (nb _ fun e => by rw [e, hk] at m1; simp at m1).trans m1⟩, ⟨cur, (nb _ fun e => by rw [e, hk] at m2; simp at m2).trans m2, m3⟩, h.mem.len, fun j hj hj' => ?_⟩, h.nd, f, s1.kept (nb _ fun e => by rw [e, hk] at sb; simp at sb), s2⟩
  have mb := h.mem.bytes j hj hj'
  exact (nb _ fun e => by
    have e' : B.gs[j] = k := e
    rw [e', hk] at mb; simp at mb).trans mb
theorem steps_bad {w : World} {wv : Value} {H : HowS} (hw : WordsAt w wv H.ws) (hr : H.regs.length = 32) (hbad : H.ws.length = 0 ∨ 100 < H.ws.length ∨ H.data.size = 0 ∨ 500 < H.data.size) :
    Calls Try.prog 12 #[.agg (howC wv H)] w fun e w' => e = .returned (.bool true) ∧ Below w.heap.size w w' := by
  have h34 := howC_size wv hr
  obtain ⟨hc, hhc⟩ : ∃ hc, howC wv H = hc := ⟨_, rfl⟩
  have MB := Aside0.mk (fun (w9 : World) (hb9 : Below w.heap.size w w9) => made_bad' (hw.below hb9) hbad hhc)
  rw [hhc] at h34 ⊢
  have hbx := heap_alloc_last w (.cells hc 75)
  have Ba := below_alloc (Below.refl w.heap.size w) (.cells hc 75)
  have zs : zC.size = 34 := stC_size _ _ (by simp)
  have zo : zC.all (·.oneCell') = true := by kernel_rfl
  clear hhc hw hbad
  go_enter Try.func12, Try.ntmps12
  go_wp2_with (first | (refine wpList_load75 rfl _ rfl w.heap.size hc rfl hbx h34 ?_))
  refine (MB.out _ Ba).mono ?_
  rintro e w2 ⟨R1, rs1, ro1, rfl, hb2⟩
  have HX2 := blk_below hbx hb2
  have BB2 := Aside0.mk (Ba.trans (hb2.mono Ba.size))
  have hal1 := heap_alloc_last w2 (.cells zC 80)
  have bn1 : Below w2.heap.size w2 ((w2.alloc (.cells zC 80)).setRow w2.heap.size R1) := below_setRow (below_alloc (Below.refl _ _) _) (Nat.le_refl _) R1
  clear hbx Ba hb2 HX2
  go_wp2_with (first | (refine wpList_alloc80 rfl rfl ?_) | (refine wpList_store80 rfl _ _ rfl w2.heap.size R1 zC rfl rfl hal1 rs1 zs ro1 ?_))
  have BX2 := Aside0.mk (BB2.out.trans (bn1.mono BB2.out.size))
  clear bn1 hal1 BB2
  generalize (w2.alloc (.cells zC 80)).setRow w2.heap.size R1 = x2 at *
  refine (hworks_calls _).mono ?_
  rintro e w3 ⟨rfl, hb3⟩
  have B3 := BX2.out.trans (hb3.mono BX2.out.size)
  clear hb3
  go_wp2
  go_ret
  exact ⟨rfl, B3⟩
theorem region1 {w : World} {mp q : Nat} {gs : List Nat} {S : MemS} {d0 d1 : ByteArray} (h : MemIs w mp q gs S) (hm : Mem2 S d0 d1) :
    Calls Try.prog 43 #[.pointer (some ⟨mp, 0, none⟩), .int .i64 1] w fun e w' => e = .returned (.tuple #[.agg #[.int .u64 8192, .string d1, .int .i64 3], .int .i64 0]) ∧ Below w.heap.size w w' := by
  have hl : S.rs.length = 2 := by rw [hm.rs]; rfl
  have hx := region_calls h (i := 1) (by omega) (by omega)
  have e : S.rs[1]'(by omega) = ⟨8192, dataB d1, 3⟩ := by
    have := hm.rs
    have q : S.rs[1]? = some ⟨8192, dataB d1, 3⟩ := by rw [this]; rfl
    exact (List.getElem?_eq_some_iff.1 q).2
  rw [e, str_dataB] at hx
  exact hx
theorem reg_in (S : HartS) (j : Nat) (h : j < 32) : S.reg (j : Int) = S.regs[j]?.getD 0 := by
  unfold HartS.reg
  rw [if_pos ⟨by omega, by omega⟩, Int.toNat_natCast, List.getD_eq_getElem?_getD]
theorem reg_out (S : HartS) : S.reg (-1) = 0 ∧ S.reg 32 = 0 := by
  unfold HartS.reg
  exact ⟨if_neg (by omega), if_neg (by omega)⟩
def stepsR (w x2 : World) (p : Nat) (B : HB) (b5 : Nat) (k : Nat) (wr : World) : Prop :=
  ∃ (S : HartS) (c : Array Value) (m : Nat), m ≤ k ∧ HartIs wr p B m S ∧ RefIs wr c S ∧ GoodH S ∧ wr.heap[b5]? = some (.cells c 80 (0, 0)) ∧ Below w.heap.size w wr
set_option maxHeartbeats 8000000 in
set_option maxRecDepth 100000 in
theorem steps_good {w : World} {wv : Value} {H : HowS} (hw : WordsAt w wv H.ws) (hr : H.regs.length = 32) (hok : HowOk H) (hru : ∀ x ∈ H.regs, U64 x) :
    Calls Try.prog 12 #[.agg (howC wv H)] w fun e w' => e = .returned (.bool true) ∧ Below w.heap.size w w' := by
  have h34 := howC_size wv hr
  obtain ⟨hc, hhc⟩ : ∃ hc, howC wv H = hc := ⟨_, rfl⟩
  have MB := Aside0.mk (fun (w9 : World) (hb9 : Below w.heap.size w w9) => made_ref (hw.below hb9) hok hr hhc)
  rw [hhc] at h34 ⊢
  have hbx := heap_alloc_last w (.cells hc 75)
  have Ba := below_alloc (Below.refl w.heap.size w) (.cells hc 75)
  have zs : zC.size = 34 := stC_size _ _ (by simp)
  have MG := Aside0.mk (madeS_good hok hru)
  obtain ⟨S0, hS0⟩ : ∃ S0, madeS H 32 = S0 := ⟨_, rfl⟩
  rw [hS0] at MB MG
  clear hhc hw hok hru hS0
  go_enter Try.func12, Try.ntmps12
  go_wp2_with (first | (refine wpList_load75 rfl _ rfl w.heap.size hc rfl hbx h34 ?_))
  refine (MB.out _ Ba).mono ?_
  rintro e w2 ⟨p, B, R1, rfl, hH, hF, hR, hb2⟩
  have BB2 := Aside0.mk (Ba.trans (hb2.mono Ba.size))
  have hal1 := heap_alloc_last w2 (.cells zC 80)
  have bn1 : Below w2.heap.size w2 ((w2.alloc (.cells zC 80)).setRow w2.heap.size R1) := below_setRow (below_alloc (Below.refl _ _) _) (Nat.le_refl _) R1
  have rs1 := hR.size
  have ro1 := hR.one
  have HH := Aside0.mk (hH.below bn1)
  have HR := Aside0.mk (hR.below bn1)
  have HF2 := Aside0.mk (show ∀ t, HF p B t → w.heap.size ≤ t from fun t h => Nat.le_trans Ba.size (hF t h))
  have q5 := Aside0.mk (setRow_heap (w2.alloc (.cells zC 80)) w2.heap.size zC R1 80 (0, 0) hal1)
  clear hbx Ba hb2 hH hR hF MB
  go_wp2_with (first | (refine wpList_alloc80 rfl rfl ?_) | (refine wpList_store80 rfl _ _ rfl w2.heap.size R1 zC rfl rfl hal1 rs1 zs ro1 ?_))
  have BX2 := Aside0.mk (BB2.out.trans (bn1.mono BB2.out.size))
  have BLE := Aside0.mk BB2.out.size
  clear bn1 hal1 BB2 rs1 ro1
  generalize (w2.alloc (.cells zC 80)).setRow w2.heap.size R1 = x2 at *
  obtain ⟨b5, hb5⟩ : ∃ b5, w2.heap.size = b5 := ⟨_, rfl⟩
  have HBL := Aside0.mk (show w.heap.size ≤ b5 by rw [← hb5]; exact BLE.out)
  rw [hb5] at q5 ⊢
  clear hb5
  go_loopw [20] (fun i wr => ∃ k : Nat, k ≤ 60 ∧ i = .int .i64 k ∧ Aside0 (stepsR w x2 p B b5 k wr)) (fun i _ => 60 - (intOf i).toNat)
  case atStart => exact ⟨0, by omega, rfl, ⟨S0, R1, 0, Nat.le_refl _, HH.out, HR.out, MG.out, q5.out, BX2.out⟩⟩
  case round =>
    obtain ⟨k, hk, rfl, hx⟩ := hrel
    obtain ⟨S, c, m, hm, hH, hR, hG, h5, hB⟩ := hx.out
    by_cases hlt : k < 60
    · have cs := hR.size
      have XCS := Aside0.mk cs
      have SR := Aside0.mk (step_ref hR hG)
      have H1 := Aside0.mk hH
      have HG := Aside0.mk hG
      have HB := Aside0.mk hB
      have HM := Aside0.mk hm
      clear hx hH hR hG hB hm MG HH HR q5 BX2
      go_wp2_with (first | (refine wpList_load80 rfl _ rfl b5 c rfl h5 cs ?_))
      refine SR.out.mono ?_
      rintro e w3 ⟨c2, rfl, hR3, hb3⟩
      have h53 := blk_below h5 hb3
      have cs2 := hR3.size
      have co2 := hR3.one
      have hal := heap_alloc_last w3 (.cells zC 80)
      have hne : b5 ≠ w3.heap.size := Nat.ne_of_lt (blk_lt h53)
      have bn3 : Below w3.heap.size w3 ((w3.alloc (.cells zC 80)).setRow w3.heap.size c2) := below_setRow (below_alloc (Below.refl _ _) _) (Nat.le_refl _) c2
      have H3 := Aside0.mk ((H1.out.below hb3).below bn3)
      have R3 := Aside0.mk (hR3.below bn3)
      have B3 := Aside0.mk ((HB.out.trans (hb3.mono HB.out.size)).trans (bn3.mono (HB.out.trans (hb3.mono HB.out.size)).size))
      have e5 := Aside0.mk ((setRow_other (w3.alloc (.cells zC 80)) w3.heap.size b5 c2 hne).trans (blk_alloc h53 (.cells zC 80)))
      have e6 := Aside0.mk (setRow_heap (w3.alloc (.cells zC 80)) w3.heap.size zC c2 80 (0, 0) hal)
      obtain ⟨⟨S2, f⟩, hst⟩ : ∃ q, stepF S = q := ⟨_, rfl⟩
      have G2 := Aside0.mk (stepF_good HG.out)
      have XC := Aside0.mk (Step_calls H3.out HG.out (show m < maxLen by have := HM.out; unfold maxLen; omega))
      rw [hst] at R3 G2 XC ⊢
      clear h5 h53 hR3 hb3 hne SR H1 HG HB hst cs
      go_wp2_with (first | (refine wpList_alloc80 rfl rfl ?_) | (refine wpList_store80 rfl _ _ rfl w3.heap.size c2 zC rfl rfl hal cs2 zs co2 ?_))
      generalize (w3.alloc (.cells zC 80)).setRow w3.heap.size c2 = x3 at *
      clear bn3 hal
      refine XC.out.mono ?_
      rintro e w4 ⟨rfl, ⟨m2, hm2, h4⟩, K4⟩
      have f5 := (K4.block _ (blk_lt e5.out) (hf_not H3.out e5.out (by decide) (by decide) (by decide))).trans e5.out
      have f6 := (K4.block _ (blk_lt e6.out) (hf_not H3.out e6.out (by decide) (by decide) (by decide))).trans e6.out
      have R4 := Aside0.mk (R3.out.keep H3.out K4)
      have B4 := Aside0.mk (B3.out.trans (K4.below B3.out.size HF2.out))
      have H4 := Aside0.mk h4
      have HM2 := Aside0.mk hm2
      have g5 := Aside0.mk (setRow_heap w4 b5 c c2 80 (0, 0) f5)
      have cc := Aside0.mk (show c.size = 34 from XCS.out)
      clear h4 K4 hm2 XC e5 e6
      go_wp2_with (first | (refine wpList_load80 rfl _ rfl w3.heap.size c2 rfl f6 cs2 ?_) | (refine wpList_store80 rfl _ _ rfl b5 c2 c rfl rfl f5 cs2 cc.out co2 ?_))
      have H5 := Aside0.mk (hart_row80 H4.out f5 c2)
      have R5 := Aside0.mk (R4.out.row f5 c2)
      have B5 := Aside0.mk (below_setRow B4.out HBL.out c2)
      have g5 := g5.out
      clear f5 f6 H4 R4 B4 H3 R3 B3 cc XCS
      generalize w4.setRow b5 c2 = x5 at *
      obtain ⟨mv, d0, d1, hce, hr5, hm5⟩ := R5.out.ex
      have HM5 := Aside0.mk hm5
      have HCE := Aside0.mk hce
      clear hr5 hm5 hce
      refine (region1 H5.out.mem HM5.out).mono ?_
      rintro e w6 ⟨rfl, hb6⟩
      have H6 := H5.out.below hb6
      have R6 := R5.out.below hb6
      have B6 := B5.out.trans (hb6.mono B5.out.size)
      have g6 := blk_below g5 hb6
      have bn := below_alloc (Below.refl w6.heap.size w6) (.cells #[.int .u64 8192, .string d1, .int .i64 3] 92)
      have H7 := Aside0.mk (H6.below bn)
      have R7 := Aside0.mk (R6.below bn)
      have B7 := Aside0.mk (B6.trans (bn.mono B6.size))
      have g7 := Aside0.mk (blk_below g6 bn)
      have q8 := Aside0.mk (heap_alloc_last w6 (.cells #[.int .u64 8192, .string d1, .int .i64 3] 92))
      clear H6 R6 B6 g6 bn hb6 g5 H5 R5 B5
      go_wp2_with fail
      generalize w6.alloc (.cells #[.int .u64 8192, .string d1, .int .i64 3] 92) = x7 at *
      obtain ⟨mv, d0, d1', hce, hr7, hm7⟩ := R7.out.ex
      obtain rfl : d1' = d1 := by
        have e1 := hm7.rs
        rw [HM5.out.rs] at e1
        simp only [List.cons.injEq, Reg1.mk.injEq, true_and, and_true] at e1
        rw [← str_dataB d1', ← e1.2, str_dataB]
      obtain ⟨g, cap, rfl, hcap, hglt, hgc⟩ := hr7.form
      have kr : x7.cell? ⟨g, 4, none⟩ = some (.string d1') := hgc 4 _ rfl
      have k0 : x7.cell? ⟨b5, 0, none⟩ = some (.slice (some ⟨g, 0, none⟩) 2 cap) := (blk_cell g7.out 0).trans (by rw [hce]; rfl)
      have k1 : x7.cell? ⟨b5, 1, none⟩ = some (.int .u64 S2.pc) := (blk_cell g7.out 1).trans (by rw [hce]; rfl)
      have ks : x7.cell? ⟨w6.heap.size, 1, none⟩ = some (.string d1') := blk_cell q8.out 1
      have z5 := blk_lt g7.out
      have z8 := blk_lt q8.out
      have HCE7 := Aside0.mk hce
      have PC := Aside0.mk (fun n => PC_calls (H7.out.below (pw_below_drewN (Below.refl x7.heap.size x7) n)))
      clear hr7 hm7 hce hgc HM5 HCE
      go_quiet ((go_at_call 39; exact Calls.quiet_of_same (PC.out _)))
      go_wp2_with fail
      have D7 := Aside0.mk (pw_below_drewN (Below.refl x7.heap.size x7) nq)
      generalize x7.drewN nq = y7 at *
      have HE0 := Aside0.mk (Nat.succ_le_of_lt hlt)
      clear kr k0 k1 ks z5 z8 PC
      go_loopw [10] (fun i wr => ∃ j : Nat, j ≤ 32 ∧ i = .int .i64 j ∧ Aside0 (Below x7.heap.size x7 wr)) (fun i _ => 32 - (intOf i).toNat)
      case atStart => exact ⟨0, by omega, rfl, ⟨D7.out⟩⟩
      case round =>
        obtain ⟨j, hj, rfl, hy⟩ := hrel
        have H8 := Aside0.mk (H7.out.below hy.out)
        have g8 := blk_below g7.out hy.out
        by_cases hj2 : j < 32
        · have RG := Aside0.mk (fun n => Reg_calls (H8.out.below (pw_below_drewN (Below.refl wr.heap.size wr) n)) (j : Int))
          rw [reg_in S2 j hj2] at RG
          have kj : wr.cell? ⟨b5, 2 + j, none⟩ = some (.int .u64 (S2.regs[j]?.getD 0)) := by
            refine (blk_cell g8 (2 + j)).trans ?_
            rw [HCE7.out]
            have hl : j < S2.regs.length := by rw [R7.out.len]; exact hj2
            simp [stC, Nat.add_comm 2 j, hl]
          have z5 := blk_lt g8
          have j0 : (0 : Int) ≤ (j : Int) := by omega
          have j1 : (j : Int) < 32 := by omega
          have HY := Aside0.mk hy.out
          clear hy g8 H8
          go_wp2_with fail
          go_quiet ((go_at_call 41; exact Calls.quiet_of_same (RG.out _)))
          go_wp2
          go_roundw
          case rel => exact ⟨j + 1, by omega, by go_num, ⟨HY.out.trans ((pw_below_drewN (Below.refl wr.heap.size wr) nq).mono HY.out.size)⟩⟩
          case measure => simp [intOf]; omega
        · obtain rfl : j = 32 := by omega
          have HY := Aside0.mk hy.out
          clear hy hj2 hj
          by_cases hf : f = 0
          · subst hf
            go_wp2_with fail
            go_roundw
            case rel => exact ⟨k + 1, HE0.out, by go_num, ⟨S2, c2, m2, by have := HM.out; have := HM2.out; omega, H8.out, R7.out.below HY.out, G2.out, g8, B7.out.trans (HY.out.mono B7.out.size)⟩⟩
            case measure => simp [intOf]; have := HE0.out; omega
          · have f1 : (f != 0) = true := bne_iff_ne.2 hf
            have f2 : (f == 0) = false := beq_eq_false_iff_ne.2 hf
            have E1 := Aside0.mk (Reg_calls H8.out (-1))
            have E2 := Aside0.mk (Reg_calls H8.out 32)
            rw [(reg_out S2).1] at E1
            rw [(reg_out S2).2] at E2
            have B8 := Aside0.mk (B7.out.trans (HY.out.mono B7.out.size))
            clear hf g8 H8
            go_wp2_with fail
            refine E1.out.mono ?_
            rintro e w9 ⟨rfl, rfl⟩
            go_wp2_with fail
            refine E2.out.mono ?_
            rintro e w9 ⟨rfl, rfl⟩
            go_wp2_with fail
            refine (hworks_calls _).mono ?_
            rintro e w9 ⟨rfl, hb9⟩
            have B9 := B8.out.trans (hb9.mono B8.out.size)
            clear hb9
            go_wp2
            go_ret
            exact ⟨rfl, B9⟩
    · obtain rfl : k = 60 := by omega
      have E1 := Aside0.mk (Reg_calls hH (-1))
      have E2 := Aside0.mk (Reg_calls hH 32)
      rw [(reg_out S).1] at E1
      rw [(reg_out S).2] at E2
      have B8 := Aside0.mk hB
      clear hx hH hR hG h5 hB hm hlt hk
      go_wp2_with fail
      refine E1.out.mono ?_
      rintro e w9 ⟨rfl, rfl⟩
      go_wp2_with fail
      refine E2.out.mono ?_
      rintro e w9 ⟨rfl, rfl⟩
      go_wp2_with fail
      refine (hworks_calls _).mono ?_
      rintro e w9 ⟨rfl, hb9⟩
      have B9 := B8.out.trans (hb9.mono B8.out.size)
      clear hb9
      go_wp2
      go_ret
      exact ⟨rfl, B9⟩
theorem steps_walk {w : World} {wv : Value} {H : HowS} (hw : WordsAt w wv H.ws) (hr : H.regs.length = 32) (hru : ∀ x ∈ H.regs, U64 x) :
    Calls Try.prog 12 #[.agg (howC wv H)] w fun e w' => e = .returned (.bool true) ∧ Below w.heap.size w w' := by
  by_cases hok : HowOk H
  · exact steps_good hw hr hok hru
  · refine steps_bad hw hr ?_
    refine Classical.byContradiction fun h => hok ⟨?_, ?_, ?_, ?_⟩ <;> omega
end Go.Proofs.Ytciehejifdbpoaa.Hl
end
