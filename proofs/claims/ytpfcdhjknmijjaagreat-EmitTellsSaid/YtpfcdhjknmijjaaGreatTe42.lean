import Derived.Test.YtpfcdhjknmijjaaGreatTe41
section
set_option linter.unusedSimpArgs false
set_option linter.unusedVariables false
set_option maxRecDepth 100000
namespace Go.Proofs.YtpfcdhjknmijjaaGreat.Ew
open Go.RowKit Go.Maps Go.Proofs.YtpfcdhjknmijjaaGreat.Em Go.Proofs.YtpfcdhjknmijjaaGreat.Ve Go.Proofs.YtpfcdhjknmijjaaGreat.Grow Go.Proofs.YtpfcdhjknmijjaaGreat.Rv Go.Proofs.YtpfcdhjknmijjaaGreat.PEmitFinds Go.Proofs.YtpfcdhjknmijjaaGreat.Ht
open Go.Proofs.YtpfcdhjknmijjaaGreatW.PrintWords Go.Proofs.YtpfcdhjknmijjaaGreatW.PrintLast Go.Proofs.YtpfcdhjknmijjaaGreatW.PrintMore
/-- All that is known of an example. -/
structure ExP (l : List S61) (st sl : Nat) (T : ByteArray) (x : ByteArray) (L : List S89) (R : List RegIn) (F : Int) (O : HartS) (n : Nat) (bs : List Int) (rs : List Int) : Prop where
  valid : ValidP l st sl
  code : codeT l st sl = (T, 0)
  ne : T.toList.isEmpty = false
  nx : x.toList.isEmpty = false
  sz : x.size ≤ 1000000
  regs : burinref30_Regions.f 600 l st sl T x = some L
  len : L.length = 4
  rlen : R.length = 4
  same : ∀ (i : Nat) (h : i < 4), (rd_T89 L i).f0 = (R[i]'(by omega)).base ∧ (rd_T89 L i).f1 = (R[i]'(by omega)).data ∧ (rd_T89 L i).f2 = (R[i]'(by omega)).rights
  ok : RegsOk R
  good : GoodH (setsF (new0 (memOf R) 65536) (regL x.size 0 false false) 32)
  fuel : fuelF l.length x.size = F
  few : F < 1000000
  ran : runF 32768 F.toNat 0 (setsF (new0 (memOf R) 65536) (regL x.size 0 false false) 32) = (O, n, 0)
  big : 10 < n
  mem : 3 < O.mem.rs.length
  got : (O.mem.rs[3]'mem).bytes = bs
  work : workF l.length sl x.size = bs.length
  ans : O.reg 10 = 1
  told : burinref30_Told.f 100 l st sl 1 (As.strOf bs) = some (true, rs)
  idx : ∀ (w : World) (k : Nat), k < 32 → (Instr.index 83 (.agg (regC x.size 0 false false)) (.int .i64 (k : Int))).run Tryz.prog w = .ok (.int .u64 ((regL x.size 0 false false).getD k 0)) w
theorem at_add (g m : Nat) : (⟨g, 0, none⟩ : Addr).add m = ⟨g, m, none⟩ := by
  unfold Addr.add
  split
  · rename_i e; simp [e]
  · simp
/-- The last region of 'called': how its order is kept. -/
def StT (r : Nat) (W : World) (rs : List Int) (k : Nat) (w5 : World) : Prop :=
  Keep (fun j => j = r) W w5 ∧ (k ≤ 2 → Below W.heap.size W w5) ∧ (k = 3 → ∃ u, w5.heap[r]? = some (.cells #[.bool true, u] 40 (0, 0)) ∧ Kd.R (Kd.int .i64) 3 w5 W.heap.size (fun j => W.heap.size ≤ j) u rs)
theorem StT.keep {r : Nat} {W : World} {rs : List Int} {k : Nat} {w w' : World} (h : StT r W rs k w) (hb : Below w.heap.size w w') : StT r W rs k w' :=
  ⟨h.1.trans (Keep.of_below hb), fun hk => (h.2.1 hk).trans (hb.mono h.1.size), fun hk => by
    obtain ⟨u, h1, h2⟩ := h.2.2 hk
    exact ⟨u, blk_below h1 hb, Kd.R_below h2 hb⟩⟩
theorem StT.blk {r : Nat} {W : World} {rs : List Int} {k : Nat} {w : World} (h : StT r W rs k w) {g : Nat} {o : Obj} (hg : W.heap[g]? = some o) (hne : g ≠ r) : w.heap[g]? = some o :=
  (h.1.block g (blk_lt hg) hne).trans hg
def VT (q cap n z4 zT p : Nat) (l : List S61) (st sl : Nat) (sb : ByteArray) (b : Nat) (rs : List Int) (j : Nat) (v : Nat → Value) (w : World) : Prop := match j with
  | 0 => v 0 = .agg #[.slice (some ⟨q, 0, none⟩) l.length cap, .int .i64 (st : Int), .int .i64 (sl : Int)]
  | 1 => v 1 = .pointer (some ⟨p, 0, none⟩)
  | 2 => v 2 = .int .u64 1
  | 3 => v 3 = .pointer (some ⟨zT, 1, none⟩)
  | 4 => v 4 = .string sb
  | 5 => ∃ u, v 5 = .agg #[.bool true, u] ∧ Kd.R (Kd.int .i64) 3 w b (fun j => b ≤ j) u rs
  | 6 => v 6 = .int .i64 (n : Int)
  | 8 => v 8 = .int .i64 (n : Int)
  | 9 => v 9 = .bool true
  | _ => True
theorem VT.below {q cap n z4 zT p : Nat} {l : List S61} {st sl : Nat} {sb : ByteArray} {b : Nat} {rs : List Int} (j : Nat) (v : Nat → Value) (w w' : World) (h : VT q cap n z4 zT p l st sl sb b rs j v w) (hb : Below w.heap.size w w') : VT q cap n z4 zT p l st sl sb b rs j v w' := by
  rcases j with _ | _ | _ | _ | _ | _ | _ | _ | _ | _ | j <;> first | exact h | (obtain ⟨u, h1, h2⟩ := h; exact ⟨u, h1, Kd.R_below h2 hb⟩)
theorem VT.set {q cap n z4 zT p : Nat} {l : List S61} {st sl : Nat} {sb : ByteArray} {b : Nat} {rs : List Int} (j : Nat) (v : Nat → Value) (w : World) {r : Nat} (hr : r < b) (c : Array Value) (h : VT q cap n z4 zT p l st sl sb b rs j v w) : VT q cap n z4 zT p l st sl sb b rs j v (w.setRow r c) := by
  rcases j with _ | _ | _ | _ | _ | _ | _ | _ | _ | _ | j <;> first | exact h | (obtain ⟨u, h1, h2⟩ := h; exact ⟨u, h1, Kd.R_step h2 (fun k hk _ => setRow_other _ _ _ _ (by omega))⟩)
theorem VT.upd {q cap n z4 zT p : Nat} {l : List S61} {st sl : Nat} {sb : ByteArray} {b : Nat} {rs : List Int} (j i : Nat) (v : Nat → Value) (u : Value) (w : World) (hij : i ≠ j) (h : VT q cap n z4 zT p l st sl sb b rs j v w) : VT q cap n z4 zT p l st sl sb b rs j (Go.Proofs.YtpfcdhjknmijjaaGreat.Grow.upd v i u) w := by
  have e : ∀ k, k = j → Go.Proofs.YtpfcdhjknmijjaaGreat.Grow.upd v i u k = v k := fun k hk => by simp only [Grow.upd]; rw [if_neg (by omega)]
  rcases j with _ | _ | _ | _ | _ | _ | _ | _ | _ | _ | j <;> first | trivial | (simp only [VT] at h ⊢; rw [e _ rfl]; exact h)
theorem grows_load24 {o : Oper} {a : Act} {w : World} {R : Value → World → Prop} (x : Operand) (ho : o.op = .load 24 x) (g : Nat) (hx : a.eval x = .pointer (some ⟨g, 0, none⟩)) (u v z : Value) (hg : w.heap[g]? = some (.cells #[u, v, z] 24 (0, 0))) (h : R (.agg #[u, v, z]) w) : Oper.grows Tryz.prog o a w R := by
  obtain ⟨fs, hu⟩ := under24
  unfold Oper.grows execOp
  simp only [ho, hx, Instr.loadAt, Instr.sureAddr, Sem.run_bind, Sem.run_pure, Result.andThen_ok, run_loadVar_row w g 24 24 #[u, v, z] (0, 0) _ hg hu rfl (by rw [info24]; rfl)]
  exact ⟨Below.refl _ _, h⟩
set_option maxHeartbeats 8000000 in
theorem called_calls {w0 w : World} {g : Nat} {l : List S61} {st sl : Nat} {out : List Int} (h : IsS63 w0 w g l st sl out) (hB : Below w0.heap.size w0 w) {T x : ByteArray} {L : List S89} {R : List RegIn} {F : Int} {O : HartS} {n : Nat} {bs rs : List Int} (hE : ExP l st sl T x L R F O n bs rs) :
    Calls Tryz.prog 28 #[.pointer (some ⟨g, 0, none⟩), .agg #[.string x, .int .i64 0, .bool false, .bool false]] w fun e w' => ∃ v, e = .returned (.tuple #[.agg #[.bool true, v], .int .i64 n, .bool true]) ∧ Kd.R (Kd.int .i64) 3 w' w.heap.size (fun _ => True) v rs ∧ Below w.heap.size w w' := by
  obtain ⟨wa, hwa⟩ : ∃ wa, (w.alloc (.cells #[.string x, .int .i64 0, .bool false, .bool false] 35)).alloc (.cells #[.bool false, .slice none 0 0] 40) = wa := ⟨_, rfl⟩
  have hx : wa.heap[w.heap.size]? = some (.cells #[.string x, .int .i64 0, .bool false, .bool false] 35 (0, 0)) := by rw [← hwa]; exact blk_alloc (heap_alloc_new _ _) _
  have hr : wa.heap[w.heap.size + 1]? = some (.cells #[.bool false, .slice none 0 0] 40 (0, 0)) := by rw [← hwa]; exact heap_alloc_at _ _ (by simp)
  have B1 : Below w.heap.size w wa := by rw [← hwa]; exact below_alloc (below_alloc (Below.refl _ _) _) _
  have hza : wa.heap.size = w.heap.size + 2 := by rw [← hwa]; simp
  have H1 := Aside0.mk (h.below B1)
  have HB1 := Aside0.mk (hB.trans (B1.mono hB.size))
  have HE := Aside0.mk hE
  have C1 := Aside0.mk (code_calls (H1.out) HB1.out hE.valid)
  have hc := hE.code
  have hne : T.toList.isEmpty = false := hE.ne
  have hpz : 1 ≤ l.length ∧ l.length ≤ 4000 := hE.valid.chk.n
  rw [hc] at C1
  have HX := Aside0.mk hx
  have HR := Aside0.mk hr
  have HZ := Aside0.mk hza
  have BA := Aside0.mk B1
  have HP := Aside0.mk hpz
  clear h hB hE hc hx hr hza B1 hpz
  go_enter Tryz.func28, Tryz.ntmps28
  go_wp2_with fail
  clear hwa
  refine C1.out.mono ?_
  rintro e w1 ⟨rfl, hb⟩
  have B2 := Aside0.mk (BA.out.trans (hb.mono BA.out.size))
  have X2 := Aside0.mk (blk_below HX.out hb)
  have R2 := Aside0.mk (blk_below HR.out hb)
  have S2 := Aside0.mk (show w.heap.size + 2 ≤ w1.heap.size by have := HZ.out; have := hb.size; omega)
  have C2 := Aside0.mk (prog_calls (H1.out.below hb) (HB1.out.trans (hb.mono HB1.out.size)) HP.out.1 HP.out.2)
  have H2 := Aside0.mk (H1.out.below hb)
  have HB2 := Aside0.mk (HB1.out.trans (hb.mono HB1.out.size))
  clear hb H1 HB1 C1 HX HR HZ BA
  go_wp2_with fail
  refine C2.out.mono ?_
  rintro e w2 ⟨q, cap, rfl, hk, hb⟩
  have B3 := Aside0.mk (B2.out.trans (hb.mono B2.out.size))
  have X3 := Aside0.mk (blk_below X2.out hb)
  have R3 := Aside0.mk (blk_below R2.out hb)
  have S3 := Aside0.mk (show w.heap.size + 2 ≤ w2.heap.size by have := S2.out; have := hb.size; omega)
  have H3 := Aside0.mk (H2.out.below hb)
  have HB3 := Aside0.mk (HB2.out.trans (hb.mono HB2.out.size))
  have K3 := Aside0.mk hk
  clear hb hk H2 HB2 C2 X2 R2 S2 B2
  obtain ⟨w3, hw3⟩ : ∃ w3, w2.alloc (.cells #[.slice (some ⟨q, 0, none⟩) l.length cap, .int .i64 (st : Int), .int .i64 (sl : Int)] 24) = w3 := ⟨_, rfl⟩
  have hb : Below w2.heap.size w2 w3 := by rw [← hw3]; exact below_alloc (Below.refl _ _) _
  have hP4 : w3.heap[w2.heap.size]? = some (.cells #[.slice (some ⟨q, 0, none⟩) l.length cap, .int .i64 (st : Int), .int .i64 (sl : Int)] 24 (0, 0)) := by rw [← hw3]; exact heap_alloc_new _ _
  have B4 := Aside0.mk (B3.out.trans (hb.mono B3.out.size))
  have X4 := Aside0.mk (blk_below X3.out hb)
  have R4 := Aside0.mk (blk_below R3.out hb)
  have S4 := Aside0.mk (show w.heap.size + 2 ≤ w2.heap.size ∧ w2.heap.size < w3.heap.size from ⟨S3.out, blk_lt hP4⟩)
  have H4 := Aside0.mk (H3.out.below hb)
  have HB4 := Aside0.mk (HB3.out.trans (hb.mono HB3.out.size))
  have K4 := Aside0.mk (Kd.R_below K3.out hb)
  have P4 := Aside0.mk hP4
  have e4 := blk_cell X4.out 0
  obtain ⟨z4, hz4⟩ : ∃ z4, w2.heap.size = z4 := ⟨_, rfl⟩
  rw [hz4] at hP4 P4 S4
  clear hb H3 HB3 K3 X3 R3 S3 B3
  go_wp2_with (first | (refine wpList_load24 rfl _ rfl z4 _ _ _ rfl hP4 ?_))
  obtain ⟨_, hcap, hC4⟩ := Kd.R_reads' K4.out
  refine (burinref30_Regions.calls 600 (some ⟨q, 0, none⟩) cap l st sl T x L w3 hC4 hcap HE.out.regs).mono ?_
  rintro e w5 ⟨v0, rfl, hKL, hb5⟩
  obtain ⟨gL, capL, rfl, hgL, hgL2, _⟩ := Kd.R_form hKL (by rw [HE.out.len]; omega)
  have hL4 := Aside0.mk HE.out.len
  have hR4 := Aside0.mk HE.out.rlen
  have hcl := (Kd.R_reads' hKL).2.2
  have hll : L.length = R.length := hL4.out.trans hR4.out.symm
  rw [hll] at hcl ⊢
  have CM := Aside0.mk (MemNew_calls (w := w5) (L := gL) (off := 0) (cap := capL) R HE.out.ok (by rw [hR4.out]; omega) (fun i hi => by
    have hi4 : i < 4 := by rw [hR4.out] at hi; exact hi
    obtain ⟨ad, e, h1, h2, h3⟩ := at_T89 hcl (i : Int) (by omega) (by omega)
    cases e
    obtain ⟨s1, s2, s3⟩ := HE.out.same i hi4
    simp only [Int.toNat_natCast] at h1 h2 h3
    rw [s1] at h1
    rw [s2] at h2
    rw [s3] at h3
    rw [at_add] at h1 h2 h3
    rw [Nat.zero_add]
    exact ⟨h1, h2, h3⟩) hgL2)
  have B5 := Aside0.mk hb5
  clear hb5 hcl hKL hll hC4 hcap hgL hgL2 e4 hP4
  go_wp2_with fail
  refine CM.out.mono ?_
  rintro e w6 ⟨⟨mp, pv, gs, rfl, hmp, hS⟩, hb6⟩
  obtain ⟨qm, hM, hqm⟩ := hS.mem (by rw [hR4.out]; omega)
  have hgs := hS.ge
  have hnd := hS.nd
  have B6 := Aside0.mk (B5.out.trans (hb6.mono B5.out.size))
  have CN := Aside0.mk (New_calls hM hnd 65536)
  have MG := Aside0.mk (show w3.heap.size ≤ mp ∧ ∀ g ∈ gs, w3.heap.size ≤ g from ⟨Nat.le_trans B5.out.size hmp, fun g hg => Nat.le_trans B5.out.size (hgs g hg).1⟩)
  clear hb6 hmp hS hM hqm hgs hnd CM B5
  go_wp2_with fail
  refine CN.out.mono ?_
  rintro e w7 ⟨rfl, hH, hb7⟩
  have B7 := Aside0.mk (B6.out.trans (hb7.mono B6.out.size))
  obtain ⟨p, hp⟩ : ∃ p, w6.heap.size + 1 = p := ⟨_, rfl⟩
  have HFb := Aside0.mk (show ∀ k, HF p ⟨mp, qm, w6.heap.size, gs⟩ k → w3.heap.size ≤ k from fun k hk => by
    have := B6.out.size
    rcases hk with hk | hk | hk | hk
    · omega
    · have : k = w6.heap.size := hk; omega
    · have : k = mp := hk; have := MG.out.1; omega
    · exact MG.out.2 k hk)
  obtain ⟨B, hBB⟩ : ∃ B : HB, (⟨mp, qm, w6.heap.size, gs⟩ : HB) = B := ⟨_, rfl⟩
  have MP : B.mp = mp := by rw [← hBB]
  rw [hBB] at HFb
  rw [hp, hBB] at hH
  rw [hp]
  have HI := Aside0.mk hH
  have hX7 := blk_below X4.out B7.out
  clear hb7 hH CN MG B6
  go_wp2_with (first | (refine wpList_load_row rfl 35 (.tmp 3) rfl _ rfl 35 _ (0, 0) _ hX7 Tryz.underlying35 rfl (by kernel_rfl) ?_))
  refine (regs_calls x HE.out.sz 0 (by decide) (by decide) false false w7).mono ?_
  rintro e w8 ⟨rfl, hb8⟩
  obtain ⟨C, hC⟩ : ∃ C, regC x.size 0 false false = C := ⟨_, rfl⟩
  obtain ⟨rl, hrl⟩ : ∃ rl, regL x.size 0 false false = rl := ⟨_, rfl⟩
  obtain ⟨S0, hS0⟩ : ∃ S0, new0 (memOf R) 65536 = S0 := ⟨_, rfl⟩
  have IX := Aside0.mk HE.out.idx
  have hgo := HE.out.good
  have hran := HE.out.ran
  rw [hC, hrl] at IX
  rw [hrl, hS0] at hgo hran
  rw [hS0] at HI
  rw [hC]
  have GO := Aside0.mk hgo
  have RAN := Aside0.mk hran
  have B8 := Aside0.mk (B7.out.trans (hb8.mono B7.out.size))
  have HI8 := Aside0.mk (HI.out.below hb8)
  clear hb8 hX7 B7 HI hgo hran hC hrl hS0 hp hBB
  go_wp2_with fail
  go_loopw [13, 14, 50] (fun _ _ v50 wr => ∃ k : Nat, k ≤ 32 ∧ v50 = .int .i64 k ∧ Aside0 (HartIs wr p B 0 (setsF S0 rl k) ∧ Below w3.heap.size w3 wr)) (fun _ _ v50 _ => 32 - (intOf v50).toNat)
  case atStart => exact ⟨0, by omega, rfl, ⟨HI8.out, B8.out⟩⟩
  case round =>
    obtain ⟨k, hk, rfl, hx⟩ := hrel
    by_cases hlt : k < 32
    · have ix := IX.out wr k hlt
      have CS := Aside0.mk (Set_calls hx.out.1 (k : Int) (rl.getD k 0))
      have hz := hx.out.1.lt
      go_wp2_with fail
      refine CS.out.mono ?_
      rintro e wq ⟨rfl, hH, hK⟩
      have HQ := Aside0.mk (show HartIs wq p B 0 (setsF S0 rl (k + 1)) ∧ Below w3.heap.size w3 wq from ⟨hH, hx.out.2.trans (hK.below hx.out.2.size HFb.out)⟩)
      clear hH hK hx CS
      go_wp2_with fail
      exact ⟨⟨k + 1, by omega, rfl, HQ⟩, by simp [intOf]; omega⟩
    · obtain rfl : k = 32 := by omega
      have hz := hx.out.1.lt
      have BL := hx.out.2
      have hX := blk_below X4.out BL
      have e0 := blk_cell hX 0
      have CF := Aside0.mk (fuel_calls (H4.out.below (BL.mono (Nat.le_refl _))) HP.out.2 (x.size : Int))
      have hfu := HE.out.fuel
      rw [hfu] at CF
      have hhl : x.size ≤ 1000000 := HE.out.sz
      clear hlt hk
      go_wp2_with fail
      refine CF.out.mono ?_
      rintro e wq ⟨rfl, rfl⟩
      have CR := Run_calls hx.out.1 GO.out 32768 F HE.out.few (by decide)
      rw [RAN.out] at CR
      have CR2 := Aside0.mk CR
      have BL2 := Aside0.mk BL
      clear CR CF hX e0 hz BL hx
      go_wp2_with fail
      refine CR2.out.mono ?_
      rintro e w9 ⟨rfl, ⟨m, hm, hH9⟩, hG9, hK⟩
      have BL9 := BL2.out.trans (hK.below BL2.out.size HFb.out)
      have hX := blk_below X4.out BL9
      have e0 := blk_cell hX 0
      have hnx := HE.out.nx
      have hM9 := hH9.mem
      rw [MP] at hM9
      have CG := region_calls hM9 hG9.mem (i := 3) HE.out.mem
      rw [HE.out.got, show ((3 : Nat) : Int) = 3 from rfl] at CG
      have CG2 := Aside0.mk CG
      have H9 := Aside0.mk hH9
      have BB9 := Aside0.mk BL9
      clear CG hM9 hG9 hH9 hm hK CR2 BL2 BL9
      go_wp2_with fail
      refine CG2.out.mono ?_
      rintro e w10 ⟨rfl, hb⟩
      have B10 := Aside0.mk (BB9.out.trans (hb.mono BB9.out.size))
      have H10 := Aside0.mk (H9.out.below hb)
      clear hb CG2 hX e0 H9 BB9
      obtain ⟨w11, hw11⟩ : ∃ w11, w10.alloc (.cells #[.int .u64 (O.mem.rs[3]'HE.out.mem).base, .string (As.strOf bs), .int .i64 (O.mem.rs[3]'HE.out.mem).rights] 89) = w11 := ⟨_, rfl⟩
      have hb : Below w10.heap.size w10 w11 := by rw [← hw11]; exact below_alloc (Below.refl _ _) _
      have hT : w11.heap[w10.heap.size]? = some (.cells #[.int .u64 (O.mem.rs[3]'HE.out.mem).base, .string (As.strOf bs), .int .i64 (O.mem.rs[3]'HE.out.mem).rights] 89 (0, 0)) := by rw [← hw11]; exact heap_alloc_new _ _
      have B11 := Aside0.mk (B10.out.trans (hb.mono B10.out.size))
      have H11 := H10.out.below hb
      obtain ⟨sb, hsb⟩ : ∃ sb, As.strOf bs = sb := ⟨_, rfl⟩
      have hss : sb.size = bs.length := by rw [← hsb]; exact Ht.strOf_size bs
      rw [hsb] at hT hw11 ⊢
      have W11 := Aside0.mk (show ∀ n, Calls Tryz.prog 11 #[.pointer (some ⟨g, 0, none⟩), .int .i64 (x.size : Int)] (w11.drewN n) fun e w' => e = .returned (.int .i64 (sb.size : Int)) ∧ w' = w11.drewN n from fun n => (work_calls ((H4.out.below B11.out).drewN n) HP.out.2 HE.out.valid.chk.sl (x.size : Int)).mono fun e w' hh => ⟨by rw [hh.1, HE.out.work, hss], hh.2.symm⟩)
      have G11 := Aside0.mk (show ∀ n, Calls Tryz.prog 54 #[.pointer (some ⟨p, 0, none⟩), .int .i64 10] (w11.drewN n) fun e w' => e = .returned (.int .u64 1) ∧ w' = w11.drewN n from fun n => (Reg_calls (H11.kept (w' := w11.drewN n) (fun _ _ => rfl)) 10).mono fun e w' hh => ⟨by rw [hh.1, HE.out.ans], hh.2⟩)
      have eT := blk_cell hT 1
      have zT := blk_lt hT
      have hX := blk_below X4.out B11.out
      have e0 := blk_cell hX 0
      have HT := Aside0.mk hT
      have ZT := Aside0.mk (show w3.heap.size ≤ w10.heap.size from B10.out.size)
      have HX := Aside0.mk hX
      have HH := Aside0.mk H11
      have HSB := Aside0.mk hsb
      clear hb B10 H10 H11 hss hsb hT hX
      go_wp2_with fail
      go_quiet (first | (go_at_call 11; exact Calls.quiet_of_same (W11.out _)) | (go_at_call 54; exact Calls.quiet_of_same (G11.out _)))
      clear W11 G11 e0 eT zT hw11
      go_wp2_with fail
      have TC := Aside0.mk (fun (w5 : World) (hb5 : Below w11.heap.size w11 w5) => burinref30_Told.calls 100 (some ⟨q, 0, none⟩) cap l st sl 1 sb true rs w5 (Kd.R_reads' (Kd.R_below K4.out (B11.out.trans (hb5.mono B11.out.size)))).2.2 (Kd.R_reads' K4.out).2.1 (by rw [← HSB.out]; exact HE.out.told))
      have hw11s : w3.heap.size ≤ w11.heap.size := B11.out.size
      refine wp_region_chain (B := [0, 0, 2, 0, 8, 31, 0, 63, 255, 511]) [some 102, some 103, some 104, some 105, some 106, some 107, some 108, none, some 5, some 6] (VT q cap n z4 w10.heap.size p l st sl sb w11.heap.size rs) [2, 5, 7] (StT (w.heap.size + 1) w11 rs) (by kernel_rfl) rfl (by kernel_rfl) (by kernel_rfl) (by kernel_rfl) VT.below ⟨⟨rfl, rfl, rfl, Nat.le_refl _, fun _ _ _ => rfl⟩, fun _ => ⟨rfl, rfl, rfl, Nat.le_refl _, fun _ _ => rfl⟩, fun h => by cases h⟩ (fun k w w' h hb => h.keep hb) (by decide) (by decide) (by decide) (fun j i v u w _ hij _ h => h.upd j i v u w hij) ?_ ?_
      · intro i hi o ho a w5 v hoth hdep
        have h4 := hoth 4 (by decide)
        have h9 := hoth 9 (by decide)
        have h12 := hoth 12 (by decide)
        have h18 := hoth 18 (by decide)
        have h15 := hoth 15 (by decide)
        clear hoth
        simp at h4 h9 h12 h18 h15
        rcases i with _ | _ | _ | _ | _ | _ | _ | _ | _ | _ | i
        · injection ho with ho; subst ho
          refine .inl ⟨by decide, fun k hk hSt => ?_⟩
          exact grows_load24 (.tmp 9) rfl z4 (by simp [Act.eval, h9]) _ _ _ (hSt.blk (blk_below P4.out B11.out) (by have := S4.out; omega)) (by simp [VT, upd])
        · injection ho with ho; subst ho
          refine .inl ⟨by decide, fun k hk hSt => ?_⟩
          clear hSt hdep
          simp only [Oper.grows, upd, VT, if_true]
          go_simp
          all_goals first | exact Below.refl _ _ | exact ⟨Below.refl _ _, rfl⟩
        · injection ho with ho; subst ho
          have s1 : a.tmps.getD 103 undef = .pointer (some ⟨p, 0, none⟩) := ((hdep 1 (by decide) (by decide)).2 103 rfl).trans (hdep 1 (by decide) (by decide)).1
          simp at s1
          refine .inr ⟨0, by decide, rfl, fun hSt => ?_⟩
          have hB := hSt.2.1 (by decide)
          have CR := (Reg_calls (HH.out.below hB) 10).mono (fun e w' (hh : e = .returned (.int .u64 (O.reg 10)) ∧ w' = w5) => show ∃ v', e = .returned v' ∧ (VT q cap n z4 w10.heap.size p l st sl sb w11.heap.size rs 2 (Grow.upd v 2 v') w' ∧ StT (w.heap.size + 1) w11 rs 1 w' ∧ ∀ j x, VT q cap n z4 w10.heap.size p l st sl sb w11.heap.size rs j x w5 → VT q cap n z4 w10.heap.size p l st sl sb w11.heap.size rs j x w') from ⟨_, hh.1, by rw [hh.2]; exact ⟨by simp [VT, upd, HE.out.ans], ⟨hSt.1, fun _ => hB, fun h => by cases h⟩, fun _ _ h => h⟩⟩)
          have CR2 := Aside0.mk CR
          clear CR hSt hB hdep
          simp only [Oper.moves]
          go_simp
          exact CR2.out
        · injection ho with ho; subst ho
          refine .inl ⟨by decide, fun k hk hSt => ?_⟩
          clear hSt hdep
          simp only [Oper.grows, upd, VT, if_true]
          go_simp
          all_goals first | exact Below.refl _ _ | exact ⟨Below.refl _ _, rfl⟩
        · injection ho with ho; subst ho
          have s3 : a.tmps.getD 105 undef = .pointer (some ⟨w10.heap.size, 1, none⟩) := ((hdep 3 (by decide) (by decide)).2 105 rfl).trans (hdep 3 (by decide) (by decide)).1
          simp at s3
          refine .inl ⟨by decide, fun k hk hSt => ?_⟩
          have hT5 := hSt.blk HT.out (by have := ZT.out; have := S4.out; omega)
          have eT := blk_cell hT5 1
          have zT := blk_lt hT5
          clear hSt hdep hT5
          simp only [Oper.grows, upd, VT, if_true]
          go_simp
          all_goals first | exact Below.refl _ _ | exact ⟨Below.refl _ _, rfl⟩
        · injection ho with ho; subst ho
          have s0 : a.tmps.getD 102 undef = .agg #[.slice (some ⟨q, 0, none⟩) l.length cap, .int .i64 (st : Int), .int .i64 (sl : Int)] := ((hdep 0 (by decide) (by decide)).2 102 rfl).trans (hdep 0 (by decide) (by decide)).1
          have s2 : a.tmps.getD 104 undef = .int .u64 1 := ((hdep 2 (by decide) (by decide)).2 104 rfl).trans (hdep 2 (by decide) (by decide)).1
          have s4 : a.tmps.getD 106 undef = .string sb := ((hdep 4 (by decide) (by decide)).2 106 rfl).trans (hdep 4 (by decide) (by decide)).1
          simp at s0 s2 s4
          refine .inr ⟨1, by decide, rfl, fun hSt => ?_⟩
          have hB := hSt.2.1 (by decide)
          have CR := (TC.out w5 hB).mono (fun e w' hh => show ∃ v', e = .returned v' ∧ (VT q cap n z4 w10.heap.size p l st sl sb w11.heap.size rs 5 (Grow.upd v 5 v') w' ∧ StT (w.heap.size + 1) w11 rs 2 w' ∧ ∀ j x, VT q cap n z4 w10.heap.size p l st sl sb w11.heap.size rs j x w5 → VT q cap n z4 w10.heap.size p l st sl sb w11.heap.size rs j x w') from by
            obtain ⟨u, rfl, hu, hb⟩ := hh
            exact ⟨_, rfl, ⟨u, by simp [upd], Kd.R_mono (Kd.R_lower (Kd.R_bound hu) hB.size) (fun k hk => Nat.le_trans hB.size hk.2.1)⟩, ⟨hSt.1.trans (Keep.of_below hb), fun _ => hB.trans (hb.mono hB.size), fun h => by cases h⟩, fun j x h => h.below j x _ _ hb⟩)
          have CR2 := Aside0.mk CR
          clear CR hSt hB hdep
          simp only [Oper.moves]
          go_simp
          exact CR2.out
        · injection ho with ho; subst ho
          refine .inl ⟨by decide, fun k hk hSt => ?_⟩
          clear hSt hdep
          simp only [Oper.grows, upd, VT, if_true]
          go_simp
          all_goals first | exact Below.refl _ _ | exact ⟨Below.refl _ _, rfl⟩
        · injection ho with ho; subst ho
          obtain ⟨u, hu, hR⟩ := (hdep 5 (by decide) (by decide)).1
          have s5 : a.tmps.getD 107 undef = .agg #[.bool true, u] := ((hdep 5 (by decide) (by decide)).2 107 rfl).trans hu
          simp at s5
          obtain ⟨A, c, rfl⟩ := Kd.R_slice hR
          refine .inr ⟨2, by decide, rfl, fun hSt => ?_⟩
          have hB := hSt.2.1 (by decide)
          have hres := blk_below R4.out (B11.out.trans (hB.mono B11.out.size))
          have hs := run_storeVar_row w5 (w.heap.size + 1) 40 40 _ #[.bool true, .slice A rs.length c] hres (show (Tryz.prog.info? 40).map (·.size) = some 2 by kernel_rfl) rfl (by simp [Value.oneCell'])
          have hr3 : w.heap.size + 1 < w11.heap.size := by have := S4.out; omega
          refine moves_store 40 (.tmp 4) (.tmp 107) _ _ rfl (by simp [Act.eval, h4]; rfl) (by simp [Act.eval, s5]; rfl) (by simp only [Instr.storeAt, Instr.sureAddr, Sem.run_bind, Sem.run_pure, Result.andThen_ok, hs]) ⟨trivial, ⟨?_, fun h => absurd h (by omega), fun _ => ⟨_, setRow_heap _ _ _ _ 40 (0, 0) hres, Kd.R_step hR (fun k hk _ => setRow_other _ _ _ _ (by omega))⟩⟩, fun j x h => h.set j x w5 hr3 _⟩
          exact hSt.1.trans ⟨rfl, rfl, rfl, by simp [World.setRow], fun k _ hk => setRow_other _ _ _ _ hk⟩
        · injection ho with ho; subst ho
          have s6 : a.tmps.getD 108 undef = .int .i64 (n : Int) := ((hdep 6 (by decide) (by decide)).2 108 rfl).trans (hdep 6 (by decide) (by decide)).1
          simp at s6
          refine .inl ⟨by decide, fun k hk hSt => ?_⟩
          clear hSt hdep
          simp only [Oper.grows, upd, VT, if_true]
          go_simp
          all_goals first | exact Below.refl _ _ | exact ⟨Below.refl _ _, rfl⟩
        · injection ho with ho; subst ho
          refine .inl ⟨by decide, fun k hk hSt => ?_⟩
          clear hSt hdep
          simp only [Oper.grows, upd, VT, if_true]
          go_simp
          all_goals first | exact Below.refl _ _ | exact ⟨Below.refl _ _, rfl⟩
        · exact absurd hi (by simp)
      · intro v w5 hSt hV
        have q0 : v 0 = .agg #[.slice (some ⟨q, 0, none⟩) l.length cap, .int .i64 (st : Int), .int .i64 (sl : Int)] := hV 0 (by decide)
        have q1 : v 1 = .pointer (some ⟨p, 0, none⟩) := hV 1 (by decide)
        have q2 : v 2 = .int .u64 1 := hV 2 (by decide)
        have q3 : v 3 = .pointer (some ⟨w10.heap.size, 1, none⟩) := hV 3 (by decide)
        have q4 : v 4 = .string sb := hV 4 (by decide)
        obtain ⟨u5, q5, _⟩ : ∃ u, v 5 = .agg #[.bool true, u] ∧ Kd.R (Kd.int .i64) 3 w5 w11.heap.size (fun j => w11.heap.size ≤ j) u rs := hV 5 (by decide)
        have q6 : v 6 = .int .i64 (n : Int) := hV 6 (by decide)
        have q8 : v 8 = .int .i64 (n : Int) := hV 8 (by decide)
        have q9 : v 9 = .bool true := hV 9 (by decide)
        obtain ⟨hk1, _, hk3⟩ := hSt
        obtain ⟨u, hu, hR⟩ := hk3 rfl
        have hsz := B11.out.size
        have hs4 := S4.out
        have hb3 : Below w.heap.size w w5 := (B4.out.trans (B11.out.mono B4.out.size)).trans (hk1.below (by omega) (fun k hk => by omega))
        have FIN := Aside0.mk (And.intro hu (And.intro (Kd.R_mono (ok' := fun _ => True) (Kd.R_lower hR (base' := w.heap.size) (by omega)) (fun _ _ => trivial)) hb3))
        clear hV hk1 hk3 hu hR hb3 hsz hs4
        simp only [fillM, q0, q1, q2, q3, q4, q5, q6, q8, q9, Act.put, if_true, List.setIfInBounds_toArray, List.set_cons_zero, List.set_cons_succ]
        clear q0 q1 q2 q3 q4 q5 q6 q8 q9
        go_wp2_with fail
        obtain ⟨hu, hR, hb⟩ := FIN.out
        have c0 := blk_cell hu 0
        have c1 := blk_cell hu 1
        exact bodyPost_ret (v := .tuple #[.agg #[.bool true, u], .int .i64 n, .bool true]) (by simp [results, Tryz.results28, asAddr, go_sem, c0, c1]) rfl ⟨u, rfl, hR, hb⟩
end Go.Proofs.YtpfcdhjknmijjaaGreat.Ew
end
