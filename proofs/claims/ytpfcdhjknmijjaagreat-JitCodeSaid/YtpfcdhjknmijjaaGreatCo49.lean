import Derived.Test.YtpfcdhjknmijjaaGreatCo47
import Derived.Test.YtpfcdhjknmijjaaGreatCo48
section
set_option linter.unusedSimpArgs false
set_option linter.unusedVariables false
set_option maxRecDepth 100000
namespace Go.Proofs.YtpfcdhjknmijjaaGreat.Jd
open Go.RowKit Go.Maps Go.Proofs.YtpfcdhjknmijjaaGreat.Em Go.Proofs.YtpfcdhjknmijjaaGreat.Ve Go.Proofs.YtpfcdhjknmijjaaGreat.Grow Go.Proofs.YtpfcdhjknmijjaaGreat.Rv Go.Proofs.YtpfcdhjknmijjaaGreat.PEmitFinds Go.Proofs.YtpfcdhjknmijjaaGreat.Ht Go.Proofs.YtpfcdhjknmijjaaGreat.Ew
open Go.Proofs.YtpfcdhjknmijjaaGreatW.PrintWords Go.Proofs.YtpfcdhjknmijjaaGreatW.PrintLast Go.Proofs.YtpfcdhjknmijjaaGreatW.PrintMore
/-! ### A search in machine code -/
/-- The region that runs the machine: how its order is kept. -/
def StR (p : Nat) (B : HB) (O : HartS) (W : World) (k : Nat) (w5 : World) : Prop :=
  Keep (HF p B) W w5 ∧ (k = 0 → Below W.heap.size W w5) ∧ (k = 1 → (∃ m, HartIs w5 p B m O) ∧ GoodH O)
theorem StR.keep {p : Nat} {B : HB} {O : HartS} {W : World} {k : Nat} {w w' : World} (h : StR p B O W k w) (hb : Below w.heap.size w w') : StR p B O W k w' :=
  ⟨h.1.trans (Keep.of_below hb), fun hk => (h.2.1 hk).trans (hb.mono h.1.size), fun hk => by
    obtain ⟨⟨m, hm⟩, hg⟩ := h.2.2 hk
    exact ⟨⟨m, hm.below hb⟩, hg⟩⟩
theorem StR.blk {p : Nat} {B : HB} {O : HartS} {W : World} {k : Nat} {w : World} (h : StR p B O W k w) {g : Nat} {o : Obj} (hg : W.heap[g]? = some o) (hne : ¬ HF p B g) : w.heap[g]? = some o :=
  (h.1.block g (blk_lt hg) hne).trans hg
def VR (p J g xb : Nat) (s : ByteArray) (F : Int) (n : Nat) (j : Nat) (v : Nat → Value) (w : World) : Prop := match j with
  | 0 => v 0 = .pointer (some ⟨p, 0, none⟩)
  | 1 => v 1 = .pointer (some ⟨J, 0, none⟩)
  | 2 => v 2 = .pointer (some ⟨J, 0, none⟩)
  | 3 => v 3 = .pointer (some ⟨J, 0, none⟩)
  | 4 => v 4 = .pointer (some ⟨g, 0, none⟩)
  | 5 => v 5 = .pointer (some ⟨xb, 0, none⟩)
  | 6 => v 6 = .string s
  | 7 => v 7 = .int .i64 (s.size : Int)
  | 8 => v 8 = .int .i64 F
  | 9 => v 9 = .tuple #[.int .i64 (n : Int), .int .i64 0]
  | 10 => v 10 = .tuple #[.int .i64 (n : Int), .int .i64 0]
  | 11 => v 11 = .int .i64 (n : Int)
  | 12 => v 12 = .int .i64 0
  | 13 => v 13 = .int .i64 (n : Int)
  | 14 => v 14 = .int .i64 0
  | _ => True
theorem VR.upd {p J g xb : Nat} {s : ByteArray} {F : Int} {n : Nat} (j i : Nat) (v : Nat → Value) (u : Value) (w : World) (hij : i ≠ j) (h : VR p J g xb s F n j v w) : VR p J g xb s F n j (Go.Proofs.YtpfcdhjknmijjaaGreat.Grow.upd v i u) w := by
  have e : ∀ k, k = j → Go.Proofs.YtpfcdhjknmijjaaGreat.Grow.upd v i u k = v k := fun k hk => by simp only [Grow.upd]; rw [if_neg (by omega)]
  rcases j with _ | _ | _ | _ | _ | _ | _ | _ | _ | _ | _ | _ | _ | _ | _ | j <;> first | trivial | (simp only [VR] at h ⊢; rw [e _ rfl]; exact h)
theorem rec_drew (w : World) : Below w.heap.size w { w with drawn := w.drawn + 1 } := ⟨rfl, rfl, rfl, Nat.le_refl _, fun _ _ => rfl⟩
set_option maxHeartbeats 8000000 in
theorem run_calls {w0 w : World} {J g : Nat} {l : List S61} {st sl : Nat} {out : List Int} {T : ByteArray} (h : JitIs w0 w J g l st sl out T) (hV : ValidP l st sl) (s : ByteArray) (sz : s.size ≤ 1000000) (from_ : Int) (f0 : 0 ≤ from_) (f1 : from_ ≤ (s.size : Int)) (an lo : Bool) (budget : Int)
    (hb1 : bitF l.length s.size ≤ budget) (hb2 : bitF l.length s.size ≤ 262144) {wk : Nat} (hw : workF l.length sl s.size = wk) (h8 : 8 * sl ≤ wk) (hwk : wk ≤ 100000000000) {L : List S89} {R : List RegIn} (hr : jit_regions.f 100 (four T s (8 * sl) (wk - 8 * sl)) = some L)
    (hL : L.length = R.length) (hR : 1 ≤ R.length ∧ R.length < 1000000) (hok : RegsOk R) (hsame : ∀ (i : Nat) (h : i < R.length), (rd_T89 L i).f0 = R[i].base ∧ (rd_T89 L i).f1 = R[i].data ∧ (rd_T89 L i).f2 = R[i].rights)
    {F : Int} (hF : fuelF l.length s.size = F) (hF2 : F < 1000000) {O : HartS} {n : Nat} {bs : List Int} (ran : runF 32768 F.toNat 0 (readyF (memOf R) s.size from_ an lo) = (O, n, 0)) (hm : R.length - 1 < O.mem.rs.length) (hbs : (O.mem.rs[R.length - 1]'hm).bytes = bs) (hbl : 16 * sl ≤ bs.length ∧ bs.length ≤ 1000000000) :
    Calls Tryz.prog 21 #[.pointer (some ⟨J, 0, none⟩), .agg #[.string s, .int .i64 from_, .bool an, .bool lo], .int .i64 budget] w fun e w' => ∃ v, e = .returned (.tuple #[.agg #[.bool (!(O.reg 10 == 0)), v], .int .i64 (n : Int), .int .i64 0]) ∧
      Kd.R (Kd.int .i64) 3 w' w.heap.size (fun _ => True) v (if O.reg 10 = 0 then [] else slotsV sl (As.strOf bs) sl) ∧ Below w.heap.size w w' := by
  obtain ⟨wa, hwa⟩ : ∃ wa, (w.alloc (.cells #[.string s, .int .i64 from_, .bool an, .bool lo] 35)).alloc (.cells #[.bool false, .slice none 0 0] 40) = wa := ⟨_, rfl⟩
  have hx : wa.heap[w.heap.size]? = some (.cells #[.string s, .int .i64 from_, .bool an, .bool lo] 35 (0, 0)) := by rw [← hwa]; exact blk_alloc (heap_alloc_new _ _) _
  have hrr : wa.heap[w.heap.size + 1]? = some (.cells #[.bool false, .slice none 0 0] 40 (0, 0)) := by rw [← hwa]; exact heap_alloc_at _ _ (by simp)
  have B1 : Below w.heap.size w wa := by rw [← hwa]; exact below_alloc (below_alloc (Below.refl _ _) _) _
  have hza : wa.heap.size = w.heap.size + 2 := by rw [← hwa]; simp
  have HJ := Aside0.mk (h.below B1)
  have h0 := Aside0.mk h
  have HVV := Aside0.mk hV
  have HREG := Aside0.mk (And.intro hw (And.intro h8 (And.intro hwk (And.intro hr (And.intro hL (And.intro hR (And.intro hok hsame)))))))
  have HRUN := Aside0.mk (And.intro ran (And.intro hF hF2))
  have hl4 : l.length ≤ 4000 := hV.chk.n.2
  have hl1 : 1 ≤ l.length := hV.chk.n.1
  have hsl : sl ≤ 64 := by have := hV.chk.sl; omega
  have HL4 := Aside0.mk (And.intro hl4 (And.intro hl1 hsl))
  have HX := Aside0.mk hx
  have HR := Aside0.mk hrr
  have HZ := Aside0.mk hza
  have BA := Aside0.mk B1
  obtain ⟨bf, hbf⟩ : ∃ bf, bitF l.length s.size = bf := ⟨_, rfl⟩
  have CB := Aside0.mk (fun (w5 : World) (hb5 : Below wa.heap.size wa w5) => bits_calls ((HJ.out.below hb5).chk) hl4 s sz)
  rw [hbf] at CB hb1 hb2
  have x0 := blk_cell hx 0
  have x1 := blk_cell hx 1
  have xz := blk_lt hx
  have d1 : decide (from_ < 0) = false := decide_eq_false (by omega)
  have d2 : decide (from_ > (s.size : Int)) = false := decide_eq_false (by omega)
  have d3 : decide (bf > budget) = false := decide_eq_false (by omega)
  have d4 : decide (bf > 262144) = false := decide_eq_false (by omega)
  have BND := Aside0.mk (And.intro f0 (And.intro f1 sz))
  have HB := Aside0.mk (And.intro hb1 hb2)
  have HMM := Aside0.mk hbl
  clear h hV hw h8 hwk hr hL hR hok hsame ran hF hF2 B1 hza hbf hl4 hl1 hsl
  have HM := Aside0.mk hm
  have HBS := Aside0.mk hbs
  clear hx hrr hbs hbl
  go_enter Tryz.func21, Tryz.ntmps21
  go_wp2_with fail
  refine wp_region_grow2 [26, 27, 28, 29, 30, 31, 32, 9] (fun j v w2 => match j with
    | 0 => v = .pointer (some ⟨J, 0, none⟩)
    | 1 => v = .pointer (some ⟨J, 0, none⟩)
    | 2 => v = .pointer (some ⟨J, 0, none⟩)
    | 3 => v = .pointer (some ⟨g, 0, none⟩)
    | 4 => v = .pointer (some ⟨w.heap.size, 0, none⟩)
    | 5 => v = .string s
    | 6 => v = .int .i64 bf
    | 7 => v = .int .i64 bf
    | _ => True) (by kernel_rfl) (by kernel_rfl) ?_ ?_ ?_
  · intro j v w2 w3 hv hb
    exact hv
  · refine ⟨?_, ?_, ?_, ?_, ?_, ?_, ?_, ?_, trivial⟩
    all_goals
      intro a w5 hB hoth hdep
      have h0 := hoth 0 (by decide)
      have h4 := hoth 4 (by decide)
      have hO5 := blk_below HJ.out.obj hB
      have hX5 := blk_below HX.out hB
      have c0 := blk_cell hO5 0
      have z := blk_lt hO5
      have x0 := blk_cell hX5 0
      have xz := blk_lt hX5
      have CB5 := Aside0.mk (CB.out w5 hB)
      clear hoth
      simp [Ve.bd1, Ve.bd2, Ve.bd3, Ve.bd5] at hdep h0 h4
      simp only [StepTo, Oper.grows]
    all_goals
      go_simp
      first
        | with_reducible exact Below.refl _ _
        | (refine ⟨Below.refl _ _, ?_⟩; with_reducible rfl)
        | (refine ⟨Below.refl _ _, ?_⟩; with_reducible exact hdep.1)
        | (refine ⟨Below.refl _ _, ?_⟩; with_reducible exact CB5.out)
  · intro v w5 hB hVV2
    have q0 : v 0 = .pointer (some ⟨J, 0, none⟩) := hVV2 0 (by decide)
    have q1 : v 1 = .pointer (some ⟨J, 0, none⟩) := hVV2 1 (by decide)
    have q2 : v 2 = .pointer (some ⟨J, 0, none⟩) := hVV2 2 (by decide)
    have q3 : v 3 = .pointer (some ⟨g, 0, none⟩) := hVV2 3 (by decide)
    have q4 : v 4 = .pointer (some ⟨w.heap.size, 0, none⟩) := hVV2 4 (by decide)
    have q5 : v 5 = .string s := hVV2 5 (by decide)
    have q6 : v 6 = .int .i64 bf := hVV2 6 (by decide)
    have q7 : v 7 = .int .i64 bf := hVV2 7 (by decide)
    have BB := Aside0.mk hB
    have X5 := Aside0.mk (blk_below HX.out hB)
    have R5 := Aside0.mk (blk_below HR.out hB)
    have J5 := Aside0.mk (HJ.out.below hB)
    have x0 := blk_cell X5.out 0
    have xz := blk_lt X5.out
    clear hVV2 hB hwa x1
    simp only [fillF, q0, q1, q2, q3, q4, q5, q6, q7, Act.put, List.setIfInBounds_toArray, List.set_cons_zero, List.set_cons_succ, List.length_cons, List.length_nil, Nat.reduceAdd, List.drop_succ_cons, List.drop_zero]
    clear q0 q1 q2 q3 q4 q5 q6 q7
    have CM := Aside0.mk (memory_calls J5.out HVV.out s HREG.out.1 HREG.out.2.1 HREG.out.2.2.1 HREG.out.2.2.2.1 HREG.out.2.2.2.2.1 HREG.out.2.2.2.2.2.1 HREG.out.2.2.2.2.2.2.1 HREG.out.2.2.2.2.2.2.2)
    go_wp2_with fail
    refine CM.out.mono ?_
    rintro e w6 ⟨⟨mp, pv, gs, b6, rfl, hb6, hmp, hS⟩, hb⟩
    obtain ⟨hreg1, hreg2⟩ := HREG.out.2.2.2.2.2.1
    obtain ⟨qm, hM, hqm⟩ := hS.mem (by omega)
    have hgs := hS.ge
    have hnd := hS.nd
    have B5 := Aside0.mk (BA.out.trans (BB.out.mono BA.out.size))
    have B6 := Aside0.mk (B5.out.trans (hb.mono B5.out.size))
    have Z5 := Aside0.mk (show w.heap.size + 2 ≤ w5.heap.size by have := HZ.out; have := BB.out.size; omega)
    have X6 := Aside0.mk (blk_below X5.out hb)
    have R6 := Aside0.mk (blk_below R5.out hb)
    have J6 := Aside0.mk (J5.out.below hb)
    have MG := Aside0.mk (show w5.heap.size ≤ mp ∧ ∀ g ∈ gs, w5.heap.size ≤ g from ⟨Nat.le_trans hb6 hmp, fun g hg => Nat.le_trans hb6 (hgs g hg).1⟩)
    have CY := Aside0.mk (ready_calls hM hnd (fun k hk => (hgs k hk).2) (.pointer (some ⟨J, 0, none⟩)) s BND.out.2.2 from_ BND.out.1 (by have := BND.out; omega) an lo)
    have S6 := Aside0.mk (hb.size)
    have hb56 := Aside0.mk hb
    have hX6 := X6.out
    clear CM x0 xz hb hb6 hmp hS hM hqm hgs hnd hreg1 hreg2
    go_wp2_with (first | (refine wpList_load_row rfl 35 (.tmp 4) rfl _ rfl 35 _ (0, 0) _ hX6 Tryz.underlying35 rfl (by kernel_rfl) ?_))
    refine CY.out.mono ?_
    rintro e w7 ⟨p, B, rfl, hBm, hH, hHF, hK⟩
    have HFb := Aside0.mk (show ∀ k, HF p B k → w5.heap.size ≤ k from fun k hk => by
      have := S6.out
      rcases hHF k hk with h | h | h
      · omega
      · have : k = mp := h; have := MG.out.1; omega
      · exact MG.out.2 k h)
    have B7 := Aside0.mk (show Below w5.heap.size w5 w7 from by
      exact hb56.out.trans (hK.below hb56.out.size fun k hk => by
        rcases hk with h | h | h
        · have := S6.out; omega
        · have : k = mp := h; have := MG.out.1; omega
        · exact MG.out.2 k h))
    have X7 := Aside0.mk (blk_below X5.out B7.out)
    have R7 := Aside0.mk (blk_below R5.out B7.out)
    have J7 := Aside0.mk (J5.out.below B7.out)
    have H7 := Aside0.mk hH
    have BM := Aside0.mk hBm
    have GO := Aside0.mk (ready_good (memOf_good HREG.out.2.2.2.2.2.2.1 (by have := HREG.out.2.2.2.2.2.1; omega)) (sz := (s.size : Int)) (from_ := from_) (by unfold U64; omega) (by unfold U64; omega) an lo)
    have NJ := Aside0.mk (show ¬ HF p B J from fun hk => by
      have h1 := HFb.out J hk
      have h2 := blk_lt h0.out.obj
      have h3 := Z5.out
      omega)
    have NX := Aside0.mk (show ¬ HF p B w.heap.size from fun hk => by
      have h1 := HFb.out _ hk
      have h3 := Z5.out
      omega)
    clear hX6 hH hK hHF hBm CY X6 R6 J6 MG
    go_wp2_with fail
    refine wp_region_chain (B := [0, 0, 2, 6, 14, 0, 32, 96, 254, 511, 1023, 2047, 2047, 4095, 16383]) [some 58, some 59, some 60, some 61, some 62, some 63, some 64, some 65, some 66, some 67, some 57, some 68, some 69, some 7, some 8] (VR p J g w.heap.size s F n) [9] (StR p B O w7) (by kernel_rfl) rfl (by kernel_rfl) (by kernel_rfl) (by kernel_rfl) (fun _ _ _ _ h _ => h) ⟨⟨rfl, rfl, rfl, Nat.le_refl _, fun _ _ _ => rfl⟩, fun _ => rec_drew _, fun h => by cases h⟩ (fun k w w' h hb => h.keep hb) (by decide) (by decide) (by decide) (fun j i v u w _ hij _ h => h.upd j i v u w hij) ?_ ?_
    · intro i hi o ho a w8 v hoth hdep
      have h0_ := hoth 0 (by decide)
      have h4 := hoth 4 (by decide)
      have h12 := hoth 12 (by decide)
      clear hoth
      simp at h0_ h4 h12
      rcases i with _ | _ | _ | _ | _ | _ | _ | _ | _ | _ | _ | _ | _ | _ | _ | i
      · injection ho with ho; subst ho
        refine .inl ⟨by decide, fun k hk hSt => ?_⟩
        clear hSt hdep
        simp only [Oper.grows, upd, VR, if_true]
        go_simp
        all_goals first | exact Below.refl _ _ | exact ⟨Below.refl _ _, rfl⟩
      · injection ho with ho; subst ho
        refine .inl ⟨by decide, fun k hk hSt => ?_⟩
        clear hSt hdep
        simp only [Oper.grows, upd, VR, if_true]
        go_simp
        all_goals first | exact Below.refl _ _ | exact ⟨Below.refl _ _, rfl⟩
      · injection ho with ho; subst ho
        have s1 : a.tmps.getD 59 undef = .pointer (some ⟨J, 0, none⟩) := ((hdep 1 (by decide) (by decide)).2 59 rfl).trans (hdep 1 (by decide) (by decide)).1
        simp at s1
        refine .inl ⟨by decide, fun k hk hSt => ?_⟩
        clear hSt hdep
        simp only [Oper.grows, upd, VR, if_true]
        go_simp
        all_goals first | exact Below.refl _ _ | exact ⟨Below.refl _ _, rfl⟩
      · injection ho with ho; subst ho
        have s2 : a.tmps.getD 60 undef = .pointer (some ⟨J, 0, none⟩) := ((hdep 2 (by decide) (by decide)).2 60 rfl).trans (hdep 2 (by decide) (by decide)).1
        simp at s2
        refine .inl ⟨by decide, fun k hk hSt => ?_⟩
        clear hSt hdep
        simp only [Oper.grows, upd, VR, if_true]
        go_simp
        all_goals first | exact Below.refl _ _ | exact ⟨Below.refl _ _, rfl⟩
      · injection ho with ho; subst ho
        have s3 : a.tmps.getD 61 undef = .pointer (some ⟨J, 0, none⟩) := ((hdep 3 (by decide) (by decide)).2 61 rfl).trans (hdep 3 (by decide) (by decide)).1
        simp at s3
        refine .inl ⟨by decide, fun k hk hSt => ?_⟩
        have hO5 := hSt.blk J7.out.obj (NJ.out)
        have c0 := blk_cell hO5 0
        have z := blk_lt hO5
        clear hSt hdep hO5
        simp only [Oper.grows, upd, VR, if_true]
        go_simp
        all_goals first | exact Below.refl _ _ | exact ⟨Below.refl _ _, rfl⟩
      · injection ho with ho; subst ho
        refine .inl ⟨by decide, fun k hk hSt => ?_⟩
        clear hSt hdep
        simp only [Oper.grows, upd, VR, if_true]
        go_simp
        all_goals first | exact Below.refl _ _ | exact ⟨Below.refl _ _, rfl⟩
      · injection ho with ho; subst ho
        have s5 : a.tmps.getD 63 undef = .pointer (some ⟨w.heap.size, 0, none⟩) := ((hdep 5 (by decide) (by decide)).2 63 rfl).trans (hdep 5 (by decide) (by decide)).1
        simp at s5
        refine .inl ⟨by decide, fun k hk hSt => ?_⟩
        have hO5 := hSt.blk X7.out (NX.out)
        have x0 := blk_cell hO5 0
        have xz := blk_lt hO5
        clear hSt hdep hO5
        simp only [Oper.grows, upd, VR, if_true]
        go_simp
        all_goals first | exact Below.refl _ _ | exact ⟨Below.refl _ _, rfl⟩
      · injection ho with ho; subst ho
        have s6 : a.tmps.getD 64 undef = .string s := ((hdep 6 (by decide) (by decide)).2 64 rfl).trans (hdep 6 (by decide) (by decide)).1
        simp at s6
        refine .inl ⟨by decide, fun k hk hSt => ?_⟩
        clear hSt hdep
        simp only [Oper.grows, upd, VR, if_true]
        go_simp
        all_goals first | exact Below.refl _ _ | exact ⟨Below.refl _ _, rfl⟩
      · injection ho with ho; subst ho
        have s4 : a.tmps.getD 62 undef = .pointer (some ⟨g, 0, none⟩) := ((hdep 4 (by decide) (by decide)).2 62 rfl).trans (hdep 4 (by decide) (by decide)).1
        have s7 : a.tmps.getD 65 undef = .int .i64 (s.size : Int) := ((hdep 7 (by decide) (by decide)).2 65 rfl).trans (hdep 7 (by decide) (by decide)).1
        simp at s4 s7
        refine .inl ⟨by decide, fun k hk hSt => ?_⟩
        have hBk : Below w.heap.size w w8 := (B5.out.trans (B7.out.mono B5.out.size)).trans (hSt.1.below (by have := (B5.out.trans (B7.out.mono B5.out.size)).size; exact this) (fun k hk => by have := HFb.out k hk; have := Z5.out; omega))
        have CF := (fuel_calls (h0.out.below hBk).chk HL4.out.1 (s.size : Int)).mono (fun e w' hh => show ∃ v', e = .returned v' ∧ Below w8.heap.size w8 w' ∧ VR p J g w.heap.size s F n 8 (Grow.upd v 8 v') w' from ⟨_, hh.1, by rw [← hh.2]; exact Below.refl _ _, by simp [VR, upd, HRUN.out.2.1]⟩)
        have CF2 := Aside0.mk CF
        clear CF hSt hdep hBk
        simp only [Oper.grows]
        go_simp
        exact ⟨Below.refl _ _, CF2.out⟩
      · injection ho with ho; subst ho
        have s0 : a.tmps.getD 58 undef = .pointer (some ⟨p, 0, none⟩) := ((hdep 0 (by decide) (by decide)).2 58 rfl).trans (hdep 0 (by decide) (by decide)).1
        have s8 : a.tmps.getD 66 undef = .int .i64 F := ((hdep 8 (by decide) (by decide)).2 66 rfl).trans (hdep 8 (by decide) (by decide)).1
        simp at s0 s8
        refine .inr ⟨0, by decide, rfl, fun hSt => ?_⟩
        have hB := hSt.2.1 rfl
        have CR := (Run_calls (H7.out.below hB) GO.out 32768 F HRUN.out.2.2 (by decide)).mono (fun e w' hh => show ∃ v', e = .returned v' ∧ (VR p J g w.heap.size s F n 9 (Grow.upd v 9 v') w' ∧ StR p B O w7 1 w' ∧ ∀ j x, VR p J g w.heap.size s F n j x w8 → VR p J g w.heap.size s F n j x w') from by
          obtain ⟨he, ⟨m, _, hm2⟩, hg2, hk2⟩ := hh
          rw [HRUN.out.1] at he hm2 hg2
          exact ⟨_, he, by simp [VR, upd], ⟨hSt.1.trans hk2, fun h => (by cases h), fun _ => ⟨⟨m, hm2⟩, hg2⟩⟩, fun j x h => h⟩)
        have CR2 := Aside0.mk CR
        clear CR hSt hdep hB
        simp only [Oper.moves]
        go_simp
        exact CR2.out
      · injection ho with ho; subst ho
        have s9 : a.tmps.getD 67 undef = .tuple #[.int .i64 (n : Int), .int .i64 0] := ((hdep 9 (by decide) (by decide)).2 67 rfl).trans (hdep 9 (by decide) (by decide)).1
        simp at s9
        refine .inl ⟨by decide, fun k hk hSt => ?_⟩
        clear hSt hdep
        simp only [Oper.grows, upd, VR, if_true]
        go_simp
        all_goals first | exact Below.refl _ _ | exact ⟨Below.refl _ _, rfl⟩
      · injection ho with ho; subst ho
        have s10 : a.tmps.getD 57 undef = .tuple #[.int .i64 (n : Int), .int .i64 0] := ((hdep 10 (by decide) (by decide)).2 57 rfl).trans (hdep 10 (by decide) (by decide)).1
        simp at s10
        refine .inl ⟨by decide, fun k hk hSt => ?_⟩
        clear hSt hdep
        simp only [Oper.grows, upd, VR, if_true]
        go_simp
        all_goals first | exact Below.refl _ _ | exact ⟨Below.refl _ _, rfl⟩
      · injection ho with ho; subst ho
        have s10 : a.tmps.getD 57 undef = .tuple #[.int .i64 (n : Int), .int .i64 0] := ((hdep 10 (by decide) (by decide)).2 57 rfl).trans (hdep 10 (by decide) (by decide)).1
        simp at s10
        refine .inl ⟨by decide, fun k hk hSt => ?_⟩
        clear hSt hdep
        simp only [Oper.grows, upd, VR, if_true]
        go_simp
        all_goals first | exact Below.refl _ _ | exact ⟨Below.refl _ _, rfl⟩
      · injection ho with ho; subst ho
        have s11 : a.tmps.getD 68 undef = .int .i64 (n : Int) := ((hdep 11 (by decide) (by decide)).2 68 rfl).trans (hdep 11 (by decide) (by decide)).1
        simp at s11
        refine .inl ⟨by decide, fun k hk hSt => ?_⟩
        clear hSt hdep
        simp only [Oper.grows, upd, VR, if_true]
        go_simp
        all_goals first | exact Below.refl _ _ | exact ⟨Below.refl _ _, rfl⟩
      · injection ho with ho; subst ho
        have s12 : a.tmps.getD 69 undef = .int .i64 0 := ((hdep 12 (by decide) (by decide)).2 69 rfl).trans (hdep 12 (by decide) (by decide)).1
        simp at s12
        refine .inl ⟨by decide, fun k hk hSt => ?_⟩
        clear hSt hdep
        simp only [Oper.grows, upd, VR, if_true]
        go_simp
        all_goals first | exact Below.refl _ _ | exact ⟨Below.refl _ _, rfl⟩
      · exact absurd hi (by simp)
    · intro v w8 hSt hV2
      have q0 : v 0 = .pointer (some ⟨p, 0, none⟩) := hV2 0 (by decide)
      have q1 : v 1 = .pointer (some ⟨J, 0, none⟩) := hV2 1 (by decide)
      have q2 : v 2 = .pointer (some ⟨J, 0, none⟩) := hV2 2 (by decide)
      have q3 : v 3 = .pointer (some ⟨J, 0, none⟩) := hV2 3 (by decide)
      have q4 : v 4 = .pointer (some ⟨g, 0, none⟩) := hV2 4 (by decide)
      have q5 : v 5 = .pointer (some ⟨w.heap.size, 0, none⟩) := hV2 5 (by decide)
      have q6 : v 6 = .string s := hV2 6 (by decide)
      have q7 : v 7 = .int .i64 (s.size : Int) := hV2 7 (by decide)
      have q8 : v 8 = .int .i64 F := hV2 8 (by decide)
      have q9 : v 9 = .tuple #[.int .i64 (n : Int), .int .i64 0] := hV2 9 (by decide)
      have q10 : v 10 = .tuple #[.int .i64 (n : Int), .int .i64 0] := hV2 10 (by decide)
      have q11 : v 11 = .int .i64 (n : Int) := hV2 11 (by decide)
      have q12 : v 12 = .int .i64 0 := hV2 12 (by decide)
      have q13 : v 13 = .int .i64 (n : Int) := hV2 13 (by decide)
      have q14 : v 14 = .int .i64 0 := hV2 14 (by decide)
      obtain ⟨hk1, _, hk3⟩ := hSt
      obtain ⟨⟨m, hO⟩, hGO⟩ := hk3 rfl
      have HO := Aside0.mk hO
      have HGO := Aside0.mk hGO
      have B8 := Aside0.mk (show Below w.heap.size w w8 from (B5.out.trans (B7.out.mono B5.out.size)).trans (hk1.below (by have := (B5.out.trans (B7.out.mono B5.out.size)).size; exact this) (fun k hk => by have := HFb.out k hk; have := Z5.out; omega)))
      have R8 := Aside0.mk ((hk1.block _ (blk_lt R7.out) (fun hk => by have h1 := HFb.out _ hk; have h3 := Z5.out; omega)).trans R7.out)
      clear hk1 hk3 hO hGO hV2
      simp only [fillM, q0, q1, q2, q3, q4, q5, q6, q7, q8, q9, q10, q11, q12, q13, q14, Act.put, if_true, List.setIfInBounds_toArray, List.set_cons_zero, List.set_cons_succ]
      clear q0 q1 q2 q3 q4 q5 q6 q7 q8 q9 q10 q11 q12 q13 q14
      have CG := Aside0.mk (Reg_calls HO.out 10)
      obtain ⟨rg, hrg⟩ : ∃ rg, O.reg 10 = rg := ⟨_, rfl⟩
      rw [hrg] at CG
      have HRG := Aside0.mk hrg
      have hR8 := R8.out
      have rz := blk_lt hR8
      by_cases h10 : rg = 0
      · have h10b : (rg == 0) = true := beq_iff_eq.2 h10
        go_wp2_with (first | (go_at_call 54; refine CG.out.mono ?_; rintro e wq ⟨rfl, rfl⟩) | (refine wpList_store_row rfl 40 (.tmp 6) (.tmp 77) rfl (w.heap.size + 1) #[.bool false, .slice none 0 0] rfl rfl 40 _ hR8 (by kernel_rfl) (by kernel_rfl) (by kernel_rfl) ?_))
        have hu := setRow_heap _ _ _ #[.bool false, .slice none 0 0] 40 (0, 0) hR8
        have hb := below_setRow B8.out (g := w.heap.size + 1) (by omega) #[.bool false, .slice none 0 0]
        have c0 := blk_cell hu 0
        have c1 := blk_cell hu 1
        exact bodyPost_ret (v := .tuple #[.agg #[.bool false, .slice none 0 0], .int .i64 n, .int .i64 0]) (by simp [results, Tryz.results21, asAddr, go_sem, c0, c1]) rfl ⟨.slice none 0 0, rfl, Kd.R_nil _ _ _ _ _, hb⟩
      · have h10b : (rg == 0) = false := beq_eq_false_iff_ne.2 h10
        have hMM := HO.out.mem
        rw [BM.out] at hMM
        have CR0 := region_calls hMM HGO.out.mem (i := R.length - 1) hm
        rw [HBS.out, show ((R.length - 1 : Nat) : Int) = (R.length : Int) - 1 by have := HREG.out.2.2.2.2.2.1.1; omega] at CR0
        have CR := Aside0.mk CR0
        obtain ⟨sb, hsb⟩ : ∃ sb, As.strOf bs = sb := ⟨_, rfl⟩
        have hss : sb.size = bs.length := by rw [← hsb]; exact Ht.strOf_size bs
        rw [hsb] at CR
        have HSB := Aside0.mk hsb
        have HSS := Aside0.mk hss
        have J8 := Aside0.mk (h0.out.below B8.out)
        clear CR0 hMM hsb hss
        go_wp2_with (first | (go_at_call 54; refine CG.out.mono ?_; rintro e wq ⟨rfl, rfl⟩))
        refine CR.out.mono ?_
        rintro e w9 ⟨rfl, hb⟩
        have B9 := Aside0.mk (B8.out.trans (hb.mono B8.out.size))
        have R9 := Aside0.mk (blk_below hR8 hb)
        have J9 := Aside0.mk (J8.out.below hb)
        obtain ⟨w10, hw10⟩ : ∃ w10, w9.alloc (.cells #[.int .u64 (O.mem.rs[R.length - 1]'hm).base, .string sb, .int .i64 (O.mem.rs[R.length - 1]'hm).rights] 89) = w10 := ⟨_, rfl⟩
        have hz10 : w.heap.size + 1 < w10.heap.size := by rw [← hw10]; have := blk_lt R9.out; simp; omega
        have hb2 : Below w9.heap.size w9 w10 := by rw [← hw10]; exact below_alloc (Below.refl _ _) _
        have hT : w10.heap[w9.heap.size]? = some (.cells #[.int .u64 (O.mem.rs[R.length - 1]'hm).base, .string sb, .int .i64 (O.mem.rs[R.length - 1]'hm).rights] 89 (0, 0)) := by rw [← hw10]; exact heap_alloc_new _ _
        have eT := blk_cell hT 1
        have zT := blk_lt hT
        have B10 := Aside0.mk (B9.out.trans (hb2.mono B9.out.size))
        have R10 := Aside0.mk (blk_below R9.out hb2)
        have CS := Aside0.mk (slots_calls (J9.out.below hb2) HL4.out.2.2 sb (by rw [HSS.out]; exact HMM.out.1) (by rw [HSS.out]; exact HMM.out.2))
        clear hb hb2 CR CG hR8 rz
        go_wp2_with fail
        refine CS.out.mono ?_
        rintro e w11 ⟨v, rfl, hvR, hb⟩
        obtain ⟨A, cp, rfl⟩ := Kd.R_slice hvR
        have hlen : (slotsV sl sb sl).length = sl := by simp [slotsV]
        rw [hlen] at hvR
        have h10s := B10.out.size
        have VR2 := Aside0.mk (Kd.R_mono (ok' := fun _ => True) (Kd.R_lower (Kd.R_step (w1 := w11.setRow (w.heap.size + 1) #[.bool true, .slice A sl cp]) (Kd.R_bound hvR) (fun k hk _ => setRow_other _ _ _ _ (by have := hk.2.1; omega))) h10s) (fun _ _ => trivial))
        have hR11 := blk_below R10.out hb
        have B11 := Aside0.mk (B10.out.trans (hb.mono B10.out.size))
        have rz := blk_lt hR11
        clear hvR hb CS eT zT hT hw10
        go_wp2_with (first | (refine wpList_store_row rfl 40 (.tmp 6) (.tmp 90) rfl (w.heap.size + 1) #[.bool true, .slice A sl cp] rfl rfl 40 _ hR11 (by kernel_rfl) (by kernel_rfl) (by kernel_rfl) ?_))
        have hu := setRow_heap _ _ _ #[.bool true, .slice A sl cp] 40 (0, 0) hR11
        have hb := below_setRow B11.out (g := w.heap.size + 1) (by omega) #[.bool true, .slice A sl cp]
        have c0 := blk_cell hu 0
        have c1 := blk_cell hu 1
        exact bodyPost_ret (v := .tuple #[.agg #[.bool true, .slice A sl cp], .int .i64 n, .int .i64 0]) (by simp [results, Tryz.results21, asAddr, go_sem, c0, c1]) rfl ⟨.slice A sl cp, rfl, by rw [HSB.out]; exact VR2.out, hb⟩
end Go.Proofs.YtpfcdhjknmijjaaGreat.Jd
end
