import Derived.Test.YtpfcdhjknmijjaaGreatCo7
import Derived.Test.YtpfcdhjknmijjaaGreatCo14
section
set_option linter.unusedSimpArgs false
set_option linter.unusedVariables false
namespace Go.Proofs.YtpfcdhjknmijjaaGreat.Ve
open Go.RowKit Go.Proofs.YtpfcdhjknmijjaaGreat.Grow Go.Proofs.YtpfcdhjknmijjaaGreat.Rv Go.Proofs.YtpfcdhjknmijjaaGreat.As Go.Proofs.YtpfcdhjknmijjaaGreat.PEmitFinds
open Go.Proofs.YtpfcdhjknmijjaaGreatW.PrintWords Go.Proofs.YtpfcdhjknmijjaaGreatW.PrintLast Go.Proofs.YtpfcdhjknmijjaaGreatW.PrintMore

/-! ### The order -/
/-- A block that has these numbers. -/
def IntsAt (w : World) (g : Nat) (l : List Int) : Prop := ∃ cur : Array Value, w.heap[g]? = some (.cells cur 3 (0, 0)) ∧ ∀ (j : Nat) z, l[j]? = some z → cur[j]? = some (.int .i64 z)
def BoolsAt (w : World) (g : Nat) (l : List Bool) : Prop := ∃ cur : Array Value, w.heap[g]? = some (.cells cur 4 (0, 0)) ∧ ∀ (j : Nat) z, l[j]? = some z → cur[j]? = some (.bool z)
theorem rd_some {l : List Int} {j : Nat} (hj : j < l.length) : l[j]? = some (rd l (j : Int)) := by unfold rd; simp [List.getD_eq_getElem?_getD, hj]
def rdB (l : List Bool) (j : Nat) : Bool := l.getD j false
theorem rdB_some {l : List Bool} {j : Nat} (hj : j < l.length) : l[j]? = some (rdB l j) := by unfold rdB; simp [List.getD_eq_getElem?_getD, hj]
theorem IntsAt.cell {w : World} {g : Nat} {l : List Int} (h : IntsAt w g l) {j : Nat} (hj : j < l.length) : w.cell? ⟨g, j, none⟩ = some (.int .i64 (rd l (j : Int))) := by
  obtain ⟨cur, hh, hc⟩ := h
  exact (cell_of_row w g j cur 3 _ hh).trans (hc j _ (rd_some hj))
theorem BoolsAt.cell {w : World} {g : Nat} {l : List Bool} (h : BoolsAt w g l) {j : Nat} (hj : j < l.length) : w.cell? ⟨g, j, none⟩ = some (.bool (rdB l j)) := by
  obtain ⟨cur, hh, hc⟩ := h
  exact (cell_of_row w g j cur 4 _ hh).trans (hc j _ (rdB_some hj))
theorem IntsAt.lt {w : World} {g : Nat} {l : List Int} (h : IntsAt w g l) : g < w.heap.size := by obtain ⟨cur, hh, _⟩ := h; exact blk_lt hh
theorem BoolsAt.lt {w : World} {g : Nat} {l : List Bool} (h : BoolsAt w g l) : g < w.heap.size := by obtain ⟨cur, hh, _⟩ := h; exact blk_lt hh
theorem IntsAt.froz {w : World} {g : Nat} {l : List Int} (h : IntsAt w g l) (j : Nat) : w.frozen? ⟨g, j, none⟩ = false := by obtain ⟨cur, hh, _⟩ := h; exact frozen_of_row w g j cur 3 hh
theorem BoolsAt.froz {w : World} {g : Nat} {l : List Bool} (h : BoolsAt w g l) (j : Nat) : w.frozen? ⟨g, j, none⟩ = false := by obtain ⟨cur, hh, _⟩ := h; exact frozen_of_row w g j cur 4 hh
theorem IntsAt.kept {w w' : World} {g : Nat} {l : List Int} (h : IntsAt w g l) (hk : w'.heap[g]? = w.heap[g]?) : IntsAt w' g l := by obtain ⟨cur, hh, hc⟩ := h; exact ⟨cur, hk.trans hh, hc⟩
theorem BoolsAt.kept {w w' : World} {g : Nat} {l : List Bool} (h : BoolsAt w g l) (hk : w'.heap[g]? = w.heap[g]?) : BoolsAt w' g l := by obtain ⟨cur, hh, hc⟩ := h; exact ⟨cur, hk.trans hh, hc⟩
theorem set_cells {α : Type} {l : List α} {enc : α → Value} {cur : Array Value} (hc : ∀ (j : Nat) z, l[j]? = some z → cur[j]? = some (enc z)) (j : Nat) (z : α) : ∀ (i : Nat) y, (l.set j z)[i]? = some y → (cur.setIfInBounds j (enc z))[i]? = some (enc y) := by
  intro i y hy
  by_cases e : j = i
  · subst e
    have hlt : j < l.length := by
      have := (List.getElem?_eq_some_iff.1 hy).1
      simpa using this
    have : cur[j]? = some (enc l[j]) := hc j _ (List.getElem?_eq_getElem hlt)
    rw [Array.getElem?_setIfInBounds_self_of_lt (Array.getElem?_eq_some_iff.1 this).1]
    rw [List.getElem?_set_self hlt] at hy
    cases hy; rfl
  · rw [List.getElem?_set_ne e] at hy
    rw [Array.getElem?_setIfInBounds_ne e]
    exact hc i y hy
theorem IntsAt.set {w : World} {g : Nat} {l : List Int} (h : IntsAt w g l) (j : Nat) (z : Int) : IntsAt (w.setCell ⟨g, j, none⟩ (.int .i64 z)) g (l.set j z) := by
  obtain ⟨cur, hh, hc⟩ := h
  exact ⟨cur.setIfInBounds j (.int .i64 z), heap_setCell_same w g j cur 3 _ hh, set_cells (enc := Value.int .i64) hc j z⟩
theorem BoolsAt.set {w : World} {g : Nat} {l : List Bool} (h : BoolsAt w g l) (j : Nat) (z : Bool) : BoolsAt (w.setCell ⟨g, j, none⟩ (.bool z)) g (l.set j z) := by
  obtain ⟨cur, hh, hc⟩ := h
  exact ⟨cur.setIfInBounds j (.bool z), heap_setCell_same w g j cur 4 _ hh, set_cells (enc := Value.bool) hc j z⟩
theorem ints_of_R {w : World} {base : Nat} {ok : Nat → Prop} {v : Value} {r : List Int} (h : Kd.R (Kd.int .i64) 3 w base ok v r) (hp : 0 < r.length) : ∃ g cap, v = .slice (some ⟨g, 0, none⟩) r.length cap ∧ base ≤ g ∧ IntsAt w g r := by
  obtain ⟨g, cap, rfl, hb, hlt, cells, hc⟩ := Kd.R_form h hp
  refine ⟨g, cap, rfl, hb, cells, hc, fun j z hz => ?_⟩
  have hj := (List.getElem?_eq_some_iff.1 hz).1
  have := (Kd.R_cell 0 h (j : Int) (by omega) (by omega)).1
  rw [Int.toNat_natCast, cell_of_row w g j cells 3 _ hc] at this
  rw [this]
  simp [rdOf, List.getD_eq_getElem?_getD, hz]
/-! #### The order, as a function -/
def pick (inn : List Int) (dn : List Bool) : Nat → Nat → Option Nat
  | 0, _ => none
  | d + 1, i => if 0 < rd inn (i : Int) then pick inn dn d (i + 1) else if rdB dn i = true then pick inn dn d (i + 1) else some i
def dec1 (y : List Int) (t : Int) : List Int := y.set t.toNat (wrap64 (rd y t - 1))
def decX (y : List Int) (x : S61) : List Int := if byB x = true then y else (leadsL x).foldl dec1 y
def ordL (l : List S61) : Nat → List Int → List Bool → List Int → Option (List Int)
  | 0, _, _, out => some out
  | d + 1, inn, dn, out => (pick inn dn l.length 0).bind fun i => ordL l d (decX inn (rd_T61 l (i : Int))) (dn.set i true) (out ++ [(i : Int)])
def orderF (l : List S61) : Option (List Int) := ordL l l.length (freeL l) (List.replicate l.length false) []
theorem pick_pos {inn : List Int} {dn : List Bool} {N i : Nat} (hi : i < N) (h : 0 < rd inn (i : Int)) : pick inn dn (N - i) i = pick inn dn (N - (i + 1)) (i + 1) := by
  rw [show N - i = (N - (i + 1)) + 1 by omega, pick, if_pos h]
theorem pick_done {inn : List Int} {dn : List Bool} {N i : Nat} (hi : i < N) (h : ¬ 0 < rd inn (i : Int)) (hd : rdB dn i = true) : pick inn dn (N - i) i = pick inn dn (N - (i + 1)) (i + 1) := by
  rw [show N - i = (N - (i + 1)) + 1 by omega, pick, if_neg h, if_pos hd]
theorem pick_this {inn : List Int} {dn : List Bool} {N i : Nat} (hi : i < N) (h : ¬ 0 < rd inn (i : Int)) (hd : rdB dn i = false) : pick inn dn (N - i) i = some i := by
  rw [show N - i = (N - (i + 1)) + 1 by omega, pick, if_neg h, hd]; rfl
theorem leads_R (x : S61) (w : World) : Calls Tryz.prog 110 #[instV x] w fun e w' => ∃ A c, e = .returned (.tuple #[.slice A (leadsL x).length c, .bool (byB x)]) ∧ Kd.R (Kd.int .i64) 3 w' w.heap.size (fun k => w.heap.size ≤ k) (.slice A (leadsL x).length c) (leadsL x) ∧ Below w.heap.size w w' :=
  (verify_leads.calls x.f0 x.f1 x.f2 x.f3 x.f4 (leadsL x) (byB x) w (leads_f x)).mono fun _ _ h => by
    obtain ⟨v, he, hr, hb⟩ := h
    obtain ⟨A, c, rfl, hc, hC⟩ := Kd.R_reads hr
    exact ⟨A, c, he, Kd.R_mono (Kd.R_bound hr) (fun k hk => hk.2.1), hb⟩
def lenOf : Value → Nat
  | .slice _ n _ => n
  | _ => 0
structure OrdS (w wr : World) (C0 : Array Value) (B2 b0 g4 gd : Nat) (inn : List Int) (dn : List Bool) (v5 : Value) (out : List Int) : Prop where
  inr : IntsAt wr g4 inn
  dn : BoolsAt wr gd dn
  out : wr.ownsRow B2 3 1 v5 out.length (out.map (Value.int .i64))
  bx : wr.heap[b0]? = some (.cells C0 24 (0, 0))
  lt : g4 < B2 ∧ gd < B2 ∧ b0 < B2 ∧ gd ≠ b0 ∧ g4 ≠ b0 ∧ g4 ≠ gd
  ge : w.heap.size ≤ B2 ∧ w.heap.size ≤ g4 ∧ w.heap.size ≤ gd
  below : Below w.heap.size w wr
  size : B2 ≤ wr.heap.size
section
variable {w wr w2 : World} {C0 : Array Value} {B2 b0 g4 gd : Nat} {inn : List Int} {dn : List Bool} {v5 v6 : Value} {out : List Int}
theorem OrdS.step (h : OrdS w wr C0 B2 b0 g4 gd inn dn v5 out) (hb : Below wr.heap.size wr w2) : OrdS w w2 C0 B2 b0 g4 gd inn dn v5 out :=
  ⟨h.inr.kept (hb.block _ h.inr.lt), h.dn.kept (hb.block _ h.dn.lt), h.out.below hb, blk_below h.bx hb, h.lt, h.ge, h.below.trans (hb.mono h.below.size), Nat.le_trans h.size hb.size⟩
theorem OrdS.setD (h : OrdS w wr C0 B2 b0 g4 gd inn dn v5 out) (j : Nat) (b : Bool) : OrdS w (wr.setCell ⟨gd, j, none⟩ (.bool b)) C0 B2 b0 g4 gd inn (dn.set j b) v5 out := by
  obtain ⟨l1, l2, l3, l4, l5, l6⟩ := h.lt
  exact ⟨h.inr.kept (heap_setCell_other _ _ _ _ l6), h.dn.set j b, row_kept h.out fun k hk => heap_setCell_other _ _ _ _ (by have := own_ge h.out k hk; show k ≠ gd; omega),
    (heap_setCell_other _ _ _ _ (fun e => l4 e.symm)).trans h.bx, h.lt, h.ge, h.below.setCell (p := ⟨gd, j, none⟩) h.ge.2.2 _, by simpa [World.setCell] using h.size⟩
theorem OrdS.setI (h : OrdS w wr C0 B2 b0 g4 gd inn dn v5 out) (j : Nat) (z : Int) : OrdS w (wr.setCell ⟨g4, j, none⟩ (.int .i64 z)) C0 B2 b0 g4 gd (inn.set j z) dn v5 out := by
  obtain ⟨l1, l2, l3, l4, l5, l6⟩ := h.lt
  exact ⟨h.inr.set j z, h.dn.kept (heap_setCell_other _ _ _ _ fun e => l6 e.symm), row_kept h.out fun k hk => heap_setCell_other _ _ _ _ (by have := own_ge h.out k hk; show k ≠ g4; omega),
    (heap_setCell_other _ _ _ _ (fun e => l5 e.symm)).trans h.bx, h.lt, h.ge, h.below.setCell (p := ⟨g4, j, none⟩) h.ge.2.1 _, by simpa [World.setCell] using h.size⟩
theorem OrdS.push (h : OrdS w wr C0 B2 b0 g4 gd inn dn v5 out) (i : Int) (ho : w2.ownsRow B2 3 1 v6 (out.length + 1) (out.map (Value.int .i64) ++ [.int .i64 i])) (hg : wr.grownBy w2 v5.ownBlock) : OrdS w w2 C0 B2 b0 g4 gd inn dn v6 (out ++ [i]) := by
  obtain ⟨l1, l2, l3, l4, l5, l6⟩ := h.lt
  have ne : ∀ k, k < B2 → some k ≠ v5.ownBlock := fun k hk e => by have := own_ge h.out k e.symm; omega
  refine ⟨h.inr.kept (hg.block _ h.inr.lt (ne _ l1)), h.dn.kept (hg.block _ h.dn.lt (ne _ l2)), ?_, (hg.block _ (blk_lt h.bx) (ne _ l3)).trans h.bx, h.lt, h.ge, h.below.grown hg h.below.size (fun k hk => Nat.le_trans h.ge.1 (own_ge h.out k hk)), Nat.le_trans h.size hg.size⟩
  simpa using ho
end
def OrdR (O : Option (List Int)) (w : World) (e : Ending) (w' : World) : Prop := ∃ (v : Value) (b : Bool), e = .returned (.tuple #[v, .bool b]) ∧ ((b = true ∧ ∃ (out : List Int) (base : Nat), O = some out ∧ w.heap.size ≤ base ∧ w'.ownsRow base 3 1 v out.length (out.map (Value.int .i64))) ∨ (b = false ∧ O = none)) ∧ Below w.heap.size w w'
theorem OrdR.yes {O : Option (List Int)} {w w' : World} {v : Value} {out : List Int} {base : Nat} (hO : O = some out) (h1 : w.heap.size ≤ base) (h2 : w'.ownsRow base 3 1 v out.length (out.map (Value.int .i64))) (hb : Below w.heap.size w w') : OrdR O w (.returned (.tuple #[v, .bool true])) w' := ⟨v, true, rfl, .inl ⟨rfl, out, base, hO, h1, h2⟩, hb⟩
theorem OrdR.no {O : Option (List Int)} {w w' : World} {v : Value} (hO : O = none) (hb : Below w.heap.size w w') : OrdR O w (.returned (.tuple #[v, .bool false])) w' := ⟨v, false, rfl, .inr ⟨rfl, hO⟩, hb⟩
theorem under93 : Tryz.prog.underlying 93 = some (.slice 4) := by kernel_rfl
theorem info4 : (Tryz.prog.info? 4).map (fun i => (i.zero, i.size, i.bytes)) = some (some (.bool false), 1, 1) := by kernel_rfl
theorem under24 : ∃ fs, Tryz.prog.underlying 24 = some (.struct fs) := ⟨_, Tryz.underlying24⟩
theorem info24 : (Tryz.prog.info? 24).map (·.size) = some 3 := by kernel_rfl
theorem wpList_load24 {w : World} {ops : Array Oper} {rest : List Oper} {o : Oper} {a : Act} {Q : Exit → Act → World → Prop} (hgd : o.guard = none) (x : Operand) (ho : o.op = .load 24 x)
    (g : Nat) (u v z : Value) (hx : a.eval x = .pointer (some ⟨g, 0, none⟩)) (hg : w.heap[g]? = some (.cells #[u, v, z] 24 (0, 0)))
    (h : wpList Tryz.prog ops Q rest (a.put o.dst (.agg #[u, v, z])) w) : wpList Tryz.prog ops Q (o :: rest) a w := by
  obtain ⟨fs, hu⟩ := under24
  exact wpList_load_row hgd 24 x ho g hx 24 #[u, v, z] (0, 0) _ hg hu rfl (by rw [info24]; rfl) h
set_option maxHeartbeats 8000000 in
set_option maxRecDepth 100000 in
theorem ordered_calls {w : World} {A : Option Addr} {c : Nat} {l : List S61} (st sl : Int) (h : Kd.C k61 w A l.length l) (hc : l.length ≤ c) (hp : 1 ≤ l.length) (hm : l.length ≤ 4000) (hW : WaysP l) :
    Calls Tryz.prog 62 #[.agg #[.slice A l.length c, .int .i64 st, .int .i64 sl]] w (OrdR (orderF l) w) := by
  have H := Aside0.mk h
  have HW := Aside0.mk hW
  obtain ⟨O, hO⟩ : ∃ O, orderF l = O := ⟨_, rfl⟩
  have HO := Aside0.mk hO
  have FL := Aside0.mk (freeL_len l)
  rw [hO]
  have hbx := heap_alloc_new w (.cells #[.slice A l.length c, .int .i64 st, .int .i64 sl] 24)
  have B1 := below_alloc (Below.refl w.heap.size w) (.cells #[.slice A l.length c, .int .i64 st, .int .i64 sl] 24)
  have FC := Aside0.mk (fun (w9 : World) (hb : Below w.heap.size w w9) => free_calls (c := c) st sl (Kd.C_below h hb) hc hm hW)
  obtain ⟨N, hN⟩ : ∃ N, l.length = N := ⟨_, rfl⟩
  have HN := Aside0.mk hN
  rw [hN] at hbx B1 FC FL hp hm ⊢
  obtain ⟨fr, hfr⟩ : ∃ r, freeL l = r := ⟨_, rfl⟩
  have HFR := Aside0.mk hfr
  rw [hfr] at FC FL
  clear h hc hW hN hO hfr
  go_enter Tryz.func62, Tryz.ntmps62
  go_wp2
  go_step3
  go_wp2_with (first | (refine wpList_load24 rfl _ rfl w.heap.size _ _ _ rfl hbx ?_))
  refine (FC.out _ B1).mono ?_
  rintro e w2 ⟨v4, rfl, hR, hb2⟩
  obtain ⟨g4, cap4, rfl, hg4, hI⟩ := ints_of_R hR (by rw [FL.out]; omega)
  rw [FL.out]
  clear hR
  obtain ⟨i4, hi4, hy0, hy1, hy2⟩ := info_parts info4
  have hmk := run_make (P := Tryz.prog) w2 93 4 i4 (.bool false) under93 hi4 hy0 .i64 .i64 (N : Int) (N : Int) (by omega) (by omega) (by rw [hy2]; omega) (by omega)
  rw [hy1, Int.toNat_natCast] at hmk
  have B2 := B1.trans (hb2.mono B1.size)
  have hbx2 := blk_below hbx hb2
  obtain ⟨X, hX⟩ : ∃ X, (Obj.cells (madeCells (Value.bool false).cells (N * 1)) 4) = X := ⟨_, rfl⟩
  have gd := heap_alloc_new w2 X
  have hX' : X = .cells (madeCells (Value.bool false).cells (N * 1)) 4 (0, 0) := hX.symm
  rw [hX] at hmk
  have bx3 := blk_alloc hbx2 X
  have c0 := blk_cell hbx2 0
  have z0 := blk_lt hbx2
  have l4 := hI.lt
  have O0 := Aside0.mk (show OrdS w (w2.alloc X) #[.slice A N c, .int .i64 st, .int .i64 sl] (w2.alloc X).heap.size w.heap.size g4 w2.heap.size fr (List.replicate N false) (.slice none 0 0) [] from
    ⟨hI.kept ((below_alloc (Below.refl _ _) X).block _ l4), ⟨_, by rw [gd, hX'], fun j z hz => by
      have hj : j < N := by simpa using (List.getElem?_eq_some_iff.1 hz).1
      rw [List.getElem?_replicate, if_pos hj] at hz
      cases hz
      simp [madeCells, Value.cells, hj, Nat.mod_one]⟩, ⟨rfl, .inl ⟨rfl, rfl⟩⟩, bx3,
      ⟨by simp; omega, by simp, by simp; omega, by omega, by simp at hg4; omega, by omega⟩, ⟨by have := B2.size; simp; omega, by simp at hg4; omega, B2.size⟩, below_alloc B2 X, Nat.le_refl _⟩)
  clear hI gd hX hX' bx3 hbx2 B2
  go_wp2_with fail
  obtain ⟨w3, hw3⟩ : ∃ w3, w2.alloc X = w3 := ⟨_, rfl⟩
  obtain ⟨gd, hgd⟩ : ∃ gd, w2.heap.size = gd := ⟨_, rfl⟩
  obtain ⟨B2, hB2⟩ : ∃ B2, w3.heap.size = B2 := ⟨_, rfl⟩
  rw [hw3, hgd, hB2] at O0
  rw [hw3, hgd]
  clear hw3 hgd hB2 hmk c0 z0 l4 hg4
  have HP := Aside0.mk hp
  go_step3
  go_wp2_with fail
  have OL := Aside0.mk (show fr.length = N ∧ (List.replicate N false).length = N ∧ ([] : List Int).length ≤ N ∧ ordL l (N - ([] : List Int).length) fr (List.replicate N false) [] = O from
    ⟨FL.out, by simp, by simp, by rw [← HO.out, ← HFR.out, ← HN.out]; rfl⟩)
  clear FL HO HFR
  go_loopw [5] (fun v5 wr => ∃ (out inn : List Int) (dn : List Bool), Aside0 (OrdS w wr #[.slice A N c, .int .i64 st, .int .i64 sl] B2 w.heap.size g4 gd inn dn v5 out) ∧ Aside0 (inn.length = N ∧ dn.length = N ∧ out.length ≤ N ∧ ordL l (N - out.length) inn dn out = O)) (fun v5 _ => N - lenOf v5)
  case atStart => exact ⟨[], fr, List.replicate N false, O0, OL⟩
  case round =>
    obtain ⟨out, inn, dn, hO, hOL⟩ := hrel
    obtain ⟨a5, c5, rfl⟩ := row_form hO.out.out
    have cb0 := blk_cell hO.out.bx 0
    have zb := blk_lt hO.out.bx
    have hlen5 := hOL.out
    obtain ⟨hin5, hdn5, hou5, hor5⟩ := hlen5
    have LI := Aside0.mk hin5
    have LD := Aside0.mk hdn5
    have LO := Aside0.mk hor5
    clear hin5 hdn5 hor5 hOL
    by_cases hlt : out.length < N
    · have HLT := Aside0.mk hlt
      clear hou5
      go_wp2_with fail
      go_loopw [5, 27] (fun v5 v27 wq => ∃ i : Nat, i ≤ N ∧ v27 = .int .i64 i ∧ v5 = .slice a5 out.length c5 ∧ Aside0 (wq = wr) ∧ Aside0 (pick inn dn (N - i) i = pick inn dn N 0)) (fun _ v27 _ => N - (intOf v27).toNat)
      case atStart => exact ⟨0, by omega, rfl, rfl, ⟨rfl⟩, ⟨rfl⟩⟩
      case round =>
        obtain ⟨i, hi, rfl, rfl, hq, hpk⟩ := hrel
        have hq := hq.out
        subst hq
        by_cases hin : i < N
        · have hz := hO.out.inr.cell (j := i) (by rw [LI.out]; exact hin)
          have hbd := hO.out.dn.cell (j := i) (by rw [LD.out]; exact hin)
          obtain ⟨z, ez⟩ : ∃ z, rd inn (i : Int) = z := ⟨_, rfl⟩
          obtain ⟨bd, ebd⟩ : ∃ b, rdB dn i = b := ⟨_, rfl⟩
          rw [ez] at hz
          rw [ebd] at hbd
          have EZ := Aside0.mk ez
          have EB := Aside0.mk ebd
          clear ez ebd
          have zi := hO.out.inr.lt
          have zd := hO.out.dn.lt
          have fd := hO.out.dn.froz i
          have HIN := Aside0.mk hin
          have i0' : (0 : Int) ≤ (i : Int) := by omega
          have i1' : (i : Int) < (N : Int) := by omega
          by_cases hpos : 0 < z
          · have PK := Aside0.mk ((pick_pos (dn := dn) hin (by rw [EZ.out]; exact hpos)).symm.trans hpk.out)
            clear cb0 zb hbd zd fd
            go_wp2
            go_roundw
            case rel => exact ⟨i + 1, by have := HIN.out; omega, by go_num, rfl, ⟨trivial⟩, PK⟩
            case measure => simp [intOf]; have := HIN.out; omega
          · have hneg : z ≤ 0 := by omega
            have HNP := Aside0.mk (show ¬ 0 < rd inn (i : Int) by rw [EZ.out]; exact hpos)
            clear hpos
            cases bd
            · have HPI := Aside0.mk ((pick_this hin HNP.out EB.out).symm.trans hpk.out)
              have NEXT := Aside0.mk (show ordL l (N - (out.length + 1)) (decX inn (rd_T61 l (i : Int))) (dn.set i true) (out ++ [(i : Int)]) = O by
                have q := LO.out
                have hl := HLT.out
                rw [show N - out.length = (N - (out.length + 1)) + 1 by omega, ordL, HN.out, ← HPI.out] at q
                exact q)
              have O1 := Aside0.mk (hO.out.setD i true)
              have O2 := Aside0.mk (O1.out.step (below_alloc (Below.refl _ _) (.cells #[.int .i64 (i : Int)] 3)))
              have hsz : B2 ≤ (wr.setCell ⟨gd, i, none⟩ (.bool true)).heap.size := O1.out.size
              have hown := O2.out.out
              have HL4 := Aside0.mk (show out.length < 4000 by have := HLT.out; omega)
              have HNEG := Aside0.mk hneg
              clear zi hpk HPI HNP EZ EB LO
              obtain ⟨i0, hi3, hz0, hz1, hz2⟩ := info_parts PEmitFinds.info3
              have hlen := HL4.out
              go_wp2_with (first | (at_builtin; refine wpList_append_own _ rfl (.tmp 43) (.tmp 45) 38 rfl B2 3 i0 (.int .i64 0) 1 8 under51 hi3 hz0 hz1 hz2 rfl (by decide) _ out.length _ rfl hown ⟨wr.heap.size, 0, none⟩ 1 1 [.int .i64 (i : Int)] rfl rfl (cell_one_at _ _ _ (by simp [World.setCell])) (fun x hx => by simp at hx; subst hx; rfl) (by unfold maxLen; omega) (by omega) O2.out.size ?_; intro v' w5 hown' hgrow _; have O3 := Aside0.mk (O2.out.push (i : Int) hown' hgrow); obtain ⟨a6, c6, rfl⟩ := row_form hown'; have cb0 := blk_cell O3.out.bx 0; have zb := blk_lt O3.out.bx; obtain ⟨ad, rfl, e0, e1, e2, e3, e4⟩ := at_T61 (Kd.C_below H.out O3.out.below) (i : Int) (by omega) (by rw [HN.out]; omega); rw [Int.toNat_natCast] at e0 e1 e2 e3 e4; clear hown hown' hgrow hlen hsz))
              obtain ⟨X, hX⟩ : ∃ X, rd_T61 l (i : Int) = X := ⟨_, rfl⟩
              have LCC := Aside0.mk (fun w9 => leads_R X w9)
              have WX := Aside0.mk (show ∀ t ∈ leadsL X, 0 ≤ t ∧ t < (N : Int) by
                have hm : X ∈ l := by rw [← hX]; exact mem_rd_T61 (by rw [HN.out]; exact HIN.out)
                rw [← HN.out]; exact HW.out X hm)
              rw [hX] at NEXT ⊢
              clear hX e0 e1 e2 e3 e4 cb0 zb
              refine (LCC.out _).mono ?_
              rintro e w6 ⟨A2, c2, rfl, hC2, hb6⟩
              have g4lt : g4 < w5.heap.size := Nat.lt_of_lt_of_le O3.out.lt.1 O3.out.size
              have G4 := Aside0.mk g4lt
              obtain ⟨B6, hB6⟩ : ∃ B6, w5.heap.size = B6 := ⟨_, rfl⟩
              rw [hB6] at hC2 G4
              have O4 := Aside0.mk (O3.out.step hb6)
              have LL := Aside0.mk (leadsL_len X)
              have DX := Aside0.mk (show (if byB X = true then inn else ((leadsL X).drop 0).foldl dec1 inn) = decX inn X from rfl)
              obtain ⟨D, hD⟩ : ∃ D, decX inn X = D := ⟨_, rfl⟩
              rw [hD] at DX NEXT
              obtain ⟨Ls, hLs⟩ : ∃ Ls, leadsL X = Ls := ⟨_, rfl⟩
              rw [hLs] at hC2 LL WX DX ⊢
              have HC2 := Aside0.mk hC2
              obtain ⟨by_, hby⟩ : ∃ b, byB X = b := ⟨_, rfl⟩
              rw [hby] at DX ⊢
              clear hb6 hC2 hLs hby hD O1 O2 O3 LCC g4lt hB6
              have HLEN := Aside0.mk (show N - (out.length + 1) < N - out.length by have := HLT.out; omega)
              go_wp2_with fail
              go_loopw [58] (fun v58 wl => ∃ (j : Nat) (y : List Int), j ≤ Ls.length ∧ v58 = .int .i64 j ∧ Aside0 (OrdS w wl #[.slice (some ad) N c, .int .i64 st, .int .i64 sl] B2 w.heap.size g4 gd y (dn.set i true) (.slice a6 (out.length + 1) c6) (out ++ [(i : Int)])) ∧ Aside0 (Kd.R (Kd.int .i64) 3 wl B6 (fun k => B6 ≤ k) (.slice A2 Ls.length c2) Ls) ∧ Aside0 (y.length = N ∧ (if by_ = true then y else (Ls.drop j).foldl dec1 y) = D)) (fun v58 _ => Ls.length - (intOf v58).toNat)
              case atStart => exact ⟨0, inn, by omega, rfl, ⟨O4.out⟩, ⟨HC2.out⟩, ⟨LI.out, DX.out⟩⟩
              case round =>
                obtain ⟨j, y, hj, rfl, hS, hCC, hYD⟩ := hrel
                by_cases hjl : j < Ls.length
                · obtain ⟨A3, c3, hA3, _, hC3⟩ := Kd.R_reads hCC.out
                  obtain ⟨rfl, rfl⟩ : A2 = A3 ∧ c2 = c3 := by cases hA3; exact ⟨rfl, rfl⟩
                  obtain ⟨ad2, rfl, et⟩ := Kd.at_int hC3 (j : Int) (by omega) (by omega)
                  have hL2 := LL.out
                  clear hA3 hC3
                  rw [Int.toNat_natCast] at et
                  have hrd : rd Ls (j : Int) ∈ Ls := mem_rd hjl
                  have hdr := drop_step hjl
                  have e1 : Ls[j] = rd Ls (j : Int) := by have := rd_some hjl; rw [List.getElem?_eq_getElem hjl] at this; injection this
                  rw [e1] at hdr
                  obtain ⟨t0, t1⟩ := WX.out _ hrd
                  obtain ⟨t, ht⟩ := Int.eq_ofNat_of_zero_le t0
                  rw [ht] at et t1 hdr
                  have HDR := Aside0.mk hdr
                  have t0' : (0 : Int) ≤ (t : Int) := by omega
                  have HJ := Aside0.mk hjl
                  clear hrd t0 ht hdr e1
                  cases by_
                  · have hy := hS.out.inr.cell (j := t) (by rw [hYD.out.1]; omega)
                    obtain ⟨z2, ez2⟩ : ∃ z, rd y (t : Int) = z := ⟨_, rfl⟩
                    rw [ez2] at hy
                    have zi := hS.out.inr.lt
                    have fi := hS.out.inr.froz t
                    have S5 := Aside0.mk (hS.out.setI t (wrap64 (z2 - 1)))
                    have YD := Aside0.mk (show (y.set t (wrap64 (z2 - 1))).length = N ∧ (if false = true then y.set t (wrap64 (z2 - 1)) else (Ls.drop (j + 1)).foldl dec1 (y.set t (wrap64 (z2 - 1)))) = D by
                      refine ⟨by simp [hYD.out.1], ?_⟩
                      have q := hYD.out.2
                      rw [if_neg (by simp), HDR.out, List.foldl_cons] at q
                      rw [if_neg (by simp), ← q]
                      unfold dec1
                      rw [ez2, Int.toNat_natCast])
                    have R5 := Aside0.mk (Kd.R_far hCC.out (p := ⟨g4, t, none⟩) (fun k hk => by have := G4.out; show k ≠ g4; omega) (.int .i64 (wrap64 (z2 - 1))))
                    clear ez2 hYD
                    go_wp2
                    go_roundw
                    case rel => exact ⟨j + 1, _, by have := HJ.out; omega, by go_num, ⟨S5.out⟩, ⟨R5.out⟩, ⟨YD.out⟩⟩
                    case measure => simp [intOf]; have := HJ.out; omega
                  · go_wp2
                    go_roundw
                    case rel => exact ⟨j + 1, y, by have := HJ.out; omega, by go_num, ⟨hS.out⟩, ⟨hCC.out⟩, ⟨by simpa using hYD.out⟩⟩
                    case measure => simp [intOf]; have := HJ.out; omega
                · obtain rfl : j = Ls.length := by omega
                  have YD := Aside0.mk (show y.length = N ∧ y = D by
                    have q := hYD.out
                    rw [List.drop_length] at q
                    refine ⟨q.1, ?_⟩
                    rw [← q.2]
                    cases by_ <;> rfl)
                  clear hYD
                  go_wp2
                  go_roundw
                  case rel => exact ⟨out ++ [(i : Int)], y, dn.set i true, ⟨by simpa using hS.out⟩, ⟨YD.out.1, by rw [List.length_set]; exact LD.out, by have := HLT.out; simp; omega, by rw [YD.out.2, List.length_append]; exact NEXT.out⟩⟩
                  case measure => simp only [lenOf]; exact HLEN.out
            · have PK := Aside0.mk ((pick_done hin HNP.out EB.out).symm.trans hpk.out)
              clear cb0 zb
              go_wp2
              go_roundw
              case rel => exact ⟨i + 1, by have := HIN.out; omega, by go_num, rfl, ⟨trivial⟩, PK⟩
              case measure => simp [intOf]; have := HIN.out; omega
        · obtain rfl : i = N := by omega
          have NO := Aside0.mk (show O = none by
            have q := LO.out
            have hl := HLT.out
            have hp2 := hpk.out
            rw [show i - i = 0 by omega, pick] at hp2
            rw [show i - out.length = (i - (out.length + 1)) + 1 by omega, ordL, HN.out, ← hp2] at q
            exact q.symm)
          go_wp2
          go_ret2
          exact OrdR.no NO.out hO.out.below
    · have hlt' : N ≤ out.length := by omega
      have YES := Aside0.mk (show O = some out by
        have q := LO.out
        rw [show N - out.length = 0 by omega, ordL] at q
        exact q.symm)
      clear hlt hou5
      go_wp2
      rw [Exit.noGoto_ret]
      go_ret2
      exact OrdR.yes YES.out hO.out.ge.1 hO.out.out hO.out.below
end Go.Proofs.YtpfcdhjknmijjaaGreat.Ve
end
