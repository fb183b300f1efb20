import Derived.Test.YtpfcdhjknmijjaaGreatCo15
section
set_option linter.unusedSimpArgs false
set_option linter.unusedVariables false
namespace Go.Proofs.YtpfcdhjknmijjaaGreat.Ve
open Go.RowKit Go.Proofs.YtpfcdhjknmijjaaGreat.Grow Go.Proofs.YtpfcdhjknmijjaaGreat.Rv Go.Proofs.YtpfcdhjknmijjaaGreat.As Go.Proofs.YtpfcdhjknmijjaaGreat.PEmitFinds
open Go.Proofs.YtpfcdhjknmijjaaGreatW.PrintWords Go.Proofs.YtpfcdhjknmijjaaGreatW.PrintLast Go.Proofs.YtpfcdhjknmijjaaGreatW.PrintMore

/-! ### What is wrong, and the order -/
structure ValidP (l : List S61) (st sl : Int) : Prop where
  chk : CheckP l st sl
  start_ : st < (l.length : Int)
  tgt : ∀ x ∈ l, TgtP (l.length : Int) x
  even : 2 ≤ sl ∧ sl % 2 = 0
  slot : ∀ x ∈ l, SlotP sl x
theorem ways_of {l : List S61} (hf : ∀ x ∈ l, FitsP x) (ht : ∀ x ∈ l, TgtP (l.length : Int) x) : WaysP l := by
  intro x hx t htt
  refine ⟨?_, ht x hx t htt⟩
  have hF := hf x hx
  have a := hF.x_.1
  have b := hF.y_.1
  unfold leadsL at htt
  repeat' split at htt
  all_goals simp at htt
  all_goals first | (rcases htt with rfl | rfl <;> assumption) | (subst htt; assumption)
/-- Why a program is refused. -/
def BadC (l : List S61) (st sl : Int) (c : Int) : Prop := (c = 130 ∧ ¬ CheckP l st sl) ∨ (c = 150 ∧ CheckP l st sl ∧ ¬ (st < (l.length : Int) ∧ ∀ x ∈ l, TgtP (l.length : Int) x)) ∨ (c = 152 ∧ CheckP l st sl ∧ ¬ (2 ≤ sl ∧ sl % 2 = 0 ∧ ∀ x ∈ l, SlotP sl x)) ∨ (c = 151 ∧ CheckP l st sl ∧ orderF l = none)
theorem BadC.ne {l : List S61} {st sl c : Int} (h : BadC l st sl c) : c ≠ 0 := by rcases h with h | h | h | h <;> (have := h.1; omega)
theorem BadC.not {l : List S61} {st sl c : Int} (h : BadC l st sl c) : ¬ (ValidP l st sl ∧ (orderF l).isSome = true) := by
  rintro ⟨v, o⟩
  rcases h with ⟨_, h⟩ | ⟨_, _, h⟩ | ⟨_, _, h⟩ | ⟨_, _, h⟩
  · exact h v.chk
  · exact h ⟨v.start_, v.tgt⟩
  · exact h ⟨v.even.1, v.even.2, v.slot⟩
  · rw [h] at o; cases o
def LookR (l : List S61) (st sl : Int) (w : World) (e : Ending) (w' : World) : Prop := ∃ (v : Value) (c : Int), e = .returned (.tuple #[v, .int .i64 c]) ∧ ((c = 0 ∧ ValidP l st sl ∧ ∃ (out : List Int) (base : Nat), orderF l = some out ∧ w.heap.size ≤ base ∧ w'.ownsRow base 3 1 v out.length (out.map (Value.int .i64))) ∨ BadC l st sl c) ∧ Below w.heap.size w w'
theorem LookR.no {l : List S61} {st sl : Int} {w w' : World} {v : Value} {c : Int} (hc : BadC l st sl c) (hb : Below w.heap.size w w') : LookR l st sl w (.returned (.tuple #[v, .int .i64 c])) w' := ⟨v, c, rfl, .inr hc, hb⟩
set_option maxHeartbeats 8000000 in
set_option maxRecDepth 100000 in
theorem look_calls {w : World} {A : Option Addr} {c : Nat} {l : List S61} (st sl : Int) (h : Kd.C k61 w A l.length l) (hc : l.length ≤ c) :
    Calls Tryz.prog 26 #[.agg #[.slice A l.length c, .int .i64 st, .int .i64 sl]] w (LookR l st sl w) := by
  have hbx := heap_alloc_new w (.cells #[.slice A l.length c, .int .i64 st, .int .i64 sl] 24)
  have B1 := below_alloc (Below.refl w.heap.size w) (.cells #[.slice A l.length c, .int .i64 st, .int .i64 sl] 24)
  have C1 := Aside0.mk (fun (w9 : World) (hb : Below w.heap.size w w9) => check_calls (c := c) st sl (Kd.C_below h hb))
  have C2 := Aside0.mk (fun (w9 : World) (hb : Below w.heap.size w w9) (hk : CheckP l st sl) => targets_calls (c := c) st sl (Kd.C_below h hb) hk.n.2)
  have C3 := Aside0.mk (fun (w9 : World) (hb : Below w.heap.size w w9) (hk : CheckP l st sl) => slots_calls (c := c) st sl (Kd.C_below h hb) hk.n.2 hk.sl.1)
  have C4 := Aside0.mk (fun (w9 : World) (hb : Below w.heap.size w w9) (hk : CheckP l st sl) (ht : ∀ x ∈ l, TgtP (l.length : Int) x) => ordered_calls (c := c) st sl (Kd.C_below h hb) hc hk.n.1 hk.n.2 (ways_of hk.fits ht))
  have MV := Aside0.mk (show CheckP l st sl → st < (l.length : Int) ∧ (∀ x ∈ l, TgtP (l.length : Int) x) → 2 ≤ sl ∧ sl % 2 = 0 ∧ (∀ x ∈ l, SlotP sl x) → ValidP l st sl from fun a b c => ⟨a, b.1, b.2, ⟨c.1, c.2.1⟩, c.2.2⟩)
  have BC := Aside0.mk (show ∀ c, BadC l st sl c ↔ (c = 130 ∧ ¬ CheckP l st sl) ∨ (c = 150 ∧ CheckP l st sl ∧ ¬ (st < (l.length : Int) ∧ ∀ x ∈ l, TgtP (l.length : Int) x)) ∨ (c = 152 ∧ CheckP l st sl ∧ ¬ (2 ≤ sl ∧ sl % 2 = 0 ∧ ∀ x ∈ l, SlotP sl x)) ∨ (c = 151 ∧ CheckP l st sl ∧ orderF l = none) from fun c => Iff.rfl)
  clear h hc
  go_enter Tryz.func26, Tryz.ntmps26
  go_wp2_with (first | (refine wpList_load24 rfl _ rfl w.heap.size _ _ _ rfl hbx ?_))
  refine (C1.out _ B1).mono ?_
  rintro e w2 ⟨k, rfl, hk, hb2⟩
  have h2 := blk_below hbx hb2
  have B2 := B1.trans (hb2.mono B1.size)
  have K := Aside0.mk hk
  have K9 := Aside0.mk hk
  clear hbx B1 hb2 hk
  by_cases k0 : k = 0
  · have CK := Aside0.mk (show CheckP l st sl by rcases K.out with h | h; exact h.1; exact absurd h.2 (by omega))
    subst k0
    clear K K9
    go_wp2_with (first | (refine wpList_load24 rfl _ rfl w.heap.size _ _ _ rfl h2 ?_))
    refine (C2.out _ B2 CK.out).mono ?_
    rintro e w3 ⟨b, rfl, hq, hb3⟩
    have h3 := blk_below h2 hb3
    have B3 := B2.trans (hb3.mono B2.size)
    have Q3 := Aside0.mk hq
    clear h2 B2 hb3 hq
    cases b
    · have NK := Aside0.mk (show BadC l st sl 150 from .inr (.inl ⟨rfl, CK.out, fun h => by have := Q3.out.2 h; cases this⟩))
      clear h3 Q3
      go_wp2
      go_ret2
      exact LookR.no NK.out B3
    have TT := Aside0.mk (Q3.out.1 rfl)
    clear Q3
    go_wp2_with (first | (refine wpList_load24 rfl _ rfl w.heap.size _ _ _ rfl h3 ?_))
    refine (C3.out _ B3 CK.out).mono ?_
    rintro e w4 ⟨b, rfl, hq, hb4⟩
    have h4 := blk_below h3 hb4
    have B4 := B3.trans (hb4.mono B3.size)
    have Q4 := Aside0.mk hq
    clear h3 B3 hb4 hq
    cases b
    · have NK := Aside0.mk (show BadC l st sl 152 from .inr (.inr (.inl ⟨rfl, CK.out, fun h => by have := Q4.out.2 h; cases this⟩)))
      clear h4 Q4
      go_wp2
      go_ret2
      exact LookR.no NK.out B4
    have SS := Aside0.mk (Q4.out.1 rfl)
    clear Q4
    go_wp2_with (first | (refine wpList_load24 rfl _ rfl w.heap.size _ _ _ rfl h4 ?_))
    refine (C4.out _ B4 CK.out TT.out.2).mono ?_
    rintro e w5 ⟨v, b, rfl, hv, hb5⟩
    have B5 := Aside0.mk (B4.trans (hb5.mono B4.size))
    have BS := Aside0.mk B4.size
    have HV := Aside0.mk hv
    clear h4 B4 hb5 hv
    cases b
    · have NK := Aside0.mk (show BadC l st sl 151 by
        rcases HV.out with h | h
        · exact absurd h.1 (by simp)
        · exact .inr (.inr (.inr ⟨rfl, CK.out, h.2⟩)))
      clear HV
      go_wp2
      go_ret2
      exact LookR.no NK.out B5.out
    · have OK := Aside0.mk (show ∃ (out : List Int) (base : Nat), orderF l = some out ∧ w4.heap.size ≤ base ∧ w5.ownsRow base 3 1 v out.length (out.map (Value.int .i64)) by
        rcases HV.out with h | h
        · exact h.2
        · exact absurd h.1 (by simp))
      have VP := Aside0.mk (MV.out CK.out TT.out SS.out)
      clear HV BC MV
      go_wp2
      go_ret2
      obtain ⟨out, base, h0, h1, h2⟩ := OK.out
      exact ⟨v, 0, rfl, .inl ⟨rfl, VP.out, out, base, h0, Nat.le_trans BS.out h1, h2⟩, B5.out⟩
  · have NK := Aside0.mk (show BadC l st sl k by rcases K.out with h | h; exact absurd h.2 k0; exact .inl ⟨h.2, h.1⟩)
    have k1 : (k != 0) = true := bne_iff_ne.2 k0
    clear h2 k0 K K9 BC
    go_wp2
    go_ret2
    exact LookR.no NK.out B2
end Go.Proofs.YtpfcdhjknmijjaaGreat.Ve
end
section
set_option linter.unusedSimpArgs false
set_option linter.unusedVariables false
namespace Go.Proofs.YtpfcdhjknmijjaaGreat.Ve
open Go.RowKit Go.Proofs.YtpfcdhjknmijjaaGreat.Grow Go.Proofs.YtpfcdhjknmijjaaGreat.Rv Go.Proofs.YtpfcdhjknmijjaaGreat.As Go.Proofs.YtpfcdhjknmijjaaGreat.PEmitFinds
open Go.Proofs.YtpfcdhjknmijjaaGreatW.PrintWords Go.Proofs.YtpfcdhjknmijjaaGreatW.PrintLast Go.Proofs.YtpfcdhjknmijjaaGreatW.PrintMore

/-! ### A copy of the instructions -/
theorem nil22 (a : Addr) (n c : Nat) (w : World) : (binOp .eql 22 (.slice (some a) n c) (.slice none 0 0)).run Tryz.prog w = .ok (.bool false) w := by kernel_rfl
theorem guard22 : Tryz.prog.eqGuardType Tryz.prog.depth 22 = false := by kernel_rfl
theorem under22 : Tryz.prog.underlying 22 = some (.slice 61) := by kernel_rfl
theorem info61 : (Tryz.prog.info? 61).map (fun i => (i.zero, i.size, i.bytes)) = some (some (.agg #[.int .i64 0, .int .i64 0, .int .i64 0, .int .i64 0, .int .i64 0]), 5, 40) := by kernel_rfl
def c61 (x : S61) : List Value := [.int .i64 x.f0, .int .i64 x.f1, .int .i64 x.f2, .int .i64 x.f3, .int .i64 x.f4]
theorem flat_len {α : Type} (f : α → List Value) (m : Nat) (hf : ∀ x, (f x).length = m) : ∀ l : List α, (l.flatMap f).length = l.length * m
  | [] => by simp
  | x :: l => by rw [List.flatMap_cons, List.length_append, flat_len f m hf l, hf, List.length_cons, Nat.add_mul, Nat.one_mul, Nat.add_comm]
theorem flat_at {α : Type} (f : α → List Value) (m : Nat) (hf : ∀ x, (f x).length = m) : ∀ (l : List α) (k i : Nat) (x : α), l[k]? = some x → i < m → (l.flatMap f)[k * m + i]? = (f x)[i]?
  | [], k, i, x, h, hi => by simp at h
  | y :: l, 0, i, x, h, hi => by
    simp at h; subst h
    rw [List.flatMap_cons, Nat.zero_mul, Nat.zero_add, List.getElem?_append_left (by rw [hf]; exact hi)]
  | y :: l, k + 1, i, x, h, hi => by
    have hk : l[k]? = some x := by simpa using h
    rw [List.flatMap_cons, List.getElem?_append_right (by rw [hf, Nat.add_mul]; omega), hf, show (k + 1) * m + i - m = k * m + i by rw [Nat.add_mul]; omega]
    exact flat_at f m hf l k i x hk hi
theorem c61_len (x : S61) : (c61 x).length = 5 := rfl
theorem flat61_cell {w : World} {a : Addr} {l : List S61} (h : Kd.C k61 w (some a) l.length l) : ∀ j u, (l.flatMap c61)[j]? = some u → w.cell? (a.add j) = some u := by
  intro j u hu
  have hj := (List.getElem?_eq_some_iff.1 hu).1
  rw [flat_len c61 5 c61_len] at hj
  have hk : j / 5 < l.length := by omega
  have hx := List.getElem?_eq_getElem hk
  have e : j = j / 5 * 5 + j % 5 := by omega
  rw [e, flat_at c61 5 c61_len l (j / 5) (j % 5) _ hx (by omega)] at hu
  obtain ⟨ad, c, ha, _, hK, hc⟩ := Kd.C_get h z61 ((j / 5 : Nat) : Int) (by omega) (by omega)
  cases ha
  rw [Int.toNat_natCast] at hK hc
  have hg : l.getD (j / 5) z61 = l[j / 5] := by rw [List.getD_eq_getElem?_getD, hx]; rfl
  rw [hg] at hK
  obtain rfl := k61_open hK
  rw [e]
  exact hc (j % 5) u hu
theorem k61_of_row {w : World} {base : Nat} {v : Value} {l : List S61} (h : w.ownsRow base 61 5 v l.length (l.flatMap c61)) : Kd.R k61 61 w base (fun _ => True) v l := by
  refine ⟨fun _ _ => trivial, l.flatMap c61, h, flat_len c61 5 c61_len l, fun j p hj => ?_⟩
  have e : ((l.flatMap c61).drop (j * 5)).take 5 = c61 p := by
    apply List.ext_getElem?
    intro i
    rw [List.getElem?_take]
    by_cases hi : i < 5
    · rw [if_pos hi, List.getElem?_drop, flat_at c61 5 c61_len l j i p hj hi]
    · rw [if_neg hi]
      exact (List.getElem?_eq_none (by rw [c61_len]; omega)).symm
  rw [show Kd.sz k61 = 5 from rfl, e]
  exact k61_mkM _ _ _ _
theorem one61 (l : List S61) : ∀ u ∈ l.flatMap c61, u.oneCell' = true := by
  intro u hu
  obtain ⟨x, _, hx⟩ := List.mem_flatMap.1 hu
  simp only [c61, List.mem_cons, List.not_mem_nil, or_false] at hx
  rcases hx with rfl | rfl | rfl | rfl | rfl <;> rfl
theorem own_empty61 (w : World) : (w.alloc (.cells #[] 61)).ownsRow w.heap.size 61 5 (.slice (some ⟨w.heap.size, 0, none⟩) 0 0) 0 [] :=
  ⟨rfl, .inr ⟨w.heap.size, 0, #[], rfl, Nat.le_refl _, heap_alloc_new _ _, by simp, by simp, by simp, by simp⟩⟩
set_option maxHeartbeats 2000000 in
set_option maxRecDepth 100000 in
theorem clone_calls {w : World} {a : Addr} {c : Nat} {l : List S61} (h : Kd.C k61 w (some a) l.length l) (hp : 1 ≤ l.length) (hm : l.length ≤ 4000) :
    Calls Tryz.prog 27 #[.slice (some a) l.length c] w fun e w' => ∃ g cap, e = .returned (.slice (some ⟨g, 0, none⟩) l.length cap) ∧ Kd.R k61 61 w' w.heap.size (fun k => w.heap.size ≤ k) (.slice (some ⟨g, 0, none⟩) l.length cap) l ∧ w.heap.size ≤ g ∧ Below w.heap.size w w' := by
  have hnews := Aside0.mk (flat61_cell (Kd.C_below h (below_alloc (Below.refl _ _) (.cells #[] 61))))
  have hl := flat_len c61 5 c61_len l
  have hone := Aside0.mk (one61 l)
  have KR := Aside0.mk (fun (w' : World) (v : Value) (h : w'.ownsRow w.heap.size 61 5 v (0 + l.length) ([] ++ l.flatMap c61)) => k61_of_row (w := w') (base := w.heap.size) (v := v) (l := l) (by simpa using h))
  obtain ⟨news, hN⟩ : ∃ n, l.flatMap c61 = n := ⟨_, rfl⟩
  rw [hN] at hnews hl hone KR
  obtain ⟨N, hN2⟩ : ∃ N, l.length = N := ⟨_, rfl⟩
  have HN2 := Aside0.mk hN2
  rw [hN2] at hp hm hl KR ⊢
  have n2 := nil22
  have n3 := guard22
  have own0 := own_empty61 w
  have B1 := below_alloc (Below.refl w.heap.size w) (.cells #[] 61)
  obtain ⟨i0, hi3, hz0, hz1, hz2⟩ := info_parts info61
  clear h hN hN2
  go_enter Tryz.func27, Tryz.ntmps27
  go_wp2_with (first | (at_builtin; refine wpList_append_own _ rfl (.tmp 5) (.tmp 6) 22 rfl w.heap.size 61 i0 _ 5 40 under22 hi3 hz0 hz1 hz2 rfl (by decide) _ 0 [] rfl own0 a N c news rfl hl hnews.out hone.out (by unfold maxLen; omega) (by omega) B1.size ?_; intro v' w5 hown' hgrow _; have K := Aside0.mk (KR.out w5 v' hown'); have G := Aside0.mk hgrow; clear hown' hgrow own0))
  obtain ⟨g, cap, rfl, hg, _⟩ := Kd.R_form K.out (by rw [HN2.out]; omega)
  rw [HN2.out] at K ⊢
  go_wp2
  go_ret
  exact ⟨g, cap, rfl, Kd.R_mono (Kd.R_bound K.out) (fun k hk => hk.2.1), hg, B1.grown G.out (by simp) (fun k hk => by cases hk; exact Nat.le_refl _)⟩

/-! ### New, and what a checked program is -/
theorem bld63 (a b : Option Addr) (n m c d : Nat) (s t : Int) (w : World) : (Instr.build 63 #[(0, .agg #[.slice a n c, .int .i64 s, .int .i64 t]), (1, .slice b m d)]).run Tryz.prog w = .ok (.agg #[.slice a n c, .int .i64 s, .int .i64 t, .slice b m d]) w := by kernel_rfl
/-- What New answers. -/
def NewR (l : List S61) (st sl : Int) (w : World) (e : Ending) (w' : World) : Prop :=
  (∃ (g : Nat) (w0 : World) (out : List Int), e = .returned (.tuple #[.pointer (some ⟨g, 0, none⟩), .int .i64 0]) ∧ ValidP l st sl ∧ orderF l = some out ∧ IsS63 w0 w' g l st sl out ∧ Below w.heap.size w w0 ∧ Below w0.heap.size w0 w') ∨
  (∃ c : Int, e = .returned (.tuple #[.pointer none, .int .i64 c]) ∧ BadC l st sl c ∧ Below w.heap.size w w')
set_option maxHeartbeats 8000000 in
set_option maxRecDepth 100000 in
theorem new_calls {w : World} {A : Option Addr} {c : Nat} {l : List S61} (st sl : Int) (h : Kd.C k61 w A l.length l) (hc : l.length ≤ c) :
    Calls Tryz.prog 7 #[.agg #[.slice A l.length c, .int .i64 st, .int .i64 sl]] w (NewR l st sl w) := by
  have H := Aside0.mk h
  have hbx := heap_alloc_new w (.cells #[.slice A l.length c, .int .i64 st, .int .i64 sl] 24)
  have B1 := below_alloc (Below.refl w.heap.size w) (.cells #[.slice A l.length c, .int .i64 st, .int .i64 sl] 24)
  have C1 := Aside0.mk (fun (w9 : World) (hb : Below w.heap.size w w9) => look_calls (c := c) st sl (Kd.C_below h hb) hc)
  clear h hc
  go_enter Tryz.func7, Tryz.ntmps7
  go_wp2_with (first | (refine wpList_load24 rfl _ rfl w.heap.size _ _ _ rfl hbx ?_))
  refine (C1.out _ B1).mono ?_
  rintro e w2 ⟨v, k, rfl, hk, hb2⟩
  have h2 := blk_below hbx hb2
  have B2 := Aside0.mk (B1.trans (hb2.mono B1.size))
  have BS := Aside0.mk B1.size
  clear hbx B1 hb2 C1
  rcases hk with ⟨rfl, hV, out, base, hO, hbase, hrow⟩ | hbad
  · have HV := Aside0.mk hV
    have HO := Aside0.mk hO
    have ROW := Aside0.mk hrow
    have p1 := Aside0.mk hV.chk.n
    obtain ⟨a, rfl⟩ : ∃ a, A = some a := by
      obtain ⟨ad, e, _⟩ := H.out.2.2 (by have := hV.chk.n; omega)
      exact ⟨ad, e⟩
    have CL := Aside0.mk (clone_calls (c := c) (Kd.C_below H.out B2.out) p1.out.1 p1.out.2)
    obtain ⟨oa, oc, rfl⟩ := row_form hrow
    have HB0 := Aside0.mk (show w.heap.size < base by have := BS.out; simp at this hbase; omega)
    clear hV hO hrow hbase
    have c0 := blk_cell h2 0
    have z0 := blk_lt h2
    have f0 := frozen_of_row w2 w.heap.size 0 _ 24 h2
    go_wp2_with fail
    refine CL.out.mono ?_
    rintro e w3 ⟨g, cap, rfl, hC, hg, hb3⟩
    have h3 := blk_below h2 hb3
    have B3 := Aside0.mk (B2.out.trans (hb3.mono B2.out.size))
    have R3 := Aside0.mk (World.ownsRow.below ROW.out hb3)
    have h4 : (w3.setCell ⟨w.heap.size, 0, none⟩ (.slice (some ⟨g, 0, none⟩) l.length cap)).heap[w.heap.size]? = some (.cells #[.slice (some ⟨g, 0, none⟩) l.length cap, .int .i64 st, .int .i64 sl] 24 (0, 0)) := by
      rw [heap_setCell_same w3 w.heap.size 0 _ 24 _ h3]; rfl
    have hbl : w.heap.size < w2.heap.size := z0
    have C4 := Kd.R_far hC (p := ⟨w.heap.size, 0, none⟩) (fun k hk => by show k ≠ w.heap.size; omega) (.slice (some ⟨g, 0, none⟩) l.length cap)
    have R4 := row_kept (w' := w3.setCell ⟨w.heap.size, 0, none⟩ (.slice (some ⟨g, 0, none⟩) l.length cap)) R3.out (fun k hk => heap_setCell_other _ _ _ _ (by
      have h1 := own_ge R3.out k hk
      have h2 := HB0.out
      show k ≠ w.heap.size; omega))
    have B4 := Aside0.mk (B3.out.setCell (p := ⟨w.heap.size, 0, none⟩) (Nat.le_refl _) (.slice (some ⟨g, 0, none⟩) l.length cap))
    have f3 := frozen_of_row w3 w.heap.size 0 _ 24 h3
    have z3 := blk_lt h3
    have c3 := blk_cell h3 0
    obtain ⟨w4, hw4⟩ : ∃ w4, w3.setCell ⟨w.heap.size, 0, none⟩ (.slice (some ⟨g, 0, none⟩) l.length cap) = w4 := ⟨_, rfl⟩
    rw [hw4] at h4 C4 R4 B4
    have RC := Kd.R_reads' C4
    have OC := Kd.R_reads' (Kd.R_of_own (e := 3) (base := base) (ok := fun _ => True) (enc := Value.int .i64) (h1 := fun _ => rfl) (xs := out) R4 (fun _ _ => trivial))
    have IS := Aside0.mk (IsS63.new w4 w4 (some ⟨g, 0, none⟩) cap oa oc l st sl out (Below.refl _ _) RC.2.2 OC.2.2)
    have bl := bld63
    clear hb3 c0 z0 f0 hC CL ROW h2 C4 R4 RC OC R3 HB0 hbl
    go_wp2_with (first | (refine wpList_load24 rfl _ rfl w.heap.size _ _ _ rfl h4 ?_))
    refine bodyPost_ret (v := .tuple #[.pointer (some ⟨w4.heap.size, 0, none⟩), .int .i64 0]) (by simp [results, Tryz.results7, go_sem]) rfl ?_
    exact .inl ⟨_, w4, out, rfl, HV.out, HO.out, IS.out, B4.out, below_alloc (Below.refl _ _) _⟩
  · have NB := Aside0.mk hbad
    have k1 : (k != 0) = true := bne_iff_ne.2 hbad.ne
    clear hbad h2
    go_wp2
    go_ret2
    exact .inr ⟨k, rfl, NB.out, B2.out⟩
end Go.Proofs.YtpfcdhjknmijjaaGreat.Ve
end
section
set_option linter.unusedSimpArgs false
set_option linter.unusedVariables false
namespace Go.Proofs.YtpfcdhjknmijjaaGreat.Ve
open Go.RowKit Go.Proofs.YtpfcdhjknmijjaaGreat.Grow Go.Proofs.YtpfcdhjknmijjaaGreat.Rv Go.Proofs.YtpfcdhjknmijjaaGreat.As Go.Proofs.YtpfcdhjknmijjaaGreat.PEmitFinds
open Go.Proofs.YtpfcdhjknmijjaaGreatW.PrintWords Go.Proofs.YtpfcdhjknmijjaaGreatW.PrintLast Go.Proofs.YtpfcdhjknmijjaaGreatW.PrintMore

/-! ### The program of a checked one -/
end Go.Proofs.YtpfcdhjknmijjaaGreat.Ve
end
