import Derived.Test.YtpfcdhjknmijjaaGreatTe15
section
set_option linter.unusedSimpArgs false
set_option linter.unusedVariables false
namespace Go.Proofs.YtpfcdhjknmijjaaGreat.Ve
open Go.RowKit Go.Proofs.YtpfcdhjknmijjaaGreat.Grow Go.Proofs.YtpfcdhjknmijjaaGreat.Rv Go.Proofs.YtpfcdhjknmijjaaGreat.As Go.Proofs.YtpfcdhjknmijjaaGreat.PEmitFinds
open Go.Proofs.YtpfcdhjknmijjaaGreatW.PrintWords Go.Proofs.YtpfcdhjknmijjaaGreatW.PrintLast Go.Proofs.YtpfcdhjknmijjaaGreatW.PrintMore

/-! ### What is wrong, and the order -/
structure ValidP (l : List S61) (st sl : Int) : Prop where
  chk : CheckP l st sl
  start_ : st < (l.length : Int)
  tgt : ∀ x ∈ l, TgtP (l.length : Int) x
  even : 2 ≤ sl ∧ sl % 2 = 0
  slot : ∀ x ∈ l, SlotP sl x
theorem ways_of {l : List S61} (hf : ∀ x ∈ l, FitsP x) (ht : ∀ x ∈ l, TgtP (l.length : Int) x) : WaysP l := by
  intro x hx t htt
  refine ⟨?_, ht x hx t htt⟩
  have hF := hf x hx
  have a := hF.x_.1
  have b := hF.y_.1
  unfold leadsL at htt
  repeat' split at htt
  all_goals simp at htt
  all_goals first | (rcases htt with rfl | rfl <;> assumption) | (subst htt; assumption)
/-- Why a program is refused. -/
def BadC (l : List S61) (st sl : Int) (c : Int) : Prop := (c = 130 ∧ ¬ CheckP l st sl) ∨ (c = 150 ∧ CheckP l st sl ∧ ¬ (st < (l.length : Int) ∧ ∀ x ∈ l, TgtP (l.length : Int) x)) ∨ (c = 152 ∧ CheckP l st sl ∧ ¬ (2 ≤ sl ∧ sl % 2 = 0 ∧ ∀ x ∈ l, SlotP sl x)) ∨ (c = 151 ∧ CheckP l st sl ∧ orderF l = none)
theorem BadC.ne {l : List S61} {st sl c : Int} (h : BadC l st sl c) : c ≠ 0 := by rcases h with h | h | h | h <;> (have := h.1; omega)
theorem BadC.not {l : List S61} {st sl c : Int} (h : BadC l st sl c) : ¬ (ValidP l st sl ∧ (orderF l).isSome = true) := by
  rintro ⟨v, o⟩
  rcases h with ⟨_, h⟩ | ⟨_, _, h⟩ | ⟨_, _, h⟩ | ⟨_, _, h⟩
  · exact h v.chk
  · exact h ⟨v.start_, v.tgt⟩
  · exact h ⟨v.even.1, v.even.2, v.slot⟩
  · rw [h] at o; cases o
def LookR (l : List S61) (st sl : Int) (w : World) (e : Ending) (w' : World) : Prop := ∃ (v : Value) (c : Int), e = .returned (.tuple #[v, .int .i64 c]) ∧ ((c = 0 ∧ ValidP l st sl ∧ ∃ (out : List Int) (base : Nat), orderF l = some out ∧ w.heap.size ≤ base ∧ w'.ownsRow base 3 1 v out.length (out.map (Value.int .i64))) ∨ BadC l st sl c) ∧ Below w.heap.size w w'
theorem LookR.no {l : List S61} {st sl : Int} {w w' : World} {v : Value} {c : Int} (hc : BadC l st sl c) (hb : Below w.heap.size w w') : LookR l st sl w (.returned (.tuple #[v, .int .i64 c])) w' := ⟨v, c, rfl, .inr hc, hb⟩
set_option maxHeartbeats 8000000 in
set_option maxRecDepth 100000 in
theorem look_calls {w : World} {A : Option Addr} {c : Nat} {l : List S61} (st sl : Int) (h : Kd.C k61 w A l.length l) (hc : l.length ≤ c) :
    Calls Tryz.prog 26 #[.agg #[.slice A l.length c, .int .i64 st, .int .i64 sl]] w (LookR l st sl w) := by
  have hbx := heap_alloc_new w (.cells #[.slice A l.length c, .int .i64 st, .int .i64 sl] 24)
  have B1 := below_alloc (Below.refl w.heap.size w) (.cells #[.slice A l.length c, .int .i64 st, .int .i64 sl] 24)
  have C1 := Aside0.mk (fun (w9 : World) (hb : Below w.heap.size w w9) => check_calls (c := c) st sl (Kd.C_below h hb))
  have C2 := Aside0.mk (fun (w9 : World) (hb : Below w.heap.size w w9) (hk : CheckP l st sl) => targets_calls (c := c) st sl (Kd.C_below h hb) hk.n.2)
  have C3 := Aside0.mk (fun (w9 : World) (hb : Below w.heap.size w w9) (hk : CheckP l st sl) => slots_calls (c := c) st sl (Kd.C_below h hb) hk.n.2 hk.sl.1)
  have C4 := Aside0.mk (fun (w9 : World) (hb : Below w.heap.size w w9) (hk : CheckP l st sl) (ht : ∀ x ∈ l, TgtP (l.length : Int) x) => ordered_calls (c := c) st sl (Kd.C_below h hb) hc hk.n.1 hk.n.2 (ways_of hk.fits ht))
  have MV := Aside0.mk (show CheckP l st sl → st < (l.length : Int) ∧ (∀ x ∈ l, TgtP (l.length : Int) x) → 2 ≤ sl ∧ sl % 2 = 0 ∧ (∀ x ∈ l, SlotP sl x) → ValidP l st sl from fun a b c => ⟨a, b.1, b.2, ⟨c.1, c.2.1⟩, c.2.2⟩)
  have BC := Aside0.mk (show ∀ c, BadC l st sl c ↔ (c = 130 ∧ ¬ CheckP l st sl) ∨ (c = 150 ∧ CheckP l st sl ∧ ¬ (st < (l.length : Int) ∧ ∀ x ∈ l, TgtP (l.length : Int) x)) ∨ (c = 152 ∧ CheckP l st sl ∧ ¬ (2 ≤ sl ∧ sl % 2 = 0 ∧ ∀ x ∈ l, SlotP sl x)) ∨ (c = 151 ∧ CheckP l st sl ∧ orderF l = none) from fun c => Iff.rfl)
  clear h hc
  go_enter Tryz.func26, Tryz.ntmps26
  go_wp2_with (first | (refine wpList_load24 rfl _ rfl w.heap.size _ _ _ rfl hbx ?_))
  refine (C1.out _ B1).mono ?_
  rintro e w2 ⟨k, rfl, hk, hb2⟩
  have h2 := blk_below hbx hb2
  have B2 := B1.trans (hb2.mono B1.size)
  have K := Aside0.mk hk
  have K9 := Aside0.mk hk
  clear hbx B1 hb2 hk
  by_cases k0 : k = 0
  · have CK := Aside0.mk (show CheckP l st sl by rcases K.out with h | h; exact h.1; exact absurd h.2 (by omega))
    subst k0
    clear K K9
    go_wp2_with (first | (refine wpList_load24 rfl _ rfl w.heap.size _ _ _ rfl h2 ?_))
    refine (C2.out _ B2 CK.out).mono ?_
    rintro e w3 ⟨b, rfl, hq, hb3⟩
    have h3 := blk_below h2 hb3
    have B3 := B2.trans (hb3.mono B2.size)
    have Q3 := Aside0.mk hq
    clear h2 B2 hb3 hq
    cases b
    · have NK := Aside0.mk (show BadC l st sl 150 from .inr (.inl ⟨rfl, CK.out, fun h => by have := Q3.out.2 h; cases this⟩))
      clear h3 Q3
      go_wp2
      go_ret2
      exact LookR.no NK.out B3
    have TT := Aside0.mk (Q3.out.1 rfl)
    clear Q3
    go_wp2_with (first | (refine wpList_load24 rfl _ rfl w.heap.size _ _ _ rfl h3 ?_))
    refine (C3.out _ B3 CK.out).mono ?_
    rintro e w4 ⟨b, rfl, hq, hb4⟩
    have h4 := blk_below h3 hb4
    have B4 := B3.trans (hb4.mono B3.size)
    have Q4 := Aside0.mk hq
    clear h3 B3 hb4 hq
    cases b
    · have NK := Aside0.mk (show BadC l st sl 152 from .inr (.inr (.inl ⟨rfl, CK.out, fun h => by have := Q4.out.2 h; cases this⟩)))
      clear h4 Q4
      go_wp2
      go_ret2
      exact LookR.no NK.out B4
    have SS := Aside0.mk (Q4.out.1 rfl)
    clear Q4
    go_wp2_with (first | (refine wpList_load24 rfl _ rfl w.heap.size _ _ _ rfl h4 ?_))
    refine (C4.out _ B4 CK.out TT.out.2).mono ?_
    rintro e w5 ⟨v, b, rfl, hv, hb5⟩
    have B5 := Aside0.mk (B4.trans (hb5.mono B4.size))
    have BS := Aside0.mk B4.size
    have HV := Aside0.mk hv
    clear h4 B4 hb5 hv
    cases b
    · have NK := Aside0.mk (show BadC l st sl 151 by
        rcases HV.out with h | h
        · exact absurd h.1 (by simp)
        · exact .inr (.inr (.inr ⟨rfl, CK.out, h.2⟩)))
      clear HV
      go_wp2
      go_ret2
      exact LookR.no NK.out B5.out
    · have OK := Aside0.mk (show ∃ (out : List Int) (base : Nat), orderF l = some out ∧ w4.heap.size ≤ base ∧ w5.ownsRow base 3 1 v out.length (out.map (Value.int .i64)) by
        rcases HV.out with h | h
        · exact h.2
        · exact absurd h.1 (by simp))
      have VP := Aside0.mk (MV.out CK.out TT.out SS.out)
      clear HV BC MV
      go_wp2
      go_ret2
      obtain ⟨out, base, h0, h1, h2⟩ := OK.out
      exact ⟨v, 0, rfl, .inl ⟨rfl, VP.out, out, base, h0, Nat.le_trans BS.out h1, h2⟩, B5.out⟩
  · have NK := Aside0.mk (show BadC l st sl k by rcases K.out with h | h; exact absurd h.2 k0; exact .inl ⟨h.2, h.1⟩)
    have k1 : (k != 0) = true := bne_iff_ne.2 k0
    clear h2 k0 K K9 BC
    go_wp2
    go_ret2
    exact LookR.no NK.out B2
end Go.Proofs.YtpfcdhjknmijjaaGreat.Ve
end
