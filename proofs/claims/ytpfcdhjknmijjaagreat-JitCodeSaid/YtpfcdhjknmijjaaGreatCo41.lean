import Derived.Test.YtpfcdhjknmijjaaGreatCo40
import Derived.Deep.Slices
import Derived.OpenShut
import Derived.WalkArith
section
set_option linter.unusedSimpArgs false
set_option linter.unusedVariables false
set_option maxRecDepth 100000
namespace Go.Proofs.YtpfcdhjknmijjaaGreat.Ew
open Go.RowKit Go.Maps Go.Proofs.YtpfcdhjknmijjaaGreat.Em Go.Proofs.YtpfcdhjknmijjaaGreat.Ve Go.Proofs.YtpfcdhjknmijjaaGreat.Grow Go.Proofs.YtpfcdhjknmijjaaGreat.Rv Go.Proofs.YtpfcdhjknmijjaaGreat.PEmitFinds Go.Proofs.YtpfcdhjknmijjaaGreat.Ht
open Go.Proofs.YtpfcdhjknmijjaaGreatW.PrintWords Go.Proofs.YtpfcdhjknmijjaaGreatW.PrintLast Go.Proofs.YtpfcdhjknmijjaaGreatW.PrintMore
end Go.Proofs.YtpfcdhjknmijjaaGreat.Ew
end
section
set_option linter.unusedSimpArgs false
set_option linter.unusedVariables false
namespace Go.Proofs.YtpfcdhjknmijjaaGreat.Ew
open Go.ChangeShapes Go.WideShapes Go.RowKit Go.Proofs.YtpfcdhjknmijjaaGreat.PEmitFinds Go.Proofs.YtpfcdhjknmijjaaGreat.Ve
open Go.Proofs.YtpfcdhjknmijjaaGreatW.PrintWords Go.Proofs.YtpfcdhjknmijjaaGreatW.PrintLast Go.Proofs.YtpfcdhjknmijjaaGreatW.PrintMore
set_option maxRecDepth 100000 in
/-- An instruction that came in, by its cells. -/
theorem open61 {H : Type} {enc : TypeId × Value → H} {w : World} {base fuel : Nat} {spare : Nat → Bool} {held : Bool} {cs : List Value} {x : DataW H × List MemPlace}
    (h : DataW.trod enc Tryz.prog w base spare held fuel 61 cs = some x) : ∃ y : S61, cs = c61 y := by
  obtain ⟨xs, n, _, _, hlen, hxl, hg⟩ := DataW.trod_struct Tryz.underlying61 h
  have c61' : Tryz.prog.cellsOf 61 = 5 := by kernel_rfl
  have c3 : Tryz.prog.cellsOf 3 = 1 := by kernel_rfl
  rw [c61'] at hlen
  match cs, hlen with
  | [v0, v1, v2, v3, v4], _ =>
    have q : ∀ j, j < 5 → ∃ x, xs[j]? = some x := fun j hj => ⟨xs[j]'(by rw [hxl]; exact hj), by simp⟩
    obtain ⟨x0, e0⟩ := q 0 (by decide)
    obtain ⟨x1, e1⟩ := q 1 (by decide)
    obtain ⟨x2, e2⟩ := q 2 (by decide)
    obtain ⟨x3, e3⟩ := q 3 (by decide)
    obtain ⟨x4, e4⟩ := q 4 (by decide)
    obtain ⟨a0, z0, _, _⟩ := DataW.trod_int (k := .i64) (by kernel_rfl) ((hg 0 _ rfl).trans e0)
    obtain ⟨a1, z1, _, _⟩ := DataW.trod_int (k := .i64) (by kernel_rfl) ((hg 1 _ rfl).trans e1)
    obtain ⟨a2, z2, _, _⟩ := DataW.trod_int (k := .i64) (by kernel_rfl) ((hg 2 _ rfl).trans e2)
    obtain ⟨a3, z3, _, _⟩ := DataW.trod_int (k := .i64) (by kernel_rfl) ((hg 3 _ rfl).trans e3)
    obtain ⟨a4, z4, _, _⟩ := DataW.trod_int (k := .i64) (by kernel_rfl) ((hg 4 _ rfl).trans e4)
    simp [c3] at z0 z1 z2 z3 z4
    exact ⟨⟨a0, a1, a2, a3, a4⟩, by rw [z0, z1, z2, z3, z4]; rfl⟩
theorem pick_lt {α : Type} (z : α) {n : Nat} {P : Nat → α → Prop} (h : ∀ i, i < n → ∃ y, P i y) : ∃ l : List α, l.length = n ∧ ∀ i p, l[i]? = some p → P i p := by
  induction n with
  | zero => exact ⟨[], rfl, fun i p h => by simp at h⟩
  | succ n ih =>
    obtain ⟨l, hl, hP⟩ := ih (fun i hi => h i (by omega))
    obtain ⟨y, hy⟩ := h n (by omega)
    refine ⟨l ++ [y], by simp [hl], fun i p hp => ?_⟩
    by_cases hi : i < l.length
    · rw [List.getElem?_append_left hi] at hp; exact hP i p hp
    · rw [List.getElem?_append_right (by omega)] at hp
      have : i - l.length < 1 := (List.getElem?_eq_some_iff.1 hp).1
      have e : i = n := by omega
      subst e
      rw [hl, Nat.sub_self] at hp
      simp at hp; subst hp; exact hy
set_option maxRecDepth 100000 in
/-- The program that came in. -/
theorem open24 {H : Type} {enc : TypeId × Value → H} {w : World} {base b0 : Nat} {spare : Nat → Bool} {held : Bool} {r : Reach} {v : Value} {d : DataW H} {p : List MemPlace}
    (hv : Value.okWide Tryz.prog w r b0 24 v) (h : DataW.Trod enc Tryz.prog w base spare held 24 v d p) :
    ∃ (A : Option Addr) (cap : Nat) (l : List S61) (st sl : Int), v = .agg #[.slice A l.length cap, .int .i64 st, .int .i64 sl] ∧ Kd.C k61 w A l.length l ∧ l.length ≤ cap := by
  obtain ⟨⟨cs⟩, rfl, hsz⟩ := okWide_struct Tryz.underlying24 hv
  have h3 : cs.length = 3 := hsz.trans (by kernel_rfl)
  match cs, h3 with
  | [c0, c1, c2], _ =>
    obtain ⟨fuel, hf⟩ := h
    obtain ⟨xs, n, _, _, _, hl, hg⟩ := DataW.trod_struct Tryz.underlying24 hf
    have q : ∀ j, j < 3 → ∃ x, xs[j]? = some x := fun j hj => ⟨xs[j]'(by rw [hl]; exact hj), by simp⟩
    obtain ⟨x0, e0⟩ := q 0 (by decide)
    obtain ⟨x1, e1⟩ := q 1 (by decide)
    obtain ⟨x2, e2⟩ := q 2 (by decide)
    have g0 := (hg 0 _ rfl).trans e0
    have g1 := (hg 1 _ rfl).trans e1
    have g2 := (hg 2 _ rfl).trans e2
    obtain ⟨a, z1, _, _⟩ := DataW.trod_int (k := .i64) (by kernel_rfl) g1
    obtain ⟨b, z2, _, _⟩ := DataW.trod_int (k := .i64) (by kernel_rfl) g2
    have c22 : Tryz.prog.cellsOf 22 = 1 := by kernel_rfl
    have c3' : Tryz.prog.cellsOf 3 = 1 := by kernel_rfl
    have c61' : Tryz.prog.cellsOf 61 = 5 := by kernel_rfl
    simp [Value.cells, c3'] at z1 z2
    rw [z1, z2]
    rcases Go.Deep.open_slice Tryz.underlying22 g0 with ⟨hcs, _⟩ | ⟨ad, len, cap, m, n, D, Pl, hcs, hb, hl, hm, hmm, hx, hi⟩
    · simp [Value.cells, c22] at hcs
      rw [hcs]
      exact ⟨none, 0, [], a, b, rfl, ⟨rfl, by simp, fun h => absurd h (by simp)⟩, by simp⟩
    · simp [Value.cells, c22] at hcs
      rw [hcs]
      have hlm : len ≤ m := by rw [hmm]; split <;> omega
      obtain ⟨l, hll, hP⟩ := pick_lt z61 (n := len) (P := fun i y => ∀ j u, (c61 y)[j]? = some u → w.cell? (ad.add (i * 5 + j)) = some u) (fun i hil => by
        obtain ⟨cs', hc, ht'⟩ := hi i (by omega)
        rw [c61'] at hc
        obtain ⟨_, hcl, hat⟩ := World.cells?_some hc
        obtain ⟨y, h3⟩ := open61 ht'
        refine ⟨y, fun j u hu => ?_⟩
        have hj : j < 5 := (List.getElem?_eq_some_iff.1 hu).1
        rw [← h3] at hu
        rw [← Addr.add_add]
        exact (hat j hj).trans hu)
      subst hll
      refine ⟨some ad, cap, l, a, b, rfl, ⟨rfl, by have := hm; unfold maxLen at this; omega, fun _ => ⟨ad, rfl, fun j p hp => ⟨c61 p, rfl, k61_mk w p, fun i u hu => hP j p hp i u hu⟩⟩⟩, hl⟩
end Go.Proofs.YtpfcdhjknmijjaaGreat.Ew
end
