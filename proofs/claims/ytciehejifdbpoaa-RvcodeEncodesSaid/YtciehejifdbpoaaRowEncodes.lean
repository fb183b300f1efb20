/- For every instruction, the word that the program encodes it to is decoded by the reference to that instruction; where the program gives an error there is no such word. -/
import Derived.Test.YtciehejifdbpoaaRows
import Derived.Test.YtciehejifdbpoaaRvLaws
import Derived.WalkKit
import Derived.ProofKit
import Derived.OpenShut
import Derived.ShutString
import Derived.ChangeOld
import Derived.Below
namespace Go.Proofs.Ytciehejifdbpoaa.rvcodeEncodes
open Go.ChangeShapes Go.WideShapes Go.ChangeAt Go.RowKit
set_option linter.unusedVariables false
theorem own : ownKnob Try.prog.godebug = none := by kernel_rfl
theorem laidOut : laidOutB Try.prog = true := by kernel_rfl
set_option maxRecDepth 100000 in
/-- An instruction that came in, by its cells. -/
theorem open24 {H : Type} {enc : TypeId × Value → H} {w : World} {base b0 : Nat} {spare : Nat → Bool} {held : Bool} {r : Reach} {v : Value} {d : DataW H} {p : List MemPlace}
    (hv : Value.okWide Try.prog w r b0 24 v) (h : DataW.Trod enc Try.prog w base spare held 24 v d p) :
    ∃ (s : ByteArray) (a b c e : Int), v = .agg #[.string s, .int .i64 a, .int .i64 b, .int .i64 c, .int .i64 e] := by
  obtain ⟨⟨l⟩, rfl, hsz⟩ := okWide_struct Try.underlying24 hv
  have h5 : l.length = 5 := hsz.trans (by kernel_rfl)
  match l, h5 with
  | [c0, c1, c2, c3, c4], _ =>
    obtain ⟨fuel, hf⟩ := h
    obtain ⟨xs, n, _, _, _, hl, hg⟩ := DataW.trod_struct Try.underlying24 hf
    have k : ∀ j, j < 5 → (Try.prog.cellsOf (if j = 0 then 9 else 3)) = 1 := by decide +kernel
    have g : ∀ (j : Nat) (f : Field) (x : DataW H × List MemPlace), j < 5 → xs[j]? = some x → _ := fun j f x hj hx => hg j
    have q : ∀ j, j < 5 → ∃ x, xs[j]? = some x := fun j hj => ⟨xs[j]'(by rw [hl]; exact hj), by simp⟩
    obtain ⟨x0, e0⟩ := q 0 (by decide)
    obtain ⟨x1, e1⟩ := q 1 (by decide)
    obtain ⟨x2, e2⟩ := q 2 (by decide)
    obtain ⟨x3, e3⟩ := q 3 (by decide)
    obtain ⟨x4, e4⟩ := q 4 (by decide)
    have g0 := (hg 0 _ rfl).trans e0
    have g1 := (hg 1 _ rfl).trans e1
    have g2 := (hg 2 _ rfl).trans e2
    have g3 := (hg 3 _ rfl).trans e3
    have g4 := (hg 4 _ rfl).trans e4
    obtain ⟨s, z0, _, _⟩ := DataW.trod_string (by kernel_rfl) g0
    obtain ⟨a, z1, _, _⟩ := DataW.trod_int (k := .i64) (by kernel_rfl) g1
    obtain ⟨b, z2, _, _⟩ := DataW.trod_int (k := .i64) (by kernel_rfl) g2
    obtain ⟨c, z3, _, _⟩ := DataW.trod_int (k := .i64) (by kernel_rfl) g3
    obtain ⟨e, z4, _, _⟩ := DataW.trod_int (k := .i64) (by kernel_rfl) g4
    have c9 : Try.prog.cellsOf 9 = 1 := by kernel_rfl
    have c3' : Try.prog.cellsOf 3 = 1 := by kernel_rfl
    simp [Value.cells, c9] at z0
    simp [Value.cells, c3'] at z1 z2 z3 z4
    exact ⟨s, a, b, c, e, by rw [z0, z1, z2, z3, z4]⟩
set_option maxRecDepth 100000 in
theorem lifted (os : Os) (started : os.Started) (H : Type) (enc : TypeId × Value → H) :
    ReturnsInHanded {} Try.checked os 4 .any (Rows.rvcodeEncodesSpec.pre6 enc Try.prog Try.f4 Rows.rvcodeEncodesRow.domain false) (Rows.rvcodeEncodesSpec.post enc Try.prog Try.f4 false true false false) := by
  refine returnsInHanded_of_change (C := Try.checked) own started (by kernel_rfl) Try.func4
    (ChangeSpec.witness6 (enc := enc) (C := Try.checked) false ⟨#[], #[.agg #[.string ByteArray.empty, .int .i64 0, .int .i64 0, .int .i64 0, .int .i64 0]], []⟩ 8 (by kernel_rfl) (by kernel_rfl) (by kernel_rfl) (by kernel_rfl)) ?_
  intro W base args ds gs before hval0 hW hcnd _
  have hval : ∀ (j : Nat) t v, Try.f4.params[j]? = some t → args[j]? = some v → Value.okWide Try.prog W .any base t v := hval0
  have hW' := hW
  obtain ⟨p, q, hA0, hV, rfl, hfz, hnd⟩ := hW
  have hA : DataW.TrodAll enc Try.prog W 0 (fun _ => true) true Try.f4.params.toList args.toList ds p := hA0
  rw [Try.params4] at hA hval
  obtain ⟨v0, vs0, d0, ds0, p0, q0, hargs, rfl, rfl, h0, r0⟩ := trodAll_cons hA
  obtain ⟨rfl, rfl, rfl⟩ := trodAll_nil r0
  obtain rfl : args = #[v0] := by cases args; simp_all
  obtain ⟨rfl, rfl⟩ := trodVars_none hV
  have k0 := h0
  have lt0 : ∀ x ∈ p0, x.block < W.heap.size := by obtain ⟨m, hm⟩ := k0; exact DataW.trod_lt m _ _ _ hm
  obtain ⟨s0, a0, b0, c0, e0, rfl⟩ := open24 (hval 0 24 v0 rfl rfl) h0
  clear hA0 hval0
  refine (Rv.encodes_walk s0 a0 b0 c0 e0 W).mono fun e W' ⟨he, bel⟩ => ?_
  subst he
  exact ⟨_, rfl, _, _, _, [], _, [], hW', trodAll_mk1 (shut_bool Try.underlying4 _), (trodAll_cons_mk (Below.trod laidOut (by kernel_rfl) (of_decide_eq_true (by kernel_rfl)) k0 bel lt0) trodAll_mk0), rfl, bel.frame _, fun h => by cases h⟩
theorem over : Rows.rvcodeEncodesRow.holds Try.pinned (OpenSpec.ofChange Rows.rvcodeEncodesSpec) :=
  OpenClaim.holds_of_wide 4 Try.f4 rfl rfl rfl rfl rfl rfl rfl ⟨rfl, rfl, rfl, rfl, rfl⟩ rfl rfl rfl rfl rfl (by kernel_rfl) Try.func4 (by kernel_rfl)
    (of_decide_eq_true (by kernel_rfl)) (by unfold Func.isWrapper; first | (rw [if_pos (by decide +kernel)]; kernel_rfl) | (rw [if_neg (by decide +kernel)]; exact ⟨rfl, rfl⟩))
    (fun os started H enc _ => lifted os started H enc)
theorem proved : Rows.RvcodeEncodesSaid := over
#print axioms proved
end Go.Proofs.Ytciehejifdbpoaa.rvcodeEncodes
namespace Go.Proofs.Ytciehejifdbpoaa
/-- The row, under a short name, for the claim. -/
theorem rvcodeEncodes_holds : Rows.RvcodeEncodesSaid := rvcodeEncodes.proved
end Go.Proofs.Ytciehejifdbpoaa

