import Derived.Test.YtciehejifdbpoaaRvWorks
namespace Go.Proofs.Ytciehejifdbpoaa.Rv
open Go.RowKit Go.Proofs.Ytciehejifdbpoaa.Grow
open Go.Proofs.YtciehejifdbpoaaW.PrintWords Go.Proofs.YtciehejifdbpoaaW.PrintLast Go.Proofs.YtciehejifdbpoaaW.PrintMore
open Go.Proofs.Ytciehejifdbpoaa.PRvcodeDecodes

theorem eqi (n : Nat) (t : TypeId) (a b : Int) (w : World) (ht : Try.prog.underlying t = some (.int .i64)) : (Op.equalIn (n + 1) t (.int .i64 a) (.int .i64 b)).run Try.prog w = .ok (a == b) w := by
  simp [Op.equalIn, run_underlying ht]
theorem eqs (n : Nat) (t : TypeId) (a b : ByteArray) (w : World) (ht : Try.prog.underlying t = some .string) : (Op.equalIn (n + 1) t (.string a) (.string b)).run Try.prog w = .ok (a == b) w := by
  simp [Op.equalIn, run_underlying ht]

def eqOp (s s' : ByteArray) (a a' b b' c c' d d' : Int) : Bool := (s == s') && ((a == a') && ((b == b') && ((c == c') && (d == d'))))
theorem eq24 (s s' : ByteArray) (a a' b b' c c' d d' : Int) (w : World) : (Op.equal 24 (.agg #[.string s, .int .i64 a, .int .i64 b, .int .i64 c, .int .i64 d]) (.agg #[.string s', .int .i64 a', .int .i64 b', .int .i64 c', .int .i64 d'])).run Try.prog w
    = .ok (eqOp s s' a a' b b' c c' d d') w := by
  unfold Op.equal eqOp
  refine eqA_of (d := 9999) Try.underlying24 (by kernel_rfl) ?_
  refine eqf_cons rfl (a := .string s) (b := .string s') (by kernel_rfl) (by kernel_rfl) (eqs _ _ _ _ _ (by kernel_rfl)) ?_
  refine eqf_cons rfl (a := .int .i64 a) (b := .int .i64 a') (by kernel_rfl) (by kernel_rfl) (eqi _ _ _ _ _ (by kernel_rfl)) ?_
  refine eqf_cons rfl (a := .int .i64 b) (b := .int .i64 b') (by kernel_rfl) (by kernel_rfl) (eqi _ _ _ _ _ (by kernel_rfl)) ?_
  refine eqf_cons rfl (a := .int .i64 c) (b := .int .i64 c') (by kernel_rfl) (by kernel_rfl) (eqi _ _ _ _ _ (by kernel_rfl)) ?_
  exact eqf_last rfl (a := .int .i64 d) (b := .int .i64 d') (by kernel_rfl) (by kernel_rfl) (eqi _ _ _ _ _ (by kernel_rfl))
theorem ba_beq (s s' : ByteArray) : (s == s') = true ↔ s = s' := by
  cases s with
  | mk a =>
    cases s' with
    | mk b =>
      show (a == b) = true ↔ _
      simp
theorem eqOp_iff (s s' : ByteArray) (a a' b b' c c' d d' : Int) : eqOp s s' a a' b b' c c' d d' = true ↔ s = s' ∧ a = a' ∧ b = b' ∧ c = c' ∧ d = d' := by
  simp only [eqOp, Bool.and_eq_true, ba_beq, beq_iff_eq]
theorem eqOp_same (s : ByteArray) (a b c d : Int) : eqOp s s a a b b c c d d = true := (eqOp_iff ..).2 ⟨rfl, rfl, rfl, rfl, rfl⟩
theorem neq24 (s s' : ByteArray) (a a' b b' c c' d d' : Int) (w : World) : (binOp .neq 24 (.agg #[.string s, .int .i64 a, .int .i64 b, .int .i64 c, .int .i64 d]) (.agg #[.string s', .int .i64 a', .int .i64 b', .int .i64 c', .int .i64 d'])).run Try.prog w
    = .ok (.bool (!eqOp s s' a a' b b' c c' d d')) w := by
  simp [binOp, eq24]
theorem eql24 (s s' : ByteArray) (a a' b b' c c' d d' : Int) (w : World) : (binOp .eql 24 (.agg #[.string s, .int .i64 a, .int .i64 b, .int .i64 c, .int .i64 d]) (.agg #[.string s', .int .i64 a', .int .i64 b', .int .i64 c', .int .i64 d'])).run Try.prog w
    = .ok (.bool (eqOp s s' a a' b b' c c' d d')) w := by
  simp [binOp, eq24]
theorem guard24 : Try.prog.eqGuardType Try.prog.depth 24 = false := by kernel_rfl
end Go.Proofs.Ytciehejifdbpoaa.Rv
