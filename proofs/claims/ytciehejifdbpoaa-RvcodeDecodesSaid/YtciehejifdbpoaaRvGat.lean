import Derived.Test.YtciehejifdbpoaaRvBits
namespace Go.Proofs.Ytciehejifdbpoaa.Rv
open Go.RowKit Go.Proofs.YtciehejifdbpoaaW.PrintWords Go.Proofs.YtciehejifdbpoaaW.PrintLast Go.Proofs.YtciehejifdbpoaaW.PrintMore
open Go.Proofs.Ytciehejifdbpoaa.PRvcodeDecodes

theorem or_i64 (a b : Int) (i : Nat) (hi : i ≤ 31) (hb0 : 0 ≤ b) (hb : b < 2 ^ i) (h1 : -2147483648 ≤ a) (h2 : a < 2147483648) : Go.bits .or .i64 (a * 2 ^ i) b = a * 2 ^ i + b := by
  obtain ⟨m, rfl⟩ := Int.eq_ofNat_of_zero_le hb0
  have hm : m < 2 ^ i := by exact_mod_cast hb
  have hp : 0 < 2 ^ i := Nat.two_pow_pos i
  have hpl : 2 ^ i ≤ 2 ^ 31 := Nat.pow_le_pow_right (by decide) hi
  -- the number without its sign
  obtain ⟨A, hA⟩ : ∃ A : Nat, (A : Int) = a + 18446744073709551616 := ⟨(a + 18446744073709551616).toNat, by omega⟩
  have e1 : (BitVec.ofInt 64 (a * 2 ^ i)) = BitVec.ofNat 64 (A * 2 ^ i) := by
    rw [← BitVec.ofInt_natCast]
    apply BitVec.eq_of_toInt_eq
    rw [BitVec.toInt_ofInt, BitVec.toInt_ofInt]
    rw [Int.natCast_mul, hA, Int.add_mul]
    rw [show ((2 ^ i : Nat) : Int) = (2 : Int) ^ i by simp]
    rw [show (18446744073709551616 : Int) * 2 ^ i = ((2 : Int) ^ i) * ((2 ^ 64 : Nat) : Int) by rw [Int.mul_comm]; rfl]
    rw [Int.add_mul_bmod_self_right]
  have e2 : BitVec.ofInt 64 (m : Int) = BitVec.ofNat 64 m := BitVec.ofInt_natCast ..
  have e3 : A * 2 ^ i % 2 ^ 64 = (A % 2 ^ (64 - i)) * 2 ^ i := by
    rw [← Nat.mul_mod_mul_right, ← Nat.pow_add, show 64 - i + i = 64 by omega]
  have e4 : (BitVec.ofNat 64 (A * 2 ^ i) ||| BitVec.ofNat 64 m).toNat = m + (A % 2 ^ (64 - i)) * 2 ^ i := by
    rw [BitVec.toNat_or, BitVec.toNat_ofNat, BitVec.toNat_ofNat, e3, Nat.mod_eq_of_lt (show m < 2 ^ 64 by omega), Nat.or_comm, ← Nat.shiftLeft_eq, or_field _ _ _ hm, Nat.shiftLeft_eq]
  have e5 : Go.bits .or .i64 (a * 2 ^ i) (m : Int) = IntKind.i64.wrap ((m + (A % 2 ^ (64 - i)) * 2 ^ i : Nat) : Int) := by
    rw [← e4, ← e1, ← e2]; rfl
  rw [e5, IntKind.wrap_i64, ← e3]
  have e6 : ((A * 2 ^ i % 2 ^ 64 : Nat) : Int) = a * 2 ^ i + 18446744073709551616 * ((2 ^ i : Nat) - (A * 2 ^ i / 2 ^ 64 : Nat)) := by
    have h3 := Nat.div_add_mod (A * 2 ^ i) (2 ^ 64)
    have h4 : ((A * 2 ^ i : Nat) : Int) = a * 2 ^ i + 18446744073709551616 * ((2 ^ i : Nat) : Int) := by
      rw [Int.natCast_mul, hA, Int.add_mul]; simp
    omega
  have b1 : -4611686018427387904 ≤ a * 2 ^ i := by
    have : (-2147483648) * ((2 ^ i : Nat) : Int) ≤ a * ((2 ^ i : Nat) : Int) := Int.mul_le_mul_of_nonneg_right h1 (by omega)
    have e : ((2 ^ i : Nat) : Int) = (2 : Int) ^ i := by simp
    rw [e] at this
    omega
  have b2 : a * 2 ^ i ≤ 4611686018427387904 := by
    have : a * ((2 ^ i : Nat) : Int) ≤ 2147483648 * ((2 ^ i : Nat) : Int) := Int.mul_le_mul_of_nonneg_right (by omega) (by omega)
    have e : ((2 ^ i : Nat) : Int) = (2 : Int) ^ i := by simp
    rw [e] at this
    omega
  generalize a * 2 ^ i = X at *
  rw [Int.natCast_add, e6]
  generalize ((2 ^ i : Nat) : Int) - ((A * 2 ^ i / 2 ^ 64 : Nat) : Int) = z
  omega

theorem or_i64' (a b D : Int) (i : Nat) (hD : D = 2 ^ i) (hi : i ≤ 31) (hb0 : 0 ≤ b) (hb : b < D) (h1 : -2147483648 ≤ a) (h2 : a < 2147483648) : Go.bits .or .i64 (a * D) b = a * D + b := by
  subst hD; exact or_i64 a b i hi hb0 hb h1 h2
theorem gat_of {f x y : Int} (h : rvcode_gather.f f x = some y) : gat f x = y := by
  unfold gat
  rw [h]; rfl
theorem w32 (n : Nat) : -2147483648 ≤ wrap32 (n : Int) ∧ wrap32 (n : Int) < 2147483648 := by unfold wrap32; omega
theorem w64 (z : Int) (h1 : -9223372036854775808 ≤ z) (h2 : z < 9223372036854775808) : wrap64 z = z := by unfold wrap64; omega

/-- The number that a form's bits say, in plain words. -/
theorem gat0 (n : Nat) : gat 0 (n : Int) = 0 := gat_of rfl
theorem gat8 (n : Nat) : gat 8 (n : Int) = 0 := gat_of rfl
theorem gat1 (n : Nat) : gat 1 (n : Int) = wrap32 (n : Int) / 1048576 := by
  have hw := w32 n
  refine gat_of ?_
  unfold rvcode_gather.f
  rw [if_pos (show (1 : Int) = 1 from rfl), w64 _ (by omega) (by omega)]
theorem gat6 (n : Nat) : gat 6 (n : Int) = wrap32 (n : Int) / 4096 := by
  have hw := w32 n
  refine gat_of ?_
  unfold rvcode_gather.f
  rw [if_neg (show ¬ (6 : Int) = 1 by decide), if_neg (show ¬ (6 : Int) = 2 by decide), if_neg (show ¬ (6 : Int) = 3 by decide), if_neg (show ¬ (6 : Int) = 4 by decide), if_neg (show ¬ (6 : Int) = 5 by decide), if_pos (show (6 : Int) = 6 from rfl), w64 _ (by omega) (by omega)]
theorem gat2 (n : Nat) (h : n < 4294967296) : gat 2 (n : Int) = ((n / 1048576 % 64 : Nat) : Int) := by
  have c1 : rvcode_cut.f (n : Int) 20 6 = some ((n / 2 ^ 20 % 2 ^ 6 : Nat) : Int) := cut_val n 20 6 h (by decide) (by decide)
  refine gat_of ?_
  unfold rvcode_gather.f
  rw [if_neg (show ¬ (2 : Int) = 1 by decide), if_pos (show (2 : Int) = 2 from rfl), c1, Option.bind_some, w64 _ (by omega) (by omega)]
theorem gat3 (n : Nat) (h : n < 4294967296) : gat 3 (n : Int) = ((n / 1048576 % 32 : Nat) : Int) := by
  have c1 : rvcode_cut.f (n : Int) 20 5 = some ((n / 2 ^ 20 % 2 ^ 5 : Nat) : Int) := cut_val n 20 5 h (by decide) (by decide)
  refine gat_of ?_
  unfold rvcode_gather.f
  rw [if_neg (show ¬ (3 : Int) = 1 by decide), if_neg (show ¬ (3 : Int) = 2 by decide), if_pos (show (3 : Int) = 3 from rfl), c1, Option.bind_some, w64 _ (by omega) (by omega)]
theorem gat4 (n : Nat) (h : n < 4294967296) : gat 4 (n : Int) = wrap32 (n : Int) / 33554432 * 32 + ((n / 128 % 32 : Nat) : Int) := by
  have hw := w32 n
  have c1 : rvcode_cut.f (n : Int) 7 5 = some ((n / 2 ^ 7 % 2 ^ 5 : Nat) : Int) := cut_val n 7 5 h (by decide) (by decide)
  refine gat_of ?_
  unfold rvcode_gather.f
  rw [if_neg (show ¬ (4 : Int) = 1 by decide), if_neg (show ¬ (4 : Int) = 2 by decide), if_neg (show ¬ (4 : Int) = 3 by decide), if_pos (show (4 : Int) = 4 from rfl), c1, Option.bind_some, w64 (wrap32 (n : Int) / 33554432) (by omega) (by omega), w64 _ (by omega) (by omega), w64 _ (by omega) (by omega), show ((n / 2 ^ 7 % 2 ^ 5 : Nat) : Int) = ((n / 128 % 32 : Nat) : Int) by omega]
  have := or_i64' (wrap32 (n : Int) / 33554432) ((n / 128 % 32 : Nat) : Int) 32 5 (by decide) (by decide) (by omega) (by omega) (by omega) (by omega)
  exact congrArg some this
theorem w64_4096 (n : Nat) : wrap64 (wrap64 (wrap32 (n : Int) / 2147483648) * 4096) = wrap32 (n : Int) / 2147483648 * 4096 := by
  have hw := w32 n
  rw [w64 (wrap32 (n : Int) / 2147483648) (by omega) (by omega)]
  exact w64 _ (by omega) (by omega)
theorem w64_1048576 (n : Nat) : wrap64 (wrap64 (wrap32 (n : Int) / 2147483648) * 1048576) = wrap32 (n : Int) / 2147483648 * 1048576 := by
  have hw := w32 n
  rw [w64 (wrap32 (n : Int) / 2147483648) (by omega) (by omega)]
  exact w64 _ (by omega) (by omega)
theorem gat5 (n : Nat) (h : n < 4294967296) : gat 5 (n : Int) = wrap32 (n : Int) / 2147483648 * 4096 + ((n / 128 % 2 * 2048 + n / 33554432 % 64 * 32 + n / 256 % 16 * 2 : Nat) : Int) := by
  have hw := w32 n
  have c1 : rvcode_cut.f (n : Int) 7 1 = some ((n / 2 ^ 7 % 2 ^ 1 : Nat) : Int) := cut_val n 7 1 h (by decide) (by decide)
  have c2 : rvcode_cut.f (n : Int) 25 6 = some ((n / 2 ^ 25 % 2 ^ 6 : Nat) : Int) := cut_val n 25 6 h (by decide) (by decide)
  have c3 : rvcode_cut.f (n : Int) 8 4 = some ((n / 2 ^ 8 % 2 ^ 4 : Nat) : Int) := cut_val n 8 4 h (by decide) (by decide)
  refine gat_of ?_
  unfold rvcode_gather.f
  rw [if_neg (show ¬ (5 : Int) = 1 by decide), if_neg (show ¬ (5 : Int) = 2 by decide), if_neg (show ¬ (5 : Int) = 3 by decide), if_neg (show ¬ (5 : Int) = 4 by decide), if_pos (show (5 : Int) = 5 from rfl), c1, c2, c3]
  simp only [Option.bind_some]
  have a1 : (((n / 2 ^ 7 % 2 ^ 1 : Nat) : Int) * 2048) % 4294967296 = ((n / 128 % 2 * 2 ^ 11 : Nat) : Int) := by omega
  have a2 : (((n / 2 ^ 25 % 2 ^ 6 : Nat) : Int) * 32) % 4294967296 = ((n / 33554432 % 64 * 2 ^ 5 : Nat) : Int) := by omega
  have a3 : (((n / 2 ^ 8 % 2 ^ 4 : Nat) : Int) * 2) % 4294967296 = ((n / 256 % 16 * 2 ^ 1 : Nat) : Int) := by omega
  obtain ⟨p1, w1⟩ := or_apart (within_field (n / 128 % 2) 11 1 (by omega)) (within_field (n / 33554432 % 64) 5 6 (by omega)) (by decide) (by decide) (by decide)
  obtain ⟨p2, _⟩ := or_apart w1 (within_field (n / 256 % 16) 1 4 (by omega)) (by decide) (by decide) (by decide)
  have e1 := w64_4096 n
  have e2 : wrap64 ((n / 128 % 2 * 2 ^ 11 + n / 33554432 % 64 * 2 ^ 5 + n / 256 % 16 * 2 ^ 1 : Nat) : Int) = ((n / 128 % 2 * 2048 + n / 33554432 % 64 * 32 + n / 256 % 16 * 2 : Nat) : Int) := by
    clear hw c1 c2 c3 a1 a2 a3 p1 w1 p2
    rw [show ((n / 128 % 2 * 2 ^ 11 + n / 33554432 % 64 * 2 ^ 5 + n / 256 % 16 * 2 ^ 1 : Nat) : Int) = ((n / 128 % 2 * 2048 + n / 33554432 % 64 * 32 + n / 256 % 16 * 2 : Nat) : Int) by omega]
    exact w64 _ (by omega) (by omega)
  rw [a1, a2, a3, p1, p2]
  simp only [e1, e2]
  clear c1 c2 c3 a1 a2 a3 p1 w1 p2 e1 e2
  have := or_i64' (wrap32 (n : Int) / 2147483648) ((n / 128 % 2 * 2048 + n / 33554432 % 64 * 32 + n / 256 % 16 * 2 : Nat) : Int) 4096 12 (by decide) (by decide) (by omega) (by omega) (by omega) (by omega)
  exact congrArg some this
theorem gat7 (n : Nat) (h : n < 4294967296) : gat 7 (n : Int) = wrap32 (n : Int) / 2147483648 * 1048576 + ((n / 4096 % 256 * 4096 + n / 1048576 % 2 * 2048 + n / 2097152 % 1024 * 2 : Nat) : Int) := by
  have hw := w32 n
  have c1 : rvcode_cut.f (n : Int) 12 8 = some ((n / 2 ^ 12 % 2 ^ 8 : Nat) : Int) := cut_val n 12 8 h (by decide) (by decide)
  have c2 : rvcode_cut.f (n : Int) 20 1 = some ((n / 2 ^ 20 % 2 ^ 1 : Nat) : Int) := cut_val n 20 1 h (by decide) (by decide)
  have c3 : rvcode_cut.f (n : Int) 21 10 = some ((n / 2 ^ 21 % 2 ^ 10 : Nat) : Int) := cut_val n 21 10 h (by decide) (by decide)
  refine gat_of ?_
  unfold rvcode_gather.f
  rw [if_neg (show ¬ (7 : Int) = 1 by decide), if_neg (show ¬ (7 : Int) = 2 by decide), if_neg (show ¬ (7 : Int) = 3 by decide), if_neg (show ¬ (7 : Int) = 4 by decide), if_neg (show ¬ (7 : Int) = 5 by decide), if_neg (show ¬ (7 : Int) = 6 by decide), if_pos (show (7 : Int) = 7 from rfl), c1, c2, c3]
  simp only [Option.bind_some]
  have a1 : (((n / 2 ^ 12 % 2 ^ 8 : Nat) : Int) * 4096) % 4294967296 = ((n / 4096 % 256 * 2 ^ 12 : Nat) : Int) := by omega
  have a2 : (((n / 2 ^ 20 % 2 ^ 1 : Nat) : Int) * 2048) % 4294967296 = ((n / 1048576 % 2 * 2 ^ 11 : Nat) : Int) := by omega
  have a3 : (((n / 2 ^ 21 % 2 ^ 10 : Nat) : Int) * 2) % 4294967296 = ((n / 2097152 % 1024 * 2 ^ 1 : Nat) : Int) := by omega
  obtain ⟨p1, w1⟩ := or_apart (within_field (n / 4096 % 256) 12 8 (by omega)) (within_field (n / 1048576 % 2) 11 1 (by omega)) (by decide) (by decide) (by decide)
  obtain ⟨p2, _⟩ := or_apart w1 (within_field (n / 2097152 % 1024) 1 10 (by omega)) (by decide) (by decide) (by decide)
  have e1 := w64_1048576 n
  have e2 : wrap64 ((n / 4096 % 256 * 2 ^ 12 + n / 1048576 % 2 * 2 ^ 11 + n / 2097152 % 1024 * 2 ^ 1 : Nat) : Int) = ((n / 4096 % 256 * 4096 + n / 1048576 % 2 * 2048 + n / 2097152 % 1024 * 2 : Nat) : Int) := by
    clear hw c1 c2 c3 a1 a2 a3 p1 w1 p2
    rw [show ((n / 4096 % 256 * 2 ^ 12 + n / 1048576 % 2 * 2 ^ 11 + n / 2097152 % 1024 * 2 ^ 1 : Nat) : Int) = ((n / 4096 % 256 * 4096 + n / 1048576 % 2 * 2048 + n / 2097152 % 1024 * 2 : Nat) : Int) by omega]
    exact w64 _ (by omega) (by omega)
  rw [a1, a2, a3, p1, p2]
  simp only [e1, e2]
  clear c1 c2 c3 a1 a2 a3 p1 w1 p2 e1 e2
  have := or_i64' (wrap32 (n : Int) / 2147483648) ((n / 4096 % 256 * 4096 + n / 1048576 % 2 * 2048 + n / 2097152 % 1024 * 2 : Nat) : Int) 1048576 20 (by decide) (by decide) (by omega) (by omega) (by omega) (by omega)
  exact congrArg some this

/-! ### What a form lays into a word -/
def scN (f : Int) (m : Nat) : Nat :=
  if f = 1 ∨ f = 2 ∨ f = 3 then m % 4096 * 1048576
  else if f = 4 then m % 32 * 128 + m / 32 % 128 * 33554432
  else if f = 5 then m / 2048 % 2 * 128 + m / 2 % 16 * 256 + m / 32 % 64 * 33554432 + m / 4096 % 2 * 2147483648
  else if f = 6 then m % 1048576 * 4096
  else if f = 7 then m / 4096 % 256 * 4096 + m / 2048 % 2 * 1048576 + m / 2 % 1024 * 2097152 + m / 1048576 % 2 * 2147483648
  else 0
/-- Which bits those are. -/
def scM (f : Int) : Nat :=
  if f = 1 ∨ f = 2 ∨ f = 3 then 4293918720 else if f = 4 then 4261416832 else if f = 5 then 4261416832 else if f = 6 ∨ f = 7 then 4294963200 else 0
theorem sct_val (f : Int) (m : Nat) (h : m < 4294967296) : sct f (m : Int) = (scN f m : Int) ∧ Within (scM f) (scN f m) := by
  by_cases h1 : f = 1
  · subst h1
    refine ⟨?_, within_field (m % 4096) 20 12 (by omega)⟩
    show ((m : Int) * 1048576) % 4294967296 = ((m % 4096 * 1048576 : Nat) : Int)
    omega
  by_cases h2 : f = 2
  · subst h2
    refine ⟨?_, within_field (m % 4096) 20 12 (by omega)⟩
    show ((m : Int) * 1048576) % 4294967296 = ((m % 4096 * 1048576 : Nat) : Int)
    omega
  by_cases h3 : f = 3
  · subst h3
    refine ⟨?_, within_field (m % 4096) 20 12 (by omega)⟩
    show ((m : Int) * 1048576) % 4294967296 = ((m % 4096 * 1048576 : Nat) : Int)
    omega
  by_cases h4 : f = 4
  · subst h4
    have h0 : sct 4 (m : Int) = ((rvcode_cut.f (m : Int) ((0 : Nat) : Int) ((5 : Nat) : Int)).bind fun a => (rvcode_cut.f (m : Int) ((5 : Nat) : Int) ((7 : Nat) : Int)).bind fun b => some (Go.bits .or .u32 ((a * 128) % 4294967296) ((b * 33554432) % 4294967296))).getD 0 := rfl
    rw [h0, cut_val m 0 5 h (by decide) (by decide), cut_val m 5 7 h (by decide) (by decide)]
    simp only [Option.bind_some, Option.getD_some]
    have a1 : (((m / 2 ^ 0 % 2 ^ 5 : Nat) : Int) * 128) % 4294967296 = ((m % 32 * 2 ^ 7 : Nat) : Int) := by omega
    have a2 : (((m / 2 ^ 5 % 2 ^ 7 : Nat) : Int) * 33554432) % 4294967296 = ((m / 32 % 128 * 2 ^ 25 : Nat) : Int) := by omega
    obtain ⟨p1, w1⟩ := or_apart (within_field (m % 32) 7 5 (by omega)) (within_field (m / 32 % 128) 25 7 (by omega)) (by decide) (by decide) (by decide)
    rw [a1, a2, p1]
    exact ⟨rfl, w1⟩
  by_cases h5 : f = 5
  · subst h5
    have h0 : sct 5 (m : Int) = ((rvcode_cut.f (m : Int) ((11 : Nat) : Int) ((1 : Nat) : Int)).bind fun a => (rvcode_cut.f (m : Int) ((1 : Nat) : Int) ((4 : Nat) : Int)).bind fun b => (rvcode_cut.f (m : Int) ((5 : Nat) : Int) ((6 : Nat) : Int)).bind fun c => (rvcode_cut.f (m : Int) ((12 : Nat) : Int) ((1 : Nat) : Int)).bind fun d =>
      some (Go.bits .or .u32 (Go.bits .or .u32 (Go.bits .or .u32 ((a * 128) % 4294967296) ((b * 256) % 4294967296)) ((c * 33554432) % 4294967296)) ((d * 2147483648) % 4294967296))).getD 0 := rfl
    rw [h0, cut_val m 11 1 h (by decide) (by decide), cut_val m 1 4 h (by decide) (by decide), cut_val m 5 6 h (by decide) (by decide), cut_val m 12 1 h (by decide) (by decide)]
    simp only [Option.bind_some, Option.getD_some]
    have a1 : (((m / 2 ^ 11 % 2 ^ 1 : Nat) : Int) * 128) % 4294967296 = ((m / 2048 % 2 * 2 ^ 7 : Nat) : Int) := by omega
    have a2 : (((m / 2 ^ 1 % 2 ^ 4 : Nat) : Int) * 256) % 4294967296 = ((m / 2 % 16 * 2 ^ 8 : Nat) : Int) := by omega
    have a3 : (((m / 2 ^ 5 % 2 ^ 6 : Nat) : Int) * 33554432) % 4294967296 = ((m / 32 % 64 * 2 ^ 25 : Nat) : Int) := by omega
    have a4 : (((m / 2 ^ 12 % 2 ^ 1 : Nat) : Int) * 2147483648) % 4294967296 = ((m / 4096 % 2 * 2 ^ 31 : Nat) : Int) := by omega
    obtain ⟨p1, w1⟩ := or_apart (within_field (m / 2048 % 2) 7 1 (by omega)) (within_field (m / 2 % 16) 8 4 (by omega)) (by decide) (by decide) (by decide)
    obtain ⟨p2, w2⟩ := or_apart w1 (within_field (m / 32 % 64) 25 6 (by omega)) (by decide) (by decide) (by decide)
    obtain ⟨p3, w3⟩ := or_apart w2 (within_field (m / 4096 % 2) 31 1 (by omega)) (by decide) (by decide) (by decide)
    rw [a1, a2, a3, a4, p1, p2, p3]
    exact ⟨rfl, w3⟩
  by_cases h6 : f = 6
  · subst h6
    refine ⟨?_, within_field (m % 1048576) 12 20 (by omega)⟩
    show ((m : Int) * 4096) % 4294967296 = ((m % 1048576 * 4096 : Nat) : Int)
    omega
  by_cases h7 : f = 7
  · subst h7
    have h0 : sct 7 (m : Int) = ((rvcode_cut.f (m : Int) ((12 : Nat) : Int) ((8 : Nat) : Int)).bind fun a => (rvcode_cut.f (m : Int) ((11 : Nat) : Int) ((1 : Nat) : Int)).bind fun b => (rvcode_cut.f (m : Int) ((1 : Nat) : Int) ((10 : Nat) : Int)).bind fun c => (rvcode_cut.f (m : Int) ((20 : Nat) : Int) ((1 : Nat) : Int)).bind fun d =>
      some (Go.bits .or .u32 (Go.bits .or .u32 (Go.bits .or .u32 ((a * 4096) % 4294967296) ((b * 1048576) % 4294967296)) ((c * 2097152) % 4294967296)) ((d * 2147483648) % 4294967296))).getD 0 := rfl
    rw [h0, cut_val m 12 8 h (by decide) (by decide), cut_val m 11 1 h (by decide) (by decide), cut_val m 1 10 h (by decide) (by decide), cut_val m 20 1 h (by decide) (by decide)]
    simp only [Option.bind_some, Option.getD_some]
    have a1 : (((m / 2 ^ 12 % 2 ^ 8 : Nat) : Int) * 4096) % 4294967296 = ((m / 4096 % 256 * 2 ^ 12 : Nat) : Int) := by omega
    have a2 : (((m / 2 ^ 11 % 2 ^ 1 : Nat) : Int) * 1048576) % 4294967296 = ((m / 2048 % 2 * 2 ^ 20 : Nat) : Int) := by omega
    have a3 : (((m / 2 ^ 1 % 2 ^ 10 : Nat) : Int) * 2097152) % 4294967296 = ((m / 2 % 1024 * 2 ^ 21 : Nat) : Int) := by omega
    have a4 : (((m / 2 ^ 20 % 2 ^ 1 : Nat) : Int) * 2147483648) % 4294967296 = ((m / 1048576 % 2 * 2 ^ 31 : Nat) : Int) := by omega
    obtain ⟨p1, w1⟩ := or_apart (within_field (m / 4096 % 256) 12 8 (by omega)) (within_field (m / 2048 % 2) 20 1 (by omega)) (by decide) (by decide) (by decide)
    obtain ⟨p2, w2⟩ := or_apart w1 (within_field (m / 2 % 1024) 21 10 (by omega)) (by decide) (by decide) (by decide)
    obtain ⟨p3, w3⟩ := or_apart w2 (within_field (m / 1048576 % 2) 31 1 (by omega)) (by decide) (by decide) (by decide)
    rw [a1, a2, a3, a4, p1, p2, p3]
    exact ⟨rfl, w3⟩
  · have e : scN f m = 0 := by unfold scN; simp [h1, h2, h3, h4, h5, h6, h7]
    have e2 : sct f (m : Int) = 0 := by
      unfold sct rvcode_scatter.f
      have : ∀ b, b = false → (rvcode_scatter.j0 3 (m : Int) f b).getD 0 = 0 := by
        rintro b rfl
        unfold rvcode_scatter.j0
        simp [h4, h5, h6, h7]
      rw [if_neg h1, if_neg h2]
      exact this _ (beq_eq_false_iff_ne.2 h3)
    rw [e, e2]
    exact ⟨rfl, within_zero _⟩
end Go.Proofs.Ytciehejifdbpoaa.Rv
