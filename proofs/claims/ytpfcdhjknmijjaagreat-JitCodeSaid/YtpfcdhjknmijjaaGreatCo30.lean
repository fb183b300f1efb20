import Derived.Test.YtpfcdhjknmijjaaGreatCo13
section
namespace Go.Proofs.YtpfcdhjknmijjaaGreat.Rv
open Go.Proofs.YtpfcdhjknmijjaaGreatW.PrintWords Go.Proofs.YtpfcdhjknmijjaaGreatW.PrintLast Go.Proofs.YtpfcdhjknmijjaaGreatW.PrintMore
open Go.Proofs.YtpfcdhjknmijjaaGreat.PHartQuotients

/-! ### Bits of numbers -/
theorem or_field (a b i : Nat) (h : b < 2 ^ i) : b ||| a <<< i = b + a * 2 ^ i := by
  rw [Nat.or_comm, ← Nat.shiftLeft_add_eq_or_of_lt h, Nat.shiftLeft_eq]; omega

theorem wraps_u32 (n : Int) (h₀ : 0 ≤ n) (h₁ : n < 2 ^ 32) : IntKind.u32.wrap n = n := by rw [IntKind.wrap_u32]; omega
end Go.Proofs.YtpfcdhjknmijjaaGreat.Rv

namespace Go.Proofs.YtpfcdhjknmijjaaGreat.Rv
open Go.Proofs.YtpfcdhjknmijjaaGreatW.PrintWords Go.Proofs.YtpfcdhjknmijjaaGreatW.PrintLast Go.Proofs.YtpfcdhjknmijjaaGreatW.PrintMore
open Go.Proofs.YtpfcdhjknmijjaaGreat.PHartQuotients

/-! ### Parts of a word -/
theorem cut_val (n a b : Nat) (hn : n < 4294967296) (ha : a ≤ 31) (hb : b ≤ 31) : rvcode_cut.f (n : Int) (a : Int) (b : Int) = some ((n / 2 ^ a % 2 ^ b : Nat) : Int) := by
  unfold rvcode_cut.f
  have wa : IntKind.u64.wrap (a : Int) = (a : Int) := by rw [IntKind.wrap_u64]; omega
  have wb : IntKind.u64.wrap (b : Int) = (b : Int) := by rw [IntKind.wrap_u64]; omega
  rw [if_pos (wrapu _), if_pos (wrapu _), wa, wb]
  have hp : 2 ^ b ≤ 2 ^ 31 := Nat.pow_le_pow_right (by decide) hb
  have hpos : 0 < 2 ^ b := Nat.two_pow_pos b
  have e1 : shr .u32 (n : Int) (a : Int) = ((n / 2 ^ a : Nat) : Int) := by
    unfold shr
    rw [Int.toNat_natCast, Nat.min_eq_left (by show a ≤ 32; omega)]
    simp
  have e2 : (shl .u32 1 (b : Int) - 1) % 4294967296 = (2 : Int) ^ b - 1 := by
    unfold shl
    rw [Int.toNat_natCast, Nat.min_eq_left (by show b ≤ 32; omega), IntKind.wrap_u32]
    have : ((2 : Int) ^ b) = ((2 ^ b : Nat) : Int) := by simp
    rw [this]
    omega
  rw [e1, e2, bits_mask .u32 32 (by decide) wraps_u32 b (by omega) _ (Int.natCast_nonneg _) (by
    have : n / 2 ^ a ≤ n := Nat.div_le_self _ _
    omega)]
  simp

theorem cutI_val (n a b : Nat) (hn : n < 4294967296) (ha : a ≤ 31) (hb : b ≤ 31) : cutI (n : Int) (a : Int) (b : Int) = ((n / 2 ^ a % 2 ^ b : Nat) : Int) := by
  unfold cutI; rw [cut_val n a b hn ha hb]; rfl

end Go.Proofs.YtpfcdhjknmijjaaGreat.Rv

namespace Go.Proofs.YtpfcdhjknmijjaaGreat.Rv
open Go.RowKit Go.Proofs.YtpfcdhjknmijjaaGreatW.PrintWords Go.Proofs.YtpfcdhjknmijjaaGreatW.PrintLast Go.Proofs.YtpfcdhjknmijjaaGreatW.PrintMore
open Go.Proofs.YtpfcdhjknmijjaaGreat.PHartQuotients

theorem w64 (z : Int) (h1 : -9223372036854775808 ≤ z) (h2 : z < 9223372036854775808) : wrap64 z = z := by unfold wrap64; omega

/-! ### What a form lays into a word -/
end Go.Proofs.YtpfcdhjknmijjaaGreat.Rv

namespace Go.Proofs.YtpfcdhjknmijjaaGreat.Rv
open Go.RowKit Go.Proofs.YtpfcdhjknmijjaaGreatW.PrintWords Go.Proofs.YtpfcdhjknmijjaaGreatW.PrintLast Go.Proofs.YtpfcdhjknmijjaaGreatW.PrintMore
open Go.Proofs.YtpfcdhjknmijjaaGreat.PHartQuotients

end Go.Proofs.YtpfcdhjknmijjaaGreat.Rv

namespace Go.Proofs.YtpfcdhjknmijjaaGreat.Rv
open Go.RowKit

/-! ### Words made: what is read off them -/
end Go.Proofs.YtpfcdhjknmijjaaGreat.Rv

namespace Go.Proofs.YtpfcdhjknmijjaaGreat.Rv
open Go.RowKit

theorem rg_val (N s : Nat) (hN : N < 4294967296) (hs : s ≤ 31) : rgN true (N : Int) (s : Int) = ((N / 2 ^ s % 32 : Nat) : Int) := by
  have e : cutI (N : Int) (s : Int) 5 = ((N / 2 ^ s % 2 ^ 5 : Nat) : Int) := cutI_val N s 5 hN hs (by decide)
  have hb : N / 2 ^ s % 2 ^ 5 < 32 := Nat.mod_lt _ (by decide)
  unfold rgN
  rw [if_pos rfl, e]
  generalize N / 2 ^ s % 2 ^ 5 = z at *
  exact w64 _ (by omega) (by omega)
theorem rg_no (x s : Int) : rgN false x s = 0 := rfl

end Go.Proofs.YtpfcdhjknmijjaaGreat.Rv

namespace Go.Proofs.YtpfcdhjknmijjaaGreat.Rv
open Go.RowKit

end Go.Proofs.YtpfcdhjknmijjaaGreat.Rv

namespace Go.Proofs.YtpfcdhjknmijjaaGreat.Rv
open Go.RowKit

end Go.Proofs.YtpfcdhjknmijjaaGreat.Rv
end
