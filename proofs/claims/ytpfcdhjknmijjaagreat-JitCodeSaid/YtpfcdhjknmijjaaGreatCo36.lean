import Derived.Test.YtpfcdhjknmijjaaGreatCo2
import Derived.Test.YtpfcdhjknmijjaaGreatCo20
section
namespace Go.Proofs.YtpfcdhjknmijjaaGreat.PEmitFinds
open Go.RowKit Go.Proofs.YtpfcdhjknmijjaaGreatW.PrintWords Go.Proofs.YtpfcdhjknmijjaaGreatW.PrintLast Go.Proofs.YtpfcdhjknmijjaaGreatW.PrintMore
attribute [local go_sem] max2_int min2_int max_two min_two max_three min_three max_four min_four   -- for this text's walks alone
set_option linter.unusedVariables false
set_option linter.unusedSimpArgs false

/-! ### burinref30_Regions: function 43 -/
def burinref30_Regions.f (k : Nat) (l0_0 : List (S61)) (a0_1 : Int) (a0_2 : Int) (a1 : ByteArray) (a2 : ByteArray) : Option ((List (S89))) := (burinref30_bytes.f k (wrap64 (8 * a0_2)) 255).bind fun t177 => ((burinref30_Work.f l0_0 a0_1 a0_2 (a2.size : Int)).bind fun t178 => ((burinref30_bytes.f k (wrap64 (t178 - (wrap64 (8 * a0_2)))) 0).bind fun t179 => (if t177.size + t179.size ≤ 9223372036854775807 then ((burinref30_Table.f k).bind fun t180 => ((some (([(⟨65536, a1, 4⟩ : S89), (⟨16777216, t180, 1⟩ : S89)] : List (S89)) : List (S89))).bind fun y181 => (if a2.toList = ([] : List UInt8) then (if y181.length < 4398046511104 then (some (y181 ++ [(⟨67108864, t177 ++ t179, 3⟩ : S89)])) else (none)) else (if y181.length < 4398046511104 then ((some (y181 ++ [(⟨33554432, a2, 1⟩ : S89)] : List (S89))).bind fun y187 => (if y187.length < 4398046511104 then (some (y187 ++ [(⟨67108864, t177 ++ t179, 3⟩ : S89)])) else (none))) else (none))))) else (none))))
/-! ### burinref30_flag: function 86 -/
-- NOT PRINTED: function 44 (burinref30_Regs)

/-! ### burinref30_Told: function 45 -/
mutual
def burinref30_Told.l0 : Nat → ByteArray → Int → List (S61) → Int → Int → Bool → List Int → Option (Bool × List Int)
  | 0, _, _, _, _, _, _, _ => none
  | k + 1, x2, x8, x194000, x194001, x194002, x196000, x196001 => if x8 < x194002 then (burinref30_Told.l1 k x2 x8 0 7 x194000 x194001 x194002 x196000 x196001) else (some (x196000, x196001))
def burinref30_Told.l1 : Nat → ByteArray → Int → Int → Int → List (S61) → Int → Int → Bool → List Int → Option (Bool × List Int)
  | 0, _, _, _, _, _, _, _, _, _ => none
  | k + 1, x2, x8, x9, x10, x194000, x194001, x194002, x196000, x196001 => if x10 ≥ 0 then (if 0 ≤ (wrap64 ((wrap64 ((wrap64 (8 * x194002)) + (wrap64 (8 * x8)))) + x10)) then (if (wrap64 ((wrap64 ((wrap64 (8 * x194002)) + (wrap64 (8 * x8)))) + x10)) < (x2.size : Int) then (burinref30_Told.l1 k x2 x8 (IntKind.u64.wrap ((IntKind.u64.wrap (x9 * 256)) + (IntKind.u64.wrap (bt x2 (wrap64 ((wrap64 ((wrap64 (8 * x194002)) + (wrap64 (8 * x8)))) + x10)))))) (wrap64 (x10 - 1)) x194000 x194001 x194002 x196000 x196001) else (none)) else (none)) else (if x196001.length < 17592186044416 then (burinref30_Told.l0 k x2 (wrap64 (x8 + 1)) x194000 x194001 x194002 x196000 (x196001 ++ [wrap64 (x9)])) else (none))
end
def burinref30_Told.f (k : Nat) (l0_0 : List (S61)) (a0_1 : Int) (a0_2 : Int) (a1 : Int) (a2 : ByteArray) : Option (Bool × List Int) := if a1 = 1 then (burinref30_Told.l0 k a2 0 l0_0 a0_1 a0_2 true ([] : List Int)) else (some (false, ([] : List Int)))
-- NOT PRINTED: function 66 (hart_Hart_Set)

-- NOT PRINTED: function 189 (sort_Search)

-- NOT PRINTED: function 179 (mem_Memory_find)

/-! ### mem_number: function 180 -/
-- NOT PRINTED: function 175 (mem_Memory_Fetch)

-- NOT PRINTED: function 126 (rvcode_table)

end Go.Proofs.YtpfcdhjknmijjaaGreat.PEmitFinds
end
