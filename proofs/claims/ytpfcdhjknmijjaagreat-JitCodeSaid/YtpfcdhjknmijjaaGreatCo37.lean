import Derived.Test.YtpfcdhjknmijjaaGreatCo35
import Derived.Test.YtpfcdhjknmijjaaGreatCo36
section
set_option linter.unusedSimpArgs false
set_option linter.unusedVariables false
set_option maxRecDepth 100000
namespace Go.Proofs.YtpfcdhjknmijjaaGreat.Ew
open Go.RowKit Go.Maps Go.Proofs.YtpfcdhjknmijjaaGreat.Em Go.Proofs.YtpfcdhjknmijjaaGreat.Ve Go.Proofs.YtpfcdhjknmijjaaGreat.Grow Go.Proofs.YtpfcdhjknmijjaaGreat.Rv Go.Proofs.YtpfcdhjknmijjaaGreat.As Go.Proofs.YtpfcdhjknmijjaaGreat.PEmitFinds Go.Proofs.YtpfcdhjknmijjaaGreat.Ht
open Go.Proofs.YtpfcdhjknmijjaaGreatW.PrintWords Go.Proofs.YtpfcdhjknmijjaaGreatW.PrintLast Go.Proofs.YtpfcdhjknmijjaaGreatW.PrintMore

/-! ### Code none of whose branches is long -/
def shortB (A : AsmS) : Bool := (List.range A.ps.length).all fun i => !needs A (fun _ => false) i && !((A.ps[i]?).map Pc.long).getD false
theorem settle_short {A : AsmS} (h : shortB A = true) : settleF A = A := by
  have hn : ∀ i, needs A (fun _ => false) i = false := by
    intro i
    by_cases hi : i < A.ps.length
    · have := List.all_eq_true.1 h i (List.mem_range.2 hi)
      simp only [Bool.and_eq_true, Bool.not_eq_true'] at this
      exact this.1
    · unfold needs; rw [List.getElem?_eq_none (by omega)]
  have hl : ∀ i, i < A.ps.length → ((A.ps[i]?).map Pc.long).getD false = false := by
    intro i hi
    have := List.all_eq_true.1 h i (List.mem_range.2 hi)
    simp only [Bool.and_eq_true, Bool.not_eq_true'] at this
    exact this.2
  have h0 : stepL A (itL A 0) = itL A 0 := by
    funext i
    show (false || needs A (fun _ => false) i) = false
    rw [hn i]; rfl
  have e : longF A = itL A 0 := (longF_of h0 (Nat.zero_le _)).symm
  unfold settleF
  rw [e]
  have : withL A.ps (itL A 0) = A.ps := by
    conv => rhs; rw [← withL_self A.ps]
    exact withL_congr fun i hi => (hl i hi).symm
  rw [this]
/-! ### The examples -/
def P2 : List S61 := [⟨5, 0, 0, 0, 0⟩, ⟨6, 0, 0, 0, 0⟩, ⟨1, 97, 97, 0, 0⟩, ⟨1, 98, 98, 0, 0⟩, ⟨1, 97, 97, 3, 0⟩, ⟨2, 0, 0, 2, 4⟩]
def T1s : ByteArray := ⟨#[19, 132, 7, 0, 147, 11, 5, 0, 19, 140, 5, 0, 19, 15, 6, 0, 147, 140, 6, 0, 19, 13, 7, 0, 147, 10, 8, 0, 147, 13, 0, 0, 19, 138, 21, 0, 147, 4, 4, 2, 147, 2, 48, 0, 179, 130, 66, 3, 147, 130, 242, 3, 147, 210, 98, 0, 147, 146, 50, 0, 51, 137, 84, 0, 147, 9, 9, 0, 35, 48, 228, 1, 19, 11, 15, 0, 111, 0, 64, 7, 147, 2, 0, 0, 179, 130, 66, 3, 179, 130, 98, 1, 19, 211, 50, 0, 51, 3, 147, 0, 131, 67, 3, 0, 147, 242, 114, 0, 19, 14, 16, 0, 51, 30, 94, 0, 179, 254, 195, 1, 99, 144, 14, 10, 179, 227, 195, 1, 35, 0, 115, 0, 111, 0, 128, 13, 147, 2, 16, 0, 179, 130, 66, 3, 179, 130, 98, 1, 19, 211, 50, 0, 51, 3, 147, 0, 131, 67, 3, 0, 147, 242, 114, 0, 19, 14, 16, 0, 51, 30, 94, 0, 179, 254, 195, 1, 99, 148, 14, 6, 179, 227, 195, 1, 35, 0, 115, 0, 111, 0, 192, 5, 147, 2, 32, 0, 179, 130, 66, 3, 179, 130, 98, 1, 19, 211, 50, 0, 51, 3, 147, 0, 131, 67, 3, 0, 147, 242, 114, 0, 19, 14, 16, 0, 51, 30, 94, 0, 179, 254, 195, 1, 99, 152, 14, 2, 179, 227, 195, 1, 35, 0, 115, 0, 99, 2, 139, 3, 179, 130, 107, 1, 131, 194, 2, 0, 19, 3, 16, 6, 99, 234, 98, 0, 19, 3, 16, 6, 99, 102, 83, 0, 19, 11, 27, 0, 111, 240, 223, 243, 99, 136, 41, 3, 147, 137, 9, 255, 131, 178, 9, 0, 3, 179, 137, 0, 147, 243, 18, 0, 99, 150, 3, 0, 19, 11, 3, 0, 103, 128, 2, 0, 147, 210, 18, 0, 179, 130, 130, 0, 35, 176, 98, 0, 111, 240, 95, 253, 99, 158, 13, 2, 99, 156, 12, 2, 19, 15, 31, 0, 99, 104, 236, 3, 111, 240, 223, 238, 99, 134, 13, 0, 131, 50, 132, 1, 99, 254, 98, 1, 131, 50, 4, 0, 35, 56, 84, 0, 131, 50, 132, 0, 35, 60, 84, 0, 35, 60, 100, 1, 147, 13, 16, 0, 227, 28, 13, 248, 19, 133, 13, 0, 103, 128, 0, 0]⟩
def T2s : ByteArray := ⟨#[19, 132, 7, 0, 147, 11, 5, 0, 19, 140, 5, 0, 19, 15, 6, 0, 147, 140, 6, 0, 19, 13, 7, 0, 147, 10, 8, 0, 147, 13, 0, 0, 19, 138, 21, 0, 147, 4, 4, 2, 147, 2, 96, 0, 179, 130, 66, 3, 147, 130, 242, 3, 147, 210, 98, 0, 147, 146, 50, 0, 51, 137, 84, 0, 147, 9, 9, 0, 35, 48, 228, 1, 19, 11, 15, 0, 111, 0, 192, 23, 147, 2, 0, 0, 179, 130, 66, 3, 179, 130, 98, 1, 19, 211, 50, 0, 51, 3, 147, 0, 131, 67, 3, 0, 147, 242, 114, 0, 19, 14, 16, 0, 51, 30, 94, 0, 179, 254, 195, 1, 99, 158, 14, 24, 179, 227, 195, 1, 35, 0, 115, 0, 111, 0, 64, 29, 147, 2, 16, 0, 179, 130, 66, 3, 179, 130, 98, 1, 19, 211, 50, 0, 51, 3, 147, 0, 131, 67, 3, 0, 147, 242, 114, 0, 19, 14, 16, 0, 51, 30, 94, 0, 179, 254, 195, 1, 99, 146, 14, 22, 179, 227, 195, 1, 35, 0, 115, 0, 111, 0, 128, 21, 147, 2, 32, 0, 179, 130, 66, 3, 179, 130, 98, 1, 19, 211, 50, 0, 51, 3, 147, 0, 131, 67, 3, 0, 147, 242, 114, 0, 19, 14, 16, 0, 51, 30, 94, 0, 179, 254, 195, 1, 99, 150, 14, 18, 179, 227, 195, 1, 35, 0, 115, 0, 99, 0, 139, 19, 179, 130, 107, 1, 131, 194, 2, 0, 19, 3, 16, 6, 99, 232, 98, 16, 19, 3, 16, 6, 99, 100, 83, 16, 19, 11, 27, 0, 111, 240, 223, 243, 147, 2, 48, 0, 179, 130, 66, 3, 179, 130, 98, 1, 19, 211, 50, 0, 51, 3, 147, 0, 131, 67, 3, 0, 147, 242, 114, 0, 19, 14, 16, 0, 51, 30, 94, 0, 179, 254, 195, 1, 99, 154, 14, 12, 179, 227, 195, 1, 35, 0, 115, 0, 99, 4, 139, 13, 179, 130, 107, 1, 131, 194, 2, 0, 19, 3, 32, 6, 99, 236, 98, 10, 19, 3, 32, 6, 99, 104, 83, 10, 19, 11, 27, 0, 111, 240, 95, 238, 147, 2, 64, 0, 179, 130, 66, 3, 179, 130, 98, 1, 19, 211, 50, 0, 51, 3, 147, 0, 131, 67, 3, 0, 147, 242, 114, 0, 19, 14, 16, 0, 51, 30, 94, 0, 179, 254, 195, 1, 99, 158, 14, 6, 179, 227, 195, 1, 35, 0, 115, 0, 99, 8, 139, 7, 179, 130, 107, 1, 131, 194, 2, 0, 19, 3, 16, 6, 99, 224, 98, 6, 19, 3, 16, 6, 99, 108, 83, 4, 19, 11, 27, 0, 111, 240, 95, 245, 147, 2, 80, 0, 179, 130, 66, 3, 179, 130, 98, 1, 19, 211, 50, 0, 51, 3, 147, 0, 131, 67, 3, 0, 147, 242, 114, 0, 19, 14, 16, 0, 51, 30, 94, 0, 179, 254, 195, 1, 99, 146, 14, 2, 179, 227, 195, 1, 35, 0, 115, 0, 151, 2, 0, 0, 147, 130, 66, 247, 35, 176, 89, 0, 35, 180, 105, 1, 147, 137, 9, 1, 111, 240, 31, 235, 99, 136, 41, 3, 147, 137, 9, 255, 131, 178, 9, 0, 3, 179, 137, 0, 147, 243, 18, 0, 99, 150, 3, 0, 19, 11, 3, 0, 103, 128, 2, 0, 147, 210, 18, 0, 179, 130, 130, 0, 35, 176, 98, 0, 111, 240, 95, 253, 99, 158, 13, 2, 99, 156, 12, 2, 19, 15, 31, 0, 99, 104, 236, 3, 111, 240, 31, 223, 99, 134, 13, 0, 131, 50, 132, 1, 99, 254, 98, 1, 131, 50, 4, 0, 35, 56, 84, 0, 131, 50, 132, 0, 35, 60, 84, 0, 35, 60, 100, 1, 147, 13, 16, 0, 227, 28, 13, 248, 19, 133, 13, 0, 103, 128, 0, 0]⟩
theorem all_mem {α : Type} {P : α → Prop} (f : α → Bool) (hf : ∀ x, f x = true → P x) {l : List α} (h : l.all f = true) : ∀ x ∈ l, P x := fun x hx => hf x (List.all_eq_true.1 h x hx)
theorem valid2 : ValidP P2 5 2 :=
  ⟨⟨by decide, by decide, by decide, all_mem fitsB (fun x h => ⟨h⟩) (by decide +kernel)⟩, by decide, all_mem (fun x => (leadsL x).all fun t => decide (t < 6)) (fun x h t ht => by have := List.all_eq_true.1 h t ht; show t < 6; simpa using this) (by decide +kernel), by decide,
    all_mem (fun x => !decide (x.f0 = 3) || (decide (2 ≤ x.f1) && decide (x.f1 < 2))) (fun x h e => by simp [e] at h; exact ⟨h.1, h.2⟩) (by decide +kernel)⟩
theorem order2 : (orderF P2).isSome = true := by decide +kernel
/-! ### The first one's run -/
def W1s : ByteArray := ⟨(List.replicate 16 (255 : UInt8) ++ List.replicate 184 (0 : UInt8)).toArray⟩
def R1 : List RegIn := [⟨65536, T1s, 4⟩, ⟨16777216, tabS, 1⟩, ⟨33554432, ⟨#[98, 97]⟩, 1⟩, ⟨67108864, W1s, 3⟩]
def L1 : List S89 := [⟨65536, T1s, 4⟩, ⟨16777216, tabS, 1⟩, ⟨33554432, ⟨#[98, 97]⟩, 1⟩, ⟨67108864, W1s, 3⟩]
def setsF (S : HartS) (l : List Int) : Nat → HartS
  | 0 => S
  | k + 1 => (setsF S l k).put (k : Int) (l.getD k 0)
def H1 : HartS := setsF (new0 (memOf R1) 65536) (regL 2 0 false false) 32
def O1 : HartS × Nat × Int := runF 32768 2304 0 H1
def workB (O : HartS × Nat × Int) (i : Nat) : List Int := ((O.1.mem.rs[i]?).map Reg1.bytes).getD []
end Go.Proofs.YtpfcdhjknmijjaaGreat.Ew
end
section
set_option linter.unusedSimpArgs false
set_option linter.unusedVariables false
set_option maxRecDepth 100000
namespace Go.Proofs.YtpfcdhjknmijjaaGreat.Ew
open Go.RowKit Go.Maps Go.Proofs.YtpfcdhjknmijjaaGreat.Em Go.Proofs.YtpfcdhjknmijjaaGreat.Ve Go.Proofs.YtpfcdhjknmijjaaGreat.Grow Go.Proofs.YtpfcdhjknmijjaaGreat.Rv Go.Proofs.YtpfcdhjknmijjaaGreat.PEmitFinds Go.Proofs.YtpfcdhjknmijjaaGreat.Ht
open Go.Proofs.YtpfcdhjknmijjaaGreatW.PrintWords Go.Proofs.YtpfcdhjknmijjaaGreatW.PrintLast Go.Proofs.YtpfcdhjknmijjaaGreatW.PrintMore

end Go.Proofs.YtpfcdhjknmijjaaGreat.Ew
end
