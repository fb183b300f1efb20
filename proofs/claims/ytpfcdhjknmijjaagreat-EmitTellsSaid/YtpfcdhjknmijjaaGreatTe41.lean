import Derived.Test.YtpfcdhjknmijjaaGreatTe39
import Derived.Test.YtpfcdhjknmijjaaGreatTe40
section
set_option linter.unusedSimpArgs false
set_option linter.unusedVariables false
set_option maxRecDepth 100000
namespace Go.Proofs.YtpfcdhjknmijjaaGreat.Ew
open Go.RowKit Go.Maps Go.Proofs.YtpfcdhjknmijjaaGreat.Em Go.Proofs.YtpfcdhjknmijjaaGreat.Ve Go.Proofs.YtpfcdhjknmijjaaGreat.Grow Go.Proofs.YtpfcdhjknmijjaaGreat.Rv Go.Proofs.YtpfcdhjknmijjaaGreat.As Go.Proofs.YtpfcdhjknmijjaaGreat.PEmitFinds Go.Proofs.YtpfcdhjknmijjaaGreat.Ht
open Go.Proofs.YtpfcdhjknmijjaaGreatW.PrintWords Go.Proofs.YtpfcdhjknmijjaaGreatW.PrintLast Go.Proofs.YtpfcdhjknmijjaaGreatW.PrintMore

/-! ### Code none of whose branches is long -/
def shortB (A : AsmS) : Bool := (List.range A.ps.length).all fun i => !needs A (fun _ => false) i && !((A.ps[i]?).map Pc.long).getD false
theorem settle_short {A : AsmS} (h : shortB A = true) : settleF A = A := by
  have hn : ∀ i, needs A (fun _ => false) i = false := by
    intro i
    by_cases hi : i < A.ps.length
    · have := List.all_eq_true.1 h i (List.mem_range.2 hi)
      simp only [Bool.and_eq_true, Bool.not_eq_true'] at this
      exact this.1
    · unfold needs; rw [List.getElem?_eq_none (by omega)]
  have hl : ∀ i, i < A.ps.length → ((A.ps[i]?).map Pc.long).getD false = false := by
    intro i hi
    have := List.all_eq_true.1 h i (List.mem_range.2 hi)
    simp only [Bool.and_eq_true, Bool.not_eq_true'] at this
    exact this.2
  have h0 : stepL A (itL A 0) = itL A 0 := by
    funext i
    show (false || needs A (fun _ => false) i) = false
    rw [hn i]; rfl
  have e : longF A = itL A 0 := (longF_of h0 (Nat.zero_le _)).symm
  unfold settleF
  rw [e]
  have : withL A.ps (itL A 0) = A.ps := by
    conv => rhs; rw [← withL_self A.ps]
    exact withL_congr fun i hi => (hl i hi).symm
  rw [this]
/-! ### The examples -/
def P1 : List S61 := [⟨5, 0, 0, 0, 0⟩, ⟨6, 0, 0, 0, 0⟩, ⟨1, 97, 97, 0, 0⟩]
def T1s : ByteArray := ⟨#[19, 132, 7, 0, 147, 11, 5, 0, 19, 140, 5, 0, 19, 15, 6, 0, 147, 140, 6, 0, 19, 13, 7, 0, 147, 10, 8, 0, 147, 13, 0, 0, 19, 138, 21, 0, 147, 4, 4, 2, 147, 2, 48, 0, 179, 130, 66, 3, 147, 130, 242, 3, 147, 210, 98, 0, 147, 146, 50, 0, 51, 137, 84, 0, 147, 9, 9, 0, 35, 48, 228, 1, 19, 11, 15, 0, 111, 0, 64, 7, 147, 2, 0, 0, 179, 130, 66, 3, 179, 130, 98, 1, 19, 211, 50, 0, 51, 3, 147, 0, 131, 67, 3, 0, 147, 242, 114, 0, 19, 14, 16, 0, 51, 30, 94, 0, 179, 254, 195, 1, 99, 144, 14, 10, 179, 227, 195, 1, 35, 0, 115, 0, 111, 0, 128, 13, 147, 2, 16, 0, 179, 130, 66, 3, 179, 130, 98, 1, 19, 211, 50, 0, 51, 3, 147, 0, 131, 67, 3, 0, 147, 242, 114, 0, 19, 14, 16, 0, 51, 30, 94, 0, 179, 254, 195, 1, 99, 148, 14, 6, 179, 227, 195, 1, 35, 0, 115, 0, 111, 0, 192, 5, 147, 2, 32, 0, 179, 130, 66, 3, 179, 130, 98, 1, 19, 211, 50, 0, 51, 3, 147, 0, 131, 67, 3, 0, 147, 242, 114, 0, 19, 14, 16, 0, 51, 30, 94, 0, 179, 254, 195, 1, 99, 152, 14, 2, 179, 227, 195, 1, 35, 0, 115, 0, 99, 2, 139, 3, 179, 130, 107, 1, 131, 194, 2, 0, 19, 3, 16, 6, 99, 234, 98, 0, 19, 3, 16, 6, 99, 102, 83, 0, 19, 11, 27, 0, 111, 240, 223, 243, 99, 136, 41, 3, 147, 137, 9, 255, 131, 178, 9, 0, 3, 179, 137, 0, 147, 243, 18, 0, 99, 150, 3, 0, 19, 11, 3, 0, 103, 128, 2, 0, 147, 210, 18, 0, 179, 130, 130, 0, 35, 176, 98, 0, 111, 240, 95, 253, 99, 158, 13, 2, 99, 156, 12, 2, 19, 15, 31, 0, 99, 104, 236, 3, 111, 240, 223, 238, 99, 134, 13, 0, 131, 50, 132, 1, 99, 254, 98, 1, 131, 50, 4, 0, 35, 56, 84, 0, 131, 50, 132, 0, 35, 60, 84, 0, 35, 60, 100, 1, 147, 13, 16, 0, 227, 28, 13, 248, 19, 133, 13, 0, 103, 128, 0, 0]⟩
theorem short1 : shortB (codeA P1 2 2) = true := by decide +kernel
theorem text1 : textT (codeA P1 2 2) = (T1s, 0) := by decide +kernel
theorem code1 : codeT P1 2 2 = (T1s, 0) := by unfold codeT; rw [settle_short short1, text1]; decide +kernel
theorem all_mem {α : Type} {P : α → Prop} (f : α → Bool) (hf : ∀ x, f x = true → P x) {l : List α} (h : l.all f = true) : ∀ x ∈ l, P x := fun x hx => hf x (List.all_eq_true.1 h x hx)
theorem valid1 : ValidP P1 2 2 :=
  ⟨⟨by decide, by decide, by decide, all_mem fitsB (fun x h => ⟨h⟩) (by decide +kernel)⟩, by decide, all_mem (fun x => (leadsL x).all fun t => decide (t < 3)) (fun x h t ht => by have := List.all_eq_true.1 h t ht; show t < 3; simpa using this) (by decide +kernel), by decide,
    all_mem (fun x => !decide (x.f0 = 3) || (decide (2 ≤ x.f1) && decide (x.f1 < 2))) (fun x h e => by simp [e] at h; exact ⟨h.1, h.2⟩) (by decide +kernel)⟩
theorem order1 : (orderF P1).isSome = true := by decide +kernel
/-! ### The first one's run -/
def W1s : ByteArray := ⟨(List.replicate 16 (255 : UInt8) ++ List.replicate 184 (0 : UInt8)).toArray⟩
def R1 : List RegIn := [⟨65536, T1s, 4⟩, ⟨16777216, tabS, 1⟩, ⟨33554432, ⟨#[98, 97]⟩, 1⟩, ⟨67108864, W1s, 3⟩]
def L1 : List S89 := [⟨65536, T1s, 4⟩, ⟨16777216, tabS, 1⟩, ⟨33554432, ⟨#[98, 97]⟩, 1⟩, ⟨67108864, W1s, 3⟩]
def setsF (S : HartS) (l : List Int) : Nat → HartS
  | 0 => S
  | k + 1 => (setsF S l k).put (k : Int) (l.getD k 0)
def H1 : HartS := setsF (new0 (memOf R1) 65536) (regL 2 0 false false) 32
def O1 : HartS × Nat × Int := runF 32768 2304 0 H1
def workB (O : HartS × Nat × Int) (i : Nat) : List Int := ((O.1.mem.rs[i]?).map Reg1.bytes).getD []
def chk1 : Bool := O1.2.2 == 0 && decide (10 < O1.2.1) && O1.1.reg 10 == 1 && ((workB O1 3).length == 200) && ((workB O1 3).drop 16).take 16 == [1, 0, 0, 0, 0, 0, 0, 0, 2, 0, 0, 0, 0, 0, 0, 0]
set_option maxHeartbeats 4000000 in
theorem run1 : chk1 = true := by decide +kernel
theorem regions1 : burinref30_Regions.f 600 P1 2 2 T1s ⟨#[98, 97]⟩ = some L1 := by kernel_rfl
theorem table_ref : burinref30_Table.f 300 = some tabS := by kernel_rfl
end Go.Proofs.YtpfcdhjknmijjaaGreat.Ew
end
section
set_option linter.unusedSimpArgs false
set_option linter.unusedVariables false
set_option maxRecDepth 100000
namespace Go.Proofs.YtpfcdhjknmijjaaGreat.Ew
open Go.RowKit Go.Maps Go.Proofs.YtpfcdhjknmijjaaGreat.Em Go.Proofs.YtpfcdhjknmijjaaGreat.Ve Go.Proofs.YtpfcdhjknmijjaaGreat.Grow Go.Proofs.YtpfcdhjknmijjaaGreat.Rv Go.Proofs.YtpfcdhjknmijjaaGreat.PEmitFinds Go.Proofs.YtpfcdhjknmijjaaGreat.Ht
open Go.Proofs.YtpfcdhjknmijjaaGreatW.PrintWords Go.Proofs.YtpfcdhjknmijjaaGreatW.PrintLast Go.Proofs.YtpfcdhjknmijjaaGreatW.PrintMore

set_option maxHeartbeats 4000000 in
theorem told1 : burinref30_Told.f 100 P1 2 2 1 (As.strOf (workB O1 3)) = some (true, [1, 2]) := by decide +kernel
theorem fuel1 : fuelF 3 2 = 2304 := by decide
theorem work1 : workF 3 2 2 = 200 := by decide
theorem chk1_ : O1.2.2 = 0 ∧ 10 < O1.2.1 ∧ O1.1.reg 10 = 1 ∧ (workB O1 3).length = 200 := by
  have h := run1
  unfold chk1 at h
  simp only [Bool.and_eq_true, decide_eq_true_eq, beq_iff_eq] at h
  exact ⟨h.1.1.1.1, h.1.1.1.2, h.1.1.2, h.1.2⟩
theorem R1_0 : RegOk (endF R1 0) ⟨65536, T1s, 4⟩ := ⟨by decide +kernel, by decide +kernel, by decide +kernel, by decide +kernel, by decide +kernel, by decide +kernel, by decide +kernel⟩
theorem R1_1 : RegOk (endF R1 1) ⟨16777216, tabS, 1⟩ := ⟨by decide +kernel, by decide +kernel, by decide +kernel, by decide +kernel, by decide +kernel, by decide +kernel, by decide +kernel⟩
theorem R1_2 : RegOk (endF R1 2) ⟨33554432, ⟨#[98, 97]⟩, 1⟩ := ⟨by decide +kernel, by decide +kernel, by decide +kernel, by decide +kernel, by decide +kernel, by decide +kernel, by decide +kernel⟩
theorem R1_3 : RegOk (endF R1 3) ⟨67108864, W1s, 3⟩ := ⟨by decide +kernel, by decide +kernel, by decide +kernel, by decide +kernel, by decide +kernel, by decide +kernel, by decide +kernel⟩
theorem R1_ok : RegsOk R1
  | 0, _ => R1_0
  | 1, _ => R1_1
  | 2, _ => R1_2
  | 3, _ => R1_3
  | k + 4, h => absurd h (by show ¬ k + 4 < 4; omega)
theorem H1_good : GoodH H1 := by
  have h0 : GoodH (new0 (memOf R1) 65536) := new_good (memOf_good R1_ok (by decide)) (by unfold U64; omega)
  have hr : ∀ k, U64 ((regL 2 0 false false).getD k 0) := by
    intro k
    rw [List.getD_eq_getElem?_getD]
    cases hq : (regL 2 0 false false)[k]? with
    | none => unfold U64; decide
    | some z =>
      have := List.mem_of_getElem? hq
      have hh : ∀ z ∈ regL 2 0 false false, 0 ≤ z ∧ z < 18446744073709551616 := by decide
      exact hh z this
  have : ∀ k, GoodH (setsF (new0 (memOf R1) 65536) (regL 2 0 false false) k) := by
    intro k
    induction k with
    | zero => exact h0
    | succ k ih => exact put_good ih _ (hr k)
  exact this 32
theorem idx83 (w : World) : ∀ k : Nat, k < 32 → (Instr.index 83 (.agg (regC 2 0 false false)) (.int .i64 (k : Int))).run Tryz.prog w = .ok (.int .u64 ((regL 2 0 false false).getD k 0)) w
  | 0, _ => by kernel_rfl
  | 1, _ => by kernel_rfl
  | 2, _ => by kernel_rfl
  | 3, _ => by kernel_rfl
  | 4, _ => by kernel_rfl
  | 5, _ => by kernel_rfl
  | 6, _ => by kernel_rfl
  | 7, _ => by kernel_rfl
  | 8, _ => by kernel_rfl
  | 9, _ => by kernel_rfl
  | 10, _ => by kernel_rfl
  | 11, _ => by kernel_rfl
  | 12, _ => by kernel_rfl
  | 13, _ => by kernel_rfl
  | 14, _ => by kernel_rfl
  | 15, _ => by kernel_rfl
  | 16, _ => by kernel_rfl
  | 17, _ => by kernel_rfl
  | 18, _ => by kernel_rfl
  | 19, _ => by kernel_rfl
  | 20, _ => by kernel_rfl
  | 21, _ => by kernel_rfl
  | 22, _ => by kernel_rfl
  | 23, _ => by kernel_rfl
  | 24, _ => by kernel_rfl
  | 25, _ => by kernel_rfl
  | 26, _ => by kernel_rfl
  | 27, _ => by kernel_rfl
  | 28, _ => by kernel_rfl
  | 29, _ => by kernel_rfl
  | 30, _ => by kernel_rfl
  | 31, _ => by kernel_rfl
  | n + 32, h => absurd h (by omega)
end Go.Proofs.YtpfcdhjknmijjaaGreat.Ew
end
