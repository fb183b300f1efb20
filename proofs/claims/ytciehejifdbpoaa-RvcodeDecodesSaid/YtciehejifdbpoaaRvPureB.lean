import Derived.Test.YtciehejifdbpoaaRvPureA
namespace Go.Proofs.Ytciehejifdbpoaa.Rv
open Go.RowKit

def xd (s : ByteArray) : ByteArray := s ++ ⟨#[120]⟩
theorem encF_no {nm : ByteArray} {rd ra rb imm : Int} (h : encOk (kd (nIdx nm)).2.1 rd ra rb imm = false) : encF nm rd ra rb imm = (0, 260) := by
  unfold encF
  rw [if_neg (fun e => by rw [h] at e; cases e.2)]
theorem regB_32 (has : Bool) : regB 32 has = false := by cases has <;> decide
theorem regB_m1 (has : Bool) : regB (-1) has = false := by cases has <;> decide
theorem prt_most (f : Int) : -1048576 ≤ (prt f).2.2.2.1 ∧ (prt f).2.2.2.2.1 < 1048576 := by
  unfold prt
  repeat' split
  all_goals decide
theorem names_small : ∀ k, k < 64 → (kd k).1.size ≤ 6 := by decide +kernel
theorem names_x : ∀ k, k < 64 → ∀ j, j < 64 → (kd j).1 ≠ xd (kd k).1 := by decide +kernel
theorem reg_range {z : Int} {has : Bool} (h : regB z has = true) : 0 ≤ z ∧ z ≤ 31 := by
  obtain ⟨r, rfl, hr, _⟩ := reg_of h
  omega

/-- What an instruction that has a word is. -/
theorem enc_parts (nm : ByteArray) (rd ra rb imm : Int) (h : (encF nm rd ra rb imm).2 = 0) :
    nm.size ≤ 6 ∧ decide (nIdx nm < 64) = true ∧ 0 ≤ rd ∧ rd ≤ 31 ∧ 0 ≤ ra ∧ ra ≤ 31 ∧ 0 ≤ rb ∧ rb ≤ 31 ∧ -1048576 ≤ imm ∧ imm < 1048576 ∧
    encF nm 32 ra rb imm = (0, 260) ∧ encF nm rd (-1) rb imm = (0, 260) ∧ encF nm rd ra 32 imm = (0, 260) ∧ encF (xd nm) rd ra rb imm = (0, 260) ∧ encF nm rd ra rb 1048576 = (0, 260) := by
  by_cases hc : nIdx nm < 64 ∧ encOk (kd (nIdx nm)).2.1 rd ra rb imm = true
  · clear h
    obtain ⟨hk, ho⟩ := hc
    have hnm := nIdx_is hk
    obtain ⟨h1, h2, h3, h4, h5, h6⟩ := encOk_iff.1 ho
    obtain ⟨a1, a2⟩ := reg_range h1
    obtain ⟨b1, b2⟩ := reg_range h2
    obtain ⟨c1, c2⟩ := reg_range h3
    obtain ⟨m1, m2⟩ := prt_most (kd (nIdx nm)).2.1
    have n1 : encOk (kd (nIdx nm)).2.1 32 ra rb imm = false := by unfold encOk; rw [regB_32]; rfl
    have n2 : encOk (kd (nIdx nm)).2.1 rd (-1) rb imm = false := by unfold encOk; rw [regB_m1, Bool.and_false]; rfl
    have n3 : encOk (kd (nIdx nm)).2.1 rd ra 32 imm = false := by unfold encOk; rw [regB_32, Bool.and_false]; rfl
    have n5 : encOk (kd (nIdx nm)).2.1 rd ra rb 1048576 = false := by
      refine Bool.eq_false_iff.2 fun e => ?_
      obtain ⟨_, _, _, _, e5, _⟩ := encOk_iff.1 e
      omega
    have n4 : nIdx (xd nm) = 64 := findIdx_none fun j hj => decide_eq_false (by rw [← hnm]; exact names_x _ hk j hj)
    refine ⟨by rw [← hnm]; exact names_small _ hk, decide_eq_true hk, a1, a2, b1, b2, c1, c2, by omega, by omega, encF_no n1, encF_no n2, encF_no n3, ?_, encF_no n5⟩
    unfold encF
    rw [n4, if_neg (fun e => absurd e.1 (by decide))]
  · exfalso
    unfold encF at h
    rw [if_neg hc] at h
    cases h
end Go.Proofs.Ytciehejifdbpoaa.Rv
