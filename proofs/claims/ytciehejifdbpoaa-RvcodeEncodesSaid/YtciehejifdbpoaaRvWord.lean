import Derived.Test.YtciehejifdbpoaaRvGat
namespace Go.Proofs.Ytciehejifdbpoaa.Rv
open Go.RowKit Go.Proofs.YtciehejifdbpoaaW.PrintWords Go.Proofs.YtciehejifdbpoaaW.PrintLast Go.Proofs.YtciehejifdbpoaaW.PrintMore
open Go.Proofs.Ytciehejifdbpoaa.PRvcodeDecodes

theorem tmod2 {z : Int} : z.tmod 2 = 0 ↔ z % 2 = 0 := by
  constructor
  · intro h; exact Int.emod_eq_zero_of_dvd (Int.dvd_of_tmod_eq_zero h)
  · intro h; exact Int.tmod_eq_zero_of_dvd (Int.dvd_of_emod_eq_zero h)
def fM (has : Bool) (s : Nat) : Nat := if has then 31 <<< s else 0
theorem within_reg (has : Bool) (r s : Nat) (h : r < 32) (h0 : has = false → r = 0) : Within (fM has s) (r * 2 ^ s) := by
  cases has
  · rw [h0 rfl]; simp [Within]
  · exact within_field r s 5 h
/-- Where a form's number lies, when it fits. -/
def nM (f : Int) : Nat := if f = 2 then 66060288 else if f = 3 then 32505856 else scM f
theorem sct_in (f : Int) (m : Nat) (h : m < 4294967296) (h2 : f = 2 → m < 64) (h3 : f = 3 → m < 32) : sct f (m : Int) = (scN f m : Int) ∧ Within (nM f) (scN f m) := by
  obtain ⟨e, w⟩ := sct_val f m h
  refine ⟨e, ?_⟩
  by_cases e2 : f = 2
  · subst e2
    have : scN 2 m = m * 2 ^ 20 := by have := h2 rfl; show m % 4096 * 1048576 = _; omega
    rw [this]; exact within_field m 20 6 (h2 rfl)
  by_cases e3 : f = 3
  · subst e3
    have : scN 3 m = m * 2 ^ 20 := by have := h3 rfl; show m % 4096 * 1048576 = _; omega
    rw [this]; exact within_field m 20 5 (h3 rfl)
  rw [nM, if_neg e2, if_neg e3]; exact w
def Form (f : Int) : Prop := f = 0 ∨ f = 1 ∨ f = 2 ∨ f = 3 ∨ f = 4 ∨ f = 5 ∨ f = 6 ∨ f = 7 ∨ f = 8
def oN (f : Int) : Nat := (ownI f).toNat
theorem masks {f : Int} (h : Form f) : oN f &&& fM (prt f).1 7 = 0 ∧ (oN f ||| fM (prt f).1 7) &&& fM (prt f).2.1 15 = 0 ∧ (oN f ||| fM (prt f).1 7 ||| fM (prt f).2.1 15) &&& fM (prt f).2.2.1 20 = 0 ∧
    (oN f ||| fM (prt f).1 7 ||| fM (prt f).2.1 15 ||| fM (prt f).2.2.1 20) &&& nM f = 0 ∧ oN f < 4294967296 ∧ fM (prt f).1 7 < 4294967296 ∧ fM (prt f).2.1 15 < 4294967296 ∧ fM (prt f).2.2.1 20 < 4294967296 ∧ nM f < 4294967296 ∧
    (oN f ||| fM (prt f).1 7) < 4294967296 ∧ (oN f ||| fM (prt f).1 7 ||| fM (prt f).2.1 15) < 4294967296 ∧ (oN f ||| fM (prt f).1 7 ||| fM (prt f).2.1 15 ||| fM (prt f).2.2.1 20) < 4294967296 ∧
    (oN f ||| fM (prt f).1 7 ||| fM (prt f).2.1 15 ||| fM (prt f).2.2.1 20 ||| nM f) < 4294967296 := by
  rcases h with rfl | rfl | rfl | rfl | rfl | rfl | rfl | rfl | rfl <;> decide

/-- A word is the sum of its parts. -/
theorem word_val {f : Int} (hf : Form f) {B r a b m : Nat} {imm : Int} (hB : Within (oN f) B) (hr : r < 32) (ha : a < 32) (hb : b < 32) (hr0 : (prt f).1 = false → r = 0) (ha0 : (prt f).2.1 = false → a = 0) (hb0 : (prt f).2.2.1 = false → b = 0)
    (hm : IntKind.u32.wrap imm = (m : Int)) (h2 : f = 2 → m < 64) (h3 : f = 3 → m < 32) :
    wordOf (B : Int) f (r : Int) (a : Int) (b : Int) imm = ((B + r * 128 + a * 32768 + b * 1048576 + scN f m : Nat) : Int) ∧ B + r * 128 + a * 32768 + b * 1048576 + scN f m < 4294967296 := by
  obtain ⟨d1, d2, d3, d4, l1, l2, l3, l4, l5, l6, l7, l8, l9⟩ := masks hf
  have hm32 : m < 4294967296 := by rw [IntKind.wrap_u32] at hm; omega
  obtain ⟨es, ws⟩ := sct_in f m hm32 h2 h3
  obtain ⟨p1, w1⟩ := or_apart hB (within_reg (prt f).1 r 7 hr hr0) d1 l1 l2
  obtain ⟨p2, w2⟩ := or_apart w1 (within_reg (prt f).2.1 a 15 ha ha0) d2 l6 l3
  obtain ⟨p3, w3⟩ := or_apart w2 (within_reg (prt f).2.2.1 b 20 hb hb0) d3 l7 l4
  obtain ⟨p4, w4⟩ := or_apart w3 ws d4 l8 l5
  have e1 : IntKind.u32.wrap (IntKind.u32.wrap (r : Int) * 128) = ((r * 2 ^ 7 : Nat) : Int) := by clear p1 p2 p3 p4 es; rw [IntKind.wrap_u32, IntKind.wrap_u32]; omega
  have e2 : IntKind.u32.wrap (IntKind.u32.wrap (a : Int) * 32768) = ((a * 2 ^ 15 : Nat) : Int) := by clear p1 p2 p3 p4 es; rw [IntKind.wrap_u32, IntKind.wrap_u32]; omega
  have e3 : IntKind.u32.wrap (IntKind.u32.wrap (b : Int) * 1048576) = ((b * 2 ^ 20 : Nat) : Int) := by clear p1 p2 p3 p4 es; rw [IntKind.wrap_u32, IntKind.wrap_u32]; omega
  have hlt := within_lt w4
  constructor
  · unfold wordOf
    rw [e1, e2, e3, hm, es, p1, p2, p3, p4]
  · exact Nat.lt_of_le_of_lt hlt l9
end Go.Proofs.Ytciehejifdbpoaa.Rv
