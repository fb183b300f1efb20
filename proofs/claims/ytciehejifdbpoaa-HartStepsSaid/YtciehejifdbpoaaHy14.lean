import Derived.Test.YtciehejifdbpoaaHy7
import Derived.Test.YtciehejifdbpoaaHy13
import Derived.Test.YtciehejifdbpoaaHy11
section
set_option linter.unusedSimpArgs false
set_option linter.unusedVariables false
namespace Go.Proofs.Ytciehejifdbpoaa.Hl
open Go.RowKit Go.Maps Go.Proofs.Ytciehejifdbpoaa.Grow Go.Proofs.Ytciehejifdbpoaa.Rv Go.Proofs.Ytciehejifdbpoaa.As Go.Proofs.Ytciehejifdbpoaa.Ht Go.Proofs.Ytciehejifdbpoaa.PHartQuotients Go.Proofs.Ytciehejifdbpoaa.PHartSteps
open Go.Proofs.YtciehejifdbpoaaW.PrintWords Go.Proofs.YtciehejifdbpoaaW.PrintLast Go.Proofs.YtciehejifdbpoaaW.PrintMore

/-! ### What an instruction makes: the machine's reckoning is the document's -/
theorem v64 {x : Int} (h : U64 x) : V64 x := ⟨h.1, h.2⟩
theorem eF_eV (x : Int) : eF x = eV x := rfl
theorem neg_f (a : Int) : burinref28_neg.f a = some (decide (a ≥ 9223372036854775808)) := rfl
theorem less1_f {a b : Int} (ha : U64 a) (hb : U64 b) : burinref28_less.f a b = some (decide (wrap64 a < wrap64 b)) := by
  unfold burinref28_less.f
  rw [neg_f, neg_f, slt_val (v64 ha) (v64 hb)]
  simp only [Option.bind_some]
  split <;> rfl
theorem end32_f {x : Int} (h : U64 x) : burinref28_End.f x 32 = some (eV x) := by
  have e : burinref28_End.f x 32 = if Int.tmod x 4294967296 ≥ 2147483648 then some (IntKind.u64.wrap (Int.tmod x 4294967296 - 4294967296)) else some (Int.tmod x 4294967296) := by kernel_rfl
  rw [e, tmod_pos h.1, ← end_val (v64 h)]
  split <;> rfl
theorem shifted_f {a s : Int} (ha : U64 a) (hs : 0 ≤ s ∧ s < 64) : burinref28_shifted.f a s = some (IntKind.u64.wrap (shr .i64 (wrap64 a) s)) := by
  unfold burinref28_shifted.f
  rw [neg_f, sra_val (v64 ha) hs]
  simp only [Option.bind_some, decide_eq_true_eq, if_pos hs.1]
  split <;> rfl
theorem abs_f (a : Int) : burinref28_abs.f a = some (absV a) := by
  unfold burinref28_abs.f absV
  rw [neg_f]
  simp only [Option.bind_some, decide_eq_true_eq]
  split <;> rfl
theorem div_f {a b : Int} (ha : U64 a) (hb : U64 b) : burinref28_div.f a b = some (divS a b) := by
  unfold burinref28_div.f divS
  by_cases h0 : b = 0
  · rw [if_pos h0, if_pos h0]
  · have h1 : absV b ≠ 0 := fun e => h0 ((abs_zero (v64 hb)).1 e)
    rw [if_neg h0, if_neg h0, abs_f, abs_f, neg_f, neg_f]
    simp only [Option.bind_some]
    rw [if_neg h1]
    have hv := div_val (v64 ha) (v64 hb) h0
    by_cases hov : a = 9223372036854775808 ∧ b = 18446744073709551615
    · rw [if_pos hov]
      obtain ⟨rfl, rfl⟩ := hov
      rfl
    · rw [if_neg hov, hv]
      split <;> rfl
theorem rem_f {a b : Int} (ha : U64 a) (hb : U64 b) : burinref28_rem.f a b = some (remS a b) := by
  unfold burinref28_rem.f remS
  by_cases h0 : b = 0
  · rw [if_pos h0, if_pos h0]
  · have h1 : absV b ≠ 0 := fun e => h0 ((abs_zero (v64 hb)).1 e)
    rw [if_neg h0, if_neg h0, abs_f, abs_f, neg_f]
    simp only [Option.bind_some]
    rw [if_neg h1]
    have hv := rem_val (v64 ha) (v64 hb) h0
    by_cases hov : a = 9223372036854775808 ∧ b = 18446744073709551615
    · rw [if_pos hov]
      obtain ⟨rfl, rfl⟩ := hov
      rfl
    · rw [if_neg hov, hv]
      simp only [decide_eq_true_eq]
      split <;> rfl
theorem high_f {a b : Int} (ha : U64 a) (hb : U64 b) : burinref28_high.f a b = some (a * b / 18446744073709551616) := congrArg some (high_val (v64 ha) (v64 hb))
theorem divS_u (a b : Int) (ha : U64 a) : U64 (divS a b) := by
  unfold divS
  split
  · exact ⟨by decide, by decide⟩
  · split
    · exact ha
    · exact wrap_range _
theorem remS_u (a b : Int) (ha : U64 a) : U64 (remS a b) := by
  unfold remS
  split
  · exact ha
  · split
    · exact ⟨by decide, by decide⟩
    · exact wrap_range _
/-- What the document's 'Made' makes of an instruction is what the machine reckons. -/
def MadeOk (nm o : ByteArray) : Prop := ∀ (a b : Int), U64 a → U64 b → ∀ w : World, Calls Try.prog 91 #[.string nm, .int .u64 a, .int .u64 b] w fun e w' => e = .returned (.int .u64 (reckF o a b)) ∧ Below w.heap.size w w'
theorem one_f (c : Prop) [Decidable c] : burinref28_one.f (decide c) = some (if c then 1 else 0) := by
  unfold burinref28_one.f
  simp only [decide_eq_true_eq]
  split <;> rfl
theorem div_u {a b : Int} (ha : U64 a) (hb : U64 b) : U64 (a / b) := ⟨Int.ediv_nonneg ha.1 hb.1, Int.lt_of_le_of_lt (Int.ediv_le_self _ ha.1) ha.2⟩
theorem rem_u {a b : Int} (hb : U64 b) (h : ¬ b = 0) : U64 (a % b) := by
  have h2 := Int.emod_nonneg a h
  have h3 := Int.emod_lt_of_pos a (show 0 < b by have := hb.1; omega)
  exact ⟨h2, by have := hb.2; omega⟩
theorem div_id {a b : Int} (ha : U64 a) (hb : U64 b) : IntKind.u64.wrap (a / b) = a / b :=
  uw_id ⟨Int.ediv_nonneg ha.1 hb.1, Int.lt_of_le_of_lt (Int.ediv_le_self _ ha.1) ha.2⟩
theorem shl_u {x s : Int} (hs : 0 ≤ s ∧ s < 64) : shl .u64 x s = IntKind.u64.wrap (x * 2 ^ s.toNat) := (shl_small (k := .u64) (x := x) (y := s) rfl (by show s ≤ 64; omega)).symm

set_option maxHeartbeats 4000000 in
set_option maxRecDepth 100000 in
theorem made_add : MadeOk ⟨#[97, 100, 100]⟩ ⟨#[97, 100, 100]⟩ := by
  intro a b ha hb w
  rw [show reckF ⟨#[97, 100, 100]⟩ a b = IntKind.u64.wrap (a + b) from r_add a b]

  have h0 := ha.1
  have h1 := hb.1

  go_enter Try.func91, Try.ntmps91
  go_wp2
  go_ret
  exact ⟨by first | rfl | simp, Below.refl _ _⟩

set_option maxHeartbeats 4000000 in
set_option maxRecDepth 100000 in
theorem made_addi : MadeOk ⟨#[97, 100, 100, 105]⟩ ⟨#[97, 100, 100]⟩ := by
  intro a b ha hb w
  rw [show reckF ⟨#[97, 100, 100]⟩ a b = IntKind.u64.wrap (a + b) from r_add a b]

  have h0 := ha.1
  have h1 := hb.1

  go_enter Try.func91, Try.ntmps91
  go_wp2
  go_ret
  exact ⟨by first | rfl | simp, Below.refl _ _⟩

theorem rk_sub {a b : Int} : reckF ⟨#[115, 117, 98]⟩ a b = IntKind.u64.wrap (a - b) := by
  refine reck_of ?_
  kernel_rfl

theorem rk_xor {a b : Int} : reckF ⟨#[120, 111, 114]⟩ a b = Go.bits .xor .u64 a b := by
  refine reck_of ?_
  kernel_rfl

theorem rk_or {a b : Int} : reckF ⟨#[111, 114]⟩ a b = Go.bits .or .u64 a b := by
  refine reck_of ?_
  kernel_rfl

theorem rk_and {a b : Int} : reckF ⟨#[97, 110, 100]⟩ a b = Go.bits .and .u64 a b := by
  refine reck_of ?_
  kernel_rfl

theorem rk_mul {a b : Int} : reckF ⟨#[109, 117, 108]⟩ a b = IntKind.u64.wrap (a * b) := by
  refine reck_of ?_
  kernel_rfl

set_option maxHeartbeats 4000000 in
set_option maxRecDepth 100000 in
theorem made_sub : MadeOk ⟨#[115, 117, 98]⟩ ⟨#[115, 117, 98]⟩ := by
  intro a b ha hb w
  rw [rk_sub]

  have h0 := ha.1
  have h1 := hb.1

  go_enter Try.func91, Try.ntmps91
  go_wp2
  go_ret
  exact ⟨by first | rfl | simp, Below.refl _ _⟩

set_option maxHeartbeats 4000000 in
set_option maxRecDepth 100000 in
theorem made_mul : MadeOk ⟨#[109, 117, 108]⟩ ⟨#[109, 117, 108]⟩ := by
  intro a b ha hb w
  rw [rk_mul]

  have h0 := ha.1
  have h1 := hb.1

  go_enter Try.func91, Try.ntmps91
  go_wp2
  go_ret
  exact ⟨by first | rfl | simp, Below.refl _ _⟩

set_option maxHeartbeats 4000000 in
set_option maxRecDepth 100000 in
theorem made_xor : MadeOk ⟨#[120, 111, 114]⟩ ⟨#[120, 111, 114]⟩ := by
  intro a b ha hb w
  rw [rk_xor]

  have h0 := ha.1
  have h1 := hb.1

  go_enter Try.func91, Try.ntmps91
  go_wp2
  go_ret
  exact ⟨by first | rfl | simp, Below.refl _ _⟩

set_option maxHeartbeats 4000000 in
set_option maxRecDepth 100000 in
theorem made_xori : MadeOk ⟨#[120, 111, 114, 105]⟩ ⟨#[120, 111, 114]⟩ := by
  intro a b ha hb w
  rw [rk_xor]

  have h0 := ha.1
  have h1 := hb.1

  go_enter Try.func91, Try.ntmps91
  go_wp2
  go_ret
  exact ⟨by first | rfl | simp, Below.refl _ _⟩

set_option maxHeartbeats 4000000 in
set_option maxRecDepth 100000 in
theorem made_or : MadeOk ⟨#[111, 114]⟩ ⟨#[111, 114]⟩ := by
  intro a b ha hb w
  rw [rk_or]

  have h0 := ha.1
  have h1 := hb.1

  go_enter Try.func91, Try.ntmps91
  go_wp2
  go_ret
  exact ⟨by first | rfl | simp, Below.refl _ _⟩

set_option maxHeartbeats 4000000 in
set_option maxRecDepth 100000 in
theorem made_ori : MadeOk ⟨#[111, 114, 105]⟩ ⟨#[111, 114]⟩ := by
  intro a b ha hb w
  rw [rk_or]

  have h0 := ha.1
  have h1 := hb.1

  go_enter Try.func91, Try.ntmps91
  go_wp2
  go_ret
  exact ⟨by first | rfl | simp, Below.refl _ _⟩

set_option maxHeartbeats 4000000 in
set_option maxRecDepth 100000 in
theorem made_and : MadeOk ⟨#[97, 110, 100]⟩ ⟨#[97, 110, 100]⟩ := by
  intro a b ha hb w
  rw [rk_and]

  have h0 := ha.1
  have h1 := hb.1

  go_enter Try.func91, Try.ntmps91
  go_wp2
  go_ret
  exact ⟨by first | rfl | simp, Below.refl _ _⟩

set_option maxHeartbeats 4000000 in
set_option maxRecDepth 100000 in
theorem made_andi : MadeOk ⟨#[97, 110, 100, 105]⟩ ⟨#[97, 110, 100]⟩ := by
  intro a b ha hb w
  rw [rk_and]

  have h0 := ha.1
  have h1 := hb.1

  go_enter Try.func91, Try.ntmps91
  go_wp2
  go_ret
  exact ⟨by first | rfl | simp, Below.refl _ _⟩

theorem rk_sll {a b : Int} (hb : U64 b) : reckF ⟨#[115, 108, 108]⟩ a b = IntKind.u64.wrap (a * 2 ^ (b % 64).toNat) := by
  refine reck_of ?_
  have e : hart_reckon.f 20 ⟨#[115, 108, 108]⟩ a b = (if 0 ≤ Go.bits .and .u64 b 63 then some (shl .u64 a (Go.bits .and .u64 b 63)) else none).bind fun t => some t := by kernel_rfl
  have hs : 0 ≤ b % 64 ∧ b % 64 < 64 := by have := hb.1; omega
  rw [e, and_63 (v64 hb), if_pos hs.1, shl_u hs]
  rfl

theorem rk_srl {a b : Int} (hb : U64 b) : reckF ⟨#[115, 114, 108]⟩ a b = a / 2 ^ (b % 64).toNat := by
  refine reck_of ?_
  have e : hart_reckon.f 20 ⟨#[115, 114, 108]⟩ a b = (if 0 ≤ Go.bits .and .u64 b 63 then some (shr .u64 a (Go.bits .and .u64 b 63)) else none).bind fun t => some t := by kernel_rfl
  have hs : 0 ≤ b % 64 ∧ b % 64 < 64 := by have := hb.1; omega
  rw [e, and_63 (v64 hb), if_pos hs.1, shr_u hs]
  rfl

theorem rk_sra {a b : Int} (hb : U64 b) : reckF ⟨#[115, 114, 97]⟩ a b = IntKind.u64.wrap (shr .i64 (wrap64 a) (b % 64)) := by
  refine reck_of ?_
  have e : hart_reckon.f 20 ⟨#[115, 114, 97]⟩ a b = (if 0 ≤ Go.bits .and .u64 b 63 then some (IntKind.u64.wrap (shr .i64 (wrap64 a) (Go.bits .and .u64 b 63))) else none).bind fun t => some t := by kernel_rfl
  have hs : 0 ≤ b % 64 ∧ b % 64 < 64 := by have := hb.1; omega
  rw [e, and_63 (v64 hb), if_pos hs.1]
  rfl

set_option maxHeartbeats 4000000 in
set_option maxRecDepth 100000 in
theorem made_sll : MadeOk ⟨#[115, 108, 108]⟩ ⟨#[115, 108, 108]⟩ := by
  intro a b ha hb w
  rw [rk_sll hb]

  have h0 := ha.1
  have h1 := hb.1

  go_enter Try.func91, Try.ntmps91
  go_wp2
  go_ret
  exact ⟨by first | rfl | simp, Below.refl _ _⟩

set_option maxHeartbeats 4000000 in
set_option maxRecDepth 100000 in
theorem made_slli : MadeOk ⟨#[115, 108, 108, 105]⟩ ⟨#[115, 108, 108]⟩ := by
  intro a b ha hb w
  rw [rk_sll hb]

  have h0 := ha.1
  have h1 := hb.1

  go_enter Try.func91, Try.ntmps91
  go_wp2
  go_ret
  exact ⟨by first | rfl | simp, Below.refl _ _⟩

set_option maxHeartbeats 4000000 in
set_option maxRecDepth 100000 in
theorem made_srl : MadeOk ⟨#[115, 114, 108]⟩ ⟨#[115, 114, 108]⟩ := by
  intro a b ha hb w
  rw [rk_srl hb]

  have h0 := ha.1
  have h1 := hb.1

  go_enter Try.func91, Try.ntmps91
  go_wp2
  go_ret
  exact ⟨by first | rfl | simp, Below.refl _ _⟩

set_option maxHeartbeats 4000000 in
set_option maxRecDepth 100000 in
theorem made_srli : MadeOk ⟨#[115, 114, 108, 105]⟩ ⟨#[115, 114, 108]⟩ := by
  intro a b ha hb w
  rw [rk_srl hb]

  have h0 := ha.1
  have h1 := hb.1

  go_enter Try.func91, Try.ntmps91
  go_wp2
  go_ret
  exact ⟨by first | rfl | simp, Below.refl _ _⟩

set_option maxHeartbeats 4000000 in
set_option maxRecDepth 100000 in
theorem made_sra : MadeOk ⟨#[115, 114, 97]⟩ ⟨#[115, 114, 97]⟩ := by
  intro a b ha hb w
  rw [rk_sra hb]

  have h0 := ha.1
  have h1 := hb.1

  go_enter Try.func91, Try.ntmps91
  go_wp2_with fail
  refine (burinref28_shifted.calls a (b % 64) _ _ (shifted_f ha (by omega))).mono ?_
  rintro e w1 ⟨rfl, hd1⟩
  have hb1 := hd1.below
  go_wp2
  go_ret
  exact ⟨by first | rfl | simp, hb1⟩

set_option maxHeartbeats 4000000 in
set_option maxRecDepth 100000 in
theorem made_srai : MadeOk ⟨#[115, 114, 97, 105]⟩ ⟨#[115, 114, 97]⟩ := by
  intro a b ha hb w
  rw [rk_sra hb]

  have h0 := ha.1
  have h1 := hb.1

  go_enter Try.func91, Try.ntmps91
  go_wp2_with fail
  refine (burinref28_shifted.calls a (b % 64) _ _ (shifted_f ha (by omega))).mono ?_
  rintro e w1 ⟨rfl, hd1⟩
  have hb1 := hd1.below
  go_wp2
  go_ret
  exact ⟨by first | rfl | simp, hb1⟩

theorem rk_slt {a b : Int} : reckF ⟨#[115, 108, 116]⟩ a b = if wrap64 a < wrap64 b then 1 else 0 := by
  refine reck_of ?_
  have e : hart_reckon.f 20 ⟨#[115, 108, 116]⟩ a b = ((hart_bit.f (decide (wrap64 a < wrap64 b))).bind fun t => some t).bind fun t => some t := by kernel_rfl
  rw [e]
  unfold hart_bit.f
  simp only [decide_eq_true_eq]
  split <;> rfl

theorem rk_sltu {a b : Int} : reckF ⟨#[115, 108, 116, 117]⟩ a b = if a < b then 1 else 0 := by
  refine reck_of ?_
  have e : hart_reckon.f 20 ⟨#[115, 108, 116, 117]⟩ a b = ((hart_bit.f (decide (a < b))).bind fun t => some t).bind fun t => some t := by kernel_rfl
  rw [e]
  unfold hart_bit.f
  simp only [decide_eq_true_eq]
  split <;> rfl

set_option maxHeartbeats 4000000 in
set_option maxRecDepth 100000 in
theorem made_slt : MadeOk ⟨#[115, 108, 116]⟩ ⟨#[115, 108, 116]⟩ := by
  intro a b ha hb w
  obtain ⟨R, hR⟩ : ∃ R, reckF ⟨#[115, 108, 116]⟩ a b = R := ⟨_, rfl⟩
  rw [hR]
  have hO : burinref28_one.f (decide (wrap64 a < wrap64 b)) = some R := by rw [one_f, ← hR, rk_slt]
  have hL := less1_f ha hb
  obtain ⟨d, hd⟩ : ∃ d, decide (wrap64 a < wrap64 b) = d := ⟨_, rfl⟩
  rw [hd] at hO hL
  clear hR hd

  have h0 := ha.1
  have h1 := hb.1

  go_enter Try.func91, Try.ntmps91
  go_wp2_with fail
  refine (burinref28_less.calls a b _ _ hL).mono ?_
  rintro e w1 ⟨rfl, hd1⟩
  have hb1 := hd1.below
  go_wp2_with fail
  refine (burinref28_one.calls d _ _ hO).mono ?_
  rintro e w2 ⟨rfl, hd2⟩
  have hb2 := hd2.below
  have hB2 := hb1.trans (hb2.mono hb1.size)
  go_wp2
  go_ret
  exact ⟨by first | rfl | simp, hB2⟩

set_option maxHeartbeats 4000000 in
set_option maxRecDepth 100000 in
theorem made_slti : MadeOk ⟨#[115, 108, 116, 105]⟩ ⟨#[115, 108, 116]⟩ := by
  intro a b ha hb w
  obtain ⟨R, hR⟩ : ∃ R, reckF ⟨#[115, 108, 116]⟩ a b = R := ⟨_, rfl⟩
  rw [hR]
  have hO : burinref28_one.f (decide (wrap64 a < wrap64 b)) = some R := by rw [one_f, ← hR, rk_slt]
  have hL := less1_f ha hb
  obtain ⟨d, hd⟩ : ∃ d, decide (wrap64 a < wrap64 b) = d := ⟨_, rfl⟩
  rw [hd] at hO hL
  clear hR hd

  have h0 := ha.1
  have h1 := hb.1

  go_enter Try.func91, Try.ntmps91
  go_wp2_with fail
  refine (burinref28_less.calls a b _ _ hL).mono ?_
  rintro e w1 ⟨rfl, hd1⟩
  have hb1 := hd1.below
  go_wp2_with fail
  refine (burinref28_one.calls d _ _ hO).mono ?_
  rintro e w2 ⟨rfl, hd2⟩
  have hb2 := hd2.below
  have hB2 := hb1.trans (hb2.mono hb1.size)
  go_wp2
  go_ret
  exact ⟨by first | rfl | simp, hB2⟩

set_option maxHeartbeats 4000000 in
set_option maxRecDepth 100000 in
theorem made_sltu : MadeOk ⟨#[115, 108, 116, 117]⟩ ⟨#[115, 108, 116, 117]⟩ := by
  intro a b ha hb w
  obtain ⟨R, hR⟩ : ∃ R, reckF ⟨#[115, 108, 116, 117]⟩ a b = R := ⟨_, rfl⟩
  rw [hR]
  have hO : burinref28_one.f (decide (a < b)) = some R := by rw [one_f, ← hR, rk_sltu]
  clear hR

  have h0 := ha.1
  have h1 := hb.1

  go_enter Try.func91, Try.ntmps91
  go_wp2_with fail
  refine (burinref28_one.calls _ _ _ hO).mono ?_
  rintro e w1 ⟨rfl, hd1⟩
  have hb1 := hd1.below
  go_wp2
  go_ret
  exact ⟨by first | rfl | simp, hb1⟩

set_option maxHeartbeats 4000000 in
set_option maxRecDepth 100000 in
theorem made_sltiu : MadeOk ⟨#[115, 108, 116, 105, 117]⟩ ⟨#[115, 108, 116, 117]⟩ := by
  intro a b ha hb w
  obtain ⟨R, hR⟩ : ∃ R, reckF ⟨#[115, 108, 116, 117]⟩ a b = R := ⟨_, rfl⟩
  rw [hR]
  have hO : burinref28_one.f (decide (a < b)) = some R := by rw [one_f, ← hR, rk_sltu]
  clear hR

  have h0 := ha.1
  have h1 := hb.1

  go_enter Try.func91, Try.ntmps91
  go_wp2_with fail
  refine (burinref28_one.calls _ _ _ hO).mono ?_
  rintro e w1 ⟨rfl, hd1⟩
  have hb1 := hd1.below
  go_wp2
  go_ret
  exact ⟨by first | rfl | simp, hb1⟩

set_option maxHeartbeats 4000000 in
set_option maxRecDepth 100000 in
theorem made_div : MadeOk ⟨#[100, 105, 118]⟩ ⟨#[100, 105, 118]⟩ := by
  intro a b ha hb w
  rw [show reckF ⟨#[100, 105, 118]⟩ a b = divS a b from r_div hb]

  have h0 := ha.1
  have h1 := hb.1

  go_enter Try.func91, Try.ntmps91
  go_wp2_with fail
  refine (burinref28_div.calls a b _ _ (div_f ha hb)).mono ?_
  rintro e w1 ⟨rfl, hd1⟩
  have hb1 := hd1.below
  go_wp2
  go_ret
  exact ⟨by first | rfl | simp, hb1⟩

set_option maxHeartbeats 4000000 in
set_option maxRecDepth 100000 in
theorem made_rem : MadeOk ⟨#[114, 101, 109]⟩ ⟨#[114, 101, 109]⟩ := by
  intro a b ha hb w
  rw [show reckF ⟨#[114, 101, 109]⟩ a b = remS a b from r_rem hb]

  have h0 := ha.1
  have h1 := hb.1

  go_enter Try.func91, Try.ntmps91
  go_wp2_with fail
  refine (burinref28_rem.calls a b _ _ (rem_f ha hb)).mono ?_
  rintro e w1 ⟨rfl, hd1⟩
  have hb1 := hd1.below
  go_wp2
  go_ret
  exact ⟨by first | rfl | simp, hb1⟩

set_option maxHeartbeats 4000000 in
set_option maxRecDepth 100000 in
theorem made_divu : MadeOk ⟨#[100, 105, 118, 117]⟩ ⟨#[100, 105, 118, 117]⟩ := by
  intro a b ha hb w
  rw [show reckF ⟨#[100, 105, 118, 117]⟩ a b = divU a b from r_divu a b]
  unfold divU

  have h0 := ha.1
  have h1 := hb.1

  by_cases hz : b = 0
  · rw [if_pos hz]
    have hz0 : (b == 0) = true := beq_iff_eq.2 hz
    go_enter Try.func91, Try.ntmps91
    go_wp2
    go_ret
    exact ⟨by first | rfl | simp, Below.refl _ _⟩
  · rw [if_neg hz, tdiv_pos ha.1, div_id ha hb]
    have hz0 : (b == 0) = false := beq_eq_false_iff_ne.2 hz
    go_enter Try.func91, Try.ntmps91
    go_wp2
    go_ret
    exact ⟨by first | rfl | simp, Below.refl _ _⟩

set_option maxHeartbeats 4000000 in
set_option maxRecDepth 100000 in
theorem made_remu : MadeOk ⟨#[114, 101, 109, 117]⟩ ⟨#[114, 101, 109, 117]⟩ := by
  intro a b ha hb w
  rw [show reckF ⟨#[114, 101, 109, 117]⟩ a b = remU a b from r_remu a b]
  unfold remU

  have h0 := ha.1
  have h1 := hb.1

  by_cases hz : b = 0
  · rw [if_pos hz]
    have hz0 : (b == 0) = true := beq_iff_eq.2 hz
    go_enter Try.func91, Try.ntmps91
    go_wp2
    go_ret
    exact ⟨by first | rfl | simp, Below.refl _ _⟩
  · rw [if_neg hz, tmod_pos ha.1]
    have hz0 : (b == 0) = false := beq_eq_false_iff_ne.2 hz
    go_enter Try.func91, Try.ntmps91
    go_wp2
    go_ret
    exact ⟨by first | rfl | simp, Below.refl _ _⟩

set_option maxHeartbeats 4000000 in
set_option maxRecDepth 100000 in
theorem made_mulhu : MadeOk ⟨#[109, 117, 108, 104, 117]⟩ ⟨#[109, 117, 108, 104, 117]⟩ := by
  intro a b ha hb w
  rw [show reckF ⟨#[109, 117, 108, 104, 117]⟩ a b = hiF a b from r_mulhu a b, hi_val ha hb]

  have h0 := ha.1
  have h1 := hb.1

  go_enter Try.func91, Try.ntmps91
  go_wp2_with fail
  refine (burinref28_high.calls a b _ _ (high_f ha hb)).mono ?_
  rintro e w1 ⟨rfl, hd1⟩
  have hb1 := hd1.below
  go_wp2
  go_ret
  exact ⟨by first | rfl | simp, hb1⟩

theorem neg_lt {a : Int} (ha : U64 a) : (wrap64 a < 0) = (a ≥ 9223372036854775808) := by
  have := ha.1
  have := ha.2
  apply propext
  unfold wrap64
  omega
theorem mulhsu_f {a b : Int} (ha : U64 a) (hb : U64 b) : burinref28_highs.f 11 a b true false = some (reckF ⟨#[109, 117, 108, 104, 115, 117]⟩ a b) := by
  rw [show reckF ⟨#[109, 117, 108, 104, 115, 117]⟩ a b = if wrap64 a < 0 then IntKind.u64.wrap (hiF a b - b) else hiF a b from r_mulhsu a b, hi_val ha hb]
  simp only [neg_lt ha]
  have e2 : burinref28_highs.f 11 a b true false = burinref28_highs.j0 11 a b (decide (a ≥ 9223372036854775808)) false := by unfold burinref28_highs.f; rw [neg_f]; rfl
  rw [e2]
  by_cases h : a ≥ 9223372036854775808
  · rw [if_pos h, decide_eq_true h]
    show ((burinref28_high.f (IntKind.u64.wrap (-a)) b).bind fun t246 => if IntKind.u64.wrap (IntKind.u64.wrap (-a) * b) = 0 then some (IntKind.u64.wrap (-t246)) else some (IntKind.u64.wrap (18446744073709551615 - t246))) = _
    rw [high_f (wrap_range _) hb, Option.bind_some, ← mix_val ⟨h, ha.2⟩ (v64 hb)]
    split <;> rfl
  · rw [if_neg h, decide_eq_false h]
    show ((burinref28_high.f a b).bind fun t246 => some t246) = _
    rw [high_f ha hb]; rfl
theorem mulh_f {a b : Int} (ha : U64 a) (hb : U64 b) : burinref28_highs.f 11 a b true true = some (reckF ⟨#[109, 117, 108, 104]⟩ a b) := by
  rw [show reckF ⟨#[109, 117, 108, 104]⟩ a b = if wrap64 b < 0 then (if wrap64 a < 0 then IntKind.u64.wrap (IntKind.u64.wrap (hiF a b - a) - b) else IntKind.u64.wrap (hiF a b - a)) else (if wrap64 a < 0 then IntKind.u64.wrap (hiF a b - b) else hiF a b) from r_mulh a b, hi_val ha hb]
  simp only [neg_lt ha, neg_lt hb]
  have e2 : burinref28_highs.f 11 a b true true = burinref28_highs.j0 11 a b (decide (a ≥ 9223372036854775808)) (decide (b ≥ 9223372036854775808)) := by unfold burinref28_highs.f; rw [neg_f, neg_f]; rfl
  rw [e2]
  by_cases h : a ≥ 9223372036854775808 <;> by_cases g : b ≥ 9223372036854775808
  · rw [if_pos g, if_pos h, decide_eq_true h, decide_eq_true g]
    show ((burinref28_high.f (IntKind.u64.wrap (-a)) (IntKind.u64.wrap (-b))).bind fun t246 => some t246) = _
    rw [high_f (wrap_range _) (wrap_range _), ← both_val ⟨h, ha.2⟩ ⟨g, hb.2⟩]; rfl
  · rw [if_neg g, if_pos h, decide_eq_true h, decide_eq_false g]
    show ((burinref28_high.f (IntKind.u64.wrap (-a)) b).bind fun t246 => if IntKind.u64.wrap (IntKind.u64.wrap (-a) * b) = 0 then some (IntKind.u64.wrap (-t246)) else some (IntKind.u64.wrap (18446744073709551615 - t246))) = _
    rw [high_f (wrap_range _) hb, Option.bind_some, ← mix_val ⟨h, ha.2⟩ (v64 hb)]
    split <;> rfl
  · rw [if_pos g, if_neg h, decide_eq_false h, decide_eq_true g]
    show ((burinref28_high.f a (IntKind.u64.wrap (-b))).bind fun t246 => if IntKind.u64.wrap (a * IntKind.u64.wrap (-b)) = 0 then some (IntKind.u64.wrap (-t246)) else some (IntKind.u64.wrap (18446744073709551615 - t246))) = _
    rw [high_f ha (wrap_range _), Option.bind_some, Int.mul_comm a b, ← mix_val ⟨g, hb.2⟩ (v64 ha), Int.mul_comm a]
    split <;> rfl
  · rw [if_neg g, if_neg h, decide_eq_false h, decide_eq_false g]
    show ((burinref28_high.f a b).bind fun t246 => some t246) = _
    rw [high_f ha hb]; rfl

set_option maxHeartbeats 4000000 in
set_option maxRecDepth 100000 in
theorem made_mulhsu : MadeOk ⟨#[109, 117, 108, 104, 115, 117]⟩ ⟨#[109, 117, 108, 104, 115, 117]⟩ := by
  intro a b ha hb w

  have h0 := ha.1
  have h1 := hb.1

  go_enter Try.func91, Try.ntmps91
  go_wp2_with fail
  refine (burinref28_highs.calls 11 a b true false _ _ (mulhsu_f ha hb)).mono ?_
  rintro e w1 ⟨rfl, hd1⟩
  have hb1 := hd1.below
  go_wp2
  go_ret
  exact ⟨by first | rfl | simp, hb1⟩

set_option maxHeartbeats 4000000 in
set_option maxRecDepth 100000 in
theorem made_mulh : MadeOk ⟨#[109, 117, 108, 104]⟩ ⟨#[109, 117, 108, 104]⟩ := by
  intro a b ha hb w

  have h0 := ha.1
  have h1 := hb.1

  go_enter Try.func91, Try.ntmps91
  go_wp2_with fail
  refine (burinref28_highs.calls 11 a b true true _ _ (mulh_f ha hb)).mono ?_
  rintro e w1 ⟨rfl, hd1⟩
  have hb1 := hd1.below
  go_wp2
  go_ret
  exact ⟨by first | rfl | simp, hb1⟩

theorem rk_addw {a b : Int} : reckF ⟨#[97, 100, 100, 119]⟩ a b = eV (IntKind.u64.wrap (a + b)) := by
  rw [← eF_eV, ← ext_val]
  refine reck_of ?_
  have e : hart_reckon.f 20 ⟨#[97, 100, 100, 119]⟩ a b = (hart_word.f 20 ⟨#[97, 100, 100]⟩ a b).bind fun t137 => (hart_extend.f t137 32).bind fun t138 => some t138 := by kernel_rfl
  rw [e]
  exact ext_bind (by kernel_rfl)

set_option maxHeartbeats 4000000 in
set_option maxRecDepth 100000 in
theorem made_addw : MadeOk ⟨#[97, 100, 100, 119]⟩ ⟨#[97, 100, 100, 119]⟩ := by
  intro a b ha hb w
  rw [rk_addw]

  have h0 := ha.1
  have h1 := hb.1

  go_enter Try.func91, Try.ntmps91
  go_wp2_with fail
  refine (burinref28_End.calls (IntKind.u64.wrap (a + b)) 32 _ _ (end32_f (wrap_range _))).mono ?_
  rintro e w1 ⟨rfl, hd1⟩
  have hb1 := hd1.below
  go_wp2
  go_ret
  exact ⟨by first | rfl | simp, hb1⟩

set_option maxHeartbeats 4000000 in
set_option maxRecDepth 100000 in
theorem made_addiw : MadeOk ⟨#[97, 100, 100, 105, 119]⟩ ⟨#[97, 100, 100, 119]⟩ := by
  intro a b ha hb w
  rw [rk_addw]

  have h0 := ha.1
  have h1 := hb.1

  go_enter Try.func91, Try.ntmps91
  go_wp2_with fail
  refine (burinref28_End.calls (IntKind.u64.wrap (a + b)) 32 _ _ (end32_f (wrap_range _))).mono ?_
  rintro e w1 ⟨rfl, hd1⟩
  have hb1 := hd1.below
  go_wp2
  go_ret
  exact ⟨by first | rfl | simp, hb1⟩

theorem rk_subw {a b : Int} : reckF ⟨#[115, 117, 98, 119]⟩ a b = eV (IntKind.u64.wrap (a - b)) := by
  rw [← eF_eV, ← ext_val]
  refine reck_of ?_
  have e : hart_reckon.f 20 ⟨#[115, 117, 98, 119]⟩ a b = (hart_word.f 20 ⟨#[115, 117, 98]⟩ a b).bind fun t137 => (hart_extend.f t137 32).bind fun t138 => some t138 := by kernel_rfl
  rw [e]
  exact ext_bind (by kernel_rfl)

set_option maxHeartbeats 4000000 in
set_option maxRecDepth 100000 in
theorem made_subw : MadeOk ⟨#[115, 117, 98, 119]⟩ ⟨#[115, 117, 98, 119]⟩ := by
  intro a b ha hb w
  rw [rk_subw]

  have h0 := ha.1
  have h1 := hb.1

  go_enter Try.func91, Try.ntmps91
  go_wp2_with fail
  refine (burinref28_End.calls (IntKind.u64.wrap (a - b)) 32 _ _ (end32_f (wrap_range _))).mono ?_
  rintro e w1 ⟨rfl, hd1⟩
  have hb1 := hd1.below
  go_wp2
  go_ret
  exact ⟨by first | rfl | simp, hb1⟩

theorem rk_mulw {a b : Int} : reckF ⟨#[109, 117, 108, 119]⟩ a b = eV (IntKind.u64.wrap (a * b)) := by
  rw [← eF_eV, ← ext_val]
  refine reck_of ?_
  have e : hart_reckon.f 20 ⟨#[109, 117, 108, 119]⟩ a b = (hart_word.f 20 ⟨#[109, 117, 108]⟩ a b).bind fun t137 => (hart_extend.f t137 32).bind fun t138 => some t138 := by kernel_rfl
  rw [e]
  exact ext_bind (by kernel_rfl)

set_option maxHeartbeats 4000000 in
set_option maxRecDepth 100000 in
theorem made_mulw : MadeOk ⟨#[109, 117, 108, 119]⟩ ⟨#[109, 117, 108, 119]⟩ := by
  intro a b ha hb w
  rw [rk_mulw]

  have h0 := ha.1
  have h1 := hb.1

  go_enter Try.func91, Try.ntmps91
  go_wp2_with fail
  refine (burinref28_End.calls (IntKind.u64.wrap (a * b)) 32 _ _ (end32_f (wrap_range _))).mono ?_
  rintro e w1 ⟨rfl, hd1⟩
  have hb1 := hd1.below
  go_wp2
  go_ret
  exact ⟨by first | rfl | simp, hb1⟩

theorem rk_sllw {a b : Int} (hb : U64 b) : reckF ⟨#[115, 108, 108, 119]⟩ a b = eV (IntKind.u64.wrap (a * 2 ^ (b % 32).toNat)) := by
  rw [← eF_eV, ← ext_val]
  refine reck_of ?_
  have e : hart_reckon.f 20 ⟨#[115, 108, 108, 119]⟩ a b = (hart_word.f 20 ⟨#[115, 108, 108]⟩ a b).bind fun t137 => (hart_extend.f t137 32).bind fun t138 => some t138 := by kernel_rfl
  rw [e]
  refine ext_bind ?_
  have e2 : hart_word.f 20 ⟨#[115, 108, 108]⟩ a b = if 0 ≤ Go.bits .and .u64 b 31 then some (shl .u64 a (Go.bits .and .u64 b 31)) else none := by kernel_rfl
  have hs : 0 ≤ b % 32 ∧ b % 32 < 32 := by have := hb.1; omega
  rw [e2, and_31 (v64 hb), if_pos hs.1, shl_u ⟨hs.1, by omega⟩]

theorem rk_srlw {a b : Int} (hb : U64 b) : reckF ⟨#[115, 114, 108, 119]⟩ a b = eV (a % 4294967296 / 2 ^ (b % 32).toNat) := by
  rw [← eF_eV, ← ext_val]
  refine reck_of ?_
  have e : hart_reckon.f 20 ⟨#[115, 114, 108, 119]⟩ a b = (hart_word.f 20 ⟨#[115, 114, 108]⟩ a b).bind fun t137 => (hart_extend.f t137 32).bind fun t138 => some t138 := by kernel_rfl
  rw [e]
  refine ext_bind ?_
  have e2 : hart_word.f 20 ⟨#[115, 114, 108]⟩ a b = if 0 ≤ Go.bits .and .u64 b 31 then some (shr .u32 (a % 4294967296) (Go.bits .and .u64 b 31)) else none := by kernel_rfl
  have hs : 0 ≤ b % 32 ∧ b % 32 < 32 := by have := hb.1; omega
  rw [e2, and_31 (v64 hb), if_pos hs.1, shr_u32' hs]

theorem rk_sraw {a b : Int} (hb : U64 b) : reckF ⟨#[115, 114, 97, 119]⟩ a b = eV (IntKind.u64.wrap (shr .i32 (wrap32 a) (b % 32))) := by
  rw [← eF_eV, ← ext_val]
  refine reck_of ?_
  have e : hart_reckon.f 20 ⟨#[115, 114, 97, 119]⟩ a b = (hart_word.f 20 ⟨#[115, 114, 97]⟩ a b).bind fun t137 => (hart_extend.f t137 32).bind fun t138 => some t138 := by kernel_rfl
  rw [e]
  refine ext_bind ?_
  have e2 : hart_word.f 20 ⟨#[115, 114, 97]⟩ a b = if 0 ≤ Go.bits .and .u64 b 31 then some (IntKind.u64.wrap (shr .i32 (wrap32 a) (Go.bits .and .u64 b 31))) else none := by kernel_rfl
  have hs : 0 ≤ b % 32 ∧ b % 32 < 32 := by have := hb.1; omega
  rw [e2, and_31 (v64 hb), if_pos hs.1]

set_option maxHeartbeats 4000000 in
set_option maxRecDepth 100000 in
theorem made_sllw : MadeOk ⟨#[115, 108, 108, 119]⟩ ⟨#[115, 108, 108, 119]⟩ := by
  intro a b ha hb w
  rw [rk_sllw hb]

  have h0 := ha.1
  have h1 := hb.1

  go_enter Try.func91, Try.ntmps91
  go_wp2_with fail
  refine (burinref28_End.calls (IntKind.u64.wrap (a * 2 ^ (b % 32).toNat)) 32 _ _ (end32_f (wrap_range _))).mono ?_
  rintro e w1 ⟨rfl, hd1⟩
  have hb1 := hd1.below
  go_wp2
  go_ret
  exact ⟨by first | rfl | simp, hb1⟩

set_option maxHeartbeats 4000000 in
set_option maxRecDepth 100000 in
theorem made_slliw : MadeOk ⟨#[115, 108, 108, 105, 119]⟩ ⟨#[115, 108, 108, 119]⟩ := by
  intro a b ha hb w
  rw [rk_sllw hb]

  have h0 := ha.1
  have h1 := hb.1

  go_enter Try.func91, Try.ntmps91
  go_wp2_with fail
  refine (burinref28_End.calls (IntKind.u64.wrap (a * 2 ^ (b % 32).toNat)) 32 _ _ (end32_f (wrap_range _))).mono ?_
  rintro e w1 ⟨rfl, hd1⟩
  have hb1 := hd1.below
  go_wp2
  go_ret
  exact ⟨by first | rfl | simp, hb1⟩

theorem low_shr (a b : Int) : U64 (a % 4294967296 / 2 ^ (b % 32).toNat) := by
  have hr := div_small (show 0 ≤ a % 4294967296 by omega) (pow_pos' (b % 32).toNat)
  exact ⟨hr.1, by omega⟩

set_option maxHeartbeats 4000000 in
set_option maxRecDepth 100000 in
theorem made_srlw : MadeOk ⟨#[115, 114, 108, 119]⟩ ⟨#[115, 114, 108, 119]⟩ := by
  intro a b ha hb w
  rw [rk_srlw hb]

  have h0 := ha.1
  have h1 := hb.1

  go_enter Try.func91, Try.ntmps91
  go_wp2_with fail
  refine (burinref28_End.calls (a % 4294967296 / 2 ^ (b % 32).toNat) 32 _ _ (end32_f (low_shr a b))).mono ?_
  rintro e w1 ⟨rfl, hd1⟩
  have hb1 := hd1.below
  go_wp2
  go_ret
  exact ⟨by first | rfl | simp, hb1⟩

set_option maxHeartbeats 4000000 in
set_option maxRecDepth 100000 in
theorem made_srliw : MadeOk ⟨#[115, 114, 108, 105, 119]⟩ ⟨#[115, 114, 108, 119]⟩ := by
  intro a b ha hb w
  rw [rk_srlw hb]

  have h0 := ha.1
  have h1 := hb.1

  go_enter Try.func91, Try.ntmps91
  go_wp2_with fail
  refine (burinref28_End.calls (a % 4294967296 / 2 ^ (b % 32).toNat) 32 _ _ (end32_f (low_shr a b))).mono ?_
  rintro e w1 ⟨rfl, hd1⟩
  have hb1 := hd1.below
  go_wp2
  go_ret
  exact ⟨by first | rfl | simp, hb1⟩

set_option maxHeartbeats 4000000 in
set_option maxRecDepth 100000 in
theorem made_sraw : MadeOk ⟨#[115, 114, 97, 119]⟩ ⟨#[115, 114, 97, 119]⟩ := by
  intro a b ha hb w
  have hs : 0 ≤ b % 32 ∧ b % 32 < 32 := by omega
  rw [rk_sraw hb, sraw_val hs]
  obtain ⟨E, hE⟩ : ∃ E, eV a = E := ⟨_, rfl⟩
  have hEu : U64 E := by rw [← hE]; exact eF_u64 a
  have hEe : burinref28_End.f a 32 = some E := by rw [← hE]; exact end32_f ha
  rw [hE]
  have hS := shifted_f hEu (s := b % 32) ⟨hs.1, by omega⟩
  clear hE hs

  have h0 := ha.1
  have h1 := hb.1

  go_enter Try.func91, Try.ntmps91
  go_wp2_with fail
  refine (burinref28_End.calls a 32 _ _ hEe).mono ?_
  rintro e w1 ⟨rfl, hd1⟩
  have hb1 := hd1.below
  go_wp2_with fail
  refine (burinref28_shifted.calls E (b % 32) _ _ hS).mono ?_
  rintro e w2 ⟨rfl, hd2⟩
  have hb2 := hd2.below
  have hB2 := hb1.trans (hb2.mono hb1.size)
  go_wp2
  go_ret
  exact ⟨by first | rfl | simp, hB2⟩

set_option maxHeartbeats 4000000 in
set_option maxRecDepth 100000 in
theorem made_sraiw : MadeOk ⟨#[115, 114, 97, 105, 119]⟩ ⟨#[115, 114, 97, 119]⟩ := by
  intro a b ha hb w
  have hs : 0 ≤ b % 32 ∧ b % 32 < 32 := by omega
  rw [rk_sraw hb, sraw_val hs]
  obtain ⟨E, hE⟩ : ∃ E, eV a = E := ⟨_, rfl⟩
  have hEu : U64 E := by rw [← hE]; exact eF_u64 a
  have hEe : burinref28_End.f a 32 = some E := by rw [← hE]; exact end32_f ha
  rw [hE]
  have hS := shifted_f hEu (s := b % 32) ⟨hs.1, by omega⟩
  clear hE hs

  have h0 := ha.1
  have h1 := hb.1

  go_enter Try.func91, Try.ntmps91
  go_wp2_with fail
  refine (burinref28_End.calls a 32 _ _ hEe).mono ?_
  rintro e w1 ⟨rfl, hd1⟩
  have hb1 := hd1.below
  go_wp2_with fail
  refine (burinref28_shifted.calls E (b % 32) _ _ hS).mono ?_
  rintro e w2 ⟨rfl, hd2⟩
  have hb2 := hd2.below
  have hB2 := hb1.trans (hb2.mono hb1.size)
  go_wp2
  go_ret
  exact ⟨by first | rfl | simp, hB2⟩

set_option maxHeartbeats 4000000 in
set_option maxRecDepth 100000 in
theorem made_divw : MadeOk ⟨#[100, 105, 118, 119]⟩ ⟨#[100, 105, 118, 119]⟩ := by
  intro a b ha hb w
  rw [show reckF ⟨#[100, 105, 118, 119]⟩ a b = extF (divS (extF a 32) (extF b 32)) 32 from r_divw a b, ext_val, ext_val, ext_val]
  obtain ⟨E, hE⟩ : ∃ E, eV a = E := ⟨_, rfl⟩
  obtain ⟨F, hF⟩ : ∃ F, eV b = F := ⟨_, rfl⟩
  have hEu : U64 E := by rw [← hE]; exact eF_u64 a
  have hFu : U64 F := by rw [← hF]; exact eF_u64 b
  have hEe : burinref28_End.f a 32 = some E := by rw [← hE]; exact end32_f ha
  have hFe : burinref28_End.f b 32 = some F := by rw [← hF]; exact end32_f hb
  rw [eF_eV, eF_eV, eF_eV, hE, hF]
  clear hE hF
  have hQ := div_f hEu hFu
  have hQe := end32_f (divS_u E F hEu)
  generalize divS E F = Q at *

  have h0 := ha.1
  have h1 := hb.1

  go_enter Try.func91, Try.ntmps91
  go_wp2_with fail
  refine (burinref28_End.calls a 32 _ _ hEe).mono ?_
  rintro e w1 ⟨rfl, hd1⟩
  have hb1 := hd1.below
  go_wp2_with fail
  refine (burinref28_End.calls b 32 _ _ hFe).mono ?_
  rintro e w2 ⟨rfl, hd2⟩
  have hb2 := hd2.below
  have hB2 := hb1.trans (hb2.mono hb1.size)
  go_wp2_with fail
  refine (burinref28_div.calls E F _ _ hQ).mono ?_
  rintro e w3 ⟨rfl, hd3⟩
  have hb3 := hd3.below
  have hB3 := hB2.trans (hb3.mono hB2.size)
  go_wp2_with fail
  refine (burinref28_End.calls Q 32 _ _ hQe).mono ?_
  rintro e w4 ⟨rfl, hd4⟩
  have hb4 := hd4.below
  have hB4 := hB3.trans (hb4.mono hB3.size)
  go_wp2
  go_ret
  exact ⟨by first | rfl | simp, hB4⟩

set_option maxHeartbeats 4000000 in
set_option maxRecDepth 100000 in
theorem made_remw : MadeOk ⟨#[114, 101, 109, 119]⟩ ⟨#[114, 101, 109, 119]⟩ := by
  intro a b ha hb w
  rw [show reckF ⟨#[114, 101, 109, 119]⟩ a b = extF (remS (extF a 32) (extF b 32)) 32 from r_remw a b, ext_val, ext_val, ext_val]
  obtain ⟨E, hE⟩ : ∃ E, eV a = E := ⟨_, rfl⟩
  obtain ⟨F, hF⟩ : ∃ F, eV b = F := ⟨_, rfl⟩
  have hEu : U64 E := by rw [← hE]; exact eF_u64 a
  have hFu : U64 F := by rw [← hF]; exact eF_u64 b
  have hEe : burinref28_End.f a 32 = some E := by rw [← hE]; exact end32_f ha
  have hFe : burinref28_End.f b 32 = some F := by rw [← hF]; exact end32_f hb
  rw [eF_eV, eF_eV, eF_eV, hE, hF]
  clear hE hF
  have hQ := rem_f hEu hFu
  have hQe := end32_f (remS_u E F hEu)
  generalize remS E F = Q at *

  have h0 := ha.1
  have h1 := hb.1

  go_enter Try.func91, Try.ntmps91
  go_wp2_with fail
  refine (burinref28_End.calls a 32 _ _ hEe).mono ?_
  rintro e w1 ⟨rfl, hd1⟩
  have hb1 := hd1.below
  go_wp2_with fail
  refine (burinref28_End.calls b 32 _ _ hFe).mono ?_
  rintro e w2 ⟨rfl, hd2⟩
  have hb2 := hd2.below
  have hB2 := hb1.trans (hb2.mono hb1.size)
  go_wp2_with fail
  refine (burinref28_rem.calls E F _ _ hQ).mono ?_
  rintro e w3 ⟨rfl, hd3⟩
  have hb3 := hd3.below
  have hB3 := hB2.trans (hb3.mono hB2.size)
  go_wp2_with fail
  refine (burinref28_End.calls Q 32 _ _ hQe).mono ?_
  rintro e w4 ⟨rfl, hd4⟩
  have hb4 := hd4.below
  have hB4 := hB3.trans (hb4.mono hB3.size)
  go_wp2
  go_ret
  exact ⟨by first | rfl | simp, hB4⟩

set_option maxHeartbeats 4000000 in
set_option maxRecDepth 100000 in
theorem made_divuw : MadeOk ⟨#[100, 105, 118, 117, 119]⟩ ⟨#[100, 105, 118, 117, 119]⟩ := by
  intro a b ha hb w
  rw [show reckF ⟨#[100, 105, 118, 117, 119]⟩ a b = extF (divU (Ht.lowF a) (Ht.lowF b)) 32 from r_divuw a b, ext_val, low_val ha, low_val hb]
  unfold divU
  obtain ⟨Y, hY⟩ : ∃ Y, b % 4294967296 = Y := ⟨_, rfl⟩
  have hYb : 0 ≤ Y ∧ Y < 4294967296 := by rw [← hY]; omega
  obtain ⟨X, hX⟩ : ∃ X, a % 4294967296 = X := ⟨_, rfl⟩
  have hXb : 0 ≤ X ∧ X < 4294967296 := by rw [← hX]; omega
  have hx0 := hXb.1
  have hy0 := hYb.1
  rw [hX, hY]

  have h0 := ha.1
  have h1 := hb.1

  by_cases hz : Y = 0
  · rw [if_pos hz]
    have hz0 : (Y == 0) = true := beq_iff_eq.2 hz
    rw [show eF 18446744073709551615 = 18446744073709551615 by decide]
    clear hXb hYb
    go_enter Try.func91, Try.ntmps91
    go_wp2
    go_ret
    exact ⟨by first | rfl | simp, Below.refl _ _⟩
  · rw [if_neg hz, tdiv_pos hx0, div_id ⟨hx0, by omega⟩ ⟨hy0, by omega⟩, eF_eV]
    have hz0 : (Y == 0) = false := beq_eq_false_iff_ne.2 hz
    have hE := end32_f (div_u ⟨hx0, by omega⟩ ⟨hy0, by omega⟩ : U64 (X / Y))
    clear hXb hYb
    go_enter Try.func91, Try.ntmps91
    go_wp2_with fail
    go_quiet ((go_at_call 86; exact Calls.quiet_of ((burinref28_End.calls (X / Y) 32 _ _ hE).mono fun e w1 ⟨he, hd⟩ => ⟨he, hd.out⟩)))
    go_wp2
    go_ret
    exact ⟨by first | rfl | simp, pw_below_drewN (Below.refl _ _) _⟩

set_option maxHeartbeats 4000000 in
set_option maxRecDepth 100000 in
theorem made_remuw : MadeOk ⟨#[114, 101, 109, 117, 119]⟩ ⟨#[114, 101, 109, 117, 119]⟩ := by
  intro a b ha hb w
  rw [show reckF ⟨#[114, 101, 109, 117, 119]⟩ a b = extF (remU (Ht.lowF a) (Ht.lowF b)) 32 from r_remuw a b, ext_val, low_val ha, low_val hb]
  unfold remU
  obtain ⟨Y, hY⟩ : ∃ Y, b % 4294967296 = Y := ⟨_, rfl⟩
  have hYb : 0 ≤ Y ∧ Y < 4294967296 := by rw [← hY]; omega
  obtain ⟨X, hX⟩ : ∃ X, a % 4294967296 = X := ⟨_, rfl⟩
  have hXb : 0 ≤ X ∧ X < 4294967296 := by rw [← hX]; omega
  have hx0 := hXb.1
  have hy0 := hYb.1
  rw [hX, hY]

  have h0 := ha.1
  have h1 := hb.1

  by_cases hz : Y = 0
  · rw [if_pos hz]
    have hz0 : (Y == 0) = true := beq_iff_eq.2 hz
    rw [show eF X = eV a from eF_of (by omega)]
    clear hXb hYb
    go_enter Try.func91, Try.ntmps91
    go_wp2_with fail
    refine (burinref28_End.calls (a) 32 _ _ (end32_f ha)).mono ?_
    rintro e w1 ⟨rfl, hd1⟩
    have hb1 := hd1.below
    go_wp2
    go_ret
    exact ⟨by first | rfl | simp, hb1⟩
  · rw [if_neg hz, tmod_pos hx0, eF_eV]
    have hz0 : (Y == 0) = false := beq_eq_false_iff_ne.2 hz
    have hE := end32_f (rem_u (a := X) ⟨hy0, by omega⟩ hz)
    clear hXb hYb
    go_enter Try.func91, Try.ntmps91
    go_wp2_with fail
    go_quiet ((go_at_call 86; exact Calls.quiet_of ((burinref28_End.calls (X % Y) 32 _ _ hE).mono fun e w1 ⟨he, hd⟩ => ⟨he, hd.out⟩)))
    go_wp2
    go_ret
    exact ⟨by first | rfl | simp, pw_below_drewN (Below.refl _ _) _⟩

end Go.Proofs.Ytciehejifdbpoaa.Hl
end
section
set_option linter.unusedSimpArgs false
set_option linter.unusedVariables false
namespace Go.Proofs.Ytciehejifdbpoaa.Hl
open Go.RowKit Go.Maps Go.Proofs.Ytciehejifdbpoaa.Grow Go.Proofs.Ytciehejifdbpoaa.Rv Go.Proofs.Ytciehejifdbpoaa.As Go.Proofs.Ytciehejifdbpoaa.Ht Go.Proofs.Ytciehejifdbpoaa.PHartQuotients Go.Proofs.Ytciehejifdbpoaa.PHartSteps
open Go.Proofs.YtciehejifdbpoaaW.PrintWords Go.Proofs.YtciehejifdbpoaaW.PrintLast Go.Proofs.YtciehejifdbpoaaW.PrintMore

/-! ### What a step of the document's machine does, arm by arm: the plain part -/
theorem sys_not {nm : ByteArray} (h : ¬ clsF nm = 0) : (nm.toList == ([101, 99, 97, 108, 108] : List UInt8)) = false ∧ (nm.toList == ([101, 98, 114, 101, 97, 107] : List UInt8)) = false := by
  have hl : ¬ sysL.any (isN nm) = true := fun g => h (by unfold clsF; rw [if_pos g])
  simp only [sysL, List.any_cons, List.any_nil, isN, Bool.or_false, Bool.or_eq_true, not_or, Bool.not_eq_true] at hl
  exact hl
def StepP (w : World) (S : HartS) (o : Ending) (w' : World) : Prop :=
  ∃ c', o = .returned (.tuple #[.agg c', .int .i64 (stepF S).2]) ∧ RefIs w' c' (stepF S).1 ∧ Below w.heap.size w w'
theorem next_ok {S : HartS} (he : (fetchF S.mem S.pc).2 = 0) (hd : (decF (fetchF S.mem S.pc).1).2 = 0) : nextF S = (mkDone (decF (fetchF S.mem S.pc).1).1, 0) := by
  unfold nextF doneF
  rw [if_pos he, if_pos hd]
theorem mk_op (x : OpI) : (mkDone x).op = x := by unfold mkDone; split <;> rfl
theorem step_of {S : HartS} (he : (fetchF S.mem S.pc).2 = 0) (hd : (decF (fetchF S.mem S.pc).1).2 = 0) :
    stepF S = execF S (mkDone (decF (fetchF S.mem S.pc).1).1) (S.ra (decF (fetchF S.mem S.pc).1).1.ra) (S.ra (decF (fetchF S.mem S.pc).1).1.rb) (IntKind.u64.wrap (decF (fetchF S.mem S.pc).1).1.imm) (IntKind.u64.wrap (S.pc + 4)) := by
  unfold stepF
  rw [next_ok he hd, if_pos rfl, mk_op]
def Small (D : OpI) : Prop := (0 ≤ D.rd ∧ D.rd < 32) ∧ (0 ≤ D.ra ∧ D.ra < 32) ∧ (0 ≤ D.rb ∧ D.rb < 32)
theorem step_small {S : HartS} (hG : GoodH S) (he : (fetchF S.mem S.pc).2 = 0) (hd : (decF (fetchF S.mem S.pc).1).2 = 0) : Small (decF (fetchF S.mem S.pc).1).1 := by
  have h := nextF_good hG (by rw [next_ok he hd])
  rw [next_ok he hd] at h
  have h1 := h.rd
  have h2 := h.ra
  have h3 := h.rb
  rw [mk_op] at h1 h2 h3
  exact ⟨h1, h2, h3⟩
theorem putV_put (S : HartS) {r : Nat} (hr : r < 32) (v : Int) : (S.put r v).regs = putV S.regs r v ∧ (S.put r v).mem = S.mem := by
  unfold HartS.put putV
  by_cases c : 0 < r
  · rw [if_pos ⟨by omega, by omega⟩, if_pos c]; exact ⟨rfl, rfl⟩
  · rw [if_neg (by omega), if_neg c]; exact ⟨rfl, rfl⟩
theorem refis_put {w w' : World} {mv : Value} {d0 d1 : ByteArray} {S : HartS} (hr : RefRow w mv d0 d1) (hm : Mem2 S.mem d0 d1) (hl : S.regs.length = 32) (hb : Below w.heap.size w w') {r : Nat} (r32 : r < 32) (v nx : Int) (hx : U64 nx) :
    RefIs w' (stC mv nx (putV S.regs r v)) ((S.put r v).at_ nx) := by
  obtain ⟨e1, e2⟩ := putV_put S r32 v
  refine ⟨⟨mv, d0, d1, ?_, hr.below hb, ?_⟩, ?_, hx⟩
  · show _ = stC mv nx (S.put r v).regs
    rw [e1]
  · show Mem2 (S.put r v).mem d0 d1
    rw [e2]; exact hm
  · show (S.put r v).regs.length = 32
    rw [e1, putV_len]; exact hl
theorem refis_at {w w' : World} {mv : Value} {d0 d1 : ByteArray} {S : HartS} (hr : RefRow w mv d0 d1) (hm : Mem2 S.mem d0 d1) (hl : S.regs.length = 32) (hb : Below w.heap.size w w') (nx : Int) (hx : U64 nx) :
    RefIs w' (stC mv nx S.regs) (S.at_ nx) := ⟨⟨mv, d0, d1, rfl, hr.below hb, hm⟩, hl, hx⟩
/-! What an instruction of each class does, decoded as 'mkDone' has it. -/
theorem exec_at {S : HartS} {x : OpI} {a b i nx : Int} : execF S (mkDone x) a b i nx = match clsF x.name with
  | 0 => (S, 260)
  | 1 => loadS S x.name x.rd (IntKind.u64.wrap (a + i)) nx
  | 2 => storeS S x.name b (IntKind.u64.wrap (a + i)) nx
  | 3 => (S.at_ (if takenF x.name a b = true then IntKind.u64.wrap (S.pc + i) else nx), 0)
  | 4 => ((S.put x.rd (IntKind.u64.wrap (i * 4096))).at_ nx, 0)
  | 5 => ((S.put x.rd (IntKind.u64.wrap (S.pc + IntKind.u64.wrap (i * 4096)))).at_ nx, 0)
  | 6 => ((S.put x.rd nx).at_ (IntKind.u64.wrap (S.pc + i)), 0)
  | 7 => ((S.put x.rd nx).at_ (Go.bits .andNot .u64 (IntKind.u64.wrap (a + i)) 1), 0)
  | _ => ((S.put x.rd (reckF (mkDone x).by_ a (if (mkDone x).num = true then i else b))).at_ nx, 0) := by
  unfold execF
  rw [mk_op]
  rfl
theorem exec_1 {S : HartS} {x : OpI} {a b i nx : Int} (h : clsF x.name = 1) : execF S (mkDone x) a b i nx = loadS S x.name x.rd (IntKind.u64.wrap (a + i)) nx := by simp only [exec_at, h]
theorem exec_2 {S : HartS} {x : OpI} {a b i nx : Int} (h : clsF x.name = 2) : execF S (mkDone x) a b i nx = storeS S x.name b (IntKind.u64.wrap (a + i)) nx := by simp only [exec_at, h]
theorem exec_3 {S : HartS} {x : OpI} {a b i nx : Int} (h : clsF x.name = 3) : execF S (mkDone x) a b i nx = (S.at_ (if takenF x.name a b = true then IntKind.u64.wrap (S.pc + i) else nx), 0) := by simp only [exec_at, h]
theorem exec_4 {S : HartS} {x : OpI} {a b i nx : Int} (h : clsF x.name = 4) : execF S (mkDone x) a b i nx = ((S.put x.rd (IntKind.u64.wrap (i * 4096))).at_ nx, 0) := by simp only [exec_at, h]
theorem exec_5 {S : HartS} {x : OpI} {a b i nx : Int} (h : clsF x.name = 5) : execF S (mkDone x) a b i nx = ((S.put x.rd (IntKind.u64.wrap (S.pc + IntKind.u64.wrap (i * 4096)))).at_ nx, 0) := by simp only [exec_at, h]
theorem exec_6 {S : HartS} {x : OpI} {a b i nx : Int} (h : clsF x.name = 6) : execF S (mkDone x) a b i nx = ((S.put x.rd nx).at_ (IntKind.u64.wrap (S.pc + i)), 0) := by simp only [exec_at, h]
theorem exec_7 {S : HartS} {x : OpI} {a b i nx : Int} (h : clsF x.name = 7) : execF S (mkDone x) a b i nx = ((S.put x.rd nx).at_ (Go.bits .andNot .u64 (IntKind.u64.wrap (a + i)) 1), 0) := by simp only [exec_at, h]
theorem exec_8 {S : HartS} {x : OpI} {a b i nx : Int} (h : clsF x.name = 8) : execF S (mkDone x) a b i nx = ((S.put x.rd (reckF (mkDone x).by_ a (if (mkDone x).num = true then i else b))).at_ nx, 0) := by simp only [exec_at, h]
theorem exec_0 {S : HartS} {x : OpI} {a b i nx : Int} (h : clsF x.name = 0) : execF S (mkDone x) a b i nx = (S, 260) := by simp only [exec_at, h]
theorem clear_nat {n : Nat} (h : n < 18446744073709551616) : Go.bits .andNot .u64 (n : Int) 1 = ((n - n % 2 : Nat) : Int) := by
  unfold Go.bits
  simp only []
  rw [show IntKind.u64.bits = 64 from rfl]
  have e : BitVec.ofInt 64 (n : Int) &&& ~~~ (BitVec.ofInt 64 1) = BitVec.ofNat 64 (n - n % 2) := by
    have h1 : BitVec.ofInt 64 (n : Int) = BitVec.ofNat 64 n := BitVec.ofInt_natCast ..
    have h2 : BitVec.ofInt 64 (1 : Int) = 1#64 := rfl
    rw [h1, h2]
    apply BitVec.eq_of_getLsbD_eq
    intro i hi
    have e2 : n - n % 2 = 2 ^ 1 * (n / 2) := by omega
    rw [BitVec.getLsbD_and, BitVec.getLsbD_not, e2, BitVec.getLsbD_one, BitVec.getLsbD_ofNat, BitVec.getLsbD_ofNat, Nat.testBit_two_pow_mul]
    simp only [hi, decide_true, Bool.true_and]
    by_cases h0 : i = 0
    · subst h0; simp
    · rw [Nat.testBit_div_two]
      have g : i ≥ 1 := by omega
      simp only [g, h0, decide_true, decide_false, Bool.true_and, Bool.and_false, Bool.not_false, Bool.and_true]
      rw [show i - 1 + 1 = i by omega]
  rw [e, BitVec.toNat_ofNat, Nat.mod_eq_of_lt (by omega), uw]
  omega
theorem clear_low {x : Int} (hx : U64 x) : Go.bits .andNot .u64 x 1 = IntKind.u64.wrap (x - x.tmod 2) := by
  rw [tmod_pos hx.1]
  obtain ⟨n, rfl⟩ := Int.eq_ofNat_of_zero_le hx.1
  have h2 := hx.2
  rw [clear_nat (by omega), uw]
  omega
theorem ref_kept {w : World} {mv : Value} {d0 d1 : ByteArray} (h : RefRow w mv d0 d1) {k : Nat} {b : Array Value} (hk : w.heap[k]? = some (.cells b 80 (0, 0))) (o : Nat) (v : Value) : RefRow (w.setCell ⟨k, o, none⟩ v) mv d0 d1 := by
  obtain ⟨hl, ⟨_, h0⟩ | ⟨g, cap, cur, rfl, hb, hh, hc, hm, hs, ht⟩⟩ := h
  · omega
  · have ne : g ≠ k := by rintro rfl; rw [hk] at hh; simp at hh
    exact ⟨hl, .inr ⟨g, cap, cur, rfl, hb, (heap_setCell_other _ _ _ _ ne).trans hh, hc, hm, hs, ht⟩⟩
theorem ref_row {w : World} {mv : Value} {d0 d1 : ByteArray} (h : RefRow w mv d0 d1) {k : Nat} {b : Array Value} (hk : w.heap[k]? = some (.cells b 80 (0, 0))) (cs : Array Value) : RefRow (w.setRow k cs) mv d0 d1 := by
  obtain ⟨hl, ⟨_, h0⟩ | ⟨g, cap, cur, rfl, hb, hh, hc, hm, hs, ht⟩⟩ := h
  · omega
  · have ne : g ≠ k := by rintro rfl; rw [hk] at hh; simp at hh
    exact ⟨hl, .inr ⟨g, cap, cur, rfl, hb, (setRow_other _ _ _ _ ne).trans hh, hc, hm, hs, ht⟩⟩
/-- A load of a whole machine in a region that draws its order. -/
theorem step_load80 {dl : List Tmp} {o : Oper} {a : Act} {w : World} {R : Value → World → Prop} (hgd : o.guard = none) (x : Operand) (ho : o.op = .load 80 x)
    (g : Nat) (cs : Array Value) (hx : a.eval x = .pointer (some ⟨g, 0, none⟩)) (hg : w.heap[g]? = some (.cells cs 80 (0, 0))) (hc : cs.size = 34) (h : R (.agg cs) w) : StepTo Try.prog dl o a w R := by
  obtain ⟨fs, hu⟩ := under80
  unfold StepTo
  rw [hgd]
  unfold Oper.grows execOp
  simp only [ho, hx, Instr.loadAt, Instr.sureAddr, Sem.run_bind, Sem.run_pure, Result.andThen_ok, run_loadVar_row (P := Try.prog) w g 80 80 cs (0, 0) _ hg hu rfl (by rw [info80, hc])]
  exact ⟨Below.refl _ _, h⟩

/-! ### The names by which the document's machine reckons -/
def byF (nm : ByteArray) : ByteArray := (withF nm).getD nm
theorem mk_by (x : OpI) : (mkDone x).by_ = byF x.name ∧ (mkDone x).num = (withF x.name).isSome := by
  unfold mkDone byF
  split <;> rename_i h <;> rw [h] <;> exact ⟨rfl, rfl⟩
def madeL : List (ByteArray × ByteArray) := [
  (⟨#[97, 100, 100]⟩, ⟨#[97, 100, 100]⟩),
  (⟨#[97, 100, 100, 105]⟩, ⟨#[97, 100, 100]⟩),
  (⟨#[115, 117, 98]⟩, ⟨#[115, 117, 98]⟩),
  (⟨#[109, 117, 108]⟩, ⟨#[109, 117, 108]⟩),
  (⟨#[120, 111, 114]⟩, ⟨#[120, 111, 114]⟩),
  (⟨#[120, 111, 114, 105]⟩, ⟨#[120, 111, 114]⟩),
  (⟨#[111, 114]⟩, ⟨#[111, 114]⟩),
  (⟨#[111, 114, 105]⟩, ⟨#[111, 114]⟩),
  (⟨#[97, 110, 100]⟩, ⟨#[97, 110, 100]⟩),
  (⟨#[97, 110, 100, 105]⟩, ⟨#[97, 110, 100]⟩),
  (⟨#[115, 108, 108]⟩, ⟨#[115, 108, 108]⟩),
  (⟨#[115, 108, 108, 105]⟩, ⟨#[115, 108, 108]⟩),
  (⟨#[115, 114, 108]⟩, ⟨#[115, 114, 108]⟩),
  (⟨#[115, 114, 108, 105]⟩, ⟨#[115, 114, 108]⟩),
  (⟨#[115, 114, 97]⟩, ⟨#[115, 114, 97]⟩),
  (⟨#[115, 114, 97, 105]⟩, ⟨#[115, 114, 97]⟩),
  (⟨#[115, 108, 116]⟩, ⟨#[115, 108, 116]⟩),
  (⟨#[115, 108, 116, 105]⟩, ⟨#[115, 108, 116]⟩),
  (⟨#[115, 108, 116, 117]⟩, ⟨#[115, 108, 116, 117]⟩),
  (⟨#[115, 108, 116, 105, 117]⟩, ⟨#[115, 108, 116, 117]⟩),
  (⟨#[100, 105, 118]⟩, ⟨#[100, 105, 118]⟩),
  (⟨#[114, 101, 109]⟩, ⟨#[114, 101, 109]⟩),
  (⟨#[100, 105, 118, 117]⟩, ⟨#[100, 105, 118, 117]⟩),
  (⟨#[114, 101, 109, 117]⟩, ⟨#[114, 101, 109, 117]⟩),
  (⟨#[109, 117, 108, 104, 117]⟩, ⟨#[109, 117, 108, 104, 117]⟩),
  (⟨#[109, 117, 108, 104, 115, 117]⟩, ⟨#[109, 117, 108, 104, 115, 117]⟩),
  (⟨#[109, 117, 108, 104]⟩, ⟨#[109, 117, 108, 104]⟩),
  (⟨#[97, 100, 100, 119]⟩, ⟨#[97, 100, 100, 119]⟩),
  (⟨#[97, 100, 100, 105, 119]⟩, ⟨#[97, 100, 100, 119]⟩),
  (⟨#[115, 117, 98, 119]⟩, ⟨#[115, 117, 98, 119]⟩),
  (⟨#[109, 117, 108, 119]⟩, ⟨#[109, 117, 108, 119]⟩),
  (⟨#[115, 108, 108, 119]⟩, ⟨#[115, 108, 108, 119]⟩),
  (⟨#[115, 108, 108, 105, 119]⟩, ⟨#[115, 108, 108, 119]⟩),
  (⟨#[115, 114, 108, 119]⟩, ⟨#[115, 114, 108, 119]⟩),
  (⟨#[115, 114, 108, 105, 119]⟩, ⟨#[115, 114, 108, 119]⟩),
  (⟨#[115, 114, 97, 119]⟩, ⟨#[115, 114, 97, 119]⟩),
  (⟨#[115, 114, 97, 105, 119]⟩, ⟨#[115, 114, 97, 119]⟩),
  (⟨#[100, 105, 118, 119]⟩, ⟨#[100, 105, 118, 119]⟩),
  (⟨#[114, 101, 109, 119]⟩, ⟨#[114, 101, 109, 119]⟩),
  (⟨#[100, 105, 118, 117, 119]⟩, ⟨#[100, 105, 118, 117, 119]⟩),
  (⟨#[114, 101, 109, 117, 119]⟩, ⟨#[114, 101, 109, 117, 119]⟩)]
theorem made_in' : (List.range 64).all (fun k => !(clsF (kd k).1 == 8) || madeL.any fun p => decide (p.1 = (kd k).1) && decide (p.2 = byF (kd k).1)) = true := by decide +kernel
theorem made_in (k : Nat) (hk : k < 64) (h : clsF (kd k).1 = 8) : ∃ p ∈ madeL, p.1 = (kd k).1 ∧ p.2 = byF (kd k).1 := by
  have q := List.all_eq_true.1 made_in' k (List.mem_range.2 hk)
  rw [h] at q
  simp only [beq_self_eq_true, Bool.not_true, Bool.false_or] at q
  obtain ⟨p, hp, e⟩ := List.any_eq_true.1 q
  rw [Bool.and_eq_true, decide_eq_true_eq, decide_eq_true_eq] at e
  exact ⟨p, hp, e⟩
theorem made_each : ∀ p ∈ madeL, MadeOk p.1 p.2 := by
  unfold madeL
  simp only [List.mem_cons, List.mem_nil_iff, or_false]
  rintro p (rfl | rfl | rfl | rfl | rfl | rfl | rfl | rfl | rfl | rfl | rfl | rfl | rfl | rfl | rfl | rfl | rfl | rfl | rfl | rfl | rfl | rfl | rfl | rfl | rfl | rfl | rfl | rfl | rfl | rfl | rfl | rfl | rfl | rfl | rfl | rfl | rfl | rfl | rfl | rfl | rfl)
  · exact made_add
  · exact made_addi
  · exact made_sub
  · exact made_mul
  · exact made_xor
  · exact made_xori
  · exact made_or
  · exact made_ori
  · exact made_and
  · exact made_andi
  · exact made_sll
  · exact made_slli
  · exact made_srl
  · exact made_srli
  · exact made_sra
  · exact made_srai
  · exact made_slt
  · exact made_slti
  · exact made_sltu
  · exact made_sltiu
  · exact made_div
  · exact made_rem
  · exact made_divu
  · exact made_remu
  · exact made_mulhu
  · exact made_mulhsu
  · exact made_mulh
  · exact made_addw
  · exact made_addiw
  · exact made_subw
  · exact made_mulw
  · exact made_sllw
  · exact made_slliw
  · exact made_srlw
  · exact made_srliw
  · exact made_sraw
  · exact made_sraiw
  · exact made_divw
  · exact made_remw
  · exact made_divuw
  · exact made_remuw
theorem dec_name {x : Int} (hd : (decF x).2 = 0) : ∃ k, k < 64 ∧ (decF x).1.name = (kd k).1 := by
  unfold decF at hd ⊢
  split at hd
  · rename_i hk
    rw [if_pos hk]
    exact ⟨dIdx x, hk, rfl⟩
  · cases hd
theorem made_of {x : Int} (hd : (decF x).2 = 0) (h : clsF (decF x).1.name = 8) : MadeOk (decF x).1.name (byF (decF x).1.name) := by
  obtain ⟨k, hk, e⟩ := dec_name hd
  rw [e] at h ⊢
  obtain ⟨p, hp, e1, e2⟩ := made_in k hk h
  have m := made_each p hp
  rw [e1, e2] at m
  exact m
theorem cls8_not {nm : ByteArray} (h : clsF nm = 8) : (nm.toList == ([108, 117, 105] : List UInt8)) = false ∧ (nm.toList == ([97, 117, 105, 112, 99] : List UInt8)) = false ∧ (nm.toList == ([106, 97, 108] : List UInt8)) = false ∧ (nm.toList == ([106, 97, 108, 114] : List UInt8)) = false := by
  unfold clsF at h
  split at h
  · cases h
  split at h
  · cases h
  split at h
  · cases h
  split at h
  · cases h
  split at h
  · cases h
  rename_i a1
  split at h
  · cases h
  rename_i a2
  split at h
  · cases h
  rename_i a3
  split at h
  · cases h
  rename_i a4
  simp only [isN, Bool.not_eq_true] at a1 a2 a3 a4
  exact ⟨a1, a2, a3, a4⟩
theorem cls_le (nm : ByteArray) : clsF nm ≤ 8 := by
  unfold clsF
  repeat' split
  all_goals omega
theorem cls_lit {nm : ByteArray} {n : Nat} (h : clsF nm = n) (hn : 4 ≤ n ∧ n ≤ 7) :
    (n = 4 ∧ nm = (⟨#[108, 117, 105]⟩ : ByteArray)) ∨ (n = 5 ∧ nm = (⟨#[97, 117, 105, 112, 99]⟩ : ByteArray)) ∨ (n = 6 ∧ nm = (⟨#[106, 97, 108]⟩ : ByteArray)) ∨ (n = 7 ∧ nm = (⟨#[106, 97, 108, 114]⟩ : ByteArray)) := by
  unfold clsF at h
  split at h
  · omega
  split at h
  · omega
  split at h
  · omega
  split at h
  · omega
  split at h
  · rename_i e
    exact .inl ⟨h.symm, is_of (by kernel_rfl) (beq_iff_eq.1 e)⟩
  split at h
  · rename_i e
    exact .inr (.inl ⟨h.symm, is_of (by kernel_rfl) (beq_iff_eq.1 e)⟩)
  split at h
  · rename_i e
    exact .inr (.inr (.inl ⟨h.symm, is_of (by kernel_rfl) (beq_iff_eq.1 e)⟩))
  split at h
  · rename_i e
    exact .inr (.inr (.inr ⟨h.symm, is_of (by kernel_rfl) (beq_iff_eq.1 e)⟩))
  · omega
end Go.Proofs.Ytciehejifdbpoaa.Hl
end
section
set_option linter.unusedSimpArgs false
set_option linter.unusedVariables false
namespace Go.Proofs.Ytciehejifdbpoaa.Hl
open Go.RowKit Go.Maps Go.Proofs.Ytciehejifdbpoaa.Grow Go.Proofs.Ytciehejifdbpoaa.Rv Go.Proofs.Ytciehejifdbpoaa.As Go.Proofs.Ytciehejifdbpoaa.Ht Go.Proofs.Ytciehejifdbpoaa.PHartQuotients Go.Proofs.Ytciehejifdbpoaa.PHartSteps
open Go.Proofs.YtciehejifdbpoaaW.PrintWords Go.Proofs.YtciehejifdbpoaaW.PrintLast Go.Proofs.YtciehejifdbpoaaW.PrintMore

/-! ### A step that goes on: all arms -/
set_option maxHeartbeats 4000000 in
set_option maxRecDepth 100000 in
theorem step_more {w : World} {c : Array Value} {S : HartS} (h : RefIs w c S) (hG : GoodH S) (he : (fetchF S.mem S.pc).2 = 0) (hd : (decF (fetchF S.mem S.pc).1).2 = 0) (hn : ¬ clsF (decF (fetchF S.mem S.pc).1).1.name = 0) :
    Calls Try.prog 42 #[.agg c] w (StepP w S) := by
  obtain ⟨mv, d0, d1, hc, hr, hm⟩ := h.ex
  have hs : c.size = 34 := by rw [hc]; exact stC_size _ _ h.len
  have ho : c.all (·.oneCell') = true := by rw [hc]; exact stC_one' hr.one _ _
  have PC := Aside0.mk (fun (w9 : World) (r : Nat) (r32 : r < 32) (v nx : Int) => put_calls w9 mv hr.one S.pc S.regs h.len r r32 v nx)
  rw [← hc] at PC
  have CS := Aside0.mk (fun (r : Nat) (v nx : Int) => And.intro (stC_size mv nx (regs := putV S.regs r v) (by rw [putV_len]; exact h.len)) (stC_one' hr.one nx (putV S.regs r v)))
  have RP := Aside0.mk (fun (w9 : World) (hb : Below w.heap.size w w9) (r : Nat) (r32 : r < 32) (v nx : Int) (hx : U64 nx) => refis_put (S := S) hr hm h.len hb r32 v nx hx)
  have RR := Aside0.mk (fun (w9 : World) (hb : Below w.heap.size w w9) (nx : Int) (hx : U64 nx) => refis_at (S := S) hr hm h.len hb nx hx)
  have SO := Aside0.mk (step_of he hd)
  have SM := Aside0.mk (step_small hG he hd)
  have H0 := Aside0.mk h
  have HC := Aside0.mk hc
  have RU := Aside0.mk (fun i => ra_u64 hG i)
  have c0 : c[0]? = some mv := by rw [hc]; rfl
  have c1 : c[1]? = some (.int .u64 S.pc) := by rw [hc]; rfl
  have zs : zC.size = 34 := stC_size _ _ (by simp)
  have h1 := heap_alloc_last w (.cells c 80)
  have h2 := heap_alloc_at (w.alloc (.cells c 80)) (.cells zC 80) (n := w.heap.size + 1) (by simp)
  have h1' := blk_alloc h1 (.cells zC 80)
  have B2 := below_alloc (below_alloc (Below.refl w.heap.size w) (.cells c 80)) (.cells zC 80)
  have FC := Aside0.mk (fun (w9 : World) (hb : Below w.heap.size w w9) => fetch_ref (hr.below hb) hm h.pc)
  have LC := Aside0.mk (fun (w9 : World) (hb : Below w.heap.size w w9) (a n : Int) (ha : U64 a) => load_ref (hr.below hb) hm (n := n) ha)
  have LU := Aside0.mk (fun (a n : Int) => loadF_u64 hG.mem hG.bytes a n)
  have SC := Aside0.mk (fun (w9 : World) (hb : Below w.heap.size w w9) (a n x : Int) (ha : U64 a) (hx : U64 x) => store_ref (hr.below hb) hm (n := n) ha hx)
  have LEN := Aside0.mk h.len
  have CS0 := Aside0.mk (fun (mv9 : Value) (ho9 : mv9.oneCell' = true) (nx : Int) => And.intro (stC_size mv9 nx (regs := S.regs) h.len) (stC_one' ho9 nx S.regs))
  have MVO := Aside0.mk hr.one
  have MKA := Aside0.mk (made_of hd)
  have DC := Aside0.mk (fun w9 : World => dec_calls (fetchF_u32 hG.mem hG.bytes S.pc) w9)
  have e260 := Aside0.mk hd
  have HN := Aside0.mk hn
  have cr : ∀ i, i < 32 → c[2 + i]? = some (.int .u64 (S.regs.getD i 0)) := fun i hi => by
    rw [hc]; simp [stC, List.getD_eq_getElem?_getD, Nat.add_comm 2 i, List.getElem?_eq_getElem (show i < S.regs.length by rw [h.len]; exact hi)]
  have CR := Aside0.mk cr
  clear cr
  have k0 := (blk_cell h1' 0).trans c0
  have k1 := (blk_cell h1' 1).trans c1
  clear h hr hm hc hG
  go_enter Try.func42, Try.ntmps42
  go_wp2_with (first | (refine wpList_alloc80 rfl rfl ?_))
  refine (FC.out _ B2).mono ?_
  rintro e w3 ⟨rfl, hb3⟩
  have B3 := Aside0.mk (B2.trans (hb3.mono B2.size))
  have b3s := B3.out.size
  have g1 := blk_below h1' hb3
  have g2 := blk_below h2 hb3
  rw [he]
  obtain ⟨W, hW⟩ : ∃ W, (fetchF S.mem S.pc).1 = W := ⟨_, rfl⟩
  rw [hW] at DC e260 HN SO SM MKA ⊢
  clear hn h1 h2 h1' k0 k1 hb3 B2 hd hW
  go_wp2_with fail
  refine (DC.out _).mono ?_
  rintro e w4 ⟨rfl, hb4⟩
  rw [e260.out]
  have B4 := Aside0.mk (B3.out.trans (hb4.mono b3s))
  have b4s := B4.out.size
  have g1 := blk_below g1 hb4
  have g2 := blk_below g2 hb4
  clear hb4
  obtain ⟨D, hD⟩ : ∃ D, (decF W).1 = D := ⟨_, rfl⟩
  rw [hD]
  have g3 := blk_alloc g1 (.cells #[.string D.name, .int .i64 D.rd, .int .i64 D.ra, .int .i64 D.rb, .int .i64 D.imm] 24)
  have g4 := blk_alloc g2 (.cells #[.string D.name, .int .i64 D.rd, .int .i64 D.ra, .int .i64 D.rb, .int .i64 D.imm] 24)
  have B5 := Aside0.mk (below_alloc B4.out (.cells #[.string D.name, .int .i64 D.rd, .int .i64 D.ra, .int .i64 D.rb, .int .i64 D.imm] 24))
  have hnm := HN.out
  have hsm := SM.out
  have hso := SO.out
  rw [hD] at hnm hsm hso MKA
  obtain ⟨nm, rd, ra, rb, imm⟩ := D
  obtain ⟨⟨rd0, rd1⟩, ⟨ra0, ra1⟩, ⟨rb0, rb1⟩⟩ : (0 ≤ rd ∧ rd < 32) ∧ (0 ≤ ra ∧ ra < 32) ∧ (0 ≤ rb ∧ rb < 32) := hsm
  obtain ⟨r, rfl⟩ := Int.eq_ofNat_of_zero_le rd0
  obtain ⟨A, rfl⟩ := Int.eq_ofNat_of_zero_le ra0
  obtain ⟨Bn, rfl⟩ := Int.eq_ofNat_of_zero_le rb0
  have r32 : r < 32 := by omega
  have HN0 : ¬ clsF nm = 0 := hnm
  obtain ⟨n1, n2⟩ : (nm.toList == ([101, 99, 97, 108, 108] : List UInt8)) = false ∧ (nm.toList == ([101, 98, 114, 101, 97, 107] : List UInt8)) = false := sys_not hnm
  have hso : stepF S = execF S (mkDone ⟨nm, r, A, Bn, imm⟩) (S.regs.getD A 0) (S.regs.getD Bn 0) (IntKind.u64.wrap imm) (IntKind.u64.wrap (S.pc + 4)) := hso
  have EX := Aside0.mk hso
  clear hso SO SM
  have hA : (A : Int) < 32 := ra1
  have hB' : (Bn : Int) < 32 := rb1
  have A0 : (0 : Int) ≤ (A : Int) := ra0
  have B0 : (0 : Int) ≤ (Bn : Int) := rb0
  have k1 := (blk_cell g3 1).trans c1
  have k0 := (blk_cell g3 0).trans c0
  have kA := (blk_cell g3 (2 + A)).trans (CR.out A (by omega))
  have kB := (blk_cell g3 (2 + Bn)).trans (CR.out Bn (by omega))
  have BC := Aside0.mk (fun w9 => burinref28_Bytes.calls nm (bytesV nm).1 (bytesV nm).2.1 (bytesV nm).2.2 w9 (bytes_f nm))
  clear hD HN hnm rd0 rd1 ra0 ra1 rb0 rb1
  go_wp2_with fail
  go_quiet (go_wp2_with fail)
  go_wp2_with fail
  have h7 := Aside0.mk (pw_below_drewN (Below.refl ((w4.alloc (.cells #[.string nm, .int .i64 r, .int .i64 A, .int .i64 Bn, .int .i64 imm] 24))).heap.size (w4.alloc (.cells #[.string nm, .int .i64 r, .int .i64 A, .int .i64 Bn, .int .i64 imm] 24))) nq)
  refine (BC.out _).mono ?_
  rintro e w8 ⟨rfl, hd8⟩
  have B8 := Aside0.mk (h7.out.trans (hd8.below.mono h7.out.size))
  have g3' := blk_below g3 B8.out
  have g4' := blk_below g4 B8.out
  have g6' := blk_below (heap_alloc_last w4 (.cells #[.string nm, .int .i64 r, .int .i64 A, .int .i64 Bn, .int .i64 imm] 24)) B8.out
  clear hd8
  have hle := cls_le nm
  obtain ⟨n, hcl⟩ : ∃ n, clsF nm = n := ⟨_, rfl⟩
  rw [hcl] at hle HN0
  by_cases e1 : n = 1
  · subst e1
    clear hle HN0
    have EF := Aside0.mk (fun (hs : (widthF nm).2 = true) (x : Int) (hx : U64 x) => end_f hcl hs hx)
    have HE0 := Aside0.mk (EX.out.trans (exec_1 (x := ⟨nm, r, A, Bn, imm⟩) hcl))
    have WV := Aside0.mk (fun x : Int => (show widthV nm x = if (widthF nm).2 = true then widthV nm x else x by unfold widthV; split <;> rfl))
    obtain ⟨N, hN⟩ : ∃ N, (widthF nm).1 = N := ⟨_, rfl⟩
    obtain ⟨sg, hsg⟩ : ∃ sg, (widthF nm).2 = sg := ⟨_, rfl⟩
    have hbv : bytesV nm = (1, N, sg) := by unfold bytesV; rw [if_pos hcl, hN, hsg]
    rw [hN, hsg] at EF
    rw [hsg] at WV
    rw [hbv]
    have HNS := Aside0.mk (And.intro hN hsg)
    clear hbv hcl hN hsg
    have m0 := blk_cell g6' 0
    have z6 := blk_lt g6'
    have k0 := (blk_cell g3' 0).trans c0
    have z3 := blk_lt g3'
    have B8w := Aside0.mk (B5.out.trans (B8.out.mono B5.out.size))
    clear kA kB k1
    go_wp2_with fail
    refine (LC.out _ B8w.out _ _ (wrap_range _)).mono ?_
    rintro e w9 ⟨rfl, hb9⟩
    have LU1 := LU.out (IntKind.u64.wrap (S.regs[A]?.getD 0 + IntKind.u64.wrap imm)) N
    obtain ⟨L, hL⟩ : ∃ L, loadF S.mem (IntKind.u64.wrap (S.regs[A]?.getD 0 + IntKind.u64.wrap imm)) N = L := ⟨_, rfl⟩
    rw [hL] at LU1 ⊢
    have HL := Aside0.mk hL
    have g3q := blk_below g3' hb9
    have g4q := blk_below g4' hb9
    have g6q := blk_below g6' hb9
    have B9 := Aside0.mk (B8w.out.trans (hb9.mono B8w.out.size))
    clear m0 z6 g3' g4' g6' g3 g4 hb9 k0 z3 hL
    have m1 := blk_cell g6q 1
    have z6 := blk_lt g6q
    obtain ⟨v, q⟩ := L
    have LU1 : U64 v := LU1
    have LUA := Aside0.mk LU1
    clear LU1
    by_cases hq : q = 0
    · subst hq
      have HE := Aside0.mk (show stepF S = ((S.put r (widthV nm v)).at_ (IntKind.u64.wrap (S.pc + 4)), 0) by
        have h := HE0.out
        simp only [List.getD_eq_getElem?_getD] at h
        rw [h]; unfold loadS; rw [HNS.out.1, HL.out]; rfl)
      cases sg
      · have hv := WV.out v
        rw [if_neg (by decide)] at hv
        rw [hv] at HE
        clear hv
        go_wp2_with (first | (refine wpList_load80 rfl _ rfl w.heap.size c rfl g3q hs ?_))
        refine (PC.out _ r r32 _ _).mono ?_
        rintro e w10 ⟨rfl, hb10⟩
        have g4z := blk_below g4q hb10
        have B10 := Aside0.mk (B9.out.trans (hb10.mono B9.out.size))
        obtain ⟨cs1, cs2⟩ := CS.out r v (IntKind.u64.wrap (S.pc + 4))
        obtain ⟨C2, hC2⟩ : ∃ C2, stC mv (IntKind.u64.wrap (S.pc + 4)) (putV S.regs r v) = C2 := ⟨_, rfl⟩
        rw [hC2] at cs1 cs2 ⊢
        have HC2 := Aside0.mk hC2
        clear hb10 m1 z6 hC2
        go_wp2_with (first | (refine wpList_store80 rfl _ _ rfl (w.heap.size + 1) C2 zC rfl rfl g4z cs1 zs cs2 ?_))
        have hW := setRow_heap _ (w.heap.size + 1) zC C2 80 (0, 0) g4z
        refine bodyPost_ret (v := .tuple #[.agg C2, .int .i64 0]) (res42 (g := w.heap.size + 1) rfl rfl hW cs1) rfl ?_
        have BF := below_setRow B10.out (show w.heap.size ≤ w.heap.size + 1 by omega) C2
        have q := RP.out _ BF r r32 v (IntKind.u64.wrap (S.pc + 4)) (wrap_range _)
        rw [HC2.out] at q
        refine ⟨C2, ?_, ?_, BF⟩
        · rw [HE.out]
        · rw [HE.out]; exact q
      · have EC := Aside0.mk (fun w9 => burinref28_End.calls v (wrap64 (8 * N)) (widthV nm v) w9 (EF.out rfl v LUA.out))
        obtain ⟨NN, hNN⟩ : ∃ NN, wrap64 (8 * N) = NN := ⟨_, rfl⟩
        rw [hNN] at EC
        obtain ⟨V, hV⟩ : ∃ V, widthV nm v = V := ⟨_, rfl⟩
        rw [hV] at EC HE
        clear hV
        go_wp2_with fail
        refine (EC.out _).mono ?_
        rintro e w9' ⟨rfl, hd9⟩
        have g3q := blk_below g3q hd9.below
        have g4q := blk_below g4q hd9.below
        have g6q := blk_below g6q hd9.below
        have B9 := Aside0.mk (B9.out.trans (hd9.below.mono B9.out.size))
        clear hd9 m1 z6 hNN
        have m1 := blk_cell g6q 1
        have z6 := blk_lt g6q
        go_wp2_with (first | (refine wpList_load80 rfl _ rfl w.heap.size c rfl g3q hs ?_))
        refine (PC.out _ r r32 _ _).mono ?_
        rintro e w10 ⟨rfl, hb10⟩
        have g4z := blk_below g4q hb10
        have B10 := Aside0.mk (B9.out.trans (hb10.mono B9.out.size))
        obtain ⟨cs1, cs2⟩ := CS.out r V (IntKind.u64.wrap (S.pc + 4))
        obtain ⟨C2, hC2⟩ : ∃ C2, stC mv (IntKind.u64.wrap (S.pc + 4)) (putV S.regs r V) = C2 := ⟨_, rfl⟩
        rw [hC2] at cs1 cs2 ⊢
        have HC2 := Aside0.mk hC2
        clear hb10 m1 z6 hC2
        go_wp2_with (first | (refine wpList_store80 rfl _ _ rfl (w.heap.size + 1) C2 zC rfl rfl g4z cs1 zs cs2 ?_))
        have hW := setRow_heap _ (w.heap.size + 1) zC C2 80 (0, 0) g4z
        refine bodyPost_ret (v := .tuple #[.agg C2, .int .i64 0]) (res42 (g := w.heap.size + 1) rfl rfl hW cs1) rfl ?_
        have BF := below_setRow B10.out (show w.heap.size ≤ w.heap.size + 1 by omega) C2
        have q := RP.out _ BF r r32 V (IntKind.u64.wrap (S.pc + 4)) (wrap_range _)
        rw [HC2.out] at q
        refine ⟨C2, ?_, ?_, BF⟩
        · rw [HE.out]
        · rw [HE.out]; exact q
    · have HE := Aside0.mk (show stepF S = (S, q) by
        have h := HE0.out
        simp only [List.getD_eq_getElem?_getD] at h
        rw [h]; unfold loadS; rw [HNS.out.1, HL.out]; exact if_neg hq)
      have q1 : (q != 0) = true := bne_iff_ne.2 hq
      have q2 : (q == 0) = false := beq_eq_false_iff_ne.2 hq
      clear hq m1 z6
      go_wp2_with (first | (refine wpList_load80 rfl _ rfl w.heap.size c rfl g3q hs ?_) | (refine wpList_store80 rfl _ _ rfl (w.heap.size + 1) c zC rfl rfl g4q hs zs ho ?_))
      have hW := setRow_heap _ (w.heap.size + 1) zC c 80 (0, 0) g4q
      refine bodyPost_ret (v := .tuple #[.agg c, .int .i64 q]) (res42 (g := w.heap.size + 1) rfl rfl hW hs) rfl ?_
      have BF := below_setRow B9.out (show w.heap.size ≤ w.heap.size + 1 by omega) c
      refine ⟨c, ?_, ?_, BF⟩
      · rw [HE.out]
      · rw [HE.out]; exact H0.out.below BF
  by_cases e2 : n = 2
  · subst e2
    clear hle HN0 e1
    have HE0 := Aside0.mk (EX.out.trans (exec_2 (x := ⟨nm, r, A, Bn, imm⟩) hcl))
    obtain ⟨N, hN⟩ : ∃ N, (widthF nm).1 = N := ⟨_, rfl⟩
    have hbv : bytesV nm = (2, N, false) := by unfold bytesV; rw [if_neg (by omega), if_pos hcl, hN]
    rw [hbv]
    have HNS := Aside0.mk hN
    have UB := Aside0.mk (show U64 (S.regs[Bn]?.getD 0) by have := RU.out Bn; rwa [List.getD_eq_getElem?_getD] at this)
    clear hbv hcl hN
    have k0 := (blk_cell g3' 0).trans c0
    have z3 := blk_lt g3'
    have B8w := Aside0.mk (B5.out.trans (B8.out.mono B5.out.size))
    clear kA kB k1
    go_wp2_with fail
    refine (SC.out _ B8w.out _ _ _ (wrap_range _) UB.out).mono ?_
    rintro e w9 ⟨mv', rfl, d1', hr9, hm9, hb9⟩
    obtain ⟨L, hL⟩ : ∃ L, storeF S.mem (IntKind.u64.wrap (S.regs[A]?.getD 0 + IntKind.u64.wrap imm)) N (S.regs[Bn]?.getD 0) = L := ⟨_, rfl⟩
    rw [hL] at hm9 ⊢
    have HL := Aside0.mk hL
    have g3q := blk_below g3' hb9
    have g4q := blk_below g4' hb9
    have B9 := Aside0.mk (B8w.out.trans (hb9.mono B8w.out.size))
    clear g3' g4' g6' g3 g4 hb9 k0 z3 hL
    obtain ⟨M2, q⟩ := L
    have HM9 := Aside0.mk (show Mem2 M2 d0 d1' from hm9)
    have HR9 := Aside0.mk hr9
    obtain ⟨gn, capn, rfl, _⟩ := hr9.form
    clear hm9 hr9
    by_cases hq : q = 0
    · subst hq
      have HE := Aside0.mk (show stepF S = ({ S with mem := M2, pc := IntKind.u64.wrap (S.pc + 4) }, 0) by
        have h := HE0.out
        simp only [List.getD_eq_getElem?_getD] at h
        rw [h]; unfold storeS; rw [HNS.out, HL.out]; rfl)
      have k0 := (blk_cell g3q 0).trans c0
      have k1 := (blk_cell g3q 1).trans c1
      have f0 := frozen_of_row w9 w.heap.size 0 _ 80 g3q
      have f1 := frozen_of_row w9 w.heap.size 1 _ 80 g3q
      have z3 := blk_lt g3q
      obtain ⟨C2, hC2⟩ : ∃ C2, (c.setIfInBounds 0 (.slice (some ⟨gn, 0, none⟩) 2 capn)).setIfInBounds 1 (.int .u64 (IntKind.u64.wrap (S.pc + 4))) = C2 := ⟨_, rfl⟩
      have hCe : C2 = stC (.slice (some ⟨gn, 0, none⟩) 2 capn) (IntKind.u64.wrap (S.pc + 4)) S.regs := by rw [← hC2, HC.out]; rfl
      have cs1 : C2.size = 34 := by rw [hCe]; exact (CS0.out _ rfl _).1
      have cs2 : C2.all (·.oneCell') = true := by rw [hCe]; exact (CS0.out _ rfl _).2
      have s1 := heap_setCell_same w9 w.heap.size 0 c 80 (.slice (some ⟨gn, 0, none⟩) 2 capn) g3q
      have s2 := heap_setCell_same _ w.heap.size 1 _ 80 (.int .u64 (IntKind.u64.wrap (S.pc + 4))) s1
      rw [hC2] at s2
      have q3 := Aside0.mk s2
      have q4 := Aside0.mk (((heap_setCell_other (w9.setCell ⟨w.heap.size, 0, none⟩ (.slice (some ⟨gn, 0, none⟩) 2 capn)) ⟨w.heap.size, 1, none⟩ (w.heap.size + 1) (.int .u64 (IntKind.u64.wrap (S.pc + 4))) (show w.heap.size + 1 ≠ w.heap.size by omega)).trans (heap_setCell_other w9 ⟨w.heap.size, 0, none⟩ (w.heap.size + 1) (.slice (some ⟨gn, 0, none⟩) 2 capn) (show w.heap.size + 1 ≠ w.heap.size by omega))).trans g4q)
      have R2 := Aside0.mk (ref_kept (ref_kept HR9.out g3q 0 (.slice (some ⟨gn, 0, none⟩) 2 capn)) s1 1 (.int .u64 (IntKind.u64.wrap (S.pc + 4))))
      have BS := Aside0.mk ((B9.out.setCell (p := ⟨w.heap.size, 0, none⟩) (Nat.le_refl _) (.slice (some ⟨gn, 0, none⟩) 2 capn)).setCell (p := ⟨w.heap.size, 1, none⟩) (Nat.le_refl _) (.int .u64 (IntKind.u64.wrap (S.pc + 4))))
      have HCE := Aside0.mk hCe
      clear hC2 hCe g4q s1 s2
      go_wp2_with (first | (refine wpList_load80 rfl _ rfl w.heap.size C2 rfl q3.out cs1 ?_) | (refine wpList_store80 rfl _ _ rfl (w.heap.size + 1) C2 zC rfl rfl q4.out cs1 zs cs2 ?_))
      have hW := setRow_heap _ (w.heap.size + 1) zC C2 80 (0, 0) q4.out
      refine bodyPost_ret (v := .tuple #[.agg C2, .int .i64 0]) (res42 (g := w.heap.size + 1) rfl rfl hW cs1) rfl ?_
      have BF := below_setRow BS.out (show w.heap.size ≤ w.heap.size + 1 by omega) C2
      refine ⟨C2, ?_, ?_, BF⟩
      · rw [HE.out]
      · rw [HE.out]
        exact ⟨⟨_, d0, d1', HCE.out, ref_row R2.out q4.out C2, HM9.out⟩, LEN.out, wrap_range _⟩
    · have HE := Aside0.mk (show stepF S = (S, q) by
        have h := HE0.out
        simp only [List.getD_eq_getElem?_getD] at h
        rw [h]; unfold storeS; rw [HNS.out, HL.out]; exact if_neg hq)
      have q1 : (q != 0) = true := bne_iff_ne.2 hq
      have q2 : (q == 0) = false := beq_eq_false_iff_ne.2 hq
      clear hq
      go_wp2_with (first | (refine wpList_load80 rfl _ rfl w.heap.size c rfl g3q hs ?_) | (refine wpList_store80 rfl _ _ rfl (w.heap.size + 1) c zC rfl rfl g4q hs zs ho ?_))
      have hW := setRow_heap _ (w.heap.size + 1) zC c 80 (0, 0) g4q
      refine bodyPost_ret (v := .tuple #[.agg c, .int .i64 q]) (res42 (g := w.heap.size + 1) rfl rfl hW hs) rfl ?_
      have BF := below_setRow B9.out (show w.heap.size ≤ w.heap.size + 1 by omega) c
      refine ⟨c, ?_, ?_, BF⟩
      · rw [HE.out]
      · rw [HE.out]; exact H0.out.below BF
  by_cases e3 : n = 3
  · subst e3
    clear hle HN0 e1 e2
    have hbv : bytesV nm = (0, 0, false) := by unfold bytesV; rw [if_neg (by omega), if_neg (by omega)]
    rw [hbv]
    have ha : U64 (S.regs[A]?.getD 0) := by have := RU.out A; rwa [List.getD_eq_getElem?_getD] at this
    have hb : U64 (S.regs[Bn]?.getD 0) := by have := RU.out Bn; rwa [List.getD_eq_getElem?_getD] at this
    have GF := go_f nm ha hb
    have HG3 := Aside0.mk (show goV nm (S.regs[A]?.getD 0) (S.regs[Bn]?.getD 0) = if takenF nm (S.regs[A]?.getD 0) (S.regs[Bn]?.getD 0) = true then 1 else 0 by unfold goV; rw [if_pos hcl])
    have GFA := Aside0.mk GF
    have HE0 := Aside0.mk (EX.out.trans (exec_3 (x := ⟨nm, r, A, Bn, imm⟩) hcl))
    clear hbv ha hb GF hcl
    have HTK : takenF nm (S.regs[A]?.getD 0) (S.regs[Bn]?.getD 0) = true ∨ ¬ takenF nm (S.regs[A]?.getD 0) (S.regs[Bn]?.getD 0) = true := Classical.em _
    rcases HTK with htk | htk
    · have GC := Aside0.mk (fun w9 => burinref28_Go.calls nm (S.regs[A]?.getD 0) (S.regs[Bn]?.getD 0) 1 w9 (by rw [GFA.out, HG3.out, if_pos htk]))
      have HE := Aside0.mk (show stepF S = (S.at_ (IntKind.u64.wrap (S.pc + IntKind.u64.wrap imm)), 0) by rw [HE0.out]; simp only [List.getD_eq_getElem?_getD]; rw [if_pos htk])
      clear htk
      have m0 := blk_cell g6' 0
      have z6 := blk_lt g6'
      clear kA kB k0 k1
      go_wp2_with fail
      refine (GC.out _).mono ?_
      rintro e w9 ⟨rfl, hd9⟩
      have g3q := blk_below g3' hd9.below
      have g4q := blk_below g4' hd9.below
      have g6q := blk_below g6' hd9.below
      have B9 := Aside0.mk (B5.out.trans ((B8.out.trans (hd9.below.mono B8.out.size)).mono B5.out.size))
      clear m0 z6 g3' g4' g6' g3 g4 hd9
      have m0 := blk_cell g6q 0
      have m1 := blk_cell g6q 1
      have z6 := blk_lt g6q
      have k1 := (blk_cell g3q 1).trans c1
      have f1 := frozen_of_row w9 w.heap.size 1 _ 80 g3q
      have z3 := blk_lt g3q
      obtain ⟨C2, hC2⟩ : ∃ C2, c.setIfInBounds 1 (.int .u64 (IntKind.u64.wrap (S.pc + IntKind.u64.wrap imm))) = C2 := ⟨_, rfl⟩
      have hCe : C2 = stC mv (IntKind.u64.wrap (S.pc + IntKind.u64.wrap imm)) S.regs := by rw [← hC2, HC.out, stC_pc]
      have cs1 : C2.size = 34 := by rw [hCe]; exact (CS0.out _ MVO.out _).1
      have cs2 : C2.all (·.oneCell') = true := by rw [hCe]; exact (CS0.out _ MVO.out _).2
      have q3 := Aside0.mk (show (w9.setCell ⟨w.heap.size, 1, none⟩ (.int .u64 (IntKind.u64.wrap (S.pc + IntKind.u64.wrap imm)))).heap[w.heap.size]? = some (.cells C2 80 (0, 0)) by rw [← hC2]; exact heap_setCell_same _ _ _ _ _ _ g3q)
      have q4 := Aside0.mk (show (w9.setCell ⟨w.heap.size, 1, none⟩ (.int .u64 (IntKind.u64.wrap (S.pc + IntKind.u64.wrap imm)))).heap[w.heap.size + 1]? = some (.cells zC 80 (0, 0)) from (heap_setCell_other _ _ _ _ (show w.heap.size + 1 ≠ w.heap.size by omega)).trans g4q)
      have HCE := Aside0.mk hCe
      clear hC2 hCe g4q
      go_wp2_with (first | (refine wpList_load80 rfl _ rfl w.heap.size C2 rfl q3.out cs1 ?_) | (refine wpList_store80 rfl _ _ rfl (w.heap.size + 1) C2 zC rfl rfl q4.out cs1 zs cs2 ?_))
      have hW := setRow_heap _ (w.heap.size + 1) zC C2 80 (0, 0) q4.out
      refine bodyPost_ret (v := .tuple #[.agg C2, .int .i64 0]) (res42 (g := w.heap.size + 1) rfl rfl hW cs1) rfl ?_
      have BS : Below w.heap.size w (w9.setCell ⟨w.heap.size, 1, none⟩ (.int .u64 (IntKind.u64.wrap (S.pc + IntKind.u64.wrap imm)))) := B9.out.setCell (p := ⟨w.heap.size, 1, none⟩) (Nat.le_refl _) _
      have BF := below_setRow BS (show w.heap.size ≤ w.heap.size + 1 by omega) C2
      have q := RR.out _ BF (IntKind.u64.wrap (S.pc + IntKind.u64.wrap imm)) (wrap_range _)
      rw [← HCE.out] at q
      refine ⟨C2, ?_, ?_, BF⟩
      · rw [HE.out]
      · rw [HE.out]; exact q
    · have GC := Aside0.mk (fun w9 => burinref28_Go.calls nm (S.regs[A]?.getD 0) (S.regs[Bn]?.getD 0) 0 w9 (by rw [GFA.out, HG3.out, if_neg htk]))
      have HE := Aside0.mk (show stepF S = (S.at_ (IntKind.u64.wrap (S.pc + 4)), 0) by rw [HE0.out]; simp only [List.getD_eq_getElem?_getD]; rw [if_neg htk])
      clear htk
      have m0 := blk_cell g6' 0
      have z6 := blk_lt g6'
      clear kA kB k0 k1
      go_wp2_with fail
      refine (GC.out _).mono ?_
      rintro e w9 ⟨rfl, hd9⟩
      have g3q := blk_below g3' hd9.below
      have g4q := blk_below g4' hd9.below
      have g6q := blk_below g6' hd9.below
      have B9 := Aside0.mk (B5.out.trans ((B8.out.trans (hd9.below.mono B8.out.size)).mono B5.out.size))
      clear m0 z6 g3' g4' g6' g3 g4 hd9
      have m0 := blk_cell g6q 0
      have m1 := blk_cell g6q 1
      have z6 := blk_lt g6q
      have k1 := (blk_cell g3q 1).trans c1
      have f1 := frozen_of_row w9 w.heap.size 1 _ 80 g3q
      have z3 := blk_lt g3q
      obtain ⟨C2, hC2⟩ : ∃ C2, c.setIfInBounds 1 (.int .u64 (IntKind.u64.wrap (S.pc + 4))) = C2 := ⟨_, rfl⟩
      have hCe : C2 = stC mv (IntKind.u64.wrap (S.pc + 4)) S.regs := by rw [← hC2, HC.out, stC_pc]
      have cs1 : C2.size = 34 := by rw [hCe]; exact (CS0.out _ MVO.out _).1
      have cs2 : C2.all (·.oneCell') = true := by rw [hCe]; exact (CS0.out _ MVO.out _).2
      have q3 := Aside0.mk (show (w9.setCell ⟨w.heap.size, 1, none⟩ (.int .u64 (IntKind.u64.wrap (S.pc + 4)))).heap[w.heap.size]? = some (.cells C2 80 (0, 0)) by rw [← hC2]; exact heap_setCell_same _ _ _ _ _ _ g3q)
      have q4 := Aside0.mk (show (w9.setCell ⟨w.heap.size, 1, none⟩ (.int .u64 (IntKind.u64.wrap (S.pc + 4)))).heap[w.heap.size + 1]? = some (.cells zC 80 (0, 0)) from (heap_setCell_other _ _ _ _ (show w.heap.size + 1 ≠ w.heap.size by omega)).trans g4q)
      have HCE := Aside0.mk hCe
      clear hC2 hCe g4q
      go_wp2_with (first | (refine wpList_load80 rfl _ rfl w.heap.size C2 rfl q3.out cs1 ?_) | (refine wpList_store80 rfl _ _ rfl (w.heap.size + 1) C2 zC rfl rfl q4.out cs1 zs cs2 ?_))
      have hW := setRow_heap _ (w.heap.size + 1) zC C2 80 (0, 0) q4.out
      refine bodyPost_ret (v := .tuple #[.agg C2, .int .i64 0]) (res42 (g := w.heap.size + 1) rfl rfl hW cs1) rfl ?_
      have BS : Below w.heap.size w (w9.setCell ⟨w.heap.size, 1, none⟩ (.int .u64 (IntKind.u64.wrap (S.pc + 4)))) := B9.out.setCell (p := ⟨w.heap.size, 1, none⟩) (Nat.le_refl _) _
      have BF := below_setRow BS (show w.heap.size ≤ w.heap.size + 1 by omega) C2
      have q := RR.out _ BF (IntKind.u64.wrap (S.pc + 4)) (wrap_range _)
      rw [← HCE.out] at q
      refine ⟨C2, ?_, ?_, BF⟩
      · rw [HE.out]
      · rw [HE.out]; exact q
  by_cases e8 : n = 8
  · subst e8
    clear hle HN0 e1 e2 e3
    have hmk := MKA.out hcl
    obtain ⟨n3, n4, n5, n6⟩ := cls8_not hcl
    obtain ⟨mb1, mb2⟩ := mk_by ⟨nm, r, A, Bn, imm⟩
    have mb1 : (mkDone ⟨nm, r, A, Bn, imm⟩).by_ = byF nm := mb1
    have mb2 : (mkDone ⟨nm, r, A, Bn, imm⟩).num = (withF nm).isSome := mb2
    have HE0 := EX.out.trans (exec_8 (x := ⟨nm, r, A, Bn, imm⟩) hcl)
    rw [mb1, mb2] at HE0
    simp only [List.getD_eq_getElem?_getD] at HE0
    have HE0 := Aside0.mk HE0
    clear mb1 mb2
    have hbv : bytesV nm = (0, 0, false) := by unfold bytesV; rw [if_neg (by omega), if_neg (by omega)]
    rw [hbv]
    have ha : U64 (S.regs[A]?.getD 0) := by have := RU.out A; rwa [List.getD_eq_getElem?_getD] at this
    have hb : U64 (S.regs[Bn]?.getD 0) := by have := RU.out Bn; rwa [List.getD_eq_getElem?_getD] at this
    have hgo : goV nm (S.regs[A]?.getD 0) (S.regs[Bn]?.getD 0) = 2 := by unfold goV; rw [if_neg (by omega)]
    have GC := Aside0.mk (fun w9 => burinref28_Go.calls nm (S.regs[A]?.getD 0) (S.regs[Bn]?.getD 0) 2 w9 (by rw [go_f nm ha hb, hgo]))
    obtain ⟨sm, hsm⟩ : ∃ sm, (withF nm).isSome = sm := ⟨_, rfl⟩
    have NC := Aside0.mk (fun w9 => burinref28_number.calls nm sm w9 (by rw [number_nm, hsm]))
    rw [hsm] at HE0
    have MK := Aside0.mk hmk
    have UA := Aside0.mk ha
    have UB := Aside0.mk hb
    clear hbv ha hb hcl hgo hsm hmk
    have m0 := blk_cell g6' 0
    have z6 := blk_lt g6'
    clear kA kB k0 k1
    go_wp2_with fail
    refine (GC.out _).mono ?_
    rintro e w9 ⟨rfl, hd9⟩
    have g3q := blk_below g3' hd9.below
    have g4q := blk_below g4' hd9.below
    have g6q := blk_below g6' hd9.below
    have B9 := Aside0.mk (B5.out.trans ((B8.out.trans (hd9.below.mono B8.out.size)).mono B5.out.size))
    clear m0 z6 g3' g4' g6' g3 g4 hd9
    have m0 := blk_cell g6q 0
    have m1 := blk_cell g6q 1
    have z6 := blk_lt g6q
    clear m1
    go_wp2_with fail
    refine (NC.out _).mono ?_
    rintro e w9' ⟨rfl, hd9⟩
    have g3q := blk_below g3q hd9.below
    have g4q := blk_below g4q hd9.below
    have g6q := blk_below g6q hd9.below
    have B9 := Aside0.mk (B9.out.trans (hd9.below.mono B9.out.size))
    clear hd9 m0 z6
    cases sm
    · skip
      obtain ⟨V, hV⟩ : ∃ V, reckF (byF nm) (S.regs[A]?.getD 0) (S.regs[Bn]?.getD 0) = V := ⟨_, rfl⟩
      have MC := Aside0.mk (fun w9 => MK.out (S.regs[A]?.getD 0) (S.regs[Bn]?.getD 0) UA.out UB.out w9)
      have HE := Aside0.mk (show stepF S = ((S.put r V).at_ (IntKind.u64.wrap (S.pc + 4)), 0) by rw [HE0.out, ← hV]; rfl)
      rw [hV] at MC
      clear hV
      go_wp2_with fail
      obtain ⟨NX, hNX⟩ : ∃ NX, IntKind.u64.wrap (S.pc + 4) = NX := ⟨_, rfl⟩
      obtain ⟨cs1, cs2⟩ := CS.out r V NX
      have PP := Aside0.mk (fun w9 => PC.out w9 r r32 V NX)
      obtain ⟨C2, hC2⟩ : ∃ C2, stC mv NX (putV S.regs r V) = C2 := ⟨_, rfl⟩
      rw [hC2] at cs1 cs2 PP
      rw [hNX] at HE ⊢
      have UX := Aside0.mk (show U64 NX by rw [← hNX]; exact wrap_range _)
      have HC2 := Aside0.mk hC2
      clear hC2 hNX
      have G3 := Aside0.mk g3q
      have G4 := Aside0.mk g4q
      have G6 := Aside0.mk g6q
      clear g3q g4q g6q
      refine wp_region_grow2 [144, 145, 146, 147, 148, 149, 150, 151, 152, 153] (fun j v w1 => match j with
        | 0 => v = .agg c
        | 1 => v = .pointer (some ⟨w4.heap.size, 1, none⟩)
        | 2 => v = .int .i64 r
        | 3 => v = .pointer (some ⟨w4.heap.size, 0, none⟩)
        | 4 => v = .string nm
        | 5 => v = .int .u64 (S.regs[A]?.getD 0)
        | 6 => v = .int .u64 (S.regs[Bn]?.getD 0)
        | 7 => v = .int .u64 V
        | 8 => v = .int .u64 NX
        | 9 => v = .agg C2
        | _ => True) (by kernel_rfl) (by kernel_rfl) ?_ ?_ ?_
      · intro j v w1 w2 hv hb
        rcases j with _ | _ | _ | _ | _ | _ | _ | _ | _ | _ | j <;> first | exact hv | trivial
      · refine ⟨?_, ?_, ?_, ?_, ?_, ?_, ?_, ?_, ?_, ?_, trivial⟩
        · intro a w5 hB hoth hdep
          exact step_load80 rfl _ rfl w.heap.size c (hoth 1 (by decide)) (blk_below G3.out hB) hs rfl
        all_goals
          intro a w5 hB hoth hdep
          have p6 := blk_below G6.out hB
          have p0 := blk_cell p6 0
          have p1 := blk_cell p6 1
          have z0 := blk_lt p6
          have h6 := hoth 6 (by decide)
          have h8 := hoth 8 (by decide)
          have h9 := hoth 9 (by decide)
          have h11 := hoth 11 (by decide)
          clear hoth hB p6
          simp [bd1, bd2, bd3, bd5] at hdep h6 h8 h9 h11
          simp only [StepTo, Oper.grows]
          go_simp
          all_goals first
            | exact Below.refl _ _
            | exact ⟨Below.refl _ _, PP.out _⟩
            | exact ⟨Below.refl _ _, MC.out _⟩
            | skip
      · intro v w5 hB hV
        have v9 : v 9 = .agg C2 := hV 9 (by decide)
        have g4z := blk_below G4.out hB
        have B10 := Aside0.mk (B9.out.trans (hB.mono B9.out.size))
        clear hV hB
        simp only [fillF, v9, Act.put, List.setIfInBounds_toArray, List.set_cons_zero, List.set_cons_succ, List.length_cons, List.length_nil, Nat.reduceAdd, List.drop_succ_cons, List.drop_zero]
        refine wpList_store80 rfl _ _ rfl (w.heap.size + 1) C2 zC rfl rfl g4z cs1 zs cs2 ?_
        go_wp2_with fail
        have hW := setRow_heap _ (w.heap.size + 1) zC C2 80 (0, 0) g4z
        refine bodyPost_ret (v := .tuple #[.agg C2, .int .i64 0]) (res42 (g := w.heap.size + 1) rfl rfl hW cs1) rfl ?_
        have BF := below_setRow B10.out (show w.heap.size ≤ w.heap.size + 1 by omega) C2
        have q := RP.out _ BF r r32 V NX UX.out
        rw [HC2.out] at q
        refine ⟨C2, ?_, ?_, BF⟩
        · rw [HE.out]
        · rw [HE.out]; exact q
    · skip
      obtain ⟨V, hV⟩ : ∃ V, reckF (byF nm) (S.regs[A]?.getD 0) (IntKind.u64.wrap imm) = V := ⟨_, rfl⟩
      have MC := Aside0.mk (fun w9 => MK.out (S.regs[A]?.getD 0) (IntKind.u64.wrap imm) UA.out (wrap_range _) w9)
      have HE := Aside0.mk (show stepF S = ((S.put r V).at_ (IntKind.u64.wrap (S.pc + 4)), 0) by rw [HE0.out, ← hV]; rfl)
      rw [hV] at MC
      clear hV
      go_wp2_with fail
      obtain ⟨NX, hNX⟩ : ∃ NX, IntKind.u64.wrap (S.pc + 4) = NX := ⟨_, rfl⟩
      obtain ⟨cs1, cs2⟩ := CS.out r V NX
      have PP := Aside0.mk (fun w9 => PC.out w9 r r32 V NX)
      obtain ⟨C2, hC2⟩ : ∃ C2, stC mv NX (putV S.regs r V) = C2 := ⟨_, rfl⟩
      rw [hC2] at cs1 cs2 PP
      rw [hNX] at HE ⊢
      have UX := Aside0.mk (show U64 NX by rw [← hNX]; exact wrap_range _)
      have HC2 := Aside0.mk hC2
      clear hC2 hNX
      have G3 := Aside0.mk g3q
      have G4 := Aside0.mk g4q
      have G6 := Aside0.mk g6q
      clear g3q g4q g6q
      refine wp_region_grow2 [144, 145, 146, 147, 148, 149, 150, 151, 152, 153] (fun j v w1 => match j with
        | 0 => v = .agg c
        | 1 => v = .pointer (some ⟨w4.heap.size, 1, none⟩)
        | 2 => v = .int .i64 r
        | 3 => v = .pointer (some ⟨w4.heap.size, 0, none⟩)
        | 4 => v = .string nm
        | 5 => v = .int .u64 (S.regs[A]?.getD 0)
        | 6 => v = .int .u64 (IntKind.u64.wrap imm)
        | 7 => v = .int .u64 V
        | 8 => v = .int .u64 NX
        | 9 => v = .agg C2
        | _ => True) (by kernel_rfl) (by kernel_rfl) ?_ ?_ ?_
      · intro j v w1 w2 hv hb
        rcases j with _ | _ | _ | _ | _ | _ | _ | _ | _ | _ | j <;> first | exact hv | trivial
      · refine ⟨?_, ?_, ?_, ?_, ?_, ?_, ?_, ?_, ?_, ?_, trivial⟩
        · intro a w5 hB hoth hdep
          exact step_load80 rfl _ rfl w.heap.size c (hoth 1 (by decide)) (blk_below G3.out hB) hs rfl
        all_goals
          intro a w5 hB hoth hdep
          have p6 := blk_below G6.out hB
          have p0 := blk_cell p6 0
          have p1 := blk_cell p6 1
          have z0 := blk_lt p6
          have h6 := hoth 6 (by decide)
          have h8 := hoth 8 (by decide)
          have h9 := hoth 9 (by decide)
          have h11 := hoth 11 (by decide)
          clear hoth hB p6
          simp [bd1, bd2, bd3, bd5] at hdep h6 h8 h9 h11
          simp only [StepTo, Oper.grows]
          go_simp
          all_goals first
            | exact Below.refl _ _
            | exact ⟨Below.refl _ _, PP.out _⟩
            | exact ⟨Below.refl _ _, MC.out _⟩
            | skip
      · intro v w5 hB hV
        have v9 : v 9 = .agg C2 := hV 9 (by decide)
        have g4z := blk_below G4.out hB
        have B10 := Aside0.mk (B9.out.trans (hB.mono B9.out.size))
        clear hV hB
        simp only [fillF, v9, Act.put, List.setIfInBounds_toArray, List.set_cons_zero, List.set_cons_succ, List.length_cons, List.length_nil, Nat.reduceAdd, List.drop_succ_cons, List.drop_zero]
        refine wpList_store80 rfl _ _ rfl (w.heap.size + 1) C2 zC rfl rfl g4z cs1 zs cs2 ?_
        go_wp2_with fail
        have hW := setRow_heap _ (w.heap.size + 1) zC C2 80 (0, 0) g4z
        refine bodyPost_ret (v := .tuple #[.agg C2, .int .i64 0]) (res42 (g := w.heap.size + 1) rfl rfl hW cs1) rfl ?_
        have BF := below_setRow B10.out (show w.heap.size ≤ w.heap.size + 1 by omega) C2
        have q := RP.out _ BF r r32 V NX UX.out
        rw [HC2.out] at q
        refine ⟨C2, ?_, ?_, BF⟩
        · rw [HE.out]
        · rw [HE.out]; exact q
  rcases cls_lit hcl ⟨by omega, by omega⟩ with ⟨_, rfl⟩ | ⟨_, rfl⟩ | ⟨_, rfl⟩ | ⟨_, rfl⟩
  · skip
    have hbv : bytesV (⟨#[108, 117, 105]⟩ : ByteArray) = (0, 0, false) := by kernel_rfl
    rw [hbv]
    clear hbv hcl hle n1 n2 HN0 e1 e2 e3 e8
    have hcl : clsF (⟨#[108, 117, 105]⟩ : ByteArray) = 4 := by kernel_rfl
    have GC := Aside0.mk (fun w9 => burinref28_Go.calls (⟨#[108, 117, 105]⟩ : ByteArray) (S.regs[A]?.getD 0) (S.regs[Bn]?.getD 0) 2 w9 (by kernel_rfl))
    have m0 := blk_cell g6' 0
    have z6 := blk_lt g6'
    clear kA kB k0 k1
    go_wp2_with fail
    refine (GC.out _).mono ?_
    rintro e w9 ⟨rfl, hd9⟩
    have g3q := blk_below g3' hd9.below
    have g4q := blk_below g4' hd9.below
    have g6q := blk_below g6' hd9.below
    have B9 := Aside0.mk (B5.out.trans ((B8.out.trans (hd9.below.mono B8.out.size)).mono B5.out.size))
    clear m0 z6 g3' g4' g6' g3 g4 hd9
    have m0 := blk_cell g6q 0
    have m1 := blk_cell g6q 1
    have z6 := blk_lt g6q
    have HCL := Aside0.mk hcl
    clear hcl
    go_wp2_with (first | (refine wpList_load80 rfl _ rfl w.heap.size c rfl g3q hs ?_))
    refine (PC.out _ r r32 _ _).mono ?_
    rintro e w10 ⟨rfl, hb10⟩
    have g4z := blk_below g4q hb10
    have B10 := Aside0.mk (B9.out.trans (hb10.mono B9.out.size))
    obtain ⟨V, hV⟩ : ∃ V, IntKind.u64.wrap (IntKind.u64.wrap imm * 4096) = V := ⟨_, rfl⟩
    obtain ⟨NX, hNX⟩ : ∃ NX, IntKind.u64.wrap (S.pc + 4) = NX := ⟨_, rfl⟩
    rw [hV, hNX]
    have HE := Aside0.mk (show stepF S = ((S.put r V).at_ NX, 0) by rw [EX.out.trans (exec_4 (x := ⟨(⟨#[108, 117, 105]⟩ : ByteArray), r, A, Bn, imm⟩) HCL.out), ← hV, ← hNX])
    have UX : U64 NX := by rw [← hNX]; exact wrap_range _
    obtain ⟨cs1, cs2⟩ := CS.out r V NX
    obtain ⟨C2, hC2⟩ : ∃ C2, stC mv NX (putV S.regs r V) = C2 := ⟨_, rfl⟩
    rw [hC2] at cs1 cs2 ⊢
    have HC2 := Aside0.mk hC2
    have UX := Aside0.mk UX
    clear hb10 hV hNX m0 m1 z6 hC2 
    go_wp2_with (first | (refine wpList_store80 rfl _ _ rfl (w.heap.size + 1) C2 zC rfl rfl g4z cs1 zs cs2 ?_))
    have hW := setRow_heap _ (w.heap.size + 1) zC C2 80 (0, 0) g4z
    refine bodyPost_ret (v := .tuple #[.agg C2, .int .i64 0]) (res42 (g := w.heap.size + 1) rfl rfl hW cs1) rfl ?_
    have BF := below_setRow B10.out (show w.heap.size ≤ w.heap.size + 1 by omega) C2
    have q := RP.out _ BF r r32 V NX UX.out
    rw [HC2.out] at q
    refine ⟨C2, ?_, ?_, BF⟩
    · rw [HE.out]
    · rw [HE.out]; exact q
  · skip
    have hbv : bytesV (⟨#[97, 117, 105, 112, 99]⟩ : ByteArray) = (0, 0, false) := by kernel_rfl
    rw [hbv]
    clear hbv hcl hle n1 n2 HN0 e1 e2 e3 e8
    have hcl : clsF (⟨#[97, 117, 105, 112, 99]⟩ : ByteArray) = 5 := by kernel_rfl
    have GC := Aside0.mk (fun w9 => burinref28_Go.calls (⟨#[97, 117, 105, 112, 99]⟩ : ByteArray) (S.regs[A]?.getD 0) (S.regs[Bn]?.getD 0) 2 w9 (by kernel_rfl))
    have m0 := blk_cell g6' 0
    have z6 := blk_lt g6'
    clear kA kB k0 k1
    go_wp2_with fail
    refine (GC.out _).mono ?_
    rintro e w9 ⟨rfl, hd9⟩
    have g3q := blk_below g3' hd9.below
    have g4q := blk_below g4' hd9.below
    have g6q := blk_below g6' hd9.below
    have B9 := Aside0.mk (B5.out.trans ((B8.out.trans (hd9.below.mono B8.out.size)).mono B5.out.size))
    clear m0 z6 g3' g4' g6' g3 g4 hd9
    have m0 := blk_cell g6q 0
    have m1 := blk_cell g6q 1
    have z6 := blk_lt g6q
    have k1 := (blk_cell g3q 1).trans c1
    have HCL := Aside0.mk hcl
    clear hcl
    go_wp2_with (first | (refine wpList_load80 rfl _ rfl w.heap.size c rfl g3q hs ?_))
    refine (PC.out _ r r32 _ _).mono ?_
    rintro e w10 ⟨rfl, hb10⟩
    have g4z := blk_below g4q hb10
    have B10 := Aside0.mk (B9.out.trans (hb10.mono B9.out.size))
    obtain ⟨V, hV⟩ : ∃ V, IntKind.u64.wrap (S.pc + IntKind.u64.wrap (IntKind.u64.wrap imm * 4096)) = V := ⟨_, rfl⟩
    obtain ⟨NX, hNX⟩ : ∃ NX, IntKind.u64.wrap (S.pc + 4) = NX := ⟨_, rfl⟩
    rw [hV, hNX]
    have HE := Aside0.mk (show stepF S = ((S.put r V).at_ NX, 0) by rw [EX.out.trans (exec_5 (x := ⟨(⟨#[97, 117, 105, 112, 99]⟩ : ByteArray), r, A, Bn, imm⟩) HCL.out), ← hV, ← hNX])
    have UX : U64 NX := by rw [← hNX]; exact wrap_range _
    obtain ⟨cs1, cs2⟩ := CS.out r V NX
    obtain ⟨C2, hC2⟩ : ∃ C2, stC mv NX (putV S.regs r V) = C2 := ⟨_, rfl⟩
    rw [hC2] at cs1 cs2 ⊢
    have HC2 := Aside0.mk hC2
    have UX := Aside0.mk UX
    clear hb10 hV hNX m0 m1 z6 hC2 k1
    go_wp2_with (first | (refine wpList_store80 rfl _ _ rfl (w.heap.size + 1) C2 zC rfl rfl g4z cs1 zs cs2 ?_))
    have hW := setRow_heap _ (w.heap.size + 1) zC C2 80 (0, 0) g4z
    refine bodyPost_ret (v := .tuple #[.agg C2, .int .i64 0]) (res42 (g := w.heap.size + 1) rfl rfl hW cs1) rfl ?_
    have BF := below_setRow B10.out (show w.heap.size ≤ w.heap.size + 1 by omega) C2
    have q := RP.out _ BF r r32 V NX UX.out
    rw [HC2.out] at q
    refine ⟨C2, ?_, ?_, BF⟩
    · rw [HE.out]
    · rw [HE.out]; exact q
  · skip
    have hbv : bytesV (⟨#[106, 97, 108]⟩ : ByteArray) = (0, 0, false) := by kernel_rfl
    rw [hbv]
    clear hbv hcl hle n1 n2 HN0 e1 e2 e3 e8
    have hcl : clsF (⟨#[106, 97, 108]⟩ : ByteArray) = 6 := by kernel_rfl
    have GC := Aside0.mk (fun w9 => burinref28_Go.calls (⟨#[106, 97, 108]⟩ : ByteArray) (S.regs[A]?.getD 0) (S.regs[Bn]?.getD 0) 2 w9 (by kernel_rfl))
    have m0 := blk_cell g6' 0
    have z6 := blk_lt g6'
    clear kA kB k0 k1
    go_wp2_with fail
    refine (GC.out _).mono ?_
    rintro e w9 ⟨rfl, hd9⟩
    have g3q := blk_below g3' hd9.below
    have g4q := blk_below g4' hd9.below
    have g6q := blk_below g6' hd9.below
    have B9 := Aside0.mk (B5.out.trans ((B8.out.trans (hd9.below.mono B8.out.size)).mono B5.out.size))
    clear m0 z6 g3' g4' g6' g3 g4 hd9
    have m0 := blk_cell g6q 0
    have m1 := blk_cell g6q 1
    have z6 := blk_lt g6q
    have k1 := (blk_cell g3q 1).trans c1
    have HCL := Aside0.mk hcl
    clear hcl
    go_wp2_with (first | (refine wpList_load80 rfl _ rfl w.heap.size c rfl g3q hs ?_))
    refine (PC.out _ r r32 _ _).mono ?_
    rintro e w10 ⟨rfl, hb10⟩
    have g4z := blk_below g4q hb10
    have B10 := Aside0.mk (B9.out.trans (hb10.mono B9.out.size))
    obtain ⟨V, hV⟩ : ∃ V, IntKind.u64.wrap (S.pc + 4) = V := ⟨_, rfl⟩
    obtain ⟨NX, hNX⟩ : ∃ NX, IntKind.u64.wrap (S.pc + IntKind.u64.wrap imm) = NX := ⟨_, rfl⟩
    rw [hV, hNX]
    have HE := Aside0.mk (show stepF S = ((S.put r V).at_ NX, 0) by rw [EX.out.trans (exec_6 (x := ⟨(⟨#[106, 97, 108]⟩ : ByteArray), r, A, Bn, imm⟩) HCL.out), ← hV, ← hNX])
    have UX : U64 NX := by rw [← hNX]; exact wrap_range _
    obtain ⟨cs1, cs2⟩ := CS.out r V NX
    obtain ⟨C2, hC2⟩ : ∃ C2, stC mv NX (putV S.regs r V) = C2 := ⟨_, rfl⟩
    rw [hC2] at cs1 cs2 ⊢
    have HC2 := Aside0.mk hC2
    have UX := Aside0.mk UX
    clear hb10 hV hNX m0 m1 z6 hC2 k1
    go_wp2_with (first | (refine wpList_store80 rfl _ _ rfl (w.heap.size + 1) C2 zC rfl rfl g4z cs1 zs cs2 ?_))
    have hW := setRow_heap _ (w.heap.size + 1) zC C2 80 (0, 0) g4z
    refine bodyPost_ret (v := .tuple #[.agg C2, .int .i64 0]) (res42 (g := w.heap.size + 1) rfl rfl hW cs1) rfl ?_
    have BF := below_setRow B10.out (show w.heap.size ≤ w.heap.size + 1 by omega) C2
    have q := RP.out _ BF r r32 V NX UX.out
    rw [HC2.out] at q
    refine ⟨C2, ?_, ?_, BF⟩
    · rw [HE.out]
    · rw [HE.out]; exact q
  · skip
    have hbv : bytesV (⟨#[106, 97, 108, 114]⟩ : ByteArray) = (0, 0, false) := by kernel_rfl
    rw [hbv]
    clear hbv hcl hle n1 n2 HN0 e1 e2 e3 e8
    have hcl : clsF (⟨#[106, 97, 108, 114]⟩ : ByteArray) = 7 := by kernel_rfl
    have GC := Aside0.mk (fun w9 => burinref28_Go.calls (⟨#[106, 97, 108, 114]⟩ : ByteArray) (S.regs[A]?.getD 0) (S.regs[Bn]?.getD 0) 2 w9 (by kernel_rfl))
    have m0 := blk_cell g6' 0
    have z6 := blk_lt g6'
    clear kA kB k0 k1
    go_wp2_with fail
    refine (GC.out _).mono ?_
    rintro e w9 ⟨rfl, hd9⟩
    have g3q := blk_below g3' hd9.below
    have g4q := blk_below g4' hd9.below
    have g6q := blk_below g6' hd9.below
    have B9 := Aside0.mk (B5.out.trans ((B8.out.trans (hd9.below.mono B8.out.size)).mono B5.out.size))
    clear m0 z6 g3' g4' g6' g3 g4 hd9
    have m0 := blk_cell g6q 0
    have m1 := blk_cell g6q 1
    have z6 := blk_lt g6q
    have HCL := Aside0.mk hcl
    clear hcl
    go_wp2_with (first | (refine wpList_load80 rfl _ rfl w.heap.size c rfl g3q hs ?_))
    refine (PC.out _ r r32 _ _).mono ?_
    rintro e w10 ⟨rfl, hb10⟩
    have g4z := blk_below g4q hb10
    have B10 := Aside0.mk (B9.out.trans (hb10.mono B9.out.size))
    obtain ⟨V, hV⟩ : ∃ V, IntKind.u64.wrap (S.pc + 4) = V := ⟨_, rfl⟩
    obtain ⟨NX, hNX⟩ : ∃ NX, IntKind.u64.wrap (IntKind.u64.wrap (S.regs[A]?.getD 0 + IntKind.u64.wrap imm) - (IntKind.u64.wrap (S.regs[A]?.getD 0 + IntKind.u64.wrap imm)).tmod 2) = NX := ⟨_, rfl⟩
    rw [hV, hNX]
    have HE := Aside0.mk (show stepF S = ((S.put r V).at_ NX, 0) by rw [EX.out.trans (exec_7 (x := ⟨(⟨#[106, 97, 108, 114]⟩ : ByteArray), r, A, Bn, imm⟩) HCL.out), ← hV, ← hNX]; simp only [List.getD_eq_getElem?_getD]; rw [clear_low (wrap_range _)])
    have UX : U64 NX := by rw [← hNX]; exact wrap_range _
    obtain ⟨cs1, cs2⟩ := CS.out r V NX
    obtain ⟨C2, hC2⟩ : ∃ C2, stC mv NX (putV S.regs r V) = C2 := ⟨_, rfl⟩
    rw [hC2] at cs1 cs2 ⊢
    have HC2 := Aside0.mk hC2
    have UX := Aside0.mk UX
    clear hb10 hV hNX m0 m1 z6 hC2 
    go_wp2_with (first | (refine wpList_store80 rfl _ _ rfl (w.heap.size + 1) C2 zC rfl rfl g4z cs1 zs cs2 ?_))
    have hW := setRow_heap _ (w.heap.size + 1) zC C2 80 (0, 0) g4z
    refine bodyPost_ret (v := .tuple #[.agg C2, .int .i64 0]) (res42 (g := w.heap.size + 1) rfl rfl hW cs1) rfl ?_
    have BF := below_setRow B10.out (show w.heap.size ≤ w.heap.size + 1 by omega) C2
    have q := RP.out _ BF r r32 V NX UX.out
    rw [HC2.out] at q
    refine ⟨C2, ?_, ?_, BF⟩
    · rw [HE.out]
    · rw [HE.out]; exact q
end Go.Proofs.Ytciehejifdbpoaa.Hl
end
section
set_option linter.unusedSimpArgs false
set_option linter.unusedVariables false
namespace Go.Proofs.Ytciehejifdbpoaa.Hl
open Go.RowKit Go.Maps Go.Proofs.Ytciehejifdbpoaa.Grow Go.Proofs.Ytciehejifdbpoaa.Rv Go.Proofs.Ytciehejifdbpoaa.As Go.Proofs.Ytciehejifdbpoaa.Ht Go.Proofs.Ytciehejifdbpoaa.PHartQuotients Go.Proofs.Ytciehejifdbpoaa.PHartSteps
open Go.Proofs.YtciehejifdbpoaaW.PrintWords Go.Proofs.YtciehejifdbpoaaW.PrintLast Go.Proofs.YtciehejifdbpoaaW.PrintMore

/-! ### A step of the document's machine is a step of the machine -/
theorem stepP_same {w : World} {c : Array Value} {S : HartS} {x : Int} (h : RefIs w c S) (hs : stepF S = (S, x)) {e : Ending} {w' : World} (he : e = .returned (.tuple #[.agg c, .int .i64 x]) ∧ Below w.heap.size w w') : StepP w S e w' := by
  refine ⟨c, ?_, ?_, he.2⟩
  · rw [hs]; exact he.1
  · rw [hs]; exact h.below he.2
theorem step_ref {w : World} {c : Array Value} {S : HartS} (h : RefIs w c S) (hG : GoodH S) : Calls Try.prog 42 #[.agg c] w (StepP w S) := by
  by_cases he : (fetchF S.mem S.pc).2 = 0
  · by_cases hd : (decF (fetchF S.mem S.pc).1).2 = 0
    · have hso := step_of he hd
      by_cases n0 : clsF (decF (fetchF S.mem S.pc).1).1.name = 0
      · exact (step_sys h hG.mem hG.bytes he hd n0).mono fun _ _ q => stepP_same h (hso.trans (exec_0 n0)) q
      · exact step_more h hG he hd n0
    · have hs : stepF S = (S, 260) := by
        have hx : nextF S = (done0, 260) := by unfold nextF doneF; rw [if_pos he, if_neg hd]
        unfold stepF
        rw [hx, if_neg (by decide)]
      exact (step_dec h hG.mem hG.bytes he hd).mono fun _ _ q => stepP_same h hs q
  · have hs : stepF S = (S, 270) := by
      have hx := nextF_err rfl he
      unfold stepF
      rw [hx, if_neg he, (fetch_code S.mem S.pc).resolve_left he]
    exact (step_err h he).mono fun _ _ q => stepP_same h hs q

/-! ### The two machines lie apart -/
theorem hf_not {w : World} {p n k : Nat} {B : HB} {S : HartS} {c : Array Value} {T : TypeId} (h : HartIs w p B n S) (hk : w.heap[k]? = some (.cells c T (0, 0))) (h1 : T ≠ 146) (h2 : T ≠ 169) (h3 : T ≠ 5) : ¬ HF p B k := by
  rintro (rfl | rfl | rfl | hm)
  · have := h.head
    rw [hk] at this
    simp only [Option.some.injEq, Obj.cells.injEq] at this
    exact h1 this.2.1
  · obtain ⟨f, hs, _⟩ := h.seen
    obtain ⟨es, c, sb⟩ := hs.block
    rw [hk] at sb; simp at sb
  · obtain ⟨cap, m1⟩ := h.mem.head
    rw [hk] at m1
    simp only [Option.some.injEq, Obj.cells.injEq] at m1
    exact h2 m1.2.1
  · obtain ⟨j, hj, rfl⟩ := List.getElem_of_mem hm
    have m1 := h.mem.bytes j (by rw [← h.mem.len]; exact hj) hj
    rw [hk] at m1
    simp only [Option.some.injEq, Obj.cells.injEq] at m1
    exact h3 m1.2.1
theorem ref_keep {w w' : World} {mv : Value} {d0 d1 : ByteArray} (h : RefRow w mv d0 d1) {p n : Nat} {B : HB} {S : HartS} (hH : HartIs w p B n S) (hk : Keep (HF p B) w w') : RefRow w' mv d0 d1 := by
  obtain ⟨hl, ⟨_, h0⟩ | ⟨g, cap, cur, rfl, hb, hh, hc, hm, hs, ht⟩⟩ := h
  · omega
  · exact ⟨hl, .inr ⟨g, cap, cur, rfl, hb, (hk.block _ (blk_lt hh) (hf_not hH hh (by decide) (by decide) (by decide))).trans hh, hc, hm, hs, ht⟩⟩
theorem RefIs.keep {w w' : World} {c : Array Value} {S S2 : HartS} (h : RefIs w c S) {p n : Nat} {B : HB} (hH : HartIs w p B n S2) (hk : Keep (HF p B) w w') : RefIs w' c S := by
  obtain ⟨mv, d0, d1, e, hr, hm⟩ := h.ex
  exact ⟨⟨mv, d0, d1, e, ref_keep hr hH hk, hm⟩, h.len, h.pc⟩
theorem str_dataB (s : ByteArray) : strOf (dataB s) = s := by
  have h := strOf_data (dataB s)
  have e : (dataB s).map (fun n => UInt8.ofNat n.toNat) = s.data.toList := by
    unfold dataB
    rw [List.map_map]
    conv => rhs; rw [← List.map_id s.data.toList]
    apply List.map_congr_left
    intro b _
    simp
  rw [e] at h
  generalize strOf (dataB s) = t at h
  cases t; cases s
  exact congrArg ByteArray.mk (Array.toList_inj.1 h)
end Go.Proofs.Ytciehejifdbpoaa.Hl
end
