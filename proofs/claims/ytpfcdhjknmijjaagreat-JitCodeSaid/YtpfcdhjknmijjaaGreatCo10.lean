import Derived.Test.YtpfcdhjknmijjaaGreatCo8
import Derived.Test.YtpfcdhjknmijjaaGreatCo9
section
/- What the print of the kit gave for HartQuotients (its third text), one line mended. -/
namespace Go.Proofs.YtpfcdhjknmijjaaGreat.PHartQuotients
open Go.RowKit Go.Proofs.YtpfcdhjknmijjaaGreatW.PrintWords Go.Proofs.YtpfcdhjknmijjaaGreatW.PrintLast Go.Proofs.YtpfcdhjknmijjaaGreatW.PrintMore
attribute [local go_sem] max2_int min2_int max_two min_two max_three min_three max_four min_four   -- for this text's walks alone
set_option linter.unusedVariables false
set_option linter.unusedSimpArgs false

theorem shr_u32_wrap (a b : Int) : IntKind.u64.wrap (shr .u32 (a % 4294967296) b) = shr .u32 (a % 4294967296) b := by
  have h0 : 0 ≤ a % 4294967296 := by omega
  have hp : (0 : Int) < 2 ^ (min b.toNat 32) := Int.pow_pos (by decide)
  have h1 : 0 ≤ a % 4294967296 / 2 ^ (min b.toNat 32) := Int.ediv_nonneg h0 (by omega)
  have h2 : a % 4294967296 / 2 ^ (min b.toNat 32) ≤ a % 4294967296 := Int.ediv_le_self _ h0
  show IntKind.u64.wrap (a % 4294967296 / 2 ^ (min b.toNat 32)) = a % 4294967296 / 2 ^ (min b.toNat 32)
  rw [IntKind.wrap_u64]
  omega
/-! ### hart_bit: function 126 -/
def hart_bit.f (a0 : Bool) : Option (Int) := if a0 = true then (some 1) else (some 0)
set_option maxHeartbeats 8000000 in
set_option maxRecDepth 100000 in
theorem hart_bit.calls (a0 : Bool) (r : Int) (w : World) (h : hart_bit.f a0 = some r) :
    Calls Tryz.prog 192 #[.bool a0] w fun e w' => e = .returned (.int .u64 r) ∧ Drawn0 w w' := by
  have H : (if a0 = true then (some 1) else (some 0)) = some r := h
  clear h
  by_cases c2 : a0 = true
  · subst c2
    have H1 : (some 1) = some r := by rw [if_pos rfl] at H; exact H
    clear H
    have H := H1
    clear H1
    obtain rfl := Option.some.inj H
    go_enter Tryz.func192, Tryz.ntmps192
    go_wp2
    go_ret
    exact ⟨by first | rfl | (simp; done) | (simp [*]; done), by repeat (first | exact Drawn0.refl _ | apply Drawn0.step)⟩
  · replace c2 := Bool.eq_false_iff.mpr c2
    subst c2
    have H1 : (some 0) = some r := by rw [if_neg (show ¬ (false = true) by decide)] at H; exact H
    clear H
    have H := H1
    clear H1
    obtain rfl := Option.some.inj H
    go_enter Tryz.func192, Tryz.ntmps192
    go_wp2
    go_ret
    exact ⟨by first | rfl | (simp; done) | (simp [*]; done), by repeat (first | exact Drawn0.refl _ | apply Drawn0.step)⟩

/-! ### bits_Mul64: function 130 -/
def bits_Mul64.f (a0 : Int) (a1 : Int) : Option (Int × Int) := some (IntKind.u64.wrap ((IntKind.u64.wrap ((IntKind.u64.wrap ((a0 / 4294967296) * (a1 / 4294967296))) + ((IntKind.u64.wrap ((IntKind.u64.wrap ((a0 / 4294967296) * (Go.bits .and .u64 a1 4294967295))) + ((IntKind.u64.wrap ((Go.bits .and .u64 a0 4294967295) * (Go.bits .and .u64 a1 4294967295))) / 4294967296))) / 4294967296))) + ((IntKind.u64.wrap ((Go.bits .and .u64 (IntKind.u64.wrap ((IntKind.u64.wrap ((a0 / 4294967296) * (Go.bits .and .u64 a1 4294967295))) + ((IntKind.u64.wrap ((Go.bits .and .u64 a0 4294967295) * (Go.bits .and .u64 a1 4294967295))) / 4294967296))) 4294967295) + (IntKind.u64.wrap ((Go.bits .and .u64 a0 4294967295) * (a1 / 4294967296))))) / 4294967296)), IntKind.u64.wrap (a0 * a1))
set_option maxHeartbeats 8000000 in
set_option maxRecDepth 100000 in
theorem bits_Mul64.calls (a0 : Int) (a1 : Int) (r1 : Int) (r2 : Int) (w : World) (h : bits_Mul64.f a0 a1 = some (r1, r2)) :
    Calls Tryz.prog 171 #[.int .u64 a0, .int .u64 a1] w fun e w' => e = .returned (.tuple #[.int .u64 r1, .int .u64 r2]) ∧ Drawn0 w w' := by
  have H : (some (IntKind.u64.wrap ((IntKind.u64.wrap ((IntKind.u64.wrap ((a0 / 4294967296) * (a1 / 4294967296))) + ((IntKind.u64.wrap ((IntKind.u64.wrap ((a0 / 4294967296) * (Go.bits .and .u64 a1 4294967295))) + ((IntKind.u64.wrap ((Go.bits .and .u64 a0 4294967295) * (Go.bits .and .u64 a1 4294967295))) / 4294967296))) / 4294967296))) + ((IntKind.u64.wrap ((Go.bits .and .u64 (IntKind.u64.wrap ((IntKind.u64.wrap ((a0 / 4294967296) * (Go.bits .and .u64 a1 4294967295))) + ((IntKind.u64.wrap ((Go.bits .and .u64 a0 4294967295) * (Go.bits .and .u64 a1 4294967295))) / 4294967296))) 4294967295) + (IntKind.u64.wrap ((Go.bits .and .u64 a0 4294967295) * (a1 / 4294967296))))) / 4294967296)), IntKind.u64.wrap (a0 * a1))) = some (r1, r2) := h
  clear h
  simp only [Option.some.injEq, Prod.mk.injEq] at H
  obtain ⟨rfl, rfl⟩ := H
  go_enter Tryz.func171, Tryz.ntmps171
  go_wp2
  go_ret2
  exact ⟨by first | rfl | (simp; done) | (simp [*]; done), by repeat (first | exact Drawn0.refl _ | apply Drawn0.step)⟩

/-! ### hart_upper: function 127 -/
def hart_upper.f (a0 : ByteArray) (a1 : Int) (a2 : Int) : Option (Int) := (bits_Mul64.f a1 a2).bind fun bt126 => (if a0.toList = ([109, 117, 108, 104] : List UInt8) then (if (wrap64 (a2)) < 0 then (if (wrap64 (a1)) < 0 then (some (IntKind.u64.wrap ((IntKind.u64.wrap (bt126.1 - a1)) - a2))) else (some (IntKind.u64.wrap (bt126.1 - a1)))) else (if (wrap64 (a1)) < 0 then (some (IntKind.u64.wrap (bt126.1 - a2))) else (some bt126.1))) else (if a0.toList = ([109, 117, 108, 104, 115, 117] : List UInt8) then (if (wrap64 (a1)) < 0 then (some (IntKind.u64.wrap (bt126.1 - a2))) else (some bt126.1)) else (some bt126.1)))
set_option maxHeartbeats 8000000 in
set_option maxRecDepth 100000 in
theorem hart_upper.calls (a0 : ByteArray) (a1 : Int) (a2 : Int) (r : Int) (w : World) (h : hart_upper.f a0 a1 a2 = some r) :
    Calls Tryz.prog 193 #[.string a0, .int .u64 a1, .int .u64 a2] w fun e w' => e = .returned (.int .u64 r) ∧ Drawn0 w w' := by
  have H : ((bits_Mul64.f a1 a2).bind fun bt126 => (if a0.toList = ([109, 117, 108, 104] : List UInt8) then (if (wrap64 (a2)) < 0 then (if (wrap64 (a1)) < 0 then (some (IntKind.u64.wrap ((IntKind.u64.wrap (bt126.1 - a1)) - a2))) else (some (IntKind.u64.wrap (bt126.1 - a1)))) else (if (wrap64 (a1)) < 0 then (some (IntKind.u64.wrap (bt126.1 - a2))) else (some bt126.1))) else (if a0.toList = ([109, 117, 108, 104, 115, 117] : List UInt8) then (if (wrap64 (a1)) < 0 then (some (IntKind.u64.wrap (bt126.1 - a2))) else (some bt126.1)) else (some bt126.1)))) = some r := h
  clear h
  replace H := Option.bind_eq_some_iff.mp H
  obtain ⟨⟨t126, t127⟩, A40, H⟩ := H
  replace H : (if a0.toList = ([109, 117, 108, 104] : List UInt8) then (if (wrap64 (a2)) < 0 then (if (wrap64 (a1)) < 0 then (some (IntKind.u64.wrap ((IntKind.u64.wrap (t126 - a1)) - a2))) else (some (IntKind.u64.wrap (t126 - a1)))) else (if (wrap64 (a1)) < 0 then (some (IntKind.u64.wrap (t126 - a2))) else (some t126))) else (if a0.toList = ([109, 117, 108, 104, 115, 117] : List UInt8) then (if (wrap64 (a1)) < 0 then (some (IntKind.u64.wrap (t126 - a2))) else (some t126)) else (some t126))) = some r := H
  have A4 := Aside0.mk A40
  clear A40
  by_cases c5 : a0.toList = ([109, 117, 108, 104] : List UInt8)
  · rw [if_pos c5] at H
    have c5b0 : (a0.toList == ([109, 117, 108, 104] : List UInt8)) = true := beq_iff_eq.mpr c5
    have c5b1 : (a0.toList != ([109, 117, 108, 104] : List UInt8)) = false := bne_eq_false_iff_eq.mpr c5
    clear c5
    by_cases c6 : (wrap64 (a2)) < 0
    · rw [if_pos c6] at H
      have c6b0 : decide ((wrap64 (a2)) < 0) = true := decide_eq_true c6
      clear c6
      by_cases c7 : (wrap64 (a1)) < 0
      · rw [if_pos c7] at H
        have c7b0 : decide ((wrap64 (a1)) < 0) = true := decide_eq_true c7
        clear c7
        obtain rfl := Option.some.inj H
        go_enter Tryz.func193, Tryz.ntmps193
        go_wp2_with (first | ((with_reducible refine gate_callee (f := 171) rfl ?_); refine goesL_ (some 12) rfl rfl Tryz.func171 (by kernel_rfl) rfl #[.int .u64 a1, .int .u64 a2] rfl (by (try simp only [List.map_toArray, List.map_cons, List.map_nil]); first | done | rfl | (simp only [List.length_drop, List.length_take]; rfl)) ?_; (with_reducible refine (bits_Mul64.calls a1 a2 t126 t127 _ A4.out).mono ?_); rintro e w' ⟨rfl, ⟨nd, rfl⟩⟩; refine ⟨_, rfl, ?_⟩))
        go_ret
        exact ⟨by first | rfl | (simp; done) | (simp [*]; done), by repeat (first | exact Drawn0.refl _ | apply Drawn0.step)⟩
      · rw [if_neg c7] at H
        have c7b0 : decide ((wrap64 (a1)) < 0) = false := decide_eq_false c7
        clear c7
        obtain rfl := Option.some.inj H
        go_enter Tryz.func193, Tryz.ntmps193
        go_wp2_with (first | ((with_reducible refine gate_callee (f := 171) rfl ?_); refine goesL_ (some 12) rfl rfl Tryz.func171 (by kernel_rfl) rfl #[.int .u64 a1, .int .u64 a2] rfl (by (try simp only [List.map_toArray, List.map_cons, List.map_nil]); first | done | rfl | (simp only [List.length_drop, List.length_take]; rfl)) ?_; (with_reducible refine (bits_Mul64.calls a1 a2 t126 t127 _ A4.out).mono ?_); rintro e w' ⟨rfl, ⟨nd, rfl⟩⟩; refine ⟨_, rfl, ?_⟩))
        go_ret
        exact ⟨by first | rfl | (simp; done) | (simp [*]; done), by repeat (first | exact Drawn0.refl _ | apply Drawn0.step)⟩
    · rw [if_neg c6] at H
      have c6b0 : decide ((wrap64 (a2)) < 0) = false := decide_eq_false c6
      clear c6
      by_cases c8 : (wrap64 (a1)) < 0
      · rw [if_pos c8] at H
        have c8b0 : decide ((wrap64 (a1)) < 0) = true := decide_eq_true c8
        clear c8
        obtain rfl := Option.some.inj H
        go_enter Tryz.func193, Tryz.ntmps193
        go_wp2_with (first | ((with_reducible refine gate_callee (f := 171) rfl ?_); refine goesL_ (some 12) rfl rfl Tryz.func171 (by kernel_rfl) rfl #[.int .u64 a1, .int .u64 a2] rfl (by (try simp only [List.map_toArray, List.map_cons, List.map_nil]); first | done | rfl | (simp only [List.length_drop, List.length_take]; rfl)) ?_; (with_reducible refine (bits_Mul64.calls a1 a2 t126 t127 _ A4.out).mono ?_); rintro e w' ⟨rfl, ⟨nd, rfl⟩⟩; refine ⟨_, rfl, ?_⟩))
        go_ret
        exact ⟨by first | rfl | (simp; done) | (simp [*]; done), by repeat (first | exact Drawn0.refl _ | apply Drawn0.step)⟩
      · rw [if_neg c8] at H
        have c8b0 : decide ((wrap64 (a1)) < 0) = false := decide_eq_false c8
        clear c8
        obtain rfl := Option.some.inj H
        go_enter Tryz.func193, Tryz.ntmps193
        go_wp2_with (first | ((with_reducible refine gate_callee (f := 171) rfl ?_); refine goesL_ (some 12) rfl rfl Tryz.func171 (by kernel_rfl) rfl #[.int .u64 a1, .int .u64 a2] rfl (by (try simp only [List.map_toArray, List.map_cons, List.map_nil]); first | done | rfl | (simp only [List.length_drop, List.length_take]; rfl)) ?_; (with_reducible refine (bits_Mul64.calls a1 a2 t126 t127 _ A4.out).mono ?_); rintro e w' ⟨rfl, ⟨nd, rfl⟩⟩; refine ⟨_, rfl, ?_⟩))
        go_ret
        exact ⟨by first | rfl | (simp; done) | (simp [*]; done), by repeat (first | exact Drawn0.refl _ | apply Drawn0.step)⟩
  · rw [if_neg c5] at H
    have c5b0 : (a0.toList == ([109, 117, 108, 104] : List UInt8)) = false := beq_eq_false_iff_ne.mpr c5
    have c5b1 : (a0.toList != ([109, 117, 108, 104] : List UInt8)) = true := bne_iff_ne.mpr c5
    by_cases c9 : a0.toList = ([109, 117, 108, 104, 115, 117] : List UInt8)
    · rw [if_pos c9] at H
      have c9b0 : (a0.toList == ([109, 117, 108, 104, 115, 117] : List UInt8)) = true := beq_iff_eq.mpr c9
      have c9b1 : (a0.toList != ([109, 117, 108, 104, 115, 117] : List UInt8)) = false := bne_eq_false_iff_eq.mpr c9
      clear c9
      by_cases c10 : (wrap64 (a1)) < 0
      · rw [if_pos c10] at H
        have c10b0 : decide ((wrap64 (a1)) < 0) = true := decide_eq_true c10
        clear c10
        obtain rfl := Option.some.inj H
        go_enter Tryz.func193, Tryz.ntmps193
        go_wp2_with (first | ((with_reducible refine gate_callee (f := 171) rfl ?_); refine goesL_ (some 12) rfl rfl Tryz.func171 (by kernel_rfl) rfl #[.int .u64 a1, .int .u64 a2] rfl (by (try simp only [List.map_toArray, List.map_cons, List.map_nil]); first | done | rfl | (simp only [List.length_drop, List.length_take]; rfl)) ?_; (with_reducible refine (bits_Mul64.calls a1 a2 t126 t127 _ A4.out).mono ?_); rintro e w' ⟨rfl, ⟨nd, rfl⟩⟩; refine ⟨_, rfl, ?_⟩))
        go_ret
        exact ⟨by first | rfl | (simp; done) | (simp [*]; done), by repeat (first | exact Drawn0.refl _ | apply Drawn0.step)⟩
      · rw [if_neg c10] at H
        have c10b0 : decide ((wrap64 (a1)) < 0) = false := decide_eq_false c10
        clear c10
        obtain rfl := Option.some.inj H
        go_enter Tryz.func193, Tryz.ntmps193
        go_wp2_with (first | ((with_reducible refine gate_callee (f := 171) rfl ?_); refine goesL_ (some 12) rfl rfl Tryz.func171 (by kernel_rfl) rfl #[.int .u64 a1, .int .u64 a2] rfl (by (try simp only [List.map_toArray, List.map_cons, List.map_nil]); first | done | rfl | (simp only [List.length_drop, List.length_take]; rfl)) ?_; (with_reducible refine (bits_Mul64.calls a1 a2 t126 t127 _ A4.out).mono ?_); rintro e w' ⟨rfl, ⟨nd, rfl⟩⟩; refine ⟨_, rfl, ?_⟩))
        go_ret
        exact ⟨by first | rfl | (simp; done) | (simp [*]; done), by repeat (first | exact Drawn0.refl _ | apply Drawn0.step)⟩
    · rw [if_neg c9] at H
      have c9b0 : (a0.toList == ([109, 117, 108, 104, 115, 117] : List UInt8)) = false := beq_eq_false_iff_ne.mpr c9
      have c9b1 : (a0.toList != ([109, 117, 108, 104, 115, 117] : List UInt8)) = true := bne_iff_ne.mpr c9
      obtain rfl := Option.some.inj H
      go_enter Tryz.func193, Tryz.ntmps193
      go_wp2_with (first | ((with_reducible refine gate_callee (f := 171) rfl ?_); refine goesL_ (some 12) rfl rfl Tryz.func171 (by kernel_rfl) rfl #[.int .u64 a1, .int .u64 a2] rfl (by (try simp only [List.map_toArray, List.map_cons, List.map_nil]); first | done | rfl | (simp only [List.length_drop, List.length_take]; rfl)) ?_; (with_reducible refine (bits_Mul64.calls a1 a2 t126 t127 _ A4.out).mono ?_); rintro e w' ⟨rfl, ⟨nd, rfl⟩⟩; refine ⟨_, rfl, ?_⟩))
      go_ret
      exact ⟨by first | rfl | (simp; done) | (simp [*]; done), by repeat (first | exact Drawn0.refl _ | apply Drawn0.step)⟩

/-! ### hart_long: function 111 -/
def hart_long.j0 : Nat → ByteArray → Int → Int → Bool → Option (Int)
  | 0, _, _, _, _ => none
  | k + 1, x0, x1, x2, x72 => if x72 = true then ((hart_upper.f x0 x1 x2).bind fun t130 => (some t130)) else ((hart_quotient.f k x0 x1 x2).bind fun t131 => (some t131))
def hart_long.f (k : Nat) (a0 : ByteArray) (a1 : Int) (a2 : Int) : Option (Int) := if a0.toList = ([97, 100, 100] : List UInt8) then (some (IntKind.u64.wrap (a1 + a2))) else (if a0.toList = ([115, 117, 98] : List UInt8) then (some (IntKind.u64.wrap (a1 - a2))) else (if a0.toList = ([115, 108, 108] : List UInt8) then (if 0 ≤ (Go.bits .and .u64 a2 63) then (some (shl .u64 a1 (Go.bits .and .u64 a2 63))) else (none)) else (if a0.toList = ([115, 114, 108] : List UInt8) then (if 0 ≤ (Go.bits .and .u64 a2 63) then (some (shr .u64 a1 (Go.bits .and .u64 a2 63))) else (none)) else (if a0.toList = ([115, 114, 97] : List UInt8) then (if 0 ≤ (Go.bits .and .u64 a2 63) then (some (IntKind.u64.wrap (shr .i64 (wrap64 (a1)) (Go.bits .and .u64 a2 63)))) else (none)) else (if a0.toList = ([115, 108, 116] : List UInt8) then ((hart_bit.f (decide ((wrap64 (a1)) < (wrap64 (a2))))).bind fun t128 => (some t128)) else (if a0.toList = ([115, 108, 116, 117] : List UInt8) then ((hart_bit.f (decide (a1 < a2))).bind fun t129 => (some t129)) else (if a0.toList = ([120, 111, 114] : List UInt8) then (some (Go.bits .xor .u64 a1 a2)) else (if a0.toList = ([111, 114] : List UInt8) then (some (Go.bits .or .u64 a1 a2)) else (if a0.toList = ([97, 110, 100] : List UInt8) then (some (Go.bits .and .u64 a1 a2)) else (if a0.toList = ([109, 117, 108] : List UInt8) then (some (IntKind.u64.wrap (a1 * a2))) else (if a0.toList = ([109, 117, 108, 104, 117] : List UInt8) then (hart_long.j0 k a0 a1 a2 (a0.toList == ([109, 117, 108, 104, 117] : List UInt8))) else (if a0.toList = ([109, 117, 108, 104] : List UInt8) then (hart_long.j0 k a0 a1 a2 (a0.toList == ([109, 117, 108, 104] : List UInt8))) else (hart_long.j0 k a0 a1 a2 (a0.toList == ([109, 117, 108, 104, 115, 117] : List UInt8)))))))))))))))
set_option maxHeartbeats 8000000 in
set_option maxRecDepth 100000 in
theorem hart_long.calls (k : Nat) (a0 : ByteArray) (a1 : Int) (a2 : Int) (r : Int) (w : World) (h : hart_long.f k a0 a1 a2 = some r) :
    Calls Tryz.prog 182 #[.string a0, .int .u64 a1, .int .u64 a2] w fun e w' => e = .returned (.int .u64 r) ∧ Drawn0 w w' := by
  have H : (if a0.toList = ([97, 100, 100] : List UInt8) then (some (IntKind.u64.wrap (a1 + a2))) else (if a0.toList = ([115, 117, 98] : List UInt8) then (some (IntKind.u64.wrap (a1 - a2))) else (if a0.toList = ([115, 108, 108] : List UInt8) then (if 0 ≤ (Go.bits .and .u64 a2 63) then (some (shl .u64 a1 (Go.bits .and .u64 a2 63))) else (none)) else (if a0.toList = ([115, 114, 108] : List UInt8) then (if 0 ≤ (Go.bits .and .u64 a2 63) then (some (shr .u64 a1 (Go.bits .and .u64 a2 63))) else (none)) else (if a0.toList = ([115, 114, 97] : List UInt8) then (if 0 ≤ (Go.bits .and .u64 a2 63) then (some (IntKind.u64.wrap (shr .i64 (wrap64 (a1)) (Go.bits .and .u64 a2 63)))) else (none)) else (if a0.toList = ([115, 108, 116] : List UInt8) then ((hart_bit.f (decide ((wrap64 (a1)) < (wrap64 (a2))))).bind fun t128 => (some t128)) else (if a0.toList = ([115, 108, 116, 117] : List UInt8) then ((hart_bit.f (decide (a1 < a2))).bind fun t129 => (some t129)) else (if a0.toList = ([120, 111, 114] : List UInt8) then (some (Go.bits .xor .u64 a1 a2)) else (if a0.toList = ([111, 114] : List UInt8) then (some (Go.bits .or .u64 a1 a2)) else (if a0.toList = ([97, 110, 100] : List UInt8) then (some (Go.bits .and .u64 a1 a2)) else (if a0.toList = ([109, 117, 108] : List UInt8) then (some (IntKind.u64.wrap (a1 * a2))) else (if a0.toList = ([109, 117, 108, 104, 117] : List UInt8) then (hart_long.j0 k a0 a1 a2 (a0.toList == ([109, 117, 108, 104, 117] : List UInt8))) else (if a0.toList = ([109, 117, 108, 104] : List UInt8) then (hart_long.j0 k a0 a1 a2 (a0.toList == ([109, 117, 108, 104] : List UInt8))) else (hart_long.j0 k a0 a1 a2 (a0.toList == ([109, 117, 108, 104, 115, 117] : List UInt8)))))))))))))))) = some r := h
  clear h
  by_cases c4 : a0.toList = ([97, 100, 100] : List UInt8)
  · rw [if_pos c4] at H
    have c4b0 : (a0.toList == ([97, 100, 100] : List UInt8)) = true := beq_iff_eq.mpr c4
    have c4b1 : (a0.toList != ([97, 100, 100] : List UInt8)) = false := bne_eq_false_iff_eq.mpr c4
    clear c4
    obtain rfl := Option.some.inj H
    go_enter Tryz.func182, Tryz.ntmps182
    go_wp2
    go_ret
    exact ⟨by first | rfl | (simp; done) | (simp [*]; done), by repeat (first | exact Drawn0.refl _ | apply Drawn0.step)⟩
  · rw [if_neg c4] at H
    have c4b0 : (a0.toList == ([97, 100, 100] : List UInt8)) = false := beq_eq_false_iff_ne.mpr c4
    have c4b1 : (a0.toList != ([97, 100, 100] : List UInt8)) = true := bne_iff_ne.mpr c4
    by_cases c5 : a0.toList = ([115, 117, 98] : List UInt8)
    · rw [if_pos c5] at H
      have c5b0 : (a0.toList == ([115, 117, 98] : List UInt8)) = true := beq_iff_eq.mpr c5
      have c5b1 : (a0.toList != ([115, 117, 98] : List UInt8)) = false := bne_eq_false_iff_eq.mpr c5
      clear c5
      obtain rfl := Option.some.inj H
      go_enter Tryz.func182, Tryz.ntmps182
      go_wp2
      go_ret
      exact ⟨by first | rfl | (simp; done) | (simp [*]; done), by repeat (first | exact Drawn0.refl _ | apply Drawn0.step)⟩
    · rw [if_neg c5] at H
      have c5b0 : (a0.toList == ([115, 117, 98] : List UInt8)) = false := beq_eq_false_iff_ne.mpr c5
      have c5b1 : (a0.toList != ([115, 117, 98] : List UInt8)) = true := bne_iff_ne.mpr c5
      by_cases c6 : a0.toList = ([115, 108, 108] : List UInt8)
      · rw [if_pos c6] at H
        have c6b0 : (a0.toList == ([115, 108, 108] : List UInt8)) = true := beq_iff_eq.mpr c6
        have c6b1 : (a0.toList != ([115, 108, 108] : List UInt8)) = false := bne_eq_false_iff_eq.mpr c6
        clear c6
        by_cases c7 : 0 ≤ (Go.bits .and .u64 a2 63)
        · rw [if_pos c7] at H
          have c7b0 := eq_true c7
          have c7b1 : decide (0 ≤ (Go.bits .and .u64 a2 63)) = true := decide_eq_true c7
          clear c7
          obtain ⟨ji8, hji8⟩ : ∃ j_ : Int, (shl .u64 a1 (Go.bits .and .u64 a2 63)) = j_ := ⟨_, rfl⟩
          replace H : (some ji8) = some r := by first | (rw [hji8] at H; exact H) | (simp only [hji8] at H ⊢; exact H)
          have hji8_ : (IntKind.u64.wrap (a1 * 2 ^ min (Go.bits .and .u64 a2 63).toNat 64)) = ji8 := hji8
          have hji8z : (Go.bits .and .u64 a2 63) ≤ 64 → (IntKind.u64.wrap (a1 * 2 ^ (Go.bits .and .u64 a2 63).toNat)) = ji8 := shl_small hji8
          obtain rfl := Option.some.inj H
          go_enter Tryz.func182, Tryz.ntmps182
          go_wp2
          go_ret
          exact ⟨by first | rfl | (simp; done) | (simp only [← hji8] <;> (first | rfl | simp)) | (simp [*]; done), by repeat (first | exact Drawn0.refl _ | apply Drawn0.step)⟩
        · rw [if_neg c7] at H
          exact absurd H (by simp)
      · rw [if_neg c6] at H
        have c6b0 : (a0.toList == ([115, 108, 108] : List UInt8)) = false := beq_eq_false_iff_ne.mpr c6
        have c6b1 : (a0.toList != ([115, 108, 108] : List UInt8)) = true := bne_iff_ne.mpr c6
        by_cases c9 : a0.toList = ([115, 114, 108] : List UInt8)
        · rw [if_pos c9] at H
          have c9b0 : (a0.toList == ([115, 114, 108] : List UInt8)) = true := beq_iff_eq.mpr c9
          have c9b1 : (a0.toList != ([115, 114, 108] : List UInt8)) = false := bne_eq_false_iff_eq.mpr c9
          clear c9
          by_cases c10 : 0 ≤ (Go.bits .and .u64 a2 63)
          · rw [if_pos c10] at H
            have c10b0 := eq_true c10
            have c10b1 : decide (0 ≤ (Go.bits .and .u64 a2 63)) = true := decide_eq_true c10
            clear c10
            obtain ⟨ji11, hji11⟩ : ∃ j_ : Int, (shr .u64 a1 (Go.bits .and .u64 a2 63)) = j_ := ⟨_, rfl⟩
            replace H : (some ji11) = some r := by first | (rw [hji11] at H; exact H) | (simp only [hji11] at H ⊢; exact H)
            have hji11_ : (a1 / 2 ^ min (Go.bits .and .u64 a2 63).toNat 64) = ji11 := hji11
            have hji11z : (Go.bits .and .u64 a2 63) ≤ 64 → (a1 / 2 ^ (Go.bits .and .u64 a2 63).toNat) = ji11 := shr_small hji11
            obtain rfl := Option.some.inj H
            go_enter Tryz.func182, Tryz.ntmps182
            go_wp2
            go_ret
            exact ⟨by first | rfl | (simp; done) | (simp only [← hji11] <;> (first | rfl | simp)) | (simp [*]; done), by repeat (first | exact Drawn0.refl _ | apply Drawn0.step)⟩
          · rw [if_neg c10] at H
            exact absurd H (by simp)
        · rw [if_neg c9] at H
          have c9b0 : (a0.toList == ([115, 114, 108] : List UInt8)) = false := beq_eq_false_iff_ne.mpr c9
          have c9b1 : (a0.toList != ([115, 114, 108] : List UInt8)) = true := bne_iff_ne.mpr c9
          by_cases c12 : a0.toList = ([115, 114, 97] : List UInt8)
          · rw [if_pos c12] at H
            have c12b0 : (a0.toList == ([115, 114, 97] : List UInt8)) = true := beq_iff_eq.mpr c12
            have c12b1 : (a0.toList != ([115, 114, 97] : List UInt8)) = false := bne_eq_false_iff_eq.mpr c12
            clear c12
            by_cases c13 : 0 ≤ (Go.bits .and .u64 a2 63)
            · rw [if_pos c13] at H
              have c13b0 := eq_true c13
              have c13b1 : decide (0 ≤ (Go.bits .and .u64 a2 63)) = true := decide_eq_true c13
              clear c13
              obtain ⟨ji14, hji14⟩ : ∃ j_ : Int, (shr .i64 (wrap64 (a1)) (Go.bits .and .u64 a2 63)) = j_ := ⟨_, rfl⟩
              replace H : (some (IntKind.u64.wrap (ji14))) = some r := by first | (rw [hji14] at H; exact H) | (simp only [hji14] at H ⊢; exact H)
              have hji14_ : ((wrap64 (a1)) / 2 ^ min (Go.bits .and .u64 a2 63).toNat 64) = ji14 := hji14
              have hji14z : (Go.bits .and .u64 a2 63) ≤ 64 → ((wrap64 (a1)) / 2 ^ (Go.bits .and .u64 a2 63).toNat) = ji14 := shr_small hji14
              obtain rfl := Option.some.inj H
              go_enter Tryz.func182, Tryz.ntmps182
              go_wp2
              go_ret
              exact ⟨by first | rfl | (simp; done) | (simp only [← hji14] <;> (first | rfl | simp)) | (simp [*]; done), by repeat (first | exact Drawn0.refl _ | apply Drawn0.step)⟩
            · rw [if_neg c13] at H
              exact absurd H (by simp)
          · rw [if_neg c12] at H
            have c12b0 : (a0.toList == ([115, 114, 97] : List UInt8)) = false := beq_eq_false_iff_ne.mpr c12
            have c12b1 : (a0.toList != ([115, 114, 97] : List UInt8)) = true := bne_iff_ne.mpr c12
            by_cases c15 : a0.toList = ([115, 108, 116] : List UInt8)
            · rw [if_pos c15] at H
              have c15b0 : (a0.toList == ([115, 108, 116] : List UInt8)) = true := beq_iff_eq.mpr c15
              have c15b1 : (a0.toList != ([115, 108, 116] : List UInt8)) = false := bne_eq_false_iff_eq.mpr c15
              clear c15
              replace H := Option.bind_eq_some_iff.mp H
              obtain ⟨t128, A160, H⟩ := H
              replace H : (some t128) = some r := H
              have A16 := Aside0.mk A160
              clear A160
              obtain rfl := Option.some.inj H
              go_enter Tryz.func182, Tryz.ntmps182
              go_wp2_with (first | ((with_reducible refine gate_callee (f := 192) rfl ?_); refine goesL_ (some 45) rfl rfl Tryz.func192 (by kernel_rfl) rfl #[.bool (decide ((wrap64 (a1)) < (wrap64 (a2))))] rfl (by (try simp only [List.map_toArray, List.map_cons, List.map_nil]); first | done | rfl | (simp only [List.length_drop, List.length_take]; rfl)) ?_; (with_reducible refine (hart_bit.calls (decide ((wrap64 (a1)) < (wrap64 (a2)))) t128 _ A16.out).mono ?_); rintro e w' ⟨rfl, ⟨nd, rfl⟩⟩; refine ⟨_, rfl, ?_⟩))
              go_ret
              exact ⟨by first | rfl | (simp; done) | (simp [*]; done), by repeat (first | exact Drawn0.refl _ | apply Drawn0.step)⟩
            · rw [if_neg c15] at H
              have c15b0 : (a0.toList == ([115, 108, 116] : List UInt8)) = false := beq_eq_false_iff_ne.mpr c15
              have c15b1 : (a0.toList != ([115, 108, 116] : List UInt8)) = true := bne_iff_ne.mpr c15
              by_cases c17 : a0.toList = ([115, 108, 116, 117] : List UInt8)
              · rw [if_pos c17] at H
                have c17b0 : (a0.toList == ([115, 108, 116, 117] : List UInt8)) = true := beq_iff_eq.mpr c17
                have c17b1 : (a0.toList != ([115, 108, 116, 117] : List UInt8)) = false := bne_eq_false_iff_eq.mpr c17
                clear c17
                replace H := Option.bind_eq_some_iff.mp H
                obtain ⟨t129, A180, H⟩ := H
                replace H : (some t129) = some r := H
                have A18 := Aside0.mk A180
                clear A180
                obtain rfl := Option.some.inj H
                go_enter Tryz.func182, Tryz.ntmps182
                go_wp2_with (first | ((with_reducible refine gate_callee (f := 192) rfl ?_); refine goesL_ (some 51) rfl rfl Tryz.func192 (by kernel_rfl) rfl #[.bool (decide (a1 < a2))] rfl (by (try simp only [List.map_toArray, List.map_cons, List.map_nil]); first | done | rfl | (simp only [List.length_drop, List.length_take]; rfl)) ?_; (with_reducible refine (hart_bit.calls (decide (a1 < a2)) t129 _ A18.out).mono ?_); rintro e w' ⟨rfl, ⟨nd, rfl⟩⟩; refine ⟨_, rfl, ?_⟩))
                go_ret
                exact ⟨by first | rfl | (simp; done) | (simp [*]; done), by repeat (first | exact Drawn0.refl _ | apply Drawn0.step)⟩
              · rw [if_neg c17] at H
                have c17b0 : (a0.toList == ([115, 108, 116, 117] : List UInt8)) = false := beq_eq_false_iff_ne.mpr c17
                have c17b1 : (a0.toList != ([115, 108, 116, 117] : List UInt8)) = true := bne_iff_ne.mpr c17
                by_cases c19 : a0.toList = ([120, 111, 114] : List UInt8)
                · rw [if_pos c19] at H
                  have c19b0 : (a0.toList == ([120, 111, 114] : List UInt8)) = true := beq_iff_eq.mpr c19
                  have c19b1 : (a0.toList != ([120, 111, 114] : List UInt8)) = false := bne_eq_false_iff_eq.mpr c19
                  clear c19
                  obtain rfl := Option.some.inj H
                  go_enter Tryz.func182, Tryz.ntmps182
                  go_wp2
                  go_ret
                  exact ⟨by first | rfl | (simp; done) | (simp [*]; done), by repeat (first | exact Drawn0.refl _ | apply Drawn0.step)⟩
                · rw [if_neg c19] at H
                  have c19b0 : (a0.toList == ([120, 111, 114] : List UInt8)) = false := beq_eq_false_iff_ne.mpr c19
                  have c19b1 : (a0.toList != ([120, 111, 114] : List UInt8)) = true := bne_iff_ne.mpr c19
                  by_cases c20 : a0.toList = ([111, 114] : List UInt8)
                  · rw [if_pos c20] at H
                    have c20b0 : (a0.toList == ([111, 114] : List UInt8)) = true := beq_iff_eq.mpr c20
                    have c20b1 : (a0.toList != ([111, 114] : List UInt8)) = false := bne_eq_false_iff_eq.mpr c20
                    clear c20
                    obtain rfl := Option.some.inj H
                    go_enter Tryz.func182, Tryz.ntmps182
                    go_wp2
                    go_ret
                    exact ⟨by first | rfl | (simp; done) | (simp [*]; done), by repeat (first | exact Drawn0.refl _ | apply Drawn0.step)⟩
                  · rw [if_neg c20] at H
                    have c20b0 : (a0.toList == ([111, 114] : List UInt8)) = false := beq_eq_false_iff_ne.mpr c20
                    have c20b1 : (a0.toList != ([111, 114] : List UInt8)) = true := bne_iff_ne.mpr c20
                    by_cases c21 : a0.toList = ([97, 110, 100] : List UInt8)
                    · rw [if_pos c21] at H
                      have c21b0 : (a0.toList == ([97, 110, 100] : List UInt8)) = true := beq_iff_eq.mpr c21
                      have c21b1 : (a0.toList != ([97, 110, 100] : List UInt8)) = false := bne_eq_false_iff_eq.mpr c21
                      clear c21
                      obtain rfl := Option.some.inj H
                      go_enter Tryz.func182, Tryz.ntmps182
                      go_wp2
                      go_ret
                      exact ⟨by first | rfl | (simp; done) | (simp [*]; done), by repeat (first | exact Drawn0.refl _ | apply Drawn0.step)⟩
                    · rw [if_neg c21] at H
                      have c21b0 : (a0.toList == ([97, 110, 100] : List UInt8)) = false := beq_eq_false_iff_ne.mpr c21
                      have c21b1 : (a0.toList != ([97, 110, 100] : List UInt8)) = true := bne_iff_ne.mpr c21
                      by_cases c22 : a0.toList = ([109, 117, 108] : List UInt8)
                      · rw [if_pos c22] at H
                        have c22b0 : (a0.toList == ([109, 117, 108] : List UInt8)) = true := beq_iff_eq.mpr c22
                        have c22b1 : (a0.toList != ([109, 117, 108] : List UInt8)) = false := bne_eq_false_iff_eq.mpr c22
                        clear c22
                        obtain rfl := Option.some.inj H
                        go_enter Tryz.func182, Tryz.ntmps182
                        go_wp2
                        go_ret
                        exact ⟨by first | rfl | (simp; done) | (simp [*]; done), by repeat (first | exact Drawn0.refl _ | apply Drawn0.step)⟩
                      · rw [if_neg c22] at H
                        have c22b0 : (a0.toList == ([109, 117, 108] : List UInt8)) = false := beq_eq_false_iff_ne.mpr c22
                        have c22b1 : (a0.toList != ([109, 117, 108] : List UInt8)) = true := bne_iff_ne.mpr c22
                        have HC23 := Aside0.mk H
                        clear H
                        go_enter Tryz.func182, Tryz.ntmps182
                        go_upto_if 72 with (fail)
                        go_cut [72] (fun v72 wc => ∃ (kq : Nat) (x72_22 : Bool), v72 = .bool x72_22 ∧ Aside0 (hart_long.j0 kq a0 a1 a2 x72_22 = some r) ∧ Aside0 (kq ≤ k) ∧ Drawn0 w wc)
                        case first =>
                          have H := HC23.out
                          clear HC23
                          by_cases c24 : a0.toList = ([109, 117, 108, 104, 117] : List UInt8)
                          · rw [if_pos c24] at H
                            have c24b0 : (a0.toList == ([109, 117, 108, 104, 117] : List UInt8)) = true := beq_iff_eq.mpr c24
                            have c24b1 : (a0.toList != ([109, 117, 108, 104, 117] : List UInt8)) = false := bne_eq_false_iff_eq.mpr c24
                            clear c24
                            (first | rw [c24b0] | (simp only [i64_w, i32_w]; rw [c24b0]) | skip)
                            have H' := Aside0.mk H
                            clear H
                            go_wp2
                            go_meet
                            case rel => exact ⟨_, ((a0.toList == ([109, 117, 108, 104, 117] : List UInt8))), (by first | rfl | (simp; done) | (simp [*]; done)), H', ⟨by first | omega | exact Nat.le_refl _⟩, by repeat (first | exact Drawn0.refl _ | apply Drawn0.step)⟩
                          · rw [if_neg c24] at H
                            have c24b0 : (a0.toList == ([109, 117, 108, 104, 117] : List UInt8)) = false := beq_eq_false_iff_ne.mpr c24
                            have c24b1 : (a0.toList != ([109, 117, 108, 104, 117] : List UInt8)) = true := bne_iff_ne.mpr c24
                            (first | rw [c24b0] | (simp only [i64_w, i32_w]; rw [c24b0]) | skip)
                            by_cases c25 : a0.toList = ([109, 117, 108, 104] : List UInt8)
                            · rw [if_pos c25] at H
                              have c25b0 : (a0.toList == ([109, 117, 108, 104] : List UInt8)) = true := beq_iff_eq.mpr c25
                              have c25b1 : (a0.toList != ([109, 117, 108, 104] : List UInt8)) = false := bne_eq_false_iff_eq.mpr c25
                              clear c25
                              have H' := Aside0.mk H
                              clear H
                              go_wp2
                              go_meet
                              case rel => exact ⟨_, ((a0.toList == ([109, 117, 108, 104] : List UInt8))), (by first | rfl | (simp; done) | (simp [*]; done)), H', ⟨by first | omega | exact Nat.le_refl _⟩, by repeat (first | exact Drawn0.refl _ | apply Drawn0.step)⟩
                            · rw [if_neg c25] at H
                              have c25b0 : (a0.toList == ([109, 117, 108, 104] : List UInt8)) = false := beq_eq_false_iff_ne.mpr c25
                              have c25b1 : (a0.toList != ([109, 117, 108, 104] : List UInt8)) = true := bne_iff_ne.mpr c25
                              have H' := Aside0.mk H
                              clear H
                              go_wp2
                              go_meet
                              case rel => exact ⟨_, ((a0.toList == ([109, 117, 108, 104, 115, 117] : List UInt8))), (by first | rfl | (simp; done) | (simp [*]; done)), H', ⟨by first | omega | exact Nat.le_refl _⟩, by repeat (first | exact Drawn0.refl _ | apply Drawn0.step)⟩
                        case rest =>
                          clear HC23
                          try clear c1
                          try clear c2
                          try clear p2
                          try clear c4
                          try clear c4b0
                          try clear c4b1
                          try clear c5
                          try clear c5b0
                          try clear c5b1
                          try clear c6
                          try clear c6b0
                          try clear c6b1
                          try clear p6
                          try clear c7
                          try clear c7b0
                          try clear c7b1
                          try clear c9
                          try clear c9b0
                          try clear c9b1
                          try clear c10
                          try clear c10b0
                          try clear c10b1
                          try clear c11
                          try clear c12
                          try clear c12b0
                          try clear c12b1
                          try clear c13
                          try clear c13b0
                          try clear c13b1
                          try clear c15
                          try clear c15b0
                          try clear c15b1
                          try clear c17
                          try clear c17b0
                          try clear c17b1
                          try clear c19
                          try clear c19b0
                          try clear c19b1
                          try clear c20
                          try clear c20b0
                          try clear c20b1
                          try clear c21
                          try clear c21b0
                          try clear c21b1
                          try clear c22
                          try clear c22b0
                          try clear c22b1
                          try clear c24
                          try clear c24b0
                          try clear c24b1
                          try clear c25
                          try clear c25b0
                          try clear c25b1
                          obtain ⟨kq, x72_22, rfl, HA, HJ22, ⟨mc22, rfl⟩⟩ := hcut
                          cases kq with
                          | zero => exact absurd HA.out (by simp [hart_long.j0])
                          | succ kj22 =>
                            have H := HA.out
                            clear HA
                            simp only [hart_long.j0] at H
                            by_cases c26 : x72_22 = true
                            · subst c26
                              have H1 : ((hart_upper.f a0 a1 a2).bind fun t130 => (some t130)) = some r := by rw [if_pos rfl] at H; exact H
                              clear H
                              have H := H1
                              clear H1
                              replace H := Option.bind_eq_some_iff.mp H
                              obtain ⟨t130, A270, H⟩ := H
                              replace H : (some t130) = some r := H
                              have A27 := Aside0.mk A270
                              clear A270
                              obtain rfl := Option.some.inj H
                              go_wp2_with (first | ((with_reducible refine gate_callee (f := 193) rfl ?_); refine goesL_ (some 79) rfl rfl Tryz.func193 (by kernel_rfl) rfl #[.string a0, .int .u64 a1, .int .u64 a2] rfl (by (try simp only [List.map_toArray, List.map_cons, List.map_nil]); first | done | rfl | (simp only [List.length_drop, List.length_take]; rfl)) ?_; (with_reducible refine (hart_upper.calls a0 a1 a2 t130 _ A27.out).mono ?_); rintro e w' ⟨rfl, ⟨nd, rfl⟩⟩; refine ⟨_, rfl, ?_⟩))
                              go_ret
                              exact ⟨by first | rfl | (simp; done) | (simp [*]; done), by repeat (first | exact Drawn0.refl _ | apply Drawn0.step)⟩
                            · replace c26 := Bool.eq_false_iff.mpr c26
                              subst c26
                              have H1 : ((hart_quotient.f kj22 a0 a1 a2).bind fun t131 => (some t131)) = some r := by rw [if_neg (show ¬ (false = true) by decide)] at H; exact H
                              clear H
                              have H := H1
                              clear H1
                              replace H := Option.bind_eq_some_iff.mp H
                              obtain ⟨t131, A280, H⟩ := H
                              replace H : (some t131) = some r := H
                              have A28 := Aside0.mk A280
                              clear A280
                              obtain rfl := Option.some.inj H
                              go_wp2_with (first | ((with_reducible refine gate_callee (f := 191) rfl ?_); refine goesL_ (some 83) rfl rfl Tryz.func191 (by kernel_rfl) rfl #[.string a0, .int .u64 a1, .int .u64 a2] rfl (by (try simp only [List.map_toArray, List.map_cons, List.map_nil]); first | done | rfl | (simp only [List.length_drop, List.length_take]; rfl)) ?_; (with_reducible refine (hart_quotient.calls kj22 a0 a1 a2 t131 _ A28.out).mono ?_); rintro e w' ⟨rfl, ⟨nd, rfl⟩⟩; refine ⟨_, rfl, ?_⟩))
                              go_ret
                              exact ⟨by first | rfl | (simp; done) | (simp [*]; done), by repeat (first | exact Drawn0.refl _ | apply Drawn0.step)⟩

/-! ### hart_word: function 110 -/
mutual
def hart_word.j0 : Nat → ByteArray → Int → Int → ByteArray → Bool → Option (Int)
  | 0, _, _, _, _, _ => none
  | k + 1, x0, x1, x2, x7, x30 => if x30 = true then ((hart_extend.f x1 32).bind fun t132 => ((hart_extend.f x2 32).bind fun t133 => ((hart_quotient.f k x0 t132 t133).bind fun t134 => (some t134)))) else (if x7.toList = ([100, 105, 118, 117] : List UInt8) then (hart_word.j1 k x0 x1 x2 (x7.toList == ([100, 105, 118, 117] : List UInt8))) else (hart_word.j1 k x0 x1 x2 (x7.toList == ([114, 101, 109, 117] : List UInt8))))
def hart_word.j1 : Nat → ByteArray → Int → Int → Bool → Option (Int)
  | 0, _, _, _, _ => none
  | k + 1, x0, x1, x2, x39 => if x39 = true then ((hart_quotient.f k x0 (Go.bits .and .u64 x1 4294967295) (Go.bits .and .u64 x2 4294967295)).bind fun t135 => (some t135)) else ((hart_long.f k x0 x1 x2).bind fun t136 => (some t136))
end
def hart_word.f (k : Nat) (a0 : ByteArray) (a1 : Int) (a2 : Int) : Option (Int) := if a0.toList = ([115, 108, 108] : List UInt8) then (if 0 ≤ (Go.bits .and .u64 a2 31) then (some (shl .u64 a1 (Go.bits .and .u64 a2 31))) else (none)) else (if a0.toList = ([115, 114, 108] : List UInt8) then (if 0 ≤ (Go.bits .and .u64 a2 31) then (some (shr .u32 ((a1) % 4294967296) (Go.bits .and .u64 a2 31))) else (none)) else (if a0.toList = ([115, 114, 97] : List UInt8) then (if 0 ≤ (Go.bits .and .u64 a2 31) then (some (IntKind.u64.wrap (shr .i32 (wrap32 (a1)) (Go.bits .and .u64 a2 31)))) else (none)) else (if a0.toList = ([100, 105, 118] : List UInt8) then (hart_word.j0 k a0 a1 a2 a0 (a0.toList == ([100, 105, 118] : List UInt8))) else (hart_word.j0 k a0 a1 a2 a0 (a0.toList == ([114, 101, 109] : List UInt8))))))
set_option maxHeartbeats 8000000 in
set_option maxRecDepth 100000 in
theorem hart_word.calls (k : Nat) (a0 : ByteArray) (a1 : Int) (a2 : Int) (r : Int) (w : World) (h : hart_word.f k a0 a1 a2 = some r) :
    Calls Tryz.prog 181 #[.string a0, .int .u64 a1, .int .u64 a2] w fun e w' => e = .returned (.int .u64 r) ∧ Drawn0 w w' := by
  have H : (if a0.toList = ([115, 108, 108] : List UInt8) then (if 0 ≤ (Go.bits .and .u64 a2 31) then (some (shl .u64 a1 (Go.bits .and .u64 a2 31))) else (none)) else (if a0.toList = ([115, 114, 108] : List UInt8) then (if 0 ≤ (Go.bits .and .u64 a2 31) then (some (shr .u32 ((a1) % 4294967296) (Go.bits .and .u64 a2 31))) else (none)) else (if a0.toList = ([115, 114, 97] : List UInt8) then (if 0 ≤ (Go.bits .and .u64 a2 31) then (some (IntKind.u64.wrap (shr .i32 (wrap32 (a1)) (Go.bits .and .u64 a2 31)))) else (none)) else (if a0.toList = ([100, 105, 118] : List UInt8) then (hart_word.j0 k a0 a1 a2 a0 (a0.toList == ([100, 105, 118] : List UInt8))) else (hart_word.j0 k a0 a1 a2 a0 (a0.toList == ([114, 101, 109] : List UInt8))))))) = some r := h
  clear h
  by_cases c4 : a0.toList = ([115, 108, 108] : List UInt8)
  · rw [if_pos c4] at H
    have c4b0 : (a0.toList == ([115, 108, 108] : List UInt8)) = true := beq_iff_eq.mpr c4
    have c4b1 : (a0.toList != ([115, 108, 108] : List UInt8)) = false := bne_eq_false_iff_eq.mpr c4
    clear c4
    by_cases c5 : 0 ≤ (Go.bits .and .u64 a2 31)
    · rw [if_pos c5] at H
      have c5b0 := eq_true c5
      have c5b1 : decide (0 ≤ (Go.bits .and .u64 a2 31)) = true := decide_eq_true c5
      clear c5
      obtain ⟨ji6, hji6⟩ : ∃ j_ : Int, (shl .u64 a1 (Go.bits .and .u64 a2 31)) = j_ := ⟨_, rfl⟩
      replace H : (some ji6) = some r := by first | (rw [hji6] at H; exact H) | (simp only [hji6] at H ⊢; exact H)
      have hji6_ : (IntKind.u64.wrap (a1 * 2 ^ min (Go.bits .and .u64 a2 31).toNat 64)) = ji6 := hji6
      have hji6z : (Go.bits .and .u64 a2 31) ≤ 64 → (IntKind.u64.wrap (a1 * 2 ^ (Go.bits .and .u64 a2 31).toNat)) = ji6 := shl_small hji6
      obtain rfl := Option.some.inj H
      go_enter Tryz.func181, Tryz.ntmps181
      go_wp2
      go_ret
      exact ⟨by first | rfl | (simp; done) | (simp only [← hji6] <;> (first | rfl | simp)) | (simp [*]; done), by repeat (first | exact Drawn0.refl _ | apply Drawn0.step)⟩
    · rw [if_neg c5] at H
      exact absurd H (by simp)
  · rw [if_neg c4] at H
    have c4b0 : (a0.toList == ([115, 108, 108] : List UInt8)) = false := beq_eq_false_iff_ne.mpr c4
    have c4b1 : (a0.toList != ([115, 108, 108] : List UInt8)) = true := bne_iff_ne.mpr c4
    by_cases c7 : a0.toList = ([115, 114, 108] : List UInt8)
    · rw [if_pos c7] at H
      have c7b0 : (a0.toList == ([115, 114, 108] : List UInt8)) = true := beq_iff_eq.mpr c7
      have c7b1 : (a0.toList != ([115, 114, 108] : List UInt8)) = false := bne_eq_false_iff_eq.mpr c7
      clear c7
      by_cases c8 : 0 ≤ (Go.bits .and .u64 a2 31)
      · rw [if_pos c8] at H
        have c8b0 := eq_true c8
        have c8b1 : decide (0 ≤ (Go.bits .and .u64 a2 31)) = true := decide_eq_true c8
        clear c8
        obtain ⟨ji9, hji9⟩ : ∃ j_ : Int, (shr .u32 ((a1) % 4294967296) (Go.bits .and .u64 a2 31)) = j_ := ⟨_, rfl⟩
        replace H : (some ji9) = some r := by first | (rw [hji9] at H; exact H) | (simp only [hji9] at H ⊢; exact H)
        have hji9_ : (((a1) % 4294967296) / 2 ^ min (Go.bits .and .u64 a2 31).toNat 32) = ji9 := hji9
        have hji9z : (Go.bits .and .u64 a2 31) ≤ 32 → (((a1) % 4294967296) / 2 ^ (Go.bits .and .u64 a2 31).toNat) = ji9 := shr_small hji9
        obtain rfl := Option.some.inj H
        go_enter Tryz.func181, Tryz.ntmps181
        go_wp2
        go_ret
        exact ⟨by first | (simp only [← hji9]; exact congrArg (fun z => Ending.returned (.int .u64 z)) (shr_u32_wrap _ _)) | (simp [← hji9, shr_u32_wrap]; done), by repeat (first | exact Drawn0.refl _ | apply Drawn0.step)⟩
      · rw [if_neg c8] at H
        exact absurd H (by simp)
    · rw [if_neg c7] at H
      have c7b0 : (a0.toList == ([115, 114, 108] : List UInt8)) = false := beq_eq_false_iff_ne.mpr c7
      have c7b1 : (a0.toList != ([115, 114, 108] : List UInt8)) = true := bne_iff_ne.mpr c7
      by_cases c10 : a0.toList = ([115, 114, 97] : List UInt8)
      · rw [if_pos c10] at H
        have c10b0 : (a0.toList == ([115, 114, 97] : List UInt8)) = true := beq_iff_eq.mpr c10
        have c10b1 : (a0.toList != ([115, 114, 97] : List UInt8)) = false := bne_eq_false_iff_eq.mpr c10
        clear c10
        by_cases c11 : 0 ≤ (Go.bits .and .u64 a2 31)
        · rw [if_pos c11] at H
          have c11b0 := eq_true c11
          have c11b1 : decide (0 ≤ (Go.bits .and .u64 a2 31)) = true := decide_eq_true c11
          clear c11
          obtain ⟨ji12, hji12⟩ : ∃ j_ : Int, (shr .i32 (wrap32 (a1)) (Go.bits .and .u64 a2 31)) = j_ := ⟨_, rfl⟩
          replace H : (some (IntKind.u64.wrap (ji12))) = some r := by first | (rw [hji12] at H; exact H) | (simp only [hji12] at H ⊢; exact H)
          have hji12_ : ((wrap32 (a1)) / 2 ^ min (Go.bits .and .u64 a2 31).toNat 32) = ji12 := hji12
          have hji12z : (Go.bits .and .u64 a2 31) ≤ 32 → ((wrap32 (a1)) / 2 ^ (Go.bits .and .u64 a2 31).toNat) = ji12 := shr_small hji12
          obtain rfl := Option.some.inj H
          go_enter Tryz.func181, Tryz.ntmps181
          go_wp2
          go_ret
          exact ⟨by first | rfl | (simp; done) | (simp only [← hji12] <;> (first | rfl | simp)) | (simp [*]; done), by repeat (first | exact Drawn0.refl _ | apply Drawn0.step)⟩
        · rw [if_neg c11] at H
          exact absurd H (by simp)
      · rw [if_neg c10] at H
        have c10b0 : (a0.toList == ([115, 114, 97] : List UInt8)) = false := beq_eq_false_iff_ne.mpr c10
        have c10b1 : (a0.toList != ([115, 114, 97] : List UInt8)) = true := bne_iff_ne.mpr c10
        have HC13 := Aside0.mk H
        clear H
        go_enter Tryz.func181, Tryz.ntmps181
        go_upto_if 30 with (fail)
        go_cut [30] (fun v30 wc => ∃ (kq : Nat) (x30_12 : Bool), v30 = .bool x30_12 ∧ Aside0 (hart_word.j0 kq a0 a1 a2 a0 x30_12 = some r) ∧ Aside0 (kq ≤ k) ∧ Drawn0 w wc)
        case first =>
          have H := HC13.out
          clear HC13
          by_cases c14 : a0.toList = ([100, 105, 118] : List UInt8)
          · rw [if_pos c14] at H
            have c14b0 : (a0.toList == ([100, 105, 118] : List UInt8)) = true := beq_iff_eq.mpr c14
            have c14b1 : (a0.toList != ([100, 105, 118] : List UInt8)) = false := bne_eq_false_iff_eq.mpr c14
            clear c14
            (first | rw [c14b0] | (simp only [i64_w, i32_w]; rw [c14b0]) | skip)
            have H' := Aside0.mk H
            clear H
            go_wp2
            go_meet
            case rel => exact ⟨_, ((a0.toList == ([100, 105, 118] : List UInt8))), (by first | rfl | (simp; done) | (simp [*]; done)), H', ⟨by first | omega | exact Nat.le_refl _⟩, by repeat (first | exact Drawn0.refl _ | apply Drawn0.step)⟩
          · rw [if_neg c14] at H
            have c14b0 : (a0.toList == ([100, 105, 118] : List UInt8)) = false := beq_eq_false_iff_ne.mpr c14
            have c14b1 : (a0.toList != ([100, 105, 118] : List UInt8)) = true := bne_iff_ne.mpr c14
            (first | rw [c14b0] | (simp only [i64_w, i32_w]; rw [c14b0]) | skip)
            have H' := Aside0.mk H
            clear H
            go_wp2
            go_meet
            case rel => exact ⟨_, ((a0.toList == ([114, 101, 109] : List UInt8))), (by first | rfl | (simp; done) | (simp [*]; done)), H', ⟨by first | omega | exact Nat.le_refl _⟩, by repeat (first | exact Drawn0.refl _ | apply Drawn0.step)⟩
        case rest =>
          clear HC13
          try clear c1
          try clear p2
          try clear p3
          try clear c4
          try clear c4b0
          try clear c4b1
          try clear c5
          try clear c5b0
          try clear c5b1
          try clear c7
          try clear c7b0
          try clear c7b1
          try clear c8
          try clear c8b0
          try clear c8b1
          try clear c10
          try clear c10b0
          try clear c10b1
          try clear c11
          try clear c11b0
          try clear c11b1
          try clear c14
          try clear c14b0
          try clear c14b1
          obtain ⟨kq, x30_12, rfl, HA, HJ12, ⟨mc12, rfl⟩⟩ := hcut
          cases kq with
          | zero => exact absurd HA.out (by simp [hart_word.j0])
          | succ kj12 =>
            have H := HA.out
            clear HA
            simp only [hart_word.j0] at H
            by_cases c15 : x30_12 = true
            · subst c15
              have H1 : ((hart_extend.f a1 32).bind fun t132 => ((hart_extend.f a2 32).bind fun t133 => ((hart_quotient.f kj12 a0 t132 t133).bind fun t134 => (some t134)))) = some r := by rw [if_pos rfl] at H; exact H
              clear H
              have H := H1
              clear H1
              replace H := Option.bind_eq_some_iff.mp H
              obtain ⟨t132, A160, H⟩ := H
              replace H : ((hart_extend.f a2 32).bind fun t133 => ((hart_quotient.f kj12 a0 t132 t133).bind fun t134 => (some t134))) = some r := H
              have A16 := Aside0.mk A160
              clear A160
              replace H := Option.bind_eq_some_iff.mp H
              obtain ⟨t133, A170, H⟩ := H
              replace H : ((hart_quotient.f kj12 a0 t132 t133).bind fun t134 => (some t134)) = some r := H
              have A17 := Aside0.mk A170
              clear A170
              replace H := Option.bind_eq_some_iff.mp H
              obtain ⟨t134, A180, H⟩ := H
              replace H : (some t134) = some r := H
              have A18 := Aside0.mk A180
              clear A180
              obtain rfl := Option.some.inj H
              go_wp2_with (first | ((with_reducible refine gate_callee (f := 150) rfl ?_); refine goesL_ (some 35) rfl rfl Tryz.func150 (by kernel_rfl) rfl #[.int .u64 a1, .int .i64 32] rfl (by (try simp only [List.map_toArray, List.map_cons, List.map_nil]); first | done | rfl | (simp only [List.length_drop, List.length_take]; rfl)) ?_; (with_reducible refine (hart_extend.calls a1 32 t132 _ A16.out).mono ?_); rintro e w' ⟨rfl, ⟨nd, rfl⟩⟩; refine ⟨_, rfl, ?_⟩) | ((with_reducible refine gate_callee (f := 150) rfl ?_); refine goesL_ (some 37) rfl rfl Tryz.func150 (by kernel_rfl) rfl #[.int .u64 a2, .int .i64 32] rfl (by (try simp only [List.map_toArray, List.map_cons, List.map_nil]); first | done | rfl | (simp only [List.length_drop, List.length_take]; rfl)) ?_; (with_reducible refine (hart_extend.calls a2 32 t133 _ A17.out).mono ?_); rintro e w' ⟨rfl, ⟨nd, rfl⟩⟩; refine ⟨_, rfl, ?_⟩) | ((with_reducible refine gate_callee (f := 191) rfl ?_); refine goesL_ (some 38) rfl rfl Tryz.func191 (by kernel_rfl) rfl #[.string a0, .int .u64 t132, .int .u64 t133] rfl (by (try simp only [List.map_toArray, List.map_cons, List.map_nil]); first | done | rfl | (simp only [List.length_drop, List.length_take]; rfl)) ?_; (with_reducible refine (hart_quotient.calls kj12 a0 t132 t133 t134 _ A18.out).mono ?_); rintro e w' ⟨rfl, ⟨nd, rfl⟩⟩; refine ⟨_, rfl, ?_⟩))
              go_ret
              exact ⟨by first | rfl | (simp; done) | (simp [*]; done), by repeat (first | exact Drawn0.refl _ | apply Drawn0.step)⟩
            · replace c15 := Bool.eq_false_iff.mpr c15
              subst c15
              have H1 : (if a0.toList = ([100, 105, 118, 117] : List UInt8) then (hart_word.j1 kj12 a0 a1 a2 (a0.toList == ([100, 105, 118, 117] : List UInt8))) else (hart_word.j1 kj12 a0 a1 a2 (a0.toList == ([114, 101, 109, 117] : List UInt8)))) = some r := by rw [if_neg (show ¬ (false = true) by decide)] at H; exact H
              clear H
              have H := H1
              clear H1
              have HC19 := Aside0.mk H
              clear H
              go_upto_if 39 with (fail)
              go_cut [39] (fun v39 wc => ∃ (kq : Nat) (x39_18 : Bool), v39 = .bool x39_18 ∧ Aside0 (hart_word.j1 kq a0 a1 a2 x39_18 = some r) ∧ Aside0 (kq ≤ kj12) ∧ Drawn0 w wc)
              case first =>
                have H := HC19.out
                clear HC19
                by_cases c20 : a0.toList = ([100, 105, 118, 117] : List UInt8)
                · rw [if_pos c20] at H
                  have c20b0 : (a0.toList == ([100, 105, 118, 117] : List UInt8)) = true := beq_iff_eq.mpr c20
                  have c20b1 : (a0.toList != ([100, 105, 118, 117] : List UInt8)) = false := bne_eq_false_iff_eq.mpr c20
                  clear c20
                  (first | rw [c20b0] | (simp only [i64_w, i32_w]; rw [c20b0]) | skip)
                  have H' := Aside0.mk H
                  clear H
                  go_wp2
                  go_meet
                  case rel => exact ⟨_, ((a0.toList == ([100, 105, 118, 117] : List UInt8))), (by first | rfl | (simp; done) | (simp [*]; done)), H', ⟨by have := HJ12.out; first | omega | exact Nat.le_refl _⟩, by repeat (first | exact Drawn0.refl _ | apply Drawn0.step)⟩
                · rw [if_neg c20] at H
                  have c20b0 : (a0.toList == ([100, 105, 118, 117] : List UInt8)) = false := beq_eq_false_iff_ne.mpr c20
                  have c20b1 : (a0.toList != ([100, 105, 118, 117] : List UInt8)) = true := bne_iff_ne.mpr c20
                  (first | rw [c20b0] | (simp only [i64_w, i32_w]; rw [c20b0]) | skip)
                  have H' := Aside0.mk H
                  clear H
                  go_wp2
                  go_meet
                  case rel => exact ⟨_, ((a0.toList == ([114, 101, 109, 117] : List UInt8))), (by first | rfl | (simp; done) | (simp [*]; done)), H', ⟨by have := HJ12.out; first | omega | exact Nat.le_refl _⟩, by repeat (first | exact Drawn0.refl _ | apply Drawn0.step)⟩
              case rest =>
                clear HC19
                try clear c1
                try clear c2
                try clear p2
                try clear p3
                try clear c4
                try clear c4b0
                try clear c4b1
                try clear c5
                try clear c5b0
                try clear c5b1
                try clear c7
                try clear c7b0
                try clear c7b1
                try clear c8
                try clear c8b0
                try clear c8b1
                try clear c10
                try clear c10b0
                try clear c10b1
                try clear c11
                try clear c11b0
                try clear c11b1
                try clear c12
                try clear c14
                try clear c14b0
                try clear c14b1
                try clear c15
                try clear c20
                try clear c20b0
                try clear c20b1
                try clear p2
                try clear p3
                obtain ⟨kq, x39_18, rfl, HA, HJ18, ⟨mc18, rfl⟩⟩ := hcut
                cases kq with
                | zero => exact absurd HA.out (by simp [hart_word.j1])
                | succ kj18 =>
                  have H := HA.out
                  clear HA
                  simp only [hart_word.j1] at H
                  by_cases c21 : x39_18 = true
                  · subst c21
                    have H1 : ((hart_quotient.f kj18 a0 (Go.bits .and .u64 a1 4294967295) (Go.bits .and .u64 a2 4294967295)).bind fun t135 => (some t135)) = some r := by rw [if_pos rfl] at H; exact H
                    clear H
                    have H := H1
                    clear H1
                    replace H := Option.bind_eq_some_iff.mp H
                    obtain ⟨t135, A220, H⟩ := H
                    replace H : (some t135) = some r := H
                    have A22 := Aside0.mk A220
                    clear A220
                    obtain rfl := Option.some.inj H
                    go_wp2_with (first | ((with_reducible refine gate_callee (f := 191) rfl ?_); refine goesL_ (some 47) rfl rfl Tryz.func191 (by kernel_rfl) rfl #[.string a0, .int .u64 (Go.bits .and .u64 a1 4294967295), .int .u64 (Go.bits .and .u64 a2 4294967295)] rfl (by (try simp only [List.map_toArray, List.map_cons, List.map_nil]); first | done | rfl | (simp only [List.length_drop, List.length_take]; rfl)) ?_; (with_reducible refine (hart_quotient.calls kj18 a0 (Go.bits .and .u64 a1 4294967295) (Go.bits .and .u64 a2 4294967295) t135 _ A22.out).mono ?_); rintro e w' ⟨rfl, ⟨nd, rfl⟩⟩; refine ⟨_, rfl, ?_⟩))
                    go_ret
                    exact ⟨by first | rfl | (simp; done) | (simp [*]; done), by repeat (first | exact Drawn0.refl _ | apply Drawn0.step)⟩
                  · replace c21 := Bool.eq_false_iff.mpr c21
                    subst c21
                    have H1 : ((hart_long.f kj18 a0 a1 a2).bind fun t136 => (some t136)) = some r := by rw [if_neg (show ¬ (false = true) by decide)] at H; exact H
                    clear H
                    have H := H1
                    clear H1
                    replace H := Option.bind_eq_some_iff.mp H
                    obtain ⟨t136, A230, H⟩ := H
                    replace H : (some t136) = some r := H
                    have A23 := Aside0.mk A230
                    clear A230
                    obtain rfl := Option.some.inj H
                    go_wp2_with (first | ((with_reducible refine gate_callee (f := 182) rfl ?_); refine goesL_ (some 51) rfl rfl Tryz.func182 (by kernel_rfl) rfl #[.string a0, .int .u64 a1, .int .u64 a2] rfl (by (try simp only [List.map_toArray, List.map_cons, List.map_nil]); first | done | rfl | (simp only [List.length_drop, List.length_take]; rfl)) ?_; (with_reducible refine (hart_long.calls kj18 a0 a1 a2 t136 _ A23.out).mono ?_); rintro e w' ⟨rfl, ⟨nd, rfl⟩⟩; refine ⟨_, rfl, ?_⟩))
                    go_ret
                    exact ⟨by first | rfl | (simp; done) | (simp [*]; done), by repeat (first | exact Drawn0.refl _ | apply Drawn0.step)⟩

end Go.Proofs.YtpfcdhjknmijjaaGreat.PHartQuotients
end
