import Derived.Test.YtpfcdhjknmijjaaGreatCo8
section
namespace Go.Proofs.YtpfcdhjknmijjaaGreat.PHartQuotients
open Go.RowKit Go.Proofs.YtpfcdhjknmijjaaGreatW.PrintWords Go.Proofs.YtpfcdhjknmijjaaGreatW.PrintLast Go.Proofs.YtpfcdhjknmijjaaGreatW.PrintMore
attribute [local go_sem] max2_int min2_int max_two min_two max_three min_three max_four min_four   -- for this text's walks alone
set_option linter.unusedVariables false
set_option linter.unusedSimpArgs false

-- NOT PRINTED: function 52 (rvcode_table)

/-! ### rvcode_form_parts: function 54 -/
/-! ### rvcode_register: function 58 -/
def rvcode_register.f (a0 : Int) (a1 : Bool) : Option (Bool) := if a0 = 0 then (some true) else (if a1 = true then (if a0 > 0 then (some (decide (a0 < 32))) else (some false)) else (some false))
set_option maxHeartbeats 8000000 in
set_option maxRecDepth 100000 in
theorem rvcode_register.calls (a0 : Int) (a1 : Bool) (r : Bool) (w : World) (h : rvcode_register.f a0 a1 = some r) :
    Calls Tryz.prog 128 #[.int .i64 a0, .bool a1] w fun e w' => e = .returned (.bool r) ∧ Drawn0 w w' := by
  have H : (if a0 = 0 then (some true) else (if a1 = true then (if a0 > 0 then (some (decide (a0 < 32))) else (some false)) else (some false))) = some r := h
  clear h
  by_cases c3 : a0 = 0
  · rw [if_pos c3] at H
    have c3b0 : (a0 == 0) = true := beq_iff_eq.mpr c3
    have c3b1 : (a0 != 0) = false := bne_eq_false_iff_eq.mpr c3
    clear c3
    obtain rfl := Option.some.inj H
    go_enter Tryz.func128, Tryz.ntmps128
    go_wp2
    go_ret
    exact ⟨by first | rfl | (simp; done) | (simp [*]; done), by repeat (first | exact Drawn0.refl _ | apply Drawn0.step)⟩
  · rw [if_neg c3] at H
    have c3b0 : (a0 == 0) = false := beq_eq_false_iff_ne.mpr c3
    have c3b1 : (a0 != 0) = true := bne_iff_ne.mpr c3
    by_cases c4 : a1 = true
    · subst c4
      have H1 : (if a0 > 0 then (some (decide (a0 < 32))) else (some false)) = some r := by rw [if_pos rfl] at H; exact H
      clear H
      have H := H1
      clear H1
      by_cases c5 : a0 > 0
      · rw [if_pos c5] at H
        have c5b0 : decide (0 < a0) = true := decide_eq_true c5
        clear c5
        obtain rfl := Option.some.inj H
        go_enter Tryz.func128, Tryz.ntmps128
        go_wp2
        go_ret
        exact ⟨by first | rfl | (simp; done) | (simp [*]; done), by repeat (first | exact Drawn0.refl _ | apply Drawn0.step)⟩
      · rw [if_neg c5] at H
        have c5b0 : decide (0 < a0) = false := decide_eq_false c5
        clear c5
        obtain rfl := Option.some.inj H
        go_enter Tryz.func128, Tryz.ntmps128
        go_wp2
        go_ret
        exact ⟨by first | rfl | (simp; done) | (simp [*]; done), by repeat (first | exact Drawn0.refl _ | apply Drawn0.step)⟩
    · replace c4 := Bool.eq_false_iff.mpr c4
      subst c4
      have H1 : (some false) = some r := by rw [if_neg (show ¬ (false = true) by decide)] at H; exact H
      clear H
      have H := H1
      clear H1
      obtain rfl := Option.some.inj H
      go_enter Tryz.func128, Tryz.ntmps128
      go_wp2
      go_ret
      exact ⟨by first | rfl | (simp; done) | (simp [*]; done), by repeat (first | exact Drawn0.refl _ | apply Drawn0.step)⟩

/-! ### rvcode_cut: function 56 -/
def rvcode_cut.f (a0 : Int) (a1 : Int) (a2 : Int) : Option (Int) := if 0 ≤ (IntKind.u64.wrap (a1)) then (if 0 ≤ (IntKind.u64.wrap (a2)) then (some (Go.bits .and .u32 (shr .u32 a0 (IntKind.u64.wrap (a1))) (((shl .u32 1 (IntKind.u64.wrap (a2))) - 1) % 4294967296))) else (none)) else (none)
set_option maxHeartbeats 8000000 in
set_option maxRecDepth 100000 in
theorem rvcode_cut.calls (a0 : Int) (a1 : Int) (a2 : Int) (r : Int) (w : World) (h : rvcode_cut.f a0 a1 a2 = some r) :
    Calls Tryz.prog 162 #[.int .u32 a0, .int .i64 a1, .int .i64 a2] w fun e w' => e = .returned (.int .u32 r) ∧ Drawn0 w w' := by
  have H : (if 0 ≤ (IntKind.u64.wrap (a1)) then (if 0 ≤ (IntKind.u64.wrap (a2)) then (some (Go.bits .and .u32 (shr .u32 a0 (IntKind.u64.wrap (a1))) (((shl .u32 1 (IntKind.u64.wrap (a2))) - 1) % 4294967296))) else (none)) else (none)) = some r := h
  clear h
  obtain ⟨ji4, hji4⟩ : ∃ j_ : Int, (IntKind.u64.wrap (a1)) = j_ := ⟨_, rfl⟩
  replace H : (if 0 ≤ (ji4) then (if 0 ≤ (IntKind.u64.wrap (a2)) then (some (Go.bits .and .u32 (shr .u32 a0 (ji4)) (((shl .u32 1 (IntKind.u64.wrap (a2))) - 1) % 4294967296))) else (none)) else (none)) = some r := by first | (rw [hji4] at H; exact H) | (simp only [hji4] at H ⊢; exact H)
  by_cases c5 : 0 ≤ (ji4)
  · rw [if_pos c5] at H
    have c5b0 := eq_true c5
    have c5b1 : decide (0 ≤ (ji4)) = true := decide_eq_true c5
    clear c5
    obtain ⟨ji6, hji6⟩ : ∃ j_ : Int, (shr .u32 a0 (ji4)) = j_ := ⟨_, rfl⟩
    replace H : (if 0 ≤ (IntKind.u64.wrap (a2)) then (some (Go.bits .and .u32 (ji6) (((shl .u32 1 (IntKind.u64.wrap (a2))) - 1) % 4294967296))) else (none)) = some r := by first | (rw [hji6] at H; exact H) | (simp only [hji6] at H ⊢; exact H)
    have hji6_ : (a0 / 2 ^ min (ji4).toNat 32) = ji6 := hji6
    have hji6z : (ji4) ≤ 32 → (a0 / 2 ^ (ji4).toNat) = ji6 := shr_small hji6
    obtain ⟨ji7, hji7⟩ : ∃ j_ : Int, (IntKind.u64.wrap (a2)) = j_ := ⟨_, rfl⟩
    replace H : (if 0 ≤ (ji7) then (some (Go.bits .and .u32 (ji6) (((shl .u32 1 (ji7)) - 1) % 4294967296))) else (none)) = some r := by first | (rw [hji7] at H; exact H) | (simp only [hji7] at H ⊢; exact H)
    by_cases c8 : 0 ≤ (ji7)
    · rw [if_pos c8] at H
      have c8b0 := eq_true c8
      have c8b1 : decide (0 ≤ (ji7)) = true := decide_eq_true c8
      clear c8
      obtain ⟨ji9, hji9⟩ : ∃ j_ : Int, (shl .u32 1 (ji7)) = j_ := ⟨_, rfl⟩
      replace H : (some (Go.bits .and .u32 (ji6) (((ji9) - 1) % 4294967296))) = some r := by first | (rw [hji9] at H; exact H) | (simp only [hji9] at H ⊢; exact H)
      have hji9_ : (IntKind.u32.wrap (1 * 2 ^ min (ji7).toNat 32)) = ji9 := hji9
      have hji9z : (ji7) ≤ 32 → (IntKind.u32.wrap (1 * 2 ^ (ji7).toNat)) = ji9 := shl_small hji9
      have hji9u : (IntKind.u32.wrap (2 ^ min (ji7).toNat 32)) = ji9 := by have h_ := hji9_; rw [Int.one_mul] at h_; exact h_
      have hji9v : (ji7) ≤ 32 → (IntKind.u32.wrap (2 ^ (ji7).toNat)) = ji9 := fun hle_ => by have h_ := hji9z hle_; rw [Int.one_mul] at h_; exact h_
      obtain rfl := Option.some.inj H
      go_enter Tryz.func162, Tryz.ntmps162
      go_wp2
      go_ret
      exact ⟨by first | rfl | (simp; done) | (simp only [← hji4, ← hji6, ← hji7, ← hji9] <;> (first | rfl | simp)) | (simp [*]; done), by repeat (first | exact Drawn0.refl _ | apply Drawn0.step)⟩
    · rw [if_neg c8] at H
      exact absurd H (by simp)
  · rw [if_neg c5] at H
    exact absurd H (by simp)

/-! ### rvcode_scatter: function 59 -/
def rvcode_scatter.j0 : Nat → Int → Int → Bool → Option (Int)
  | 0, _, _, _ => none
  | k + 1, x1, x5, x6 => if x6 = true then (some ((x1 * 1048576) % 4294967296)) else (if x5 = 4 then ((rvcode_cut.f x1 0 5).bind fun t102 => ((rvcode_cut.f x1 5 7).bind fun t103 => (some (Go.bits .or .u32 ((t102 * 128) % 4294967296) ((t103 * 33554432) % 4294967296))))) else (if x5 = 5 then ((rvcode_cut.f x1 11 1).bind fun t104 => ((rvcode_cut.f x1 1 4).bind fun t105 => ((rvcode_cut.f x1 5 6).bind fun t106 => ((rvcode_cut.f x1 12 1).bind fun t107 => (some (Go.bits .or .u32 (Go.bits .or .u32 (Go.bits .or .u32 ((t104 * 128) % 4294967296) ((t105 * 256) % 4294967296)) ((t106 * 33554432) % 4294967296)) ((t107 * 2147483648) % 4294967296))))))) else (if x5 = 6 then (some ((x1 * 4096) % 4294967296)) else (if x5 = 7 then ((rvcode_cut.f x1 12 8).bind fun t108 => ((rvcode_cut.f x1 11 1).bind fun t109 => ((rvcode_cut.f x1 1 10).bind fun t110 => ((rvcode_cut.f x1 20 1).bind fun t111 => (some (Go.bits .or .u32 (Go.bits .or .u32 (Go.bits .or .u32 ((t108 * 4096) % 4294967296) ((t109 * 1048576) % 4294967296)) ((t110 * 2097152) % 4294967296)) ((t111 * 2147483648) % 4294967296))))))) else (some 0)))))
def rvcode_scatter.f (k : Nat) (a0 : Int) (a1 : Int) : Option (Int) := if a0 = 1 then (rvcode_scatter.j0 k a1 a0 (a0 == 1)) else (if a0 = 2 then (rvcode_scatter.j0 k a1 a0 (a0 == 2)) else (rvcode_scatter.j0 k a1 a0 (a0 == 3)))
set_option maxHeartbeats 8000000 in
set_option maxRecDepth 100000 in
theorem rvcode_scatter.calls (k : Nat) (a0 : Int) (a1 : Int) (r : Int) (w : World) (h : rvcode_scatter.f k a0 a1 = some r) :
    Calls Tryz.prog 129 #[.int .i64 a0, .int .u32 a1] w fun e w' => e = .returned (.int .u32 r) ∧ Drawn0 w w' := by
  have H : (if a0 = 1 then (rvcode_scatter.j0 k a1 a0 (a0 == 1)) else (if a0 = 2 then (rvcode_scatter.j0 k a1 a0 (a0 == 2)) else (rvcode_scatter.j0 k a1 a0 (a0 == 3)))) = some r := h
  clear h
  have HC3 := Aside0.mk H
  clear H
  go_enter Tryz.func129, Tryz.ntmps129
  go_upto_if 6 with (fail)
  go_cut [6] (fun v6 wc => ∃ (kq : Nat) (x6_2 : Bool), v6 = .bool x6_2 ∧ Aside0 (rvcode_scatter.j0 kq a1 a0 x6_2 = some r) ∧ Aside0 (kq ≤ k) ∧ Drawn0 w wc)
  case first =>
    have H := HC3.out
    clear HC3
    by_cases c4 : a0 = 1
    · rw [if_pos c4] at H
      have c4b0 : (a0 == 1) = true := beq_iff_eq.mpr c4
      have c4b1 : (a0 != 1) = false := bne_eq_false_iff_eq.mpr c4
      clear c4
      (first | rw [c4b0] | (simp only [i64_w, i32_w]; rw [c4b0]) | skip)
      have H' := Aside0.mk H
      clear H
      go_wp2
      go_meet
      case rel => exact ⟨_, ((a0 == 1)), (by first | rfl | (simp; done) | (simp [*]; done)), H', ⟨by first | omega | exact Nat.le_refl _⟩, by repeat (first | exact Drawn0.refl _ | apply Drawn0.step)⟩
    · rw [if_neg c4] at H
      have c4b0 : (a0 == 1) = false := beq_eq_false_iff_ne.mpr c4
      have c4b1 : (a0 != 1) = true := bne_iff_ne.mpr c4
      (first | rw [c4b0] | (simp only [i64_w, i32_w]; rw [c4b0]) | skip)
      by_cases c5 : a0 = 2
      · rw [if_pos c5] at H
        have c5b0 : (a0 == 2) = true := beq_iff_eq.mpr c5
        have c5b1 : (a0 != 2) = false := bne_eq_false_iff_eq.mpr c5
        clear c5
        have H' := Aside0.mk H
        clear H
        go_wp2
        go_meet
        case rel => exact ⟨_, ((a0 == 2)), (by first | rfl | (simp; done) | (simp [*]; done)), H', ⟨by first | omega | exact Nat.le_refl _⟩, by repeat (first | exact Drawn0.refl _ | apply Drawn0.step)⟩
      · rw [if_neg c5] at H
        have c5b0 : (a0 == 2) = false := beq_eq_false_iff_ne.mpr c5
        have c5b1 : (a0 != 2) = true := bne_iff_ne.mpr c5
        have H' := Aside0.mk H
        clear H
        go_wp2
        go_meet
        case rel => exact ⟨_, ((a0 == 3)), (by first | rfl | (simp; done) | (simp [*]; done)), H', ⟨by first | omega | exact Nat.le_refl _⟩, by repeat (first | exact Drawn0.refl _ | apply Drawn0.step)⟩
  case rest =>
    clear HC3
    try clear p2
    try clear c4
    try clear c4b0
    try clear c4b1
    try clear c5
    try clear c5b0
    try clear c5b1
    obtain ⟨kq, x6_2, rfl, HA, HJ2, ⟨mc2, rfl⟩⟩ := hcut
    cases kq with
    | zero => exact absurd HA.out (by simp [rvcode_scatter.j0])
    | succ kj2 =>
      have H := HA.out
      clear HA
      simp only [rvcode_scatter.j0] at H
      by_cases c6 : x6_2 = true
      · subst c6
        have H1 : (some ((a1 * 1048576) % 4294967296)) = some r := by rw [if_pos rfl] at H; exact H
        clear H
        have H := H1
        clear H1
        obtain rfl := Option.some.inj H
        go_wp2
        go_ret
        exact ⟨by first | rfl | (simp; done) | (simp [*]; done), by repeat (first | exact Drawn0.refl _ | apply Drawn0.step)⟩
      · replace c6 := Bool.eq_false_iff.mpr c6
        subst c6
        have H1 : (if a0 = 4 then ((rvcode_cut.f a1 0 5).bind fun t102 => ((rvcode_cut.f a1 5 7).bind fun t103 => (some (Go.bits .or .u32 ((t102 * 128) % 4294967296) ((t103 * 33554432) % 4294967296))))) else (if a0 = 5 then ((rvcode_cut.f a1 11 1).bind fun t104 => ((rvcode_cut.f a1 1 4).bind fun t105 => ((rvcode_cut.f a1 5 6).bind fun t106 => ((rvcode_cut.f a1 12 1).bind fun t107 => (some (Go.bits .or .u32 (Go.bits .or .u32 (Go.bits .or .u32 ((t104 * 128) % 4294967296) ((t105 * 256) % 4294967296)) ((t106 * 33554432) % 4294967296)) ((t107 * 2147483648) % 4294967296))))))) else (if a0 = 6 then (some ((a1 * 4096) % 4294967296)) else (if a0 = 7 then ((rvcode_cut.f a1 12 8).bind fun t108 => ((rvcode_cut.f a1 11 1).bind fun t109 => ((rvcode_cut.f a1 1 10).bind fun t110 => ((rvcode_cut.f a1 20 1).bind fun t111 => (some (Go.bits .or .u32 (Go.bits .or .u32 (Go.bits .or .u32 ((t108 * 4096) % 4294967296) ((t109 * 1048576) % 4294967296)) ((t110 * 2097152) % 4294967296)) ((t111 * 2147483648) % 4294967296))))))) else (some 0))))) = some r := by rw [if_neg (show ¬ (false = true) by decide)] at H; exact H
        clear H
        have H := H1
        clear H1
        by_cases c7 : a0 = 4
        · rw [if_pos c7] at H
          have c7b0 : (a0 == 4) = true := beq_iff_eq.mpr c7
          have c7b1 : (a0 != 4) = false := bne_eq_false_iff_eq.mpr c7
          clear c7
          replace H := Option.bind_eq_some_iff.mp H
          obtain ⟨t102, A80, H⟩ := H
          replace H : ((rvcode_cut.f a1 5 7).bind fun t103 => (some (Go.bits .or .u32 ((t102 * 128) % 4294967296) ((t103 * 33554432) % 4294967296)))) = some r := H
          have A8 := Aside0.mk A80
          clear A80
          replace H := Option.bind_eq_some_iff.mp H
          obtain ⟨t103, A90, H⟩ := H
          replace H : (some (Go.bits .or .u32 ((t102 * 128) % 4294967296) ((t103 * 33554432) % 4294967296))) = some r := H
          have A9 := Aside0.mk A90
          clear A90
          obtain rfl := Option.some.inj H
          go_wp2_with (first | ((with_reducible refine gate_callee (f := 162) rfl ?_); refine goesL_ (some 15) rfl rfl Tryz.func162 (by kernel_rfl) rfl #[.int .u32 a1, .int .i64 0, .int .i64 5] rfl (by (try simp only [List.map_toArray, List.map_cons, List.map_nil]); first | done | rfl | (simp only [List.length_drop, List.length_take]; rfl)) ?_; (with_reducible refine (rvcode_cut.calls a1 0 5 t102 _ A8.out).mono ?_); rintro e w' ⟨rfl, ⟨nd, rfl⟩⟩; refine ⟨_, rfl, ?_⟩) | ((with_reducible refine gate_callee (f := 162) rfl ?_); refine goesL_ (some 18) rfl rfl Tryz.func162 (by kernel_rfl) rfl #[.int .u32 a1, .int .i64 5, .int .i64 7] rfl (by (try simp only [List.map_toArray, List.map_cons, List.map_nil]); first | done | rfl | (simp only [List.length_drop, List.length_take]; rfl)) ?_; (with_reducible refine (rvcode_cut.calls a1 5 7 t103 _ A9.out).mono ?_); rintro e w' ⟨rfl, ⟨nd, rfl⟩⟩; refine ⟨_, rfl, ?_⟩))
          go_ret
          exact ⟨by first | rfl | (simp; done) | (simp [*]; done), by repeat (first | exact Drawn0.refl _ | apply Drawn0.step)⟩
        · rw [if_neg c7] at H
          have c7b0 : (a0 == 4) = false := beq_eq_false_iff_ne.mpr c7
          have c7b1 : (a0 != 4) = true := bne_iff_ne.mpr c7
          by_cases c10 : a0 = 5
          · rw [if_pos c10] at H
            have c10b0 : (a0 == 5) = true := beq_iff_eq.mpr c10
            have c10b1 : (a0 != 5) = false := bne_eq_false_iff_eq.mpr c10
            clear c10
            replace H := Option.bind_eq_some_iff.mp H
            obtain ⟨t104, A110, H⟩ := H
            replace H : ((rvcode_cut.f a1 1 4).bind fun t105 => ((rvcode_cut.f a1 5 6).bind fun t106 => ((rvcode_cut.f a1 12 1).bind fun t107 => (some (Go.bits .or .u32 (Go.bits .or .u32 (Go.bits .or .u32 ((t104 * 128) % 4294967296) ((t105 * 256) % 4294967296)) ((t106 * 33554432) % 4294967296)) ((t107 * 2147483648) % 4294967296)))))) = some r := H
            have A11 := Aside0.mk A110
            clear A110
            replace H := Option.bind_eq_some_iff.mp H
            obtain ⟨t105, A120, H⟩ := H
            replace H : ((rvcode_cut.f a1 5 6).bind fun t106 => ((rvcode_cut.f a1 12 1).bind fun t107 => (some (Go.bits .or .u32 (Go.bits .or .u32 (Go.bits .or .u32 ((t104 * 128) % 4294967296) ((t105 * 256) % 4294967296)) ((t106 * 33554432) % 4294967296)) ((t107 * 2147483648) % 4294967296))))) = some r := H
            have A12 := Aside0.mk A120
            clear A120
            replace H := Option.bind_eq_some_iff.mp H
            obtain ⟨t106, A130, H⟩ := H
            replace H : ((rvcode_cut.f a1 12 1).bind fun t107 => (some (Go.bits .or .u32 (Go.bits .or .u32 (Go.bits .or .u32 ((t104 * 128) % 4294967296) ((t105 * 256) % 4294967296)) ((t106 * 33554432) % 4294967296)) ((t107 * 2147483648) % 4294967296)))) = some r := H
            have A13 := Aside0.mk A130
            clear A130
            replace H := Option.bind_eq_some_iff.mp H
            obtain ⟨t107, A140, H⟩ := H
            replace H : (some (Go.bits .or .u32 (Go.bits .or .u32 (Go.bits .or .u32 ((t104 * 128) % 4294967296) ((t105 * 256) % 4294967296)) ((t106 * 33554432) % 4294967296)) ((t107 * 2147483648) % 4294967296))) = some r := H
            have A14 := Aside0.mk A140
            clear A140
            obtain rfl := Option.some.inj H
            go_wp2_with (first | ((with_reducible refine gate_callee (f := 162) rfl ?_); refine goesL_ (some 24) rfl rfl Tryz.func162 (by kernel_rfl) rfl #[.int .u32 a1, .int .i64 11, .int .i64 1] rfl (by (try simp only [List.map_toArray, List.map_cons, List.map_nil]); first | done | rfl | (simp only [List.length_drop, List.length_take]; rfl)) ?_; (with_reducible refine (rvcode_cut.calls a1 11 1 t104 _ A11.out).mono ?_); rintro e w' ⟨rfl, ⟨nd, rfl⟩⟩; refine ⟨_, rfl, ?_⟩) | ((with_reducible refine gate_callee (f := 162) rfl ?_); refine goesL_ (some 27) rfl rfl Tryz.func162 (by kernel_rfl) rfl #[.int .u32 a1, .int .i64 1, .int .i64 4] rfl (by (try simp only [List.map_toArray, List.map_cons, List.map_nil]); first | done | rfl | (simp only [List.length_drop, List.length_take]; rfl)) ?_; (with_reducible refine (rvcode_cut.calls a1 1 4 t105 _ A12.out).mono ?_); rintro e w' ⟨rfl, ⟨nd, rfl⟩⟩; refine ⟨_, rfl, ?_⟩) | ((with_reducible refine gate_callee (f := 162) rfl ?_); refine goesL_ (some 31) rfl rfl Tryz.func162 (by kernel_rfl) rfl #[.int .u32 a1, .int .i64 5, .int .i64 6] rfl (by (try simp only [List.map_toArray, List.map_cons, List.map_nil]); first | done | rfl | (simp only [List.length_drop, List.length_take]; rfl)) ?_; (with_reducible refine (rvcode_cut.calls a1 5 6 t106 _ A13.out).mono ?_); rintro e w' ⟨rfl, ⟨nd, rfl⟩⟩; refine ⟨_, rfl, ?_⟩) | ((with_reducible refine gate_callee (f := 162) rfl ?_); refine goesL_ (some 35) rfl rfl Tryz.func162 (by kernel_rfl) rfl #[.int .u32 a1, .int .i64 12, .int .i64 1] rfl (by (try simp only [List.map_toArray, List.map_cons, List.map_nil]); first | done | rfl | (simp only [List.length_drop, List.length_take]; rfl)) ?_; (with_reducible refine (rvcode_cut.calls a1 12 1 t107 _ A14.out).mono ?_); rintro e w' ⟨rfl, ⟨nd, rfl⟩⟩; refine ⟨_, rfl, ?_⟩))
            go_ret
            exact ⟨by first | rfl | (simp; done) | (simp [*]; done), by repeat (first | exact Drawn0.refl _ | apply Drawn0.step)⟩
          · rw [if_neg c10] at H
            have c10b0 : (a0 == 5) = false := beq_eq_false_iff_ne.mpr c10
            have c10b1 : (a0 != 5) = true := bne_iff_ne.mpr c10
            by_cases c15 : a0 = 6
            · rw [if_pos c15] at H
              have c15b0 : (a0 == 6) = true := beq_iff_eq.mpr c15
              have c15b1 : (a0 != 6) = false := bne_eq_false_iff_eq.mpr c15
              clear c15
              obtain rfl := Option.some.inj H
              go_wp2
              go_ret
              exact ⟨by first | rfl | (simp; done) | (simp [*]; done), by repeat (first | exact Drawn0.refl _ | apply Drawn0.step)⟩
            · rw [if_neg c15] at H
              have c15b0 : (a0 == 6) = false := beq_eq_false_iff_ne.mpr c15
              have c15b1 : (a0 != 6) = true := bne_iff_ne.mpr c15
              by_cases c16 : a0 = 7
              · rw [if_pos c16] at H
                have c16b0 : (a0 == 7) = true := beq_iff_eq.mpr c16
                have c16b1 : (a0 != 7) = false := bne_eq_false_iff_eq.mpr c16
                clear c16
                replace H := Option.bind_eq_some_iff.mp H
                obtain ⟨t108, A170, H⟩ := H
                replace H : ((rvcode_cut.f a1 11 1).bind fun t109 => ((rvcode_cut.f a1 1 10).bind fun t110 => ((rvcode_cut.f a1 20 1).bind fun t111 => (some (Go.bits .or .u32 (Go.bits .or .u32 (Go.bits .or .u32 ((t108 * 4096) % 4294967296) ((t109 * 1048576) % 4294967296)) ((t110 * 2097152) % 4294967296)) ((t111 * 2147483648) % 4294967296)))))) = some r := H
                have A17 := Aside0.mk A170
                clear A170
                replace H := Option.bind_eq_some_iff.mp H
                obtain ⟨t109, A180, H⟩ := H
                replace H : ((rvcode_cut.f a1 1 10).bind fun t110 => ((rvcode_cut.f a1 20 1).bind fun t111 => (some (Go.bits .or .u32 (Go.bits .or .u32 (Go.bits .or .u32 ((t108 * 4096) % 4294967296) ((t109 * 1048576) % 4294967296)) ((t110 * 2097152) % 4294967296)) ((t111 * 2147483648) % 4294967296))))) = some r := H
                have A18 := Aside0.mk A180
                clear A180
                replace H := Option.bind_eq_some_iff.mp H
                obtain ⟨t110, A190, H⟩ := H
                replace H : ((rvcode_cut.f a1 20 1).bind fun t111 => (some (Go.bits .or .u32 (Go.bits .or .u32 (Go.bits .or .u32 ((t108 * 4096) % 4294967296) ((t109 * 1048576) % 4294967296)) ((t110 * 2097152) % 4294967296)) ((t111 * 2147483648) % 4294967296)))) = some r := H
                have A19 := Aside0.mk A190
                clear A190
                replace H := Option.bind_eq_some_iff.mp H
                obtain ⟨t111, A200, H⟩ := H
                replace H : (some (Go.bits .or .u32 (Go.bits .or .u32 (Go.bits .or .u32 ((t108 * 4096) % 4294967296) ((t109 * 1048576) % 4294967296)) ((t110 * 2097152) % 4294967296)) ((t111 * 2147483648) % 4294967296))) = some r := H
                have A20 := Aside0.mk A200
                clear A200
                obtain rfl := Option.some.inj H
                go_wp2_with (first | ((with_reducible refine gate_callee (f := 162) rfl ?_); refine goesL_ (some 45) rfl rfl Tryz.func162 (by kernel_rfl) rfl #[.int .u32 a1, .int .i64 12, .int .i64 8] rfl (by (try simp only [List.map_toArray, List.map_cons, List.map_nil]); first | done | rfl | (simp only [List.length_drop, List.length_take]; rfl)) ?_; (with_reducible refine (rvcode_cut.calls a1 12 8 t108 _ A17.out).mono ?_); rintro e w' ⟨rfl, ⟨nd, rfl⟩⟩; refine ⟨_, rfl, ?_⟩) | ((with_reducible refine gate_callee (f := 162) rfl ?_); refine goesL_ (some 48) rfl rfl Tryz.func162 (by kernel_rfl) rfl #[.int .u32 a1, .int .i64 11, .int .i64 1] rfl (by (try simp only [List.map_toArray, List.map_cons, List.map_nil]); first | done | rfl | (simp only [List.length_drop, List.length_take]; rfl)) ?_; (with_reducible refine (rvcode_cut.calls a1 11 1 t109 _ A18.out).mono ?_); rintro e w' ⟨rfl, ⟨nd, rfl⟩⟩; refine ⟨_, rfl, ?_⟩) | ((with_reducible refine gate_callee (f := 162) rfl ?_); refine goesL_ (some 52) rfl rfl Tryz.func162 (by kernel_rfl) rfl #[.int .u32 a1, .int .i64 1, .int .i64 10] rfl (by (try simp only [List.map_toArray, List.map_cons, List.map_nil]); first | done | rfl | (simp only [List.length_drop, List.length_take]; rfl)) ?_; (with_reducible refine (rvcode_cut.calls a1 1 10 t110 _ A19.out).mono ?_); rintro e w' ⟨rfl, ⟨nd, rfl⟩⟩; refine ⟨_, rfl, ?_⟩) | ((with_reducible refine gate_callee (f := 162) rfl ?_); refine goesL_ (some 56) rfl rfl Tryz.func162 (by kernel_rfl) rfl #[.int .u32 a1, .int .i64 20, .int .i64 1] rfl (by (try simp only [List.map_toArray, List.map_cons, List.map_nil]); first | done | rfl | (simp only [List.length_drop, List.length_take]; rfl)) ?_; (with_reducible refine (rvcode_cut.calls a1 20 1 t111 _ A20.out).mono ?_); rintro e w' ⟨rfl, ⟨nd, rfl⟩⟩; refine ⟨_, rfl, ?_⟩))
                go_ret
                exact ⟨by first | rfl | (simp; done) | (simp [*]; done), by repeat (first | exact Drawn0.refl _ | apply Drawn0.step)⟩
              · rw [if_neg c16] at H
                have c16b0 : (a0 == 7) = false := beq_eq_false_iff_ne.mpr c16
                have c16b1 : (a0 != 7) = true := bne_iff_ne.mpr c16
                obtain rfl := Option.some.inj H
                go_wp2
                go_ret
                exact ⟨by first | rfl | (simp; done) | (simp [*]; done), by repeat (first | exact Drawn0.refl _ | apply Drawn0.step)⟩

-- NOT PRINTED: function 17 (rvcode_Encode)

-- NOT PRINTED: function 50 (hart_Hart_Set)

/-! ### rvcode_form_own: function 53 -/
mutual
def rvcode_form_own.j0 : Nat → Int → Bool → Option (Int)
  | 0, _, _ => none
  | k + 1, x3, x4 => if x4 = true then (some 4261441663) else (if x3 = 2 then (some 4227887231) else (if x3 = 6 then (rvcode_form_own.j1 k x3 (x3 == 6)) else (rvcode_form_own.j1 k x3 (x3 == 7))))
def rvcode_form_own.j1 : Nat → Int → Bool → Option (Int)
  | 0, _, _ => none
  | k + 1, x3, x9 => if x9 = true then (some 127) else (if x3 = 8 then (some 4294967295) else (some 28799))
end
def rvcode_form_own.f (k : Nat) (a0 : Int) : Option (Int) := if a0 = 0 then (rvcode_form_own.j0 k a0 (a0 == 0)) else (rvcode_form_own.j0 k a0 (a0 == 3))
set_option maxHeartbeats 8000000 in
set_option maxRecDepth 100000 in
theorem rvcode_form_own.calls (k : Nat) (a0 : Int) (r : Int) (w : World) (h : rvcode_form_own.f k a0 = some r) :
    Calls Tryz.prog 187 #[.int .i64 a0] w fun e w' => e = .returned (.int .u32 r) ∧ Drawn0 w w' := by
  have H : (if a0 = 0 then (rvcode_form_own.j0 k a0 (a0 == 0)) else (rvcode_form_own.j0 k a0 (a0 == 3))) = some r := h
  clear h
  have HC2 := Aside0.mk H
  clear H
  go_enter Tryz.func187, Tryz.ntmps187
  go_upto_if 4 with (fail)
  go_cut [4] (fun v4 wc => ∃ (kq : Nat) (x4_1 : Bool), v4 = .bool x4_1 ∧ Aside0 (rvcode_form_own.j0 kq a0 x4_1 = some r) ∧ Aside0 (kq ≤ k) ∧ Drawn0 w wc)
  case first =>
    have H := HC2.out
    clear HC2
    by_cases c3 : a0 = 0
    · rw [if_pos c3] at H
      have c3b0 : (a0 == 0) = true := beq_iff_eq.mpr c3
      have c3b1 : (a0 != 0) = false := bne_eq_false_iff_eq.mpr c3
      clear c3
      (first | rw [c3b0] | (simp only [i64_w, i32_w]; rw [c3b0]) | skip)
      have H' := Aside0.mk H
      clear H
      go_wp2
      go_meet
      case rel => exact ⟨_, ((a0 == 0)), (by first | rfl | (simp; done) | (simp [*]; done)), H', ⟨by first | omega | exact Nat.le_refl _⟩, by repeat (first | exact Drawn0.refl _ | apply Drawn0.step)⟩
    · rw [if_neg c3] at H
      have c3b0 : (a0 == 0) = false := beq_eq_false_iff_ne.mpr c3
      have c3b1 : (a0 != 0) = true := bne_iff_ne.mpr c3
      (first | rw [c3b0] | (simp only [i64_w, i32_w]; rw [c3b0]) | skip)
      have H' := Aside0.mk H
      clear H
      go_wp2
      go_meet
      case rel => exact ⟨_, ((a0 == 3)), (by first | rfl | (simp; done) | (simp [*]; done)), H', ⟨by first | omega | exact Nat.le_refl _⟩, by repeat (first | exact Drawn0.refl _ | apply Drawn0.step)⟩
  case rest =>
    clear HC2
    try clear p2
    try clear c3
    try clear c3b0
    try clear c3b1
    obtain ⟨kq, x4_1, rfl, HA, HJ1, ⟨mc1, rfl⟩⟩ := hcut
    cases kq with
    | zero => exact absurd HA.out (by simp [rvcode_form_own.j0])
    | succ kj1 =>
      have H := HA.out
      clear HA
      simp only [rvcode_form_own.j0] at H
      by_cases c4 : x4_1 = true
      · subst c4
        have H1 : (some 4261441663) = some r := by rw [if_pos rfl] at H; exact H
        clear H
        have H := H1
        clear H1
        obtain rfl := Option.some.inj H
        go_wp2
        go_ret
        exact ⟨by first | rfl | (simp; done) | (simp [*]; done), by repeat (first | exact Drawn0.refl _ | apply Drawn0.step)⟩
      · replace c4 := Bool.eq_false_iff.mpr c4
        subst c4
        have H1 : (if a0 = 2 then (some 4227887231) else (if a0 = 6 then (rvcode_form_own.j1 kj1 a0 (a0 == 6)) else (rvcode_form_own.j1 kj1 a0 (a0 == 7)))) = some r := by rw [if_neg (show ¬ (false = true) by decide)] at H; exact H
        clear H
        have H := H1
        clear H1
        by_cases c5 : a0 = 2
        · rw [if_pos c5] at H
          have c5b0 : (a0 == 2) = true := beq_iff_eq.mpr c5
          have c5b1 : (a0 != 2) = false := bne_eq_false_iff_eq.mpr c5
          clear c5
          obtain rfl := Option.some.inj H
          go_wp2
          go_ret
          exact ⟨by first | rfl | (simp; done) | (simp [*]; done), by repeat (first | exact Drawn0.refl _ | apply Drawn0.step)⟩
        · rw [if_neg c5] at H
          have c5b0 : (a0 == 2) = false := beq_eq_false_iff_ne.mpr c5
          have c5b1 : (a0 != 2) = true := bne_iff_ne.mpr c5
          have HC6 := Aside0.mk H
          clear H
          go_upto_if 9 with (fail)
          go_cut [9] (fun v9 wc => ∃ (kq : Nat) (x9_5 : Bool), v9 = .bool x9_5 ∧ Aside0 (rvcode_form_own.j1 kq a0 x9_5 = some r) ∧ Aside0 (kq ≤ kj1) ∧ Drawn0 w wc)
          case first =>
            have H := HC6.out
            clear HC6
            by_cases c7 : a0 = 6
            · rw [if_pos c7] at H
              have c7b0 : (a0 == 6) = true := beq_iff_eq.mpr c7
              have c7b1 : (a0 != 6) = false := bne_eq_false_iff_eq.mpr c7
              clear c7
              (first | rw [c7b0] | (simp only [i64_w, i32_w]; rw [c7b0]) | skip)
              have H' := Aside0.mk H
              clear H
              go_wp2
              go_meet
              case rel => exact ⟨_, ((a0 == 6)), (by first | rfl | (simp; done) | (simp [*]; done)), H', ⟨by have := HJ1.out; first | omega | exact Nat.le_refl _⟩, by repeat (first | exact Drawn0.refl _ | apply Drawn0.step)⟩
            · rw [if_neg c7] at H
              have c7b0 : (a0 == 6) = false := beq_eq_false_iff_ne.mpr c7
              have c7b1 : (a0 != 6) = true := bne_iff_ne.mpr c7
              (first | rw [c7b0] | (simp only [i64_w, i32_w]; rw [c7b0]) | skip)
              have H' := Aside0.mk H
              clear H
              go_wp2
              go_meet
              case rel => exact ⟨_, ((a0 == 7)), (by first | rfl | (simp; done) | (simp [*]; done)), H', ⟨by have := HJ1.out; first | omega | exact Nat.le_refl _⟩, by repeat (first | exact Drawn0.refl _ | apply Drawn0.step)⟩
          case rest =>
            clear HC6
            try clear c1
            try clear p2
            try clear c3
            try clear c3b0
            try clear c3b1
            try clear c4
            try clear c5
            try clear c5b0
            try clear c5b1
            try clear c7
            try clear c7b0
            try clear c7b1
            try clear p2
            obtain ⟨kq, x9_5, rfl, HA, HJ5, ⟨mc5, rfl⟩⟩ := hcut
            cases kq with
            | zero => exact absurd HA.out (by simp [rvcode_form_own.j1])
            | succ kj5 =>
              have H := HA.out
              clear HA
              simp only [rvcode_form_own.j1] at H
              by_cases c8 : x9_5 = true
              · subst c8
                have H1 : (some 127) = some r := by rw [if_pos rfl] at H; exact H
                clear H
                have H := H1
                clear H1
                obtain rfl := Option.some.inj H
                go_wp2
                go_ret
                exact ⟨by first | rfl | (simp; done) | (simp [*]; done), by repeat (first | exact Drawn0.refl _ | apply Drawn0.step)⟩
              · replace c8 := Bool.eq_false_iff.mpr c8
                subst c8
                have H1 : (if a0 = 8 then (some 4294967295) else (some 28799)) = some r := by rw [if_neg (show ¬ (false = true) by decide)] at H; exact H
                clear H
                have H := H1
                clear H1
                by_cases c9 : a0 = 8
                · rw [if_pos c9] at H
                  have c9b0 : (a0 == 8) = true := beq_iff_eq.mpr c9
                  have c9b1 : (a0 != 8) = false := bne_eq_false_iff_eq.mpr c9
                  clear c9
                  obtain rfl := Option.some.inj H
                  go_wp2
                  go_ret
                  exact ⟨by first | rfl | (simp; done) | (simp [*]; done), by repeat (first | exact Drawn0.refl _ | apply Drawn0.step)⟩
                · rw [if_neg c9] at H
                  have c9b0 : (a0 == 8) = false := beq_eq_false_iff_ne.mpr c9
                  have c9b1 : (a0 != 8) = true := bne_iff_ne.mpr c9
                  obtain rfl := Option.some.inj H
                  go_wp2
                  go_ret
                  exact ⟨by first | rfl | (simp; done) | (simp [*]; done), by repeat (first | exact Drawn0.refl _ | apply Drawn0.step)⟩

/-! ### rvcode_gather: function 55 -/
def rvcode_gather.f (a0 : Int) (a1 : Int) : Option (Int) := if a0 = 1 then (some (wrap64 ((wrap32 (a1)) / 1048576))) else (if a0 = 2 then ((rvcode_cut.f a1 20 6).bind fun t113 => (some (wrap64 (t113)))) else (if a0 = 3 then ((rvcode_cut.f a1 20 5).bind fun t114 => (some (wrap64 (t114)))) else (if a0 = 4 then ((rvcode_cut.f a1 7 5).bind fun t115 => (some (Go.bits .or .i64 (wrap64 ((wrap64 ((wrap32 (a1)) / 33554432)) * 32)) (wrap64 (t115))))) else (if a0 = 5 then ((rvcode_cut.f a1 7 1).bind fun t116 => ((rvcode_cut.f a1 25 6).bind fun t117 => ((rvcode_cut.f a1 8 4).bind fun t118 => (some (Go.bits .or .i64 (wrap64 ((wrap64 ((wrap32 (a1)) / 2147483648)) * 4096)) (wrap64 (Go.bits .or .u32 (Go.bits .or .u32 ((t116 * 2048) % 4294967296) ((t117 * 32) % 4294967296)) ((t118 * 2) % 4294967296)))))))) else (if a0 = 6 then (some (wrap64 ((wrap32 (a1)) / 4096))) else (if a0 = 7 then ((rvcode_cut.f a1 12 8).bind fun t119 => ((rvcode_cut.f a1 20 1).bind fun t120 => ((rvcode_cut.f a1 21 10).bind fun t121 => (some (Go.bits .or .i64 (wrap64 ((wrap64 ((wrap32 (a1)) / 2147483648)) * 1048576)) (wrap64 (Go.bits .or .u32 (Go.bits .or .u32 ((t119 * 4096) % 4294967296) ((t120 * 2048) % 4294967296)) ((t121 * 2) % 4294967296)))))))) else (some 0)))))))
set_option maxHeartbeats 8000000 in
set_option maxRecDepth 100000 in
theorem rvcode_gather.calls (a0 : Int) (a1 : Int) (r : Int) (w : World) (h : rvcode_gather.f a0 a1 = some r) :
    Calls Tryz.prog 188 #[.int .i64 a0, .int .u32 a1] w fun e w' => e = .returned (.int .i64 r) ∧ Drawn0 w w' := by
  have H : (if a0 = 1 then (some (wrap64 ((wrap32 (a1)) / 1048576))) else (if a0 = 2 then ((rvcode_cut.f a1 20 6).bind fun t113 => (some (wrap64 (t113)))) else (if a0 = 3 then ((rvcode_cut.f a1 20 5).bind fun t114 => (some (wrap64 (t114)))) else (if a0 = 4 then ((rvcode_cut.f a1 7 5).bind fun t115 => (some (Go.bits .or .i64 (wrap64 ((wrap64 ((wrap32 (a1)) / 33554432)) * 32)) (wrap64 (t115))))) else (if a0 = 5 then ((rvcode_cut.f a1 7 1).bind fun t116 => ((rvcode_cut.f a1 25 6).bind fun t117 => ((rvcode_cut.f a1 8 4).bind fun t118 => (some (Go.bits .or .i64 (wrap64 ((wrap64 ((wrap32 (a1)) / 2147483648)) * 4096)) (wrap64 (Go.bits .or .u32 (Go.bits .or .u32 ((t116 * 2048) % 4294967296) ((t117 * 32) % 4294967296)) ((t118 * 2) % 4294967296)))))))) else (if a0 = 6 then (some (wrap64 ((wrap32 (a1)) / 4096))) else (if a0 = 7 then ((rvcode_cut.f a1 12 8).bind fun t119 => ((rvcode_cut.f a1 20 1).bind fun t120 => ((rvcode_cut.f a1 21 10).bind fun t121 => (some (Go.bits .or .i64 (wrap64 ((wrap64 ((wrap32 (a1)) / 2147483648)) * 1048576)) (wrap64 (Go.bits .or .u32 (Go.bits .or .u32 ((t119 * 4096) % 4294967296) ((t120 * 2048) % 4294967296)) ((t121 * 2) % 4294967296)))))))) else (some 0)))))))) = some r := h
  clear h
  by_cases c3 : a0 = 1
  · rw [if_pos c3] at H
    have c3b0 : (a0 == 1) = true := beq_iff_eq.mpr c3
    have c3b1 : (a0 != 1) = false := bne_eq_false_iff_eq.mpr c3
    clear c3
    obtain rfl := Option.some.inj H
    go_enter Tryz.func188, Tryz.ntmps188
    go_wp2
    go_ret
    exact ⟨by first | rfl | (simp; done) | (simp [*]; done), by repeat (first | exact Drawn0.refl _ | apply Drawn0.step)⟩
  · rw [if_neg c3] at H
    have c3b0 : (a0 == 1) = false := beq_eq_false_iff_ne.mpr c3
    have c3b1 : (a0 != 1) = true := bne_iff_ne.mpr c3
    by_cases c4 : a0 = 2
    · rw [if_pos c4] at H
      have c4b0 : (a0 == 2) = true := beq_iff_eq.mpr c4
      have c4b1 : (a0 != 2) = false := bne_eq_false_iff_eq.mpr c4
      clear c4
      replace H := Option.bind_eq_some_iff.mp H
      obtain ⟨t113, A50, H⟩ := H
      replace H : (some (wrap64 (t113))) = some r := H
      have A5 := Aside0.mk A50
      clear A50
      obtain rfl := Option.some.inj H
      go_enter Tryz.func188, Tryz.ntmps188
      go_wp2_with (first | ((with_reducible refine gate_callee (f := 162) rfl ?_); refine goesL_ (some 15) rfl rfl Tryz.func162 (by kernel_rfl) rfl #[.int .u32 a1, .int .i64 20, .int .i64 6] rfl (by (try simp only [List.map_toArray, List.map_cons, List.map_nil]); first | done | rfl | (simp only [List.length_drop, List.length_take]; rfl)) ?_; (with_reducible refine (rvcode_cut.calls a1 20 6 t113 _ A5.out).mono ?_); rintro e w' ⟨rfl, ⟨nd, rfl⟩⟩; refine ⟨_, rfl, ?_⟩))
      go_ret
      exact ⟨by first | rfl | (simp; done) | (simp [*]; done), by repeat (first | exact Drawn0.refl _ | apply Drawn0.step)⟩
    · rw [if_neg c4] at H
      have c4b0 : (a0 == 2) = false := beq_eq_false_iff_ne.mpr c4
      have c4b1 : (a0 != 2) = true := bne_iff_ne.mpr c4
      by_cases c6 : a0 = 3
      · rw [if_pos c6] at H
        have c6b0 : (a0 == 3) = true := beq_iff_eq.mpr c6
        have c6b1 : (a0 != 3) = false := bne_eq_false_iff_eq.mpr c6
        clear c6
        replace H := Option.bind_eq_some_iff.mp H
        obtain ⟨t114, A70, H⟩ := H
        replace H : (some (wrap64 (t114))) = some r := H
        have A7 := Aside0.mk A70
        clear A70
        obtain rfl := Option.some.inj H
        go_enter Tryz.func188, Tryz.ntmps188
        go_wp2_with (first | ((with_reducible refine gate_callee (f := 162) rfl ?_); refine goesL_ (some 20) rfl rfl Tryz.func162 (by kernel_rfl) rfl #[.int .u32 a1, .int .i64 20, .int .i64 5] rfl (by (try simp only [List.map_toArray, List.map_cons, List.map_nil]); first | done | rfl | (simp only [List.length_drop, List.length_take]; rfl)) ?_; (with_reducible refine (rvcode_cut.calls a1 20 5 t114 _ A7.out).mono ?_); rintro e w' ⟨rfl, ⟨nd, rfl⟩⟩; refine ⟨_, rfl, ?_⟩))
        go_ret
        exact ⟨by first | rfl | (simp; done) | (simp [*]; done), by repeat (first | exact Drawn0.refl _ | apply Drawn0.step)⟩
      · rw [if_neg c6] at H
        have c6b0 : (a0 == 3) = false := beq_eq_false_iff_ne.mpr c6
        have c6b1 : (a0 != 3) = true := bne_iff_ne.mpr c6
        by_cases c8 : a0 = 4
        · rw [if_pos c8] at H
          have c8b0 : (a0 == 4) = true := beq_iff_eq.mpr c8
          have c8b1 : (a0 != 4) = false := bne_eq_false_iff_eq.mpr c8
          clear c8
          replace H := Option.bind_eq_some_iff.mp H
          obtain ⟨t115, A90, H⟩ := H
          replace H : (some (Go.bits .or .i64 (wrap64 ((wrap64 ((wrap32 (a1)) / 33554432)) * 32)) (wrap64 (t115)))) = some r := H
          have A9 := Aside0.mk A90
          clear A90
          obtain rfl := Option.some.inj H
          go_enter Tryz.func188, Tryz.ntmps188
          go_wp2_with (first | ((with_reducible refine gate_callee (f := 162) rfl ?_); refine goesL_ (some 30) rfl rfl Tryz.func162 (by kernel_rfl) rfl #[.int .u32 a1, .int .i64 7, .int .i64 5] rfl (by (try simp only [List.map_toArray, List.map_cons, List.map_nil]); first | done | rfl | (simp only [List.length_drop, List.length_take]; rfl)) ?_; (with_reducible refine (rvcode_cut.calls a1 7 5 t115 _ A9.out).mono ?_); rintro e w' ⟨rfl, ⟨nd, rfl⟩⟩; refine ⟨_, rfl, ?_⟩))
          go_ret
          exact ⟨by first | rfl | (simp; done) | (simp [*]; done), by repeat (first | exact Drawn0.refl _ | apply Drawn0.step)⟩
        · rw [if_neg c8] at H
          have c8b0 : (a0 == 4) = false := beq_eq_false_iff_ne.mpr c8
          have c8b1 : (a0 != 4) = true := bne_iff_ne.mpr c8
          by_cases c10 : a0 = 5
          · rw [if_pos c10] at H
            have c10b0 : (a0 == 5) = true := beq_iff_eq.mpr c10
            have c10b1 : (a0 != 5) = false := bne_eq_false_iff_eq.mpr c10
            clear c10
            replace H := Option.bind_eq_some_iff.mp H
            obtain ⟨t116, A110, H⟩ := H
            replace H : ((rvcode_cut.f a1 25 6).bind fun t117 => ((rvcode_cut.f a1 8 4).bind fun t118 => (some (Go.bits .or .i64 (wrap64 ((wrap64 ((wrap32 (a1)) / 2147483648)) * 4096)) (wrap64 (Go.bits .or .u32 (Go.bits .or .u32 ((t116 * 2048) % 4294967296) ((t117 * 32) % 4294967296)) ((t118 * 2) % 4294967296))))))) = some r := H
            have A11 := Aside0.mk A110
            clear A110
            replace H := Option.bind_eq_some_iff.mp H
            obtain ⟨t117, A120, H⟩ := H
            replace H : ((rvcode_cut.f a1 8 4).bind fun t118 => (some (Go.bits .or .i64 (wrap64 ((wrap64 ((wrap32 (a1)) / 2147483648)) * 4096)) (wrap64 (Go.bits .or .u32 (Go.bits .or .u32 ((t116 * 2048) % 4294967296) ((t117 * 32) % 4294967296)) ((t118 * 2) % 4294967296)))))) = some r := H
            have A12 := Aside0.mk A120
            clear A120
            replace H := Option.bind_eq_some_iff.mp H
            obtain ⟨t118, A130, H⟩ := H
            replace H : (some (Go.bits .or .i64 (wrap64 ((wrap64 ((wrap32 (a1)) / 2147483648)) * 4096)) (wrap64 (Go.bits .or .u32 (Go.bits .or .u32 ((t116 * 2048) % 4294967296) ((t117 * 32) % 4294967296)) ((t118 * 2) % 4294967296))))) = some r := H
            have A13 := Aside0.mk A130
            clear A130
            obtain rfl := Option.some.inj H
            go_enter Tryz.func188, Tryz.ntmps188
            go_wp2_with (first | ((with_reducible refine gate_callee (f := 162) rfl ?_); refine goesL_ (some 41) rfl rfl Tryz.func162 (by kernel_rfl) rfl #[.int .u32 a1, .int .i64 7, .int .i64 1] rfl (by (try simp only [List.map_toArray, List.map_cons, List.map_nil]); first | done | rfl | (simp only [List.length_drop, List.length_take]; rfl)) ?_; (with_reducible refine (rvcode_cut.calls a1 7 1 t116 _ A11.out).mono ?_); rintro e w' ⟨rfl, ⟨nd, rfl⟩⟩; refine ⟨_, rfl, ?_⟩) | ((with_reducible refine gate_callee (f := 162) rfl ?_); refine goesL_ (some 44) rfl rfl Tryz.func162 (by kernel_rfl) rfl #[.int .u32 a1, .int .i64 25, .int .i64 6] rfl (by (try simp only [List.map_toArray, List.map_cons, List.map_nil]); first | done | rfl | (simp only [List.length_drop, List.length_take]; rfl)) ?_; (with_reducible refine (rvcode_cut.calls a1 25 6 t117 _ A12.out).mono ?_); rintro e w' ⟨rfl, ⟨nd, rfl⟩⟩; refine ⟨_, rfl, ?_⟩) | ((with_reducible refine gate_callee (f := 162) rfl ?_); refine goesL_ (some 48) rfl rfl Tryz.func162 (by kernel_rfl) rfl #[.int .u32 a1, .int .i64 8, .int .i64 4] rfl (by (try simp only [List.map_toArray, List.map_cons, List.map_nil]); first | done | rfl | (simp only [List.length_drop, List.length_take]; rfl)) ?_; (with_reducible refine (rvcode_cut.calls a1 8 4 t118 _ A13.out).mono ?_); rintro e w' ⟨rfl, ⟨nd, rfl⟩⟩; refine ⟨_, rfl, ?_⟩))
            go_ret
            exact ⟨by first | rfl | (simp; done) | (simp [*]; done), by repeat (first | exact Drawn0.refl _ | apply Drawn0.step)⟩
          · rw [if_neg c10] at H
            have c10b0 : (a0 == 5) = false := beq_eq_false_iff_ne.mpr c10
            have c10b1 : (a0 != 5) = true := bne_iff_ne.mpr c10
            by_cases c14 : a0 = 6
            · rw [if_pos c14] at H
              have c14b0 : (a0 == 6) = true := beq_iff_eq.mpr c14
              have c14b1 : (a0 != 6) = false := bne_eq_false_iff_eq.mpr c14
              clear c14
              obtain rfl := Option.some.inj H
              go_enter Tryz.func188, Tryz.ntmps188
              go_wp2
              go_ret
              exact ⟨by first | rfl | (simp; done) | (simp [*]; done), by repeat (first | exact Drawn0.refl _ | apply Drawn0.step)⟩
            · rw [if_neg c14] at H
              have c14b0 : (a0 == 6) = false := beq_eq_false_iff_ne.mpr c14
              have c14b1 : (a0 != 6) = true := bne_iff_ne.mpr c14
              by_cases c15 : a0 = 7
              · rw [if_pos c15] at H
                have c15b0 : (a0 == 7) = true := beq_iff_eq.mpr c15
                have c15b1 : (a0 != 7) = false := bne_eq_false_iff_eq.mpr c15
                clear c15
                replace H := Option.bind_eq_some_iff.mp H
                obtain ⟨t119, A160, H⟩ := H
                replace H : ((rvcode_cut.f a1 20 1).bind fun t120 => ((rvcode_cut.f a1 21 10).bind fun t121 => (some (Go.bits .or .i64 (wrap64 ((wrap64 ((wrap32 (a1)) / 2147483648)) * 1048576)) (wrap64 (Go.bits .or .u32 (Go.bits .or .u32 ((t119 * 4096) % 4294967296) ((t120 * 2048) % 4294967296)) ((t121 * 2) % 4294967296))))))) = some r := H
                have A16 := Aside0.mk A160
                clear A160
                replace H := Option.bind_eq_some_iff.mp H
                obtain ⟨t120, A170, H⟩ := H
                replace H : ((rvcode_cut.f a1 21 10).bind fun t121 => (some (Go.bits .or .i64 (wrap64 ((wrap64 ((wrap32 (a1)) / 2147483648)) * 1048576)) (wrap64 (Go.bits .or .u32 (Go.bits .or .u32 ((t119 * 4096) % 4294967296) ((t120 * 2048) % 4294967296)) ((t121 * 2) % 4294967296)))))) = some r := H
                have A17 := Aside0.mk A170
                clear A170
                replace H := Option.bind_eq_some_iff.mp H
                obtain ⟨t121, A180, H⟩ := H
                replace H : (some (Go.bits .or .i64 (wrap64 ((wrap64 ((wrap32 (a1)) / 2147483648)) * 1048576)) (wrap64 (Go.bits .or .u32 (Go.bits .or .u32 ((t119 * 4096) % 4294967296) ((t120 * 2048) % 4294967296)) ((t121 * 2) % 4294967296))))) = some r := H
                have A18 := Aside0.mk A180
                clear A180
                obtain rfl := Option.some.inj H
                go_enter Tryz.func188, Tryz.ntmps188
                go_wp2_with (first | ((with_reducible refine gate_callee (f := 162) rfl ?_); refine goesL_ (some 67) rfl rfl Tryz.func162 (by kernel_rfl) rfl #[.int .u32 a1, .int .i64 12, .int .i64 8] rfl (by (try simp only [List.map_toArray, List.map_cons, List.map_nil]); first | done | rfl | (simp only [List.length_drop, List.length_take]; rfl)) ?_; (with_reducible refine (rvcode_cut.calls a1 12 8 t119 _ A16.out).mono ?_); rintro e w' ⟨rfl, ⟨nd, rfl⟩⟩; refine ⟨_, rfl, ?_⟩) | ((with_reducible refine gate_callee (f := 162) rfl ?_); refine goesL_ (some 70) rfl rfl Tryz.func162 (by kernel_rfl) rfl #[.int .u32 a1, .int .i64 20, .int .i64 1] rfl (by (try simp only [List.map_toArray, List.map_cons, List.map_nil]); first | done | rfl | (simp only [List.length_drop, List.length_take]; rfl)) ?_; (with_reducible refine (rvcode_cut.calls a1 20 1 t120 _ A17.out).mono ?_); rintro e w' ⟨rfl, ⟨nd, rfl⟩⟩; refine ⟨_, rfl, ?_⟩) | ((with_reducible refine gate_callee (f := 162) rfl ?_); refine goesL_ (some 74) rfl rfl Tryz.func162 (by kernel_rfl) rfl #[.int .u32 a1, .int .i64 21, .int .i64 10] rfl (by (try simp only [List.map_toArray, List.map_cons, List.map_nil]); first | done | rfl | (simp only [List.length_drop, List.length_take]; rfl)) ?_; (with_reducible refine (rvcode_cut.calls a1 21 10 t121 _ A18.out).mono ?_); rintro e w' ⟨rfl, ⟨nd, rfl⟩⟩; refine ⟨_, rfl, ?_⟩))
                go_ret
                exact ⟨by first | rfl | (simp; done) | (simp [*]; done), by repeat (first | exact Drawn0.refl _ | apply Drawn0.step)⟩
              · rw [if_neg c15] at H
                have c15b0 : (a0 == 7) = false := beq_eq_false_iff_ne.mpr c15
                have c15b1 : (a0 != 7) = true := bne_iff_ne.mpr c15
                obtain rfl := Option.some.inj H
                go_enter Tryz.func188, Tryz.ntmps188
                go_wp2
                go_ret
                exact ⟨by first | rfl | (simp; done) | (simp [*]; done), by repeat (first | exact Drawn0.refl _ | apply Drawn0.step)⟩

-- NOT PRINTED: function 15 (rvcode_Decode)

-- NOT PRINTED: function 123 (sort_Search)

-- NOT PRINTED: function 108 (mem_Memory_find)

end Go.Proofs.YtpfcdhjknmijjaaGreat.PHartQuotients
end
