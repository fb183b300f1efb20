import Derived.Test.YtpfcdhjknmijjaaGreatCo8
section
namespace Go.Proofs.YtpfcdhjknmijjaaGreat.PHartQuotients
open Go.RowKit Go.Proofs.YtpfcdhjknmijjaaGreatW.PrintWords Go.Proofs.YtpfcdhjknmijjaaGreatW.PrintLast Go.Proofs.YtpfcdhjknmijjaaGreatW.PrintMore
attribute [local go_sem] max2_int min2_int max_two min_two max_three min_three max_four min_four   -- for this text's walks alone
set_option linter.unusedVariables false
set_option linter.unusedSimpArgs false

/-! ### mem_number: function 109 -/
-- NOT PRINTED: function 105 (mem_Memory_Fetch)

-- NOT PRINTED: function 106 (hart_withNumber)

-- NOT PRINTED: function 76 (hart_Hart_next)

/-! ### hart_width: function 77 -/
mutual
def hart_width.j0 : Nat → Bool → ByteArray → Bool → Option (Int × Bool)
  | 0, _, _, _ => none
  | k + 1, x3, x4, x7 => if x7 = true then (some (1, x3)) else (if x4.toList = ([108, 104] : List UInt8) then (some (2, true)) else (if x4.toList = ([108, 104, 117] : List UInt8) then (hart_width.j1 k x3 x4 (x4.toList == ([108, 104, 117] : List UInt8))) else (hart_width.j1 k x3 x4 (x4.toList == ([115, 104] : List UInt8)))))
def hart_width.j1 : Nat → Bool → ByteArray → Bool → Option (Int × Bool)
  | 0, _, _, _ => none
  | k + 1, x3, x4, x12 => if x12 = true then (some (2, x3)) else (if x4.toList = ([108, 119] : List UInt8) then (some (4, true)) else (if x4.toList = ([108, 119, 117] : List UInt8) then (some (4, x3)) else (if x4.toList = ([115, 119] : List UInt8) then (some (4, x3)) else (some (8, false)))))
end
def hart_width.f (k : Nat) (a0 : ByteArray) : Option (Int × Bool) := if a0.toList = ([108, 98] : List UInt8) then (some (1, true)) else (if a0.toList = ([108, 98, 117] : List UInt8) then (hart_width.j0 k false a0 (a0.toList == ([108, 98, 117] : List UInt8))) else (hart_width.j0 k false a0 (a0.toList == ([115, 98] : List UInt8))))
set_option maxHeartbeats 8000000 in
set_option maxRecDepth 100000 in
theorem hart_width.calls (k : Nat) (a0 : ByteArray) (r1 : Int) (r2 : Bool) (w : World) (h : hart_width.f k a0 = some (r1, r2)) :
    Calls Tryz.prog 148 #[.string a0] w fun e w' => e = .returned (.tuple #[.int .i64 r1, .bool r2]) ∧ Drawn0 w w' := by
  have H : (if a0.toList = ([108, 98] : List UInt8) then (some (1, true)) else (if a0.toList = ([108, 98, 117] : List UInt8) then (hart_width.j0 k false a0 (a0.toList == ([108, 98, 117] : List UInt8))) else (hart_width.j0 k false a0 (a0.toList == ([115, 98] : List UInt8))))) = some (r1, r2) := h
  clear h
  by_cases c2 : a0.toList = ([108, 98] : List UInt8)
  · rw [if_pos c2] at H
    have c2b0 : (a0.toList == ([108, 98] : List UInt8)) = true := beq_iff_eq.mpr c2
    have c2b1 : (a0.toList != ([108, 98] : List UInt8)) = false := bne_eq_false_iff_eq.mpr c2
    clear c2
    simp only [Option.some.injEq, Prod.mk.injEq] at H
    obtain ⟨rfl, rfl⟩ := H
    go_enter Tryz.func148, Tryz.ntmps148
    go_wp2
    go_ret2
    exact ⟨by first | rfl | (simp; done) | (simp [*]; done), by repeat (first | exact Drawn0.refl _ | apply Drawn0.step)⟩
  · rw [if_neg c2] at H
    have c2b0 : (a0.toList == ([108, 98] : List UInt8)) = false := beq_eq_false_iff_ne.mpr c2
    have c2b1 : (a0.toList != ([108, 98] : List UInt8)) = true := bne_iff_ne.mpr c2
    have HC3 := Aside0.mk H
    clear H
    go_enter Tryz.func148, Tryz.ntmps148
    go_upto_if 7 with (fail)
    go_cut [7] (fun v7 wc => ∃ (kq : Nat) (x7_2 : Bool), v7 = .bool x7_2 ∧ Aside0 (hart_width.j0 kq false a0 x7_2 = some (r1, r2)) ∧ Aside0 (kq ≤ k) ∧ Drawn0 w wc)
    case first =>
      have H := HC3.out
      clear HC3
      by_cases c4 : a0.toList = ([108, 98, 117] : List UInt8)
      · rw [if_pos c4] at H
        have c4b0 : (a0.toList == ([108, 98, 117] : List UInt8)) = true := beq_iff_eq.mpr c4
        have c4b1 : (a0.toList != ([108, 98, 117] : List UInt8)) = false := bne_eq_false_iff_eq.mpr c4
        clear c4
        (first | rw [c4b0] | (simp only [i64_w, i32_w]; rw [c4b0]) | skip)
        have H' := Aside0.mk H
        clear H
        go_wp2
        go_meet
        case rel => exact ⟨_, ((a0.toList == ([108, 98, 117] : List UInt8))), (by first | rfl | (simp; done) | (simp [*]; done)), H', ⟨by first | omega | exact Nat.le_refl _⟩, by repeat (first | exact Drawn0.refl _ | apply Drawn0.step)⟩
      · rw [if_neg c4] at H
        have c4b0 : (a0.toList == ([108, 98, 117] : List UInt8)) = false := beq_eq_false_iff_ne.mpr c4
        have c4b1 : (a0.toList != ([108, 98, 117] : List UInt8)) = true := bne_iff_ne.mpr c4
        (first | rw [c4b0] | (simp only [i64_w, i32_w]; rw [c4b0]) | skip)
        have H' := Aside0.mk H
        clear H
        go_wp2
        go_meet
        case rel => exact ⟨_, ((a0.toList == ([115, 98] : List UInt8))), (by first | rfl | (simp; done) | (simp [*]; done)), H', ⟨by first | omega | exact Nat.le_refl _⟩, by repeat (first | exact Drawn0.refl _ | apply Drawn0.step)⟩
    case rest =>
      clear HC3
      try clear c2
      try clear c2b0
      try clear c2b1
      try clear p2
      try clear c4
      try clear c4b0
      try clear c4b1
      obtain ⟨kq, x7_2, rfl, HA, HJ2, ⟨mc2, rfl⟩⟩ := hcut
      cases kq with
      | zero => exact absurd HA.out (by simp [hart_width.j0])
      | succ kj2 =>
        have H := HA.out
        clear HA
        simp only [hart_width.j0] at H
        by_cases c5 : x7_2 = true
        · subst c5
          have H1 : (some (1, false)) = some (r1, r2) := by rw [if_pos rfl] at H; exact H
          clear H
          have H := H1
          clear H1
          simp only [Option.some.injEq, Prod.mk.injEq] at H
          obtain ⟨rfl, rfl⟩ := H
          go_wp2
          go_ret2
          exact ⟨by first | rfl | (simp; done) | (simp [*]; done), by repeat (first | exact Drawn0.refl _ | apply Drawn0.step)⟩
        · replace c5 := Bool.eq_false_iff.mpr c5
          subst c5
          have H1 : (if a0.toList = ([108, 104] : List UInt8) then (some (2, true)) else (if a0.toList = ([108, 104, 117] : List UInt8) then (hart_width.j1 kj2 false a0 (a0.toList == ([108, 104, 117] : List UInt8))) else (hart_width.j1 kj2 false a0 (a0.toList == ([115, 104] : List UInt8))))) = some (r1, r2) := by rw [if_neg (show ¬ (false = true) by decide)] at H; exact H
          clear H
          have H := H1
          clear H1
          by_cases c6 : a0.toList = ([108, 104] : List UInt8)
          · rw [if_pos c6] at H
            have c6b0 : (a0.toList == ([108, 104] : List UInt8)) = true := beq_iff_eq.mpr c6
            have c6b1 : (a0.toList != ([108, 104] : List UInt8)) = false := bne_eq_false_iff_eq.mpr c6
            clear c6
            simp only [Option.some.injEq, Prod.mk.injEq] at H
            obtain ⟨rfl, rfl⟩ := H
            go_wp2
            go_ret2
            exact ⟨by first | rfl | (simp; done) | (simp [*]; done), by repeat (first | exact Drawn0.refl _ | apply Drawn0.step)⟩
          · rw [if_neg c6] at H
            have c6b0 : (a0.toList == ([108, 104] : List UInt8)) = false := beq_eq_false_iff_ne.mpr c6
            have c6b1 : (a0.toList != ([108, 104] : List UInt8)) = true := bne_iff_ne.mpr c6
            have HC7 := Aside0.mk H
            clear H
            go_upto_if 12 with (fail)
            go_cut [12] (fun v12 wc => ∃ (kq : Nat) (x12_6 : Bool), v12 = .bool x12_6 ∧ Aside0 (hart_width.j1 kq false a0 x12_6 = some (r1, r2)) ∧ Aside0 (kq ≤ kj2) ∧ Drawn0 w wc)
            case first =>
              have H := HC7.out
              clear HC7
              by_cases c8 : a0.toList = ([108, 104, 117] : List UInt8)
              · rw [if_pos c8] at H
                have c8b0 : (a0.toList == ([108, 104, 117] : List UInt8)) = true := beq_iff_eq.mpr c8
                have c8b1 : (a0.toList != ([108, 104, 117] : List UInt8)) = false := bne_eq_false_iff_eq.mpr c8
                clear c8
                (first | rw [c8b0] | (simp only [i64_w, i32_w]; rw [c8b0]) | skip)
                have H' := Aside0.mk H
                clear H
                go_wp2
                go_meet
                case rel => exact ⟨_, ((a0.toList == ([108, 104, 117] : List UInt8))), (by first | rfl | (simp; done) | (simp [*]; done)), H', ⟨by have := HJ2.out; first | omega | exact Nat.le_refl _⟩, by repeat (first | exact Drawn0.refl _ | apply Drawn0.step)⟩
              · rw [if_neg c8] at H
                have c8b0 : (a0.toList == ([108, 104, 117] : List UInt8)) = false := beq_eq_false_iff_ne.mpr c8
                have c8b1 : (a0.toList != ([108, 104, 117] : List UInt8)) = true := bne_iff_ne.mpr c8
                (first | rw [c8b0] | (simp only [i64_w, i32_w]; rw [c8b0]) | skip)
                have H' := Aside0.mk H
                clear H
                go_wp2
                go_meet
                case rel => exact ⟨_, ((a0.toList == ([115, 104] : List UInt8))), (by first | rfl | (simp; done) | (simp [*]; done)), H', ⟨by have := HJ2.out; first | omega | exact Nat.le_refl _⟩, by repeat (first | exact Drawn0.refl _ | apply Drawn0.step)⟩
            case rest =>
              clear HC7
              try clear c2
              try clear c2b0
              try clear c2b1
              try clear p2
              try clear c4
              try clear c4b0
              try clear c4b1
              try clear c5
              try clear c6
              try clear c6b0
              try clear c6b1
              try clear c7
              try clear c8
              try clear c8b0
              try clear c8b1
              try clear p2
              obtain ⟨kq, x12_6, rfl, HA, HJ6, ⟨mc6, rfl⟩⟩ := hcut
              cases kq with
              | zero => exact absurd HA.out (by simp [hart_width.j1])
              | succ kj6 =>
                have H := HA.out
                clear HA
                simp only [hart_width.j1] at H
                by_cases c9 : x12_6 = true
                · subst c9
                  have H1 : (some (2, false)) = some (r1, r2) := by rw [if_pos rfl] at H; exact H
                  clear H
                  have H := H1
                  clear H1
                  simp only [Option.some.injEq, Prod.mk.injEq] at H
                  obtain ⟨rfl, rfl⟩ := H
                  go_wp2
                  go_ret2
                  exact ⟨by first | rfl | (simp; done) | (simp [*]; done), by repeat (first | exact Drawn0.refl _ | apply Drawn0.step)⟩
                · replace c9 := Bool.eq_false_iff.mpr c9
                  subst c9
                  have H1 : (if a0.toList = ([108, 119] : List UInt8) then (some (4, true)) else (if a0.toList = ([108, 119, 117] : List UInt8) then (some (4, false)) else (if a0.toList = ([115, 119] : List UInt8) then (some (4, false)) else (some (8, false))))) = some (r1, r2) := by rw [if_neg (show ¬ (false = true) by decide)] at H; exact H
                  clear H
                  have H := H1
                  clear H1
                  by_cases c10 : a0.toList = ([108, 119] : List UInt8)
                  · rw [if_pos c10] at H
                    have c10b0 : (a0.toList == ([108, 119] : List UInt8)) = true := beq_iff_eq.mpr c10
                    have c10b1 : (a0.toList != ([108, 119] : List UInt8)) = false := bne_eq_false_iff_eq.mpr c10
                    clear c10
                    simp only [Option.some.injEq, Prod.mk.injEq] at H
                    obtain ⟨rfl, rfl⟩ := H
                    go_wp2
                    go_ret2
                    exact ⟨by first | rfl | (simp; done) | (simp [*]; done), by repeat (first | exact Drawn0.refl _ | apply Drawn0.step)⟩
                  · rw [if_neg c10] at H
                    have c10b0 : (a0.toList == ([108, 119] : List UInt8)) = false := beq_eq_false_iff_ne.mpr c10
                    have c10b1 : (a0.toList != ([108, 119] : List UInt8)) = true := bne_iff_ne.mpr c10
                    by_cases c11 : a0.toList = ([108, 119, 117] : List UInt8)
                    · rw [if_pos c11] at H
                      have c11b0 : (a0.toList == ([108, 119, 117] : List UInt8)) = true := beq_iff_eq.mpr c11
                      have c11b1 : (a0.toList != ([108, 119, 117] : List UInt8)) = false := bne_eq_false_iff_eq.mpr c11
                      clear c11
                      simp only [Option.some.injEq, Prod.mk.injEq] at H
                      obtain ⟨rfl, rfl⟩ := H
                      go_wp2
                      go_ret2
                      exact ⟨by first | rfl | (simp; done) | (simp [*]; done), by repeat (first | exact Drawn0.refl _ | apply Drawn0.step)⟩
                    · rw [if_neg c11] at H
                      have c11b0 : (a0.toList == ([108, 119, 117] : List UInt8)) = false := beq_eq_false_iff_ne.mpr c11
                      have c11b1 : (a0.toList != ([108, 119, 117] : List UInt8)) = true := bne_iff_ne.mpr c11
                      by_cases c12 : a0.toList = ([115, 119] : List UInt8)
                      · rw [if_pos c12] at H
                        have c12b0 : (a0.toList == ([115, 119] : List UInt8)) = true := beq_iff_eq.mpr c12
                        have c12b1 : (a0.toList != ([115, 119] : List UInt8)) = false := bne_eq_false_iff_eq.mpr c12
                        clear c12
                        simp only [Option.some.injEq, Prod.mk.injEq] at H
                        obtain ⟨rfl, rfl⟩ := H
                        go_wp2
                        go_ret2
                        exact ⟨by first | rfl | (simp; done) | (simp [*]; done), by repeat (first | exact Drawn0.refl _ | apply Drawn0.step)⟩
                      · rw [if_neg c12] at H
                        have c12b0 : (a0.toList == ([115, 119] : List UInt8)) = false := beq_eq_false_iff_ne.mpr c12
                        have c12b1 : (a0.toList != ([115, 119] : List UInt8)) = true := bne_iff_ne.mpr c12
                        simp only [Option.some.injEq, Prod.mk.injEq] at H
                        obtain ⟨rfl, rfl⟩ := H
                        go_wp2
                        go_ret2
                        exact ⟨by first | rfl | (simp; done) | (simp [*]; done), by repeat (first | exact Drawn0.refl _ | apply Drawn0.step)⟩

/-! ### mem_size: function 107 -/
-- NOT PRINTED: function 78 (mem_Memory_Load)

/-! ### hart_extend: function 79 -/
def hart_extend.f (a0 : Int) (a1 : Int) : Option (Int) := if 0 ≤ (IntKind.u64.wrap (wrap64 (64 - a1))) then (some (IntKind.u64.wrap (shr .i64 (wrap64 (shl .u64 a0 (IntKind.u64.wrap (wrap64 (64 - a1))))) (IntKind.u64.wrap (wrap64 (64 - a1)))))) else (none)
set_option maxHeartbeats 8000000 in
set_option maxRecDepth 100000 in
theorem hart_extend.calls (a0 : Int) (a1 : Int) (r : Int) (w : World) (h : hart_extend.f a0 a1 = some r) :
    Calls Tryz.prog 150 #[.int .u64 a0, .int .i64 a1] w fun e w' => e = .returned (.int .u64 r) ∧ Drawn0 w w' := by
  have H : (if 0 ≤ (IntKind.u64.wrap (wrap64 (64 - a1))) then (some (IntKind.u64.wrap (shr .i64 (wrap64 (shl .u64 a0 (IntKind.u64.wrap (wrap64 (64 - a1))))) (IntKind.u64.wrap (wrap64 (64 - a1)))))) else (none)) = some r := h
  clear h
  obtain ⟨ji3, hji3⟩ : ∃ j_ : Int, (IntKind.u64.wrap (wrap64 (64 - a1))) = j_ := ⟨_, rfl⟩
  replace H : (if 0 ≤ (ji3) then (some (IntKind.u64.wrap (shr .i64 (wrap64 (shl .u64 a0 (ji3))) (ji3)))) else (none)) = some r := by first | (rw [hji3] at H; exact H) | (simp only [hji3] at H ⊢; exact H)
  by_cases c4 : 0 ≤ (ji3)
  · rw [if_pos c4] at H
    have c4b0 := eq_true c4
    have c4b1 : decide (0 ≤ (ji3)) = true := decide_eq_true c4
    clear c4
    obtain ⟨ji5, hji5⟩ : ∃ j_ : Int, (shl .u64 a0 (ji3)) = j_ := ⟨_, rfl⟩
    replace H : (some (IntKind.u64.wrap (shr .i64 (wrap64 (ji5)) (ji3)))) = some r := by first | (rw [hji5] at H; exact H) | (simp only [hji5] at H ⊢; exact H)
    have hji5_ : (IntKind.u64.wrap (a0 * 2 ^ min (ji3).toNat 64)) = ji5 := hji5
    have hji5z : (ji3) ≤ 64 → (IntKind.u64.wrap (a0 * 2 ^ (ji3).toNat)) = ji5 := shl_small hji5
    have c6b0 := eq_true (of_decide_eq_true (by first | (with_reducible assumption) | assumption) : 0 ≤ (ji3))
    obtain ⟨ji7, hji7⟩ : ∃ j_ : Int, (shr .i64 (wrap64 (ji5)) (ji3)) = j_ := ⟨_, rfl⟩
    replace H : (some (IntKind.u64.wrap (ji7))) = some r := by first | (rw [hji7] at H; exact H) | (simp only [hji7] at H ⊢; exact H)
    have hji7_ : ((wrap64 (ji5)) / 2 ^ min (ji3).toNat 64) = ji7 := hji7
    have hji7z : (ji3) ≤ 64 → ((wrap64 (ji5)) / 2 ^ (ji3).toNat) = ji7 := shr_small hji7
    obtain rfl := Option.some.inj H
    go_enter Tryz.func150, Tryz.ntmps150
    go_wp2
    go_ret
    exact ⟨by first | rfl | (simp; done) | (simp only [← hji3, ← hji5, ← hji7] <;> (first | rfl | simp)) | (simp [*]; done), by repeat (first | exact Drawn0.refl _ | apply Drawn0.step)⟩
  · rw [if_neg c4] at H
    exact absurd H (by simp)

-- NOT PRINTED: function 80 (mem_Memory_Store)

/-! ### hart_taken: function 81 -/
def hart_taken.f (a0 : ByteArray) (a1 : Int) (a2 : Int) : Option (Bool) := if a0.toList = ([98, 101, 113] : List UInt8) then (some (a1 == a2)) else (if a0.toList = ([98, 110, 101] : List UInt8) then (some (a1 != a2)) else (if a0.toList = ([98, 108, 116] : List UInt8) then (some (decide ((wrap64 (a1)) < (wrap64 (a2))))) else (if a0.toList = ([98, 103, 101] : List UInt8) then (some (decide ((wrap64 (a1)) ≥ (wrap64 (a2))))) else (if a0.toList = ([98, 108, 116, 117] : List UInt8) then (some (decide (a1 < a2))) else (some (decide (a1 ≥ a2)))))))
set_option maxHeartbeats 8000000 in
set_option maxRecDepth 100000 in
theorem hart_taken.calls (a0 : ByteArray) (a1 : Int) (a2 : Int) (r : Bool) (w : World) (h : hart_taken.f a0 a1 a2 = some r) :
    Calls Tryz.prog 152 #[.string a0, .int .u64 a1, .int .u64 a2] w fun e w' => e = .returned (.bool r) ∧ Drawn0 w w' := by
  have H : (if a0.toList = ([98, 101, 113] : List UInt8) then (some (a1 == a2)) else (if a0.toList = ([98, 110, 101] : List UInt8) then (some (a1 != a2)) else (if a0.toList = ([98, 108, 116] : List UInt8) then (some (decide ((wrap64 (a1)) < (wrap64 (a2))))) else (if a0.toList = ([98, 103, 101] : List UInt8) then (some (decide ((wrap64 (a1)) ≥ (wrap64 (a2))))) else (if a0.toList = ([98, 108, 116, 117] : List UInt8) then (some (decide (a1 < a2))) else (some (decide (a1 ≥ a2)))))))) = some r := h
  clear h
  by_cases c4 : a0.toList = ([98, 101, 113] : List UInt8)
  · rw [if_pos c4] at H
    have c4b0 : (a0.toList == ([98, 101, 113] : List UInt8)) = true := beq_iff_eq.mpr c4
    have c4b1 : (a0.toList != ([98, 101, 113] : List UInt8)) = false := bne_eq_false_iff_eq.mpr c4
    clear c4
    obtain rfl := Option.some.inj H
    go_enter Tryz.func152, Tryz.ntmps152
    go_wp2
    go_ret
    exact ⟨by first | rfl | (simp; done) | (simp [*]; done), by repeat (first | exact Drawn0.refl _ | apply Drawn0.step)⟩
  · rw [if_neg c4] at H
    have c4b0 : (a0.toList == ([98, 101, 113] : List UInt8)) = false := beq_eq_false_iff_ne.mpr c4
    have c4b1 : (a0.toList != ([98, 101, 113] : List UInt8)) = true := bne_iff_ne.mpr c4
    by_cases c5 : a0.toList = ([98, 110, 101] : List UInt8)
    · rw [if_pos c5] at H
      have c5b0 : (a0.toList == ([98, 110, 101] : List UInt8)) = true := beq_iff_eq.mpr c5
      have c5b1 : (a0.toList != ([98, 110, 101] : List UInt8)) = false := bne_eq_false_iff_eq.mpr c5
      clear c5
      obtain rfl := Option.some.inj H
      go_enter Tryz.func152, Tryz.ntmps152
      go_wp2
      go_ret
      exact ⟨by first | rfl | (simp; done) | (simp [*]; done), by repeat (first | exact Drawn0.refl _ | apply Drawn0.step)⟩
    · rw [if_neg c5] at H
      have c5b0 : (a0.toList == ([98, 110, 101] : List UInt8)) = false := beq_eq_false_iff_ne.mpr c5
      have c5b1 : (a0.toList != ([98, 110, 101] : List UInt8)) = true := bne_iff_ne.mpr c5
      by_cases c6 : a0.toList = ([98, 108, 116] : List UInt8)
      · rw [if_pos c6] at H
        have c6b0 : (a0.toList == ([98, 108, 116] : List UInt8)) = true := beq_iff_eq.mpr c6
        have c6b1 : (a0.toList != ([98, 108, 116] : List UInt8)) = false := bne_eq_false_iff_eq.mpr c6
        clear c6
        obtain rfl := Option.some.inj H
        go_enter Tryz.func152, Tryz.ntmps152
        go_wp2
        go_ret
        exact ⟨by first | rfl | (simp; done) | (simp [*]; done), by repeat (first | exact Drawn0.refl _ | apply Drawn0.step)⟩
      · rw [if_neg c6] at H
        have c6b0 : (a0.toList == ([98, 108, 116] : List UInt8)) = false := beq_eq_false_iff_ne.mpr c6
        have c6b1 : (a0.toList != ([98, 108, 116] : List UInt8)) = true := bne_iff_ne.mpr c6
        by_cases c7 : a0.toList = ([98, 103, 101] : List UInt8)
        · rw [if_pos c7] at H
          have c7b0 : (a0.toList == ([98, 103, 101] : List UInt8)) = true := beq_iff_eq.mpr c7
          have c7b1 : (a0.toList != ([98, 103, 101] : List UInt8)) = false := bne_eq_false_iff_eq.mpr c7
          clear c7
          obtain rfl := Option.some.inj H
          go_enter Tryz.func152, Tryz.ntmps152
          go_wp2
          go_ret
          exact ⟨by first | rfl | (simp; done) | (simp [*]; done), by repeat (first | exact Drawn0.refl _ | apply Drawn0.step)⟩
        · rw [if_neg c7] at H
          have c7b0 : (a0.toList == ([98, 103, 101] : List UInt8)) = false := beq_eq_false_iff_ne.mpr c7
          have c7b1 : (a0.toList != ([98, 103, 101] : List UInt8)) = true := bne_iff_ne.mpr c7
          by_cases c8 : a0.toList = ([98, 108, 116, 117] : List UInt8)
          · rw [if_pos c8] at H
            have c8b0 : (a0.toList == ([98, 108, 116, 117] : List UInt8)) = true := beq_iff_eq.mpr c8
            have c8b1 : (a0.toList != ([98, 108, 116, 117] : List UInt8)) = false := bne_eq_false_iff_eq.mpr c8
            clear c8
            obtain rfl := Option.some.inj H
            go_enter Tryz.func152, Tryz.ntmps152
            go_wp2
            go_ret
            exact ⟨by first | rfl | (simp; done) | (simp [*]; done), by repeat (first | exact Drawn0.refl _ | apply Drawn0.step)⟩
          · rw [if_neg c8] at H
            have c8b0 : (a0.toList == ([98, 108, 116, 117] : List UInt8)) = false := beq_eq_false_iff_ne.mpr c8
            have c8b1 : (a0.toList != ([98, 108, 116, 117] : List UInt8)) = true := bne_iff_ne.mpr c8
            obtain rfl := Option.some.inj H
            go_enter Tryz.func152, Tryz.ntmps152
            go_wp2
            go_ret
            exact ⟨by first | rfl | (simp; done) | (simp [*]; done), by repeat (first | exact Drawn0.refl _ | apply Drawn0.step)⟩

/-! ### hart_quotient: function 125 -/
mutual
def hart_quotient.j0 : Nat → ByteArray → Int → Int → Int → Bool → Option (Int)
  | 0, _, _, _, _, _ => none
  | k + 1, x0, x1, x2, x7, x8 => if x2 = 0 then (hart_quotient.j1 k x0 x1 x2 x7 x8 x8) else (hart_quotient.j1 k x0 x1 x2 x7 x8 false)
def hart_quotient.j1 : Nat → ByteArray → Int → Int → Int → Bool → Bool → Option (Int)
  | 0, _, _, _, _, _, _ => none
  | k + 1, x0, x1, x2, x7, x8, x15 => if x15 = true then (some x1) else (if x2 = 0 then (some 18446744073709551615) else (if x0.toList = ([100, 105, 118, 117] : List UInt8) then (some (IntKind.u64.wrap (Int.tdiv x1 x2))) else (if x0.toList = ([114, 101, 109, 117] : List UInt8) then (some (Int.tmod x1 x2)) else (if x1 = x7 then (hart_quotient.j2 k x1 x2 x8 (x2 == 18446744073709551615)) else (hart_quotient.j2 k x1 x2 x8 false)))))
def hart_quotient.j2 : Nat → Int → Int → Bool → Bool → Option (Int)
  | 0, _, _, _, _ => none
  | k + 1, x1, x2, x8, x37 => if x37 = true then (if x8 = true then (some 0) else (some x1)) else (if x8 = true then (if (wrap64 (x2)) = 0 then (none) else (some (IntKind.u64.wrap (Int.tmod (wrap64 (x1)) (wrap64 (x2)))))) else (if (wrap64 (x2)) = 0 then (none) else (some (IntKind.u64.wrap (wrap64 (Int.tdiv (wrap64 (x1)) (wrap64 (x2))))))))
end
def hart_quotient.f (k : Nat) (a0 : ByteArray) (a1 : Int) (a2 : Int) : Option (Int) := if a0.toList = ([114, 101, 109] : List UInt8) then (hart_quotient.j0 k a0 a1 a2 9223372036854775808 true) else (hart_quotient.j0 k a0 a1 a2 9223372036854775808 (a0.toList == ([114, 101, 109, 117] : List UInt8)))
set_option maxHeartbeats 8000000 in
set_option maxRecDepth 100000 in
theorem hart_quotient.calls (k : Nat) (a0 : ByteArray) (a1 : Int) (a2 : Int) (r : Int) (w : World) (h : hart_quotient.f k a0 a1 a2 = some r) :
    Calls Tryz.prog 191 #[.string a0, .int .u64 a1, .int .u64 a2] w fun e w' => e = .returned (.int .u64 r) ∧ Drawn0 w w' := by
  have H : (if a0.toList = ([114, 101, 109] : List UInt8) then (hart_quotient.j0 k a0 a1 a2 9223372036854775808 true) else (hart_quotient.j0 k a0 a1 a2 9223372036854775808 (a0.toList == ([114, 101, 109, 117] : List UInt8)))) = some r := h
  clear h
  have HC4 := Aside0.mk H
  clear H
  go_enter Tryz.func191, Tryz.ntmps191
  go_upto_region 2 with (fail)
  go_cut [8] (fun v8 wc => ∃ (kq : Nat) (x8_3 : Bool), v8 = .bool x8_3 ∧ Aside0 (hart_quotient.j0 kq a0 a1 a2 9223372036854775808 x8_3 = some r) ∧ Aside0 (kq ≤ k) ∧ Drawn0 w wc)
  case first =>
    have H := HC4.out
    clear HC4
    by_cases c5 : a0.toList = ([114, 101, 109] : List UInt8)
    · rw [if_pos c5] at H
      have c5b0 : (a0.toList == ([114, 101, 109] : List UInt8)) = true := beq_iff_eq.mpr c5
      have c5b1 : (a0.toList != ([114, 101, 109] : List UInt8)) = false := bne_eq_false_iff_eq.mpr c5
      clear c5
      (first | rw [c5b0] | (simp only [i64_w, i32_w]; rw [c5b0]) | skip)
      have H' := Aside0.mk H
      clear H
      go_wp2
      go_meet
      case rel => exact ⟨_, (true), (by first | rfl | (simp; done) | (simp [*]; done)), H', ⟨by first | omega | exact Nat.le_refl _⟩, by repeat (first | exact Drawn0.refl _ | apply Drawn0.step)⟩
    · rw [if_neg c5] at H
      have c5b0 : (a0.toList == ([114, 101, 109] : List UInt8)) = false := beq_eq_false_iff_ne.mpr c5
      have c5b1 : (a0.toList != ([114, 101, 109] : List UInt8)) = true := bne_iff_ne.mpr c5
      (first | rw [c5b0] | (simp only [i64_w, i32_w]; rw [c5b0]) | skip)
      have H' := Aside0.mk H
      clear H
      go_wp2
      go_meet
      case rel => exact ⟨_, ((a0.toList == ([114, 101, 109, 117] : List UInt8))), (by first | rfl | (simp; done) | (simp [*]; done)), H', ⟨by first | omega | exact Nat.le_refl _⟩, by repeat (first | exact Drawn0.refl _ | apply Drawn0.step)⟩
  case rest =>
    clear HC4
    try clear c1
    try clear p2
    try clear c5
    try clear c5b0
    try clear c5b1
    obtain ⟨kq, x8_3, rfl, HA, HJ3, ⟨mc3, rfl⟩⟩ := hcut
    cases kq with
    | zero => exact absurd HA.out (by simp [hart_quotient.j0])
    | succ kj3 =>
      have H := HA.out
      clear HA
      simp only [hart_quotient.j0] at H
      have HC6 := Aside0.mk H
      clear H
      go_upto_region 3 with (fail)
      go_cut [15] (fun v15 wc => ∃ (kq : Nat) (x15_5 : Bool), v15 = .bool x15_5 ∧ Aside0 (hart_quotient.j1 kq a0 a1 a2 9223372036854775808 x8_3 x15_5 = some r) ∧ Aside0 (kq ≤ kj3) ∧ Drawn0 w wc)
      case first =>
        have H := HC6.out
        clear HC6
        by_cases c7 : a2 = 0
        · rw [if_pos c7] at H
          have c7b0 : (a2 == 0) = true := beq_iff_eq.mpr c7
          have c7b1 : (a2 != 0) = false := bne_eq_false_iff_eq.mpr c7
          clear c7
          (first | rw [c7b0] | (simp only [i64_w, i32_w]; rw [c7b0]) | skip)
          have H' := Aside0.mk H
          clear H
          go_wp2
          go_meet
          case rel => exact ⟨_, (x8_3), (by first | rfl | (simp; done) | (simp [*]; done)), H', ⟨by have := HJ3.out; first | omega | exact Nat.le_refl _⟩, by repeat (first | exact Drawn0.refl _ | apply Drawn0.step)⟩
        · rw [if_neg c7] at H
          have c7b0 : (a2 == 0) = false := beq_eq_false_iff_ne.mpr c7
          have c7b1 : (a2 != 0) = true := bne_iff_ne.mpr c7
          (first | rw [c7b0] | (simp only [i64_w, i32_w]; rw [c7b0]) | skip)
          have H' := Aside0.mk H
          clear H
          go_wp2
          go_meet
          case rel => exact ⟨_, (false), (by first | rfl | (simp; done) | (simp [*]; done)), H', ⟨by have := HJ3.out; first | omega | exact Nat.le_refl _⟩, by repeat (first | exact Drawn0.refl _ | apply Drawn0.step)⟩
      case rest =>
        clear HC6
        try clear c1
        try clear p2
        try clear c3
        try clear c5
        try clear c5b0
        try clear c5b1
        try clear c7
        try clear c7b0
        try clear c7b1
        try clear p2
        obtain ⟨kq, x15_5, rfl, HA, HJ5, ⟨mc5, rfl⟩⟩ := hcut
        cases kq with
        | zero => exact absurd HA.out (by simp [hart_quotient.j1])
        | succ kj5 =>
          have H := HA.out
          clear HA
          simp only [hart_quotient.j1] at H
          by_cases c8 : x15_5 = true
          · subst c8
            have H1 : (some a1) = some r := by rw [if_pos rfl] at H; exact H
            clear H
            have H := H1
            clear H1
            obtain rfl := Option.some.inj H
            go_wp2
            go_ret
            exact ⟨by first | rfl | (simp; done) | (simp [*]; done), by repeat (first | exact Drawn0.refl _ | apply Drawn0.step)⟩
          · replace c8 := Bool.eq_false_iff.mpr c8
            subst c8
            have H1 : (if a2 = 0 then (some 18446744073709551615) else (if a0.toList = ([100, 105, 118, 117] : List UInt8) then (some (IntKind.u64.wrap (Int.tdiv a1 a2))) else (if a0.toList = ([114, 101, 109, 117] : List UInt8) then (some (Int.tmod a1 a2)) else (if a1 = 9223372036854775808 then (hart_quotient.j2 kj5 a1 a2 x8_3 (a2 == 18446744073709551615)) else (hart_quotient.j2 kj5 a1 a2 x8_3 false))))) = some r := by rw [if_neg (show ¬ (false = true) by decide)] at H; exact H
            clear H
            have H := H1
            clear H1
            by_cases c9 : a2 = 0
            · rw [if_pos c9] at H
              have c9b0 : (a2 == 0) = true := beq_iff_eq.mpr c9
              have c9b1 : (a2 != 0) = false := bne_eq_false_iff_eq.mpr c9
              clear c9
              obtain rfl := Option.some.inj H
              go_wp2
              go_ret
              exact ⟨by first | rfl | (simp; done) | (simp [*]; done), by repeat (first | exact Drawn0.refl _ | apply Drawn0.step)⟩
            · rw [if_neg c9] at H
              have c9b0 : (a2 == 0) = false := beq_eq_false_iff_ne.mpr c9
              have c9b1 : (a2 != 0) = true := bne_iff_ne.mpr c9
              by_cases c10 : a0.toList = ([100, 105, 118, 117] : List UInt8)
              · rw [if_pos c10] at H
                have c10b0 : (a0.toList == ([100, 105, 118, 117] : List UInt8)) = true := beq_iff_eq.mpr c10
                have c10b1 : (a0.toList != ([100, 105, 118, 117] : List UInt8)) = false := bne_eq_false_iff_eq.mpr c10
                clear c10
                obtain rfl := Option.some.inj H
                go_wp2
                go_ret
                exact ⟨by first | rfl | (simp; done) | (simp [*]; done), by repeat (first | exact Drawn0.refl _ | apply Drawn0.step)⟩
              · rw [if_neg c10] at H
                have c10b0 : (a0.toList == ([100, 105, 118, 117] : List UInt8)) = false := beq_eq_false_iff_ne.mpr c10
                have c10b1 : (a0.toList != ([100, 105, 118, 117] : List UInt8)) = true := bne_iff_ne.mpr c10
                by_cases c11 : a0.toList = ([114, 101, 109, 117] : List UInt8)
                · rw [if_pos c11] at H
                  have c11b0 : (a0.toList == ([114, 101, 109, 117] : List UInt8)) = true := beq_iff_eq.mpr c11
                  have c11b1 : (a0.toList != ([114, 101, 109, 117] : List UInt8)) = false := bne_eq_false_iff_eq.mpr c11
                  clear c11
                  obtain rfl := Option.some.inj H
                  go_wp2
                  go_ret
                  exact ⟨by first | rfl | (simp; done) | (simp [*]; done), by repeat (first | exact Drawn0.refl _ | apply Drawn0.step)⟩
                · rw [if_neg c11] at H
                  have c11b0 : (a0.toList == ([114, 101, 109, 117] : List UInt8)) = false := beq_eq_false_iff_ne.mpr c11
                  have c11b1 : (a0.toList != ([114, 101, 109, 117] : List UInt8)) = true := bne_iff_ne.mpr c11
                  have HC12 := Aside0.mk H
                  clear H
                  go_upto_region 11 with (fail)
                  go_cut [37] (fun v37 wc => ∃ (kq : Nat) (x37_11 : Bool), v37 = .bool x37_11 ∧ Aside0 (hart_quotient.j2 kq a1 a2 x8_3 x37_11 = some r) ∧ Aside0 (kq ≤ kj5) ∧ Drawn0 w wc)
                  case first =>
                    have H := HC12.out
                    clear HC12
                    by_cases c13 : a1 = 9223372036854775808
                    · rw [if_pos c13] at H
                      have c13b0 : (a1 == 9223372036854775808) = true := beq_iff_eq.mpr c13
                      have c13b1 : (a1 != 9223372036854775808) = false := bne_eq_false_iff_eq.mpr c13
                      clear c13
                      (first | rw [c13b0] | (simp only [i64_w, i32_w]; rw [c13b0]) | skip)
                      have H' := Aside0.mk H
                      clear H
                      go_wp2
                      go_meet
                      case rel => exact ⟨_, ((a2 == 18446744073709551615)), (by first | rfl | (simp; done) | (simp [*]; done)), H', ⟨by have := HJ3.out; have := HJ5.out; first | omega | exact Nat.le_refl _⟩, by repeat (first | exact Drawn0.refl _ | apply Drawn0.step)⟩
                    · rw [if_neg c13] at H
                      have c13b0 : (a1 == 9223372036854775808) = false := beq_eq_false_iff_ne.mpr c13
                      have c13b1 : (a1 != 9223372036854775808) = true := bne_iff_ne.mpr c13
                      (first | rw [c13b0] | (simp only [i64_w, i32_w]; rw [c13b0]) | skip)
                      have H' := Aside0.mk H
                      clear H
                      go_wp2
                      go_meet
                      case rel => exact ⟨_, (false), (by first | rfl | (simp; done) | (simp [*]; done)), H', ⟨by have := HJ3.out; have := HJ5.out; first | omega | exact Nat.le_refl _⟩, by repeat (first | exact Drawn0.refl _ | apply Drawn0.step)⟩
                  case rest =>
                    clear HC12
                    try clear c1
                    try clear p2
                    try clear c3
                    try clear c5
                    try clear c5b0
                    try clear c5b1
                    try clear c7
                    try clear c7b0
                    try clear c7b1
                    try clear c8
                    try clear c9
                    try clear c9b0
                    try clear c9b1
                    try clear c10
                    try clear c10b0
                    try clear c10b1
                    try clear c11
                    try clear c11b0
                    try clear c11b1
                    try clear c12
                    try clear c13
                    try clear c13b0
                    try clear c13b1
                    try clear p2
                    obtain ⟨kq, x37_11, rfl, HA, HJ11, ⟨mc11, rfl⟩⟩ := hcut
                    cases kq with
                    | zero => exact absurd HA.out (by simp [hart_quotient.j2])
                    | succ kj11 =>
                      have H := HA.out
                      clear HA
                      simp only [hart_quotient.j2] at H
                      by_cases c14 : x37_11 = true
                      · subst c14
                        have H1 : (if x8_3 = true then (some 0) else (some a1)) = some r := by rw [if_pos rfl] at H; exact H
                        clear H
                        have H := H1
                        clear H1
                        by_cases c15 : x8_3 = true
                        · subst c15
                          have H1 : (some 0) = some r := by rw [if_pos rfl] at H; exact H
                          clear H
                          have H := H1
                          clear H1
                          obtain rfl := Option.some.inj H
                          go_wp2
                          go_ret
                          exact ⟨by first | rfl | (simp; done) | (simp [*]; done), by repeat (first | exact Drawn0.refl _ | apply Drawn0.step)⟩
                        · replace c15 := Bool.eq_false_iff.mpr c15
                          subst c15
                          have H1 : (some a1) = some r := by rw [if_neg (show ¬ (false = true) by decide)] at H; exact H
                          clear H
                          have H := H1
                          clear H1
                          obtain rfl := Option.some.inj H
                          go_wp2
                          go_ret
                          exact ⟨by first | rfl | (simp; done) | (simp [*]; done), by repeat (first | exact Drawn0.refl _ | apply Drawn0.step)⟩
                      · replace c14 := Bool.eq_false_iff.mpr c14
                        subst c14
                        have H1 : (if x8_3 = true then (if (wrap64 (a2)) = 0 then (none) else (some (IntKind.u64.wrap (Int.tmod (wrap64 (a1)) (wrap64 (a2)))))) else (if (wrap64 (a2)) = 0 then (none) else (some (IntKind.u64.wrap (wrap64 (Int.tdiv (wrap64 (a1)) (wrap64 (a2)))))))) = some r := by rw [if_neg (show ¬ (false = true) by decide)] at H; exact H
                        clear H
                        have H := H1
                        clear H1
                        by_cases c16 : x8_3 = true
                        · subst c16
                          have H1 : (if (wrap64 (a2)) = 0 then (none) else (some (IntKind.u64.wrap (Int.tmod (wrap64 (a1)) (wrap64 (a2)))))) = some r := by rw [if_pos rfl] at H; exact H
                          clear H
                          have H := H1
                          clear H1
                          by_cases c17 : (wrap64 (a2)) = 0
                          · rw [if_pos c17] at H
                            exact absurd H (by simp)
                          · rw [if_neg c17] at H
                            have c17b0 : ((wrap64 (a2)) == 0) = false := beq_eq_false_iff_ne.mpr c17
                            have c17b1 : ((wrap64 (a2)) != 0) = true := bne_iff_ne.mpr c17
                            obtain rfl := Option.some.inj H
                            go_wp2
                            go_ret
                            exact ⟨by first | rfl | (simp; done) | (simp [*]; done), by repeat (first | exact Drawn0.refl _ | apply Drawn0.step)⟩
                        · replace c16 := Bool.eq_false_iff.mpr c16
                          subst c16
                          have H1 : (if (wrap64 (a2)) = 0 then (none) else (some (IntKind.u64.wrap (wrap64 (Int.tdiv (wrap64 (a1)) (wrap64 (a2))))))) = some r := by rw [if_neg (show ¬ (false = true) by decide)] at H; exact H
                          clear H
                          have H := H1
                          clear H1
                          by_cases c18 : (wrap64 (a2)) = 0
                          · rw [if_pos c18] at H
                            exact absurd H (by simp)
                          · rw [if_neg c18] at H
                            have c18b0 : ((wrap64 (a2)) == 0) = false := beq_eq_false_iff_ne.mpr c18
                            have c18b1 : ((wrap64 (a2)) != 0) = true := bne_iff_ne.mpr c18
                            obtain rfl := Option.some.inj H
                            go_wp2
                            go_ret
                            exact ⟨by first | rfl | (simp; done) | (simp [*]; done), by repeat (first | exact Drawn0.refl _ | apply Drawn0.step)⟩

end Go.Proofs.YtpfcdhjknmijjaaGreat.PHartQuotients
end
