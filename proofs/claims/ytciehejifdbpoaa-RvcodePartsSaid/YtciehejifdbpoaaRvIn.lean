import Derived.Test.YtciehejifdbpoaaRvEq
namespace Go.Proofs.Ytciehejifdbpoaa.Rv
open Go.RowKit Go.Proofs.Ytciehejifdbpoaa.Grow
open Go.Proofs.YtciehejifdbpoaaW.PrintWords Go.Proofs.YtciehejifdbpoaaW.PrintLast Go.Proofs.YtciehejifdbpoaaW.PrintMore
open Go.Proofs.Ytciehejifdbpoaa.PRvcodeDecodes

theorem ret_bool {a b : Bool} (h : a = b) : Ending.returned (.bool a) = .returned (.bool b) := by rw [h]
theorem nIdx_none {s : ByteArray} (h : NoN s 64) : decide (nIdx s < 64) = false := by
  have : nIdx s = 64 := findIdx_none fun j hj => by simpa using h j hj
  rw [this]; rfl
theorem nIdx_some {s : ByteArray} {k : Nat} (hk : k < 64) (hn : NoN s k) (hm : (kd k).1 = s) : decide (nIdx s < 64) = true := by
  have : nIdx s = k := findIdx_is hk (fun j hj => by simpa using hn j hj) (by simpa using hm)
  rw [this]; simpa using hk

set_option maxHeartbeats 1000000 in
set_option maxRecDepth 100000 in
theorem in_any (g cap : Nat) (s : ByteArray) (w : World) (hc : ∀ k, k < 64 → w.cell? ⟨g, k, none⟩ = some (.string (kd k).1)) :
    Calls Try.prog 19 #[.slice (some ⟨g, 0, none⟩) 64 cap, .string s] w fun e w' => e = .returned (.bool (decide (nIdx s < 64))) ∧ w = w' := by
  have X := Aside0.mk hc
  clear hc
  go_enter Try.func19, Try.ntmps19
  go_wp2
  go_loop [4, 6, 9] (fun v4 _ v9 => ∃ k : Nat, k ≤ 64 ∧ v9 = .int .i64 k ∧ NoN s k ∧ v4 = .bool false) (fun _ _ v9 => 64 - (intOf v9).toNat)
  case atStart => exact ⟨0, by omega, rfl, fun j h => absurd h (by omega), rfl⟩
  case round =>
    obtain ⟨k, hk, rfl, hn, rfl⟩ := hrel
    by_cases hlt : k < 64
    · have h1 := X.out k hlt
      by_cases hm : (kd k).1 = s
      · have hm2 : (s.toList == (kd k).1.toList) = true := by rw [hm]; simp
        have F := nIdx_some hlt hn hm
        go_wp2
        go_ret
        exact ⟨rfl, rfl⟩
      · have hm2 : (s.toList == (kd k).1.toList) = false := beq_eq_false_iff_ne.mpr (fun e => hm (toList_inj e).symm)
        go_wp2
        go_round
        case rel => exact ⟨k + 1, by omega, by go_num, NoN_succ hn hm, rfl⟩
        case measure => simp [intOf]; omega
    · have hk' : k = 64 := by omega
      rw [hk'] at hn
      have F := nIdx_none hn
      clear hk'
      go_wp2
      go_ret
      exact ⟨rfl, rfl⟩
end Go.Proofs.Ytciehejifdbpoaa.Rv
