import Derived.Test.YtciehejifdbpoaaRvSpec
namespace Go.Proofs.Ytciehejifdbpoaa.Rv
open Go.RowKit Go.Proofs.Ytciehejifdbpoaa.Grow
open Go.Proofs.YtciehejifdbpoaaW.PrintWords Go.Proofs.YtciehejifdbpoaaW.PrintLast Go.Proofs.YtciehejifdbpoaaW.PrintMore
open Go.Proofs.Ytciehejifdbpoaa.PRvcodeDecodes

def nmV (k : Nat) : List Value := (kinds.take k).map fun x => .string x.1
theorem nmV_succ (k : Nat) (h : k < 64) : nmV k ++ [.string (kd k).1] = nmV (k + 1) := by
  unfold nmV
  rw [List.take_succ_eq_append_getElem (by rw [kinds_len]; exact h), List.map_append, kd_eq k h]; rfl
theorem nmV_len (k : Nat) (h : k ≤ 64) : (nmV k).length = k := by unfold nmV; rw [List.length_map, List.length_take, kinds_len]; omega

theorem cell_one_at (w : World) (x : Value) (t : TypeId) {n : Nat} (h : n = w.heap.size) : ∀ j u, [x][j]? = some u → (w.alloc (.cells #[x] t)).cell? ((⟨n, 0, none⟩ : Addr).add j) = some u := by
  subst h; exact cell_one_new w x t
theorem own_ge {w : World} {base e size n : Nat} {v : Value} {xs : List Value} (h : w.ownsRow base e size v n xs) : ∀ j, v.ownBlock = some j → base ≤ j := by
  intro j hj
  obtain ⟨_, ⟨rfl, _⟩ | ⟨g, cap, cur, rfl, hg, _⟩⟩ := h
  · simp [Value.ownBlock] at hj
  · simp [Value.ownBlock] at hj; omega
theorem under35 : Try.prog.underlying 35 = some (.slice 9) := by kernel_rfl

set_option maxHeartbeats 1000000 in
set_option maxRecDepth 100000 in
theorem names_any (w : World) : Calls Try.prog 20 #[] w fun e w' => ∃ v, e = .returned v ∧ w'.ownsRow w.heap.size 9 1 v 64 (nmV 64) ∧ Below w.heap.size w w' := by
  have f0 := fld0
  obtain ⟨i0, hi, hz0, hz1, hz2⟩ := info_parts info9
  go_enter Try.func20, Try.ntmps20
  go_wp2_with (first | (go_at_call 52; refine (table_any _).mono ?_; rintro e w' ⟨rfl, rfl⟩))
  go_loopw [1, 2, 4] (fun v1 _ v4 wr => ∃ k : Nat, k ≤ 64 ∧ v4 = .int .i64 k ∧ wr.ownsRow w.heap.size 9 1 v1 k (nmV k) ∧ Below w.heap.size w wr) (fun _ _ v4 _ => 64 - (intOf v4).toNat)
  case atStart => exact ⟨0, by omega, rfl, ⟨rfl, .inl ⟨rfl, rfl⟩⟩, below_alloc (Below.refl _ _) _⟩
  case round =>
    obtain ⟨k, hk, rfl, hown, hb⟩ := hrel
    have hsz := hb.size
    by_cases hlt : k < 64
    · have hix := fun w1 => index_table k hlt w1
      go_wp2_with (first | (at_builtin; refine wpList_append_own _ rfl (.tmp 7) (.tmp 12) 35 rfl w.heap.size 9 i0 (.string ⟨#[]⟩) 1 16 under35 hi hz0 hz1 hz2 rfl (by decide) _ k _ rfl ((hown.alloc _).alloc _) ⟨wr.heap.size + 1, 0, none⟩ 1 1 [.string (kd k).1] rfl rfl (cell_one_at _ _ _ (by simp)) (fun x hx => by simp at hx; subst hx; rfl) (by unfold maxLen; omega) (by omega) (by simp; omega) ?_; intro v' w1 hown' hgrow _) | (go_at_call 52; refine (table_any _).mono ?_; rintro e w' ⟨rfl, rfl⟩))
      go_roundw
      case rel => exact ⟨k + 1, by omega, by go_num, by rw [← nmV_succ k hlt]; exact hown', (below_alloc (below_alloc hb _) _).grown hgrow (by simp; omega) (own_ge hown)⟩
      case measure => simp [intOf]; omega
    · go_wp2
      go_ret
      have : k = 64 := by omega
      subst this
      exact ⟨_, rfl, hown, hb⟩

theorem own_names {w : World} {base : Nat} {v : Value} (h : w.ownsRow base 9 1 v 64 (nmV 64)) :
    ∃ g cap, v = .slice (some ⟨g, 0, none⟩) 64 cap ∧ g < w.heap.size ∧ ∀ k, k < 64 → w.cell? ⟨g, k, none⟩ = some (.string (kd k).1) := by
  obtain ⟨_, ⟨_, h⟩ | ⟨g, cap, cur, hv, _, hh, hn, _, hs, ht⟩⟩ := h
  · cases h
  · refine ⟨g, cap, hv, blk_lt hh, fun k hk => ?_⟩
    rw [cell_of_row w g k cur 9 (0, 0) hh]
    have : (nmV 64)[k]? = some (.string (kd k).1) := by
      unfold nmV
      rw [List.getElem?_map, List.getElem?_take, if_pos (by omega), List.getElem?_eq_getElem (by rw [kinds_len]; exact hk), kd_eq k hk]; rfl
    rw [← ht, List.getElem?_take, if_pos (by omega)] at this
    simpa using this


def orderCells : Array Value := (kinds.map fun x => Value.string x.1).toArray
noncomputable def oops : List Oper := match Try.f100.body with
  | some (.seq _ (.seq (.region _ ops _) _)) => ops.toList
  | _ => []
theorem order_any (w : World) : Calls Try.prog 100 #[] w fun e w' => ∃ v, e = .returned v ∧ w'.ownsRow w.heap.size 9 1 v 64 (nmV 64) ∧ Below w.heap.size w w' := by
  refine calls_of_wp Try.func100 rfl ?_
  apply wp_seq_k
  intro K hK
  apply wp_region_lit
  refine wpList_vals_take 1 (a' := { tmps := #[.slice none 0 0, undef], defers := [] }) (w' := w) (by kernel_rfl) ?_
  apply wpList_nil
  apply hK
  clear hK K
  apply wp_seq_k
  intro K hK
  apply wp_region_lit
  refine wpList_vals_take 2 (a' := { tmps := #[.slice (some ⟨w.heap.size, 0, none⟩) 64 64, .slice (some ⟨w.heap.size, 0, none⟩) 64 64], defers := [] }) (w' := w.alloc (.cells orderCells 9)) (by kernel_rfl) ?_
  apply wpList_nil
  apply hK
  apply wp_ret
  refine bodyPost_ret (v := .slice (some ⟨w.heap.size, 0, none⟩) 64 64) (by kernel_rfl) rfl ⟨_, rfl, ⟨by kernel_rfl, .inr ⟨w.heap.size, 64, orderCells, rfl, Nat.le_refl _, heap_alloc_last _ _, Nat.le_refl _, by decide, by kernel_rfl, by kernel_rfl⟩⟩, (Below.refl _ _).alloc (Nat.le_refl _) _⟩
end Go.Proofs.Ytciehejifdbpoaa.Rv
