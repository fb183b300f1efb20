import Derived.Test.YtciehejifdbpoaaPlP0
section
namespace Go.Proofs.Ytciehejifdbpoaa.PRvcodeDecodes
open Go.RowKit Go.Proofs.YtciehejifdbpoaaW.PrintWords Go.Proofs.YtciehejifdbpoaaW.PrintLast Go.Proofs.YtciehejifdbpoaaW.PrintMore
attribute [local go_sem] max2_int min2_int max_two min_two max_three min_three max_four min_four   -- for this text's walks alone
set_option linter.unusedVariables false
set_option linter.unusedSimpArgs false

/-! ### burinref26_opR: function 96 -/
mutual
def burinref26_opR.j0 : Nat → Int → Int → Int → ByteArray → Option (ByteArray)
  | 0, _, _, _, _ => none
  | k + 1, x0, x1, x2, x9 => if x0 = 59 then (burinref26_opR.j1 k x1 x2 x9 (x9.toList == ([] : List UInt8))) else (burinref26_opR.j1 k x1 x2 x9 true)
def burinref26_opR.j1 : Nat → Int → Int → ByteArray → Bool → Option (ByteArray)
  | 0, _, _, _, _ => none
  | k + 1, x1, x2, x9, x36 => if x36 = true then (some x9) else (if x2 = 0 then (if x1 = 2 then (some (⟨#[]⟩ : ByteArray)) else (if x1 = 3 then (some (⟨#[]⟩ : ByteArray)) else (if x1 = 4 then (some (⟨#[]⟩ : ByteArray)) else (if x1 = 6 then (some (⟨#[]⟩ : ByteArray)) else (if x1 = 7 then (some (⟨#[]⟩ : ByteArray)) else (if x2 = 1 then (if x1 ≥ 1 then (if x1 ≤ 3 then (some (⟨#[]⟩ : ByteArray)) else (if x9.size + 1 ≤ 9223372036854775807 then (some (x9 ++ (⟨#[119]⟩ : ByteArray))) else (none))) else (if x9.size + 1 ≤ 9223372036854775807 then (some (x9 ++ (⟨#[119]⟩ : ByteArray))) else (none))) else (if x9.size + 1 ≤ 9223372036854775807 then (some (x9 ++ (⟨#[119]⟩ : ByteArray))) else (none)))))))) else (if x2 = 1 then (if x1 ≥ 1 then (if x1 ≤ 3 then (some (⟨#[]⟩ : ByteArray)) else (if x9.size + 1 ≤ 9223372036854775807 then (some (x9 ++ (⟨#[119]⟩ : ByteArray))) else (none))) else (if x9.size + 1 ≤ 9223372036854775807 then (some (x9 ++ (⟨#[119]⟩ : ByteArray))) else (none))) else (if x9.size + 1 ≤ 9223372036854775807 then (some (x9 ++ (⟨#[119]⟩ : ByteArray))) else (none))))
end
def burinref26_opR.f (k : Nat) (a0 : Int) (a1 : Int) (a2 : Int) : Option (ByteArray) := (some (([(⟨#[97, 100, 100]⟩ : ByteArray), (⟨#[115, 108, 108]⟩ : ByteArray), (⟨#[115, 108, 116]⟩ : ByteArray), (⟨#[115, 108, 116, 117]⟩ : ByteArray), (⟨#[120, 111, 114]⟩ : ByteArray), (⟨#[115, 114, 108]⟩ : ByteArray), (⟨#[111, 114]⟩ : ByteArray), (⟨#[97, 110, 100]⟩ : ByteArray)] : List ByteArray) : List ByteArray)).bind fun y112 => ((some (([(⟨#[109, 117, 108]⟩ : ByteArray), (⟨#[109, 117, 108, 104]⟩ : ByteArray), (⟨#[109, 117, 108, 104, 115, 117]⟩ : ByteArray), (⟨#[109, 117, 108, 104, 117]⟩ : ByteArray), (⟨#[100, 105, 118]⟩ : ByteArray), (⟨#[100, 105, 118, 117]⟩ : ByteArray), (⟨#[114, 101, 109]⟩ : ByteArray), (⟨#[114, 101, 109, 117]⟩ : ByteArray)] : List ByteArray) : List ByteArray)).bind fun y115 => (if a2 = 0 then (if 0 ≤ a1 then (if a1 < (y112.length : Int) then (burinref26_opR.j0 k a0 a1 a2 (rdOf ByteArray.empty y112 a1)) else (none)) else (none)) else (if a2 = 32 then (if a1 = 0 then (if a1 = 5 then (burinref26_opR.j0 k a0 a1 a2 (⟨#[115, 114, 97]⟩ : ByteArray)) else (burinref26_opR.j0 k a0 a1 a2 (⟨#[115, 117, 98]⟩ : ByteArray))) else (if a1 = 5 then (burinref26_opR.j0 k a0 a1 a2 (⟨#[115, 114, 97]⟩ : ByteArray)) else (burinref26_opR.j0 k a0 a1 a2 (⟨#[]⟩ : ByteArray)))) else (if a2 = 1 then (if 0 ≤ a1 then (if a1 < (y115.length : Int) then (burinref26_opR.j0 k a0 a1 a2 (rdOf ByteArray.empty y115 a1)) else (none)) else (none)) else (burinref26_opR.j0 k a0 a1 a2 (⟨#[]⟩ : ByteArray))))))
theorem burinref26_opR.mono_l : ∀ k, (∀ y0 y1 y2 y3, LeO (burinref26_opR.j0 k y0 y1 y2 y3) (burinref26_opR.j0 (k + 1) y0 y1 y2 y3)) ∧ (∀ y0 y1 y2 y3, LeO (burinref26_opR.j1 k y0 y1 y2 y3) (burinref26_opR.j1 (k + 1) y0 y1 y2 y3))
  | 0 => ⟨fun _ _ _ _ r h => by simp [burinref26_opR.j0] at h, fun _ _ _ _ r h => by simp [burinref26_opR.j1] at h⟩
  | k + 1 => by
    obtain ⟨ih0, ih1⟩ := burinref26_opR.mono_l k
    refine ⟨?_, ?_⟩
    · intro y0 y1 y2 y3
      unfold burinref26_opR.j0
      repeat' first
      | (with_reducible exact ih0 _ _ _ _)
      | (with_reducible exact ih1 _ _ _ _)
      | (with_reducible exact LeO.refl _)
      | (with_reducible exact LeO.none _)
      | (with_reducible refine LeO.ite ?_ ?_)
      | (with_reducible refine LeO.bind ?_ (fun _ => ?_))
      | exact ih0 _ _ _ _
      | exact ih1 _ _ _ _
      | exact LeO.none _
      | refine LeO.ite ?_ ?_
      | refine LeO.bind ?_ (fun _ => ?_)
    · intro y0 y1 y2 y3
      unfold burinref26_opR.j1
      repeat' first
      | (with_reducible exact ih0 _ _ _ _)
      | (with_reducible exact ih1 _ _ _ _)
      | (with_reducible exact LeO.refl _)
      | (with_reducible exact LeO.none _)
      | (with_reducible refine LeO.ite ?_ ?_)
      | (with_reducible refine LeO.bind ?_ (fun _ => ?_))
      | exact ih0 _ _ _ _
      | exact ih1 _ _ _ _
      | exact LeO.none _
      | refine LeO.ite ?_ ?_
      | refine LeO.bind ?_ (fun _ => ?_)
theorem burinref26_opR.mono : ∀ a0 a1 a2 k, LeO (burinref26_opR.f k a0 a1 a2) (burinref26_opR.f (k + 1) a0 a1 a2) := by
  intro a0 a1 a2 k
  obtain ⟨ih0, ih1⟩ := burinref26_opR.mono_l k
  unfold burinref26_opR.f
  repeat' first
      | (with_reducible exact ih0 _ _ _ _)
      | (with_reducible exact ih1 _ _ _ _)
      | (with_reducible exact LeO.refl _)
      | (with_reducible exact LeO.none _)
      | (with_reducible refine LeO.ite ?_ ?_)
      | (with_reducible refine LeO.bind ?_ (fun _ => ?_))
      | exact ih0 _ _ _ _
      | exact ih1 _ _ _ _
      | exact LeO.none _
      | refine LeO.ite ?_ ?_
      | refine LeO.bind ?_ (fun _ => ?_)
set_option maxHeartbeats 8000000 in
set_option maxRecDepth 100000 in
theorem burinref26_opR.calls (k : Nat) (a0 : Int) (a1 : Int) (a2 : Int) (r : ByteArray) (w : World) (h : burinref26_opR.f k a0 a1 a2 = some r) :
    Calls Try.prog 96 #[.int .i64 a0, .int .i64 a1, .int .i64 a2] w fun e w' => e = .returned (.string r) ∧ Below w.heap.size w w' := by
  have HB := Aside0.mk (Below.refl w.heap.size w)
  have H : ((some (([(⟨#[97, 100, 100]⟩ : ByteArray), (⟨#[115, 108, 108]⟩ : ByteArray), (⟨#[115, 108, 116]⟩ : ByteArray), (⟨#[115, 108, 116, 117]⟩ : ByteArray), (⟨#[120, 111, 114]⟩ : ByteArray), (⟨#[115, 114, 108]⟩ : ByteArray), (⟨#[111, 114]⟩ : ByteArray), (⟨#[97, 110, 100]⟩ : ByteArray)] : List ByteArray) : List ByteArray)).bind fun y112 => ((some (([(⟨#[109, 117, 108]⟩ : ByteArray), (⟨#[109, 117, 108, 104]⟩ : ByteArray), (⟨#[109, 117, 108, 104, 115, 117]⟩ : ByteArray), (⟨#[109, 117, 108, 104, 117]⟩ : ByteArray), (⟨#[100, 105, 118]⟩ : ByteArray), (⟨#[100, 105, 118, 117]⟩ : ByteArray), (⟨#[114, 101, 109]⟩ : ByteArray), (⟨#[114, 101, 109, 117]⟩ : ByteArray)] : List ByteArray) : List ByteArray)).bind fun y115 => (if a2 = 0 then (if 0 ≤ a1 then (if a1 < (y112.length : Int) then (burinref26_opR.j0 k a0 a1 a2 (rdOf ByteArray.empty y112 a1)) else (none)) else (none)) else (if a2 = 32 then (if a1 = 0 then (if a1 = 5 then (burinref26_opR.j0 k a0 a1 a2 (⟨#[115, 114, 97]⟩ : ByteArray)) else (burinref26_opR.j0 k a0 a1 a2 (⟨#[115, 117, 98]⟩ : ByteArray))) else (if a1 = 5 then (burinref26_opR.j0 k a0 a1 a2 (⟨#[115, 114, 97]⟩ : ByteArray)) else (burinref26_opR.j0 k a0 a1 a2 (⟨#[]⟩ : ByteArray)))) else (if a2 = 1 then (if 0 ≤ a1 then (if a1 < (y115.length : Int) then (burinref26_opR.j0 k a0 a1 a2 (rdOf ByteArray.empty y115 a1)) else (none)) else (none)) else (burinref26_opR.j0 k a0 a1 a2 (⟨#[]⟩ : ByteArray))))))) = some r := h
  clear h
  obtain ⟨y112, hy112⟩ : ∃ y_ : List ByteArray, y_ = (([(⟨#[97, 100, 100]⟩ : ByteArray), (⟨#[115, 108, 108]⟩ : ByteArray), (⟨#[115, 108, 116]⟩ : ByteArray), (⟨#[115, 108, 116, 117]⟩ : ByteArray), (⟨#[120, 111, 114]⟩ : ByteArray), (⟨#[115, 114, 108]⟩ : ByteArray), (⟨#[111, 114]⟩ : ByteArray), (⟨#[97, 110, 100]⟩ : ByteArray)] : List ByteArray)) := ⟨_, rfl⟩
  replace H : ((some (([(⟨#[109, 117, 108]⟩ : ByteArray), (⟨#[109, 117, 108, 104]⟩ : ByteArray), (⟨#[109, 117, 108, 104, 115, 117]⟩ : ByteArray), (⟨#[109, 117, 108, 104, 117]⟩ : ByteArray), (⟨#[100, 105, 118]⟩ : ByteArray), (⟨#[100, 105, 118, 117]⟩ : ByteArray), (⟨#[114, 101, 109]⟩ : ByteArray), (⟨#[114, 101, 109, 117]⟩ : ByteArray)] : List ByteArray) : List ByteArray)).bind fun y115 => (if a2 = 0 then (if 0 ≤ a1 then (if a1 < (y112.length : Int) then (burinref26_opR.j0 k a0 a1 a2 (rdOf ByteArray.empty y112 a1)) else (none)) else (none)) else (if a2 = 32 then (if a1 = 0 then (if a1 = 5 then (burinref26_opR.j0 k a0 a1 a2 (⟨#[115, 114, 97]⟩ : ByteArray)) else (burinref26_opR.j0 k a0 a1 a2 (⟨#[115, 117, 98]⟩ : ByteArray))) else (if a1 = 5 then (burinref26_opR.j0 k a0 a1 a2 (⟨#[115, 114, 97]⟩ : ByteArray)) else (burinref26_opR.j0 k a0 a1 a2 (⟨#[]⟩ : ByteArray)))) else (if a2 = 1 then (if 0 ≤ a1 then (if a1 < (y115.length : Int) then (burinref26_opR.j0 k a0 a1 a2 (rdOf ByteArray.empty y115 a1)) else (none)) else (none)) else (burinref26_opR.j0 k a0 a1 a2 (⟨#[]⟩ : ByteArray)))))) = some r := by first | (rw [hy112]; with_reducible exact H) | (have H2_ := (Option.bind_some _ _).symm.trans H; rw [hy112]; with_reducible exact H2_) | (have H2_ := (Option.bind_some _ _).symm.trans H; with_reducible exact H2_) | with_reducible exact H | (rw [hy112]; exact H) | exact H
  have Ny112 := Aside0.mk hy112
  clear hy112
  obtain ⟨y115, hy115⟩ : ∃ y_ : List ByteArray, y_ = (([(⟨#[109, 117, 108]⟩ : ByteArray), (⟨#[109, 117, 108, 104]⟩ : ByteArray), (⟨#[109, 117, 108, 104, 115, 117]⟩ : ByteArray), (⟨#[109, 117, 108, 104, 117]⟩ : ByteArray), (⟨#[100, 105, 118]⟩ : ByteArray), (⟨#[100, 105, 118, 117]⟩ : ByteArray), (⟨#[114, 101, 109]⟩ : ByteArray), (⟨#[114, 101, 109, 117]⟩ : ByteArray)] : List ByteArray)) := ⟨_, rfl⟩
  replace H : (if a2 = 0 then (if 0 ≤ a1 then (if a1 < (y112.length : Int) then (burinref26_opR.j0 k a0 a1 a2 (rdOf ByteArray.empty y112 a1)) else (none)) else (none)) else (if a2 = 32 then (if a1 = 0 then (if a1 = 5 then (burinref26_opR.j0 k a0 a1 a2 (⟨#[115, 114, 97]⟩ : ByteArray)) else (burinref26_opR.j0 k a0 a1 a2 (⟨#[115, 117, 98]⟩ : ByteArray))) else (if a1 = 5 then (burinref26_opR.j0 k a0 a1 a2 (⟨#[115, 114, 97]⟩ : ByteArray)) else (burinref26_opR.j0 k a0 a1 a2 (⟨#[]⟩ : ByteArray)))) else (if a2 = 1 then (if 0 ≤ a1 then (if a1 < (y115.length : Int) then (burinref26_opR.j0 k a0 a1 a2 (rdOf ByteArray.empty y115 a1)) else (none)) else (none)) else (burinref26_opR.j0 k a0 a1 a2 (⟨#[]⟩ : ByteArray))))) = some r := by first | (rw [hy115]; with_reducible exact H) | (have H2_ := (Option.bind_some _ _).symm.trans H; rw [hy115]; with_reducible exact H2_) | (have H2_ := (Option.bind_some _ _).symm.trans H; with_reducible exact H2_) | with_reducible exact H | (rw [hy115]; exact H) | exact H
  have Ny115 := Aside0.mk hy115
  clear hy115
  have HC4 := Aside0.mk H
  clear H
  go_enter Try.func96, Try.ntmps96
  go_upto_block 0 with (first | ((with_reducible refine gate_dst (N := 10) rfl ?_); refine Kd.R_lit Kd.string _ 9 ?hg (N := 10) ?hd (xs := ([(⟨#[97, 100, 100]⟩ : ByteArray), (⟨#[115, 108, 108]⟩ : ByteArray), (⟨#[115, 108, 116]⟩ : ByteArray), (⟨#[115, 108, 116, 117]⟩ : ByteArray), (⟨#[120, 111, 114]⟩ : ByteArray), (⟨#[115, 114, 108]⟩ : ByteArray), (⟨#[111, 114]⟩ : ByteArray), (⟨#[97, 110, 100]⟩ : ByteArray)] : List ByteArray)) (inner := [.string (⟨#[97, 100, 100]⟩ : ByteArray), .string (⟨#[115, 108, 108]⟩ : ByteArray), .string (⟨#[115, 108, 116]⟩ : ByteArray), .string (⟨#[115, 108, 116, 117]⟩ : ByteArray), .string (⟨#[120, 111, 114]⟩ : ByteArray), .string (⟨#[115, 114, 108]⟩ : ByteArray), .string (⟨#[111, 114]⟩ : ByteArray), .string (⟨#[97, 110, 100]⟩ : ByteArray)]) (ok := fun _ => True) (okp := fun _ => True) ?hr ?hp (fun _ hk => hk) trivial (Below.refl _ _) (Nat.le_refl _) (by simp) ?_; (case hd => rfl); (case hg => rfl); (case hr => first | (go_simp; done) | (go_simp; rfl)); (case hp => exact (Reps.one (show Kd.M Kd.string _ _ _ (⟨#[97, 100, 100]⟩ : ByteArray) [.string (⟨#[97, 100, 100]⟩ : ByteArray)] from rfl) (Reps.one (show Kd.M Kd.string _ _ _ (⟨#[115, 108, 108]⟩ : ByteArray) [.string (⟨#[115, 108, 108]⟩ : ByteArray)] from rfl) (Reps.one (show Kd.M Kd.string _ _ _ (⟨#[115, 108, 116]⟩ : ByteArray) [.string (⟨#[115, 108, 116]⟩ : ByteArray)] from rfl) (Reps.one (show Kd.M Kd.string _ _ _ (⟨#[115, 108, 116, 117]⟩ : ByteArray) [.string (⟨#[115, 108, 116, 117]⟩ : ByteArray)] from rfl) (Reps.one (show Kd.M Kd.string _ _ _ (⟨#[120, 111, 114]⟩ : ByteArray) [.string (⟨#[120, 111, 114]⟩ : ByteArray)] from rfl) (Reps.one (show Kd.M Kd.string _ _ _ (⟨#[115, 114, 108]⟩ : ByteArray) [.string (⟨#[115, 114, 108]⟩ : ByteArray)] from rfl) (Reps.one (show Kd.M Kd.string _ _ _ (⟨#[111, 114]⟩ : ByteArray) [.string (⟨#[111, 114]⟩ : ByteArray)] from rfl) (Reps.one (show Kd.M Kd.string _ _ _ (⟨#[97, 110, 100]⟩ : ByteArray) [.string (⟨#[97, 110, 100]⟩ : ByteArray)] from rfl) (Reps.none _ _)))))))))); intro v113 w5 ho6 hb hg_ hnew_; clear hg_ hnew_; (first | rw [← Ny112.out] at ho6 | (simp only [Int.reduceToNat] at ho6; rw [← Ny112.out] at ho6)); have n0_ := Aside0.mk (Kd.R_lower ho6 (below_size (by repeat (first | (with_reducible first | exact HB.out | apply below_alloc | apply pw_below_drewN | apply below_drew1) | exact HB.out)))); have n1_ := Aside0.mk (below_step (by repeat (first | (with_reducible first | exact HB.out | apply below_alloc | apply pw_below_drewN | apply below_drew1) | exact HB.out)) hb); clear HB; have HO114 := n0_; have HB := n1_; clear n0_ n1_; clear hb ho6) | ((with_reducible refine gate_dst (N := 11) rfl ?_); refine Kd.R_lit Kd.string _ 9 ?hg (N := 11) ?hd (xs := ([(⟨#[109, 117, 108]⟩ : ByteArray), (⟨#[109, 117, 108, 104]⟩ : ByteArray), (⟨#[109, 117, 108, 104, 115, 117]⟩ : ByteArray), (⟨#[109, 117, 108, 104, 117]⟩ : ByteArray), (⟨#[100, 105, 118]⟩ : ByteArray), (⟨#[100, 105, 118, 117]⟩ : ByteArray), (⟨#[114, 101, 109]⟩ : ByteArray), (⟨#[114, 101, 109, 117]⟩ : ByteArray)] : List ByteArray)) (inner := [.string (⟨#[109, 117, 108]⟩ : ByteArray), .string (⟨#[109, 117, 108, 104]⟩ : ByteArray), .string (⟨#[109, 117, 108, 104, 115, 117]⟩ : ByteArray), .string (⟨#[109, 117, 108, 104, 117]⟩ : ByteArray), .string (⟨#[100, 105, 118]⟩ : ByteArray), .string (⟨#[100, 105, 118, 117]⟩ : ByteArray), .string (⟨#[114, 101, 109]⟩ : ByteArray), .string (⟨#[114, 101, 109, 117]⟩ : ByteArray)]) (ok := fun _ => True) (okp := fun _ => True) ?hr ?hp (fun _ hk => hk) trivial (Below.refl _ _) (Nat.le_refl _) (by simp) ?_; (case hd => rfl); (case hg => rfl); (case hr => first | (go_simp; done) | (go_simp; rfl)); (case hp => exact (Reps.one (show Kd.M Kd.string _ _ _ (⟨#[109, 117, 108]⟩ : ByteArray) [.string (⟨#[109, 117, 108]⟩ : ByteArray)] from rfl) (Reps.one (show Kd.M Kd.string _ _ _ (⟨#[109, 117, 108, 104]⟩ : ByteArray) [.string (⟨#[109, 117, 108, 104]⟩ : ByteArray)] from rfl) (Reps.one (show Kd.M Kd.string _ _ _ (⟨#[109, 117, 108, 104, 115, 117]⟩ : ByteArray) [.string (⟨#[109, 117, 108, 104, 115, 117]⟩ : ByteArray)] from rfl) (Reps.one (show Kd.M Kd.string _ _ _ (⟨#[109, 117, 108, 104, 117]⟩ : ByteArray) [.string (⟨#[109, 117, 108, 104, 117]⟩ : ByteArray)] from rfl) (Reps.one (show Kd.M Kd.string _ _ _ (⟨#[100, 105, 118]⟩ : ByteArray) [.string (⟨#[100, 105, 118]⟩ : ByteArray)] from rfl) (Reps.one (show Kd.M Kd.string _ _ _ (⟨#[100, 105, 118, 117]⟩ : ByteArray) [.string (⟨#[100, 105, 118, 117]⟩ : ByteArray)] from rfl) (Reps.one (show Kd.M Kd.string _ _ _ (⟨#[114, 101, 109]⟩ : ByteArray) [.string (⟨#[114, 101, 109]⟩ : ByteArray)] from rfl) (Reps.one (show Kd.M Kd.string _ _ _ (⟨#[114, 101, 109, 117]⟩ : ByteArray) [.string (⟨#[114, 101, 109, 117]⟩ : ByteArray)] from rfl) (Reps.none _ _)))))))))); intro v116 w7 ho8 hb hg_ hnew_; clear hg_ hnew_; (first | rw [← Ny115.out] at ho8 | (simp only [Int.reduceToNat] at ho8; rw [← Ny115.out] at ho8)); have n0_ := Aside0.mk (Kd.R_elder' (by (with_reducible repeat (first | apply Kd.R_alloc | apply Kd.R_drewN | apply Kd.R_drew)); exact HO114.out) (Kd.R_base ho8) hb); have n1_ := Aside0.mk (Kd.R_lower (Kd.R_new' ho8 (Kd.R_lt (by (with_reducible repeat (first | apply Kd.R_alloc | apply Kd.R_drewN | apply Kd.R_drew)); exact HO114.out))) (below_size (by repeat (first | (with_reducible first | exact HB.out | apply below_alloc | apply pw_below_drewN | apply below_drew1) | exact HB.out)))); have n2_ := Aside0.mk (below_step (by repeat (first | (with_reducible first | exact HB.out | apply below_alloc | apply pw_below_drewN | apply below_drew1) | exact HB.out)) hb); clear HO114; clear HB; have HO114 := n0_; have HO117 := n1_; have HB := n2_; clear n0_ n1_ n2_; clear hb ho8))
  (try simp only [Act.put, List.setIfInBounds_toArray, List.set_cons_zero, List.set_cons_succ])
  go_cut [9] (fun v9 wc => ∃ (kq : Nat) (x9_3 : ByteArray), v9 = .string x9_3 ∧ Aside0 (burinref26_opR.j0 kq a0 a1 a2 x9_3 = some r) ∧ Aside0 (kq ≤ k) ∧ Aside0 (Below w.heap.size w wc))
  case first =>
    have H := HC4.out
    clear HC4
    by_cases c9 : a2 = 0
    · rw [if_pos c9] at H
      have c9b0 : (a2 == 0) = true := beq_iff_eq.mpr c9
      have c9b1 : (a2 != 0) = false := bne_eq_false_iff_eq.mpr c9
      clear c9
      (first | rw [c9b0] | (simp only [i64_w, i32_w]; rw [c9b0]) | skip)
      by_cases c10 : 0 ≤ a1
      · rw [if_pos c10] at H
        have c10b0 : decide (0 ≤ a1) = true := decide_eq_true c10
        clear c10
        by_cases c11 : a1 < (y112.length : Int)
        · rw [if_pos c11] at H
          have c11b0 : decide (a1 < (y112.length : Int)) = true := decide_eq_true c11
          clear c11
          have H' := Aside0.mk H
          clear H
          obtain ⟨Ao12, co12, eo12⟩ := Kd.R_slice HO114.out
          subst eo12
          have p118 : 0 ≤ (a1 : Int) := of_decide_eq_true (by first | (with_reducible assumption) | assumption)
          have q118 : a1 < (y112.length : Int) := of_decide_eq_true (by first | (with_reducible assumption) | assumption)
          obtain ⟨ad118, e118, hx118_0⟩ := Kd.at_string (Kd.R_reads' HO114.out).2.2 a1 p118 q118
          cases e118
          replace p118 := eq_true p118
          replace q118 := eq_true q118
          go_wp2
          go_meet
          case rel => exact ⟨_, (rdOf ByteArray.empty y112 a1), (by first | rfl | (simp; done) | (simp [*]; done)), H', ⟨by first | omega | exact Nat.le_refl _⟩, ⟨by repeat (first | (with_reducible first | exact HB.out | apply below_alloc | apply pw_below_drewN | apply below_drew1) | exact HB.out)⟩⟩
        · rw [if_neg c11] at H
          exact absurd H (by simp)
      · rw [if_neg c10] at H
        exact absurd H (by simp)
    · rw [if_neg c9] at H
      have c9b0 : (a2 == 0) = false := beq_eq_false_iff_ne.mpr c9
      have c9b1 : (a2 != 0) = true := bne_iff_ne.mpr c9
      (first | rw [c9b0] | (simp only [i64_w, i32_w]; rw [c9b0]) | skip)
      by_cases c13 : a2 = 32
      · rw [if_pos c13] at H
        have c13b0 : (a2 == 32) = true := beq_iff_eq.mpr c13
        have c13b1 : (a2 != 32) = false := bne_eq_false_iff_eq.mpr c13
        clear c13
        by_cases c14 : a1 = 0
        · rw [if_pos c14] at H
          have c14b0 : (a1 == 0) = true := beq_iff_eq.mpr c14
          have c14b1 : (a1 != 0) = false := bne_eq_false_iff_eq.mpr c14
          clear c14
          by_cases c15 : a1 = 5
          · rw [if_pos c15] at H
            have c15b0 : (a1 == 5) = true := beq_iff_eq.mpr c15
            have c15b1 : (a1 != 5) = false := bne_eq_false_iff_eq.mpr c15
            clear c15
            have H' := Aside0.mk H
            clear H
            go_wp2
            go_meet
            case rel => exact ⟨_, ((⟨#[115, 114, 97]⟩ : ByteArray)), (by first | rfl | (simp; done) | (simp [*]; done)), H', ⟨by first | omega | exact Nat.le_refl _⟩, ⟨by repeat (first | (with_reducible first | exact HB.out | apply below_alloc | apply pw_below_drewN | apply below_drew1) | exact HB.out)⟩⟩
          · rw [if_neg c15] at H
            have c15b0 : (a1 == 5) = false := beq_eq_false_iff_ne.mpr c15
            have c15b1 : (a1 != 5) = true := bne_iff_ne.mpr c15
            have H' := Aside0.mk H
            clear H
            go_wp2
            go_meet
            case rel => exact ⟨_, ((⟨#[115, 117, 98]⟩ : ByteArray)), (by first | rfl | (simp; done) | (simp [*]; done)), H', ⟨by first | omega | exact Nat.le_refl _⟩, ⟨by repeat (first | (with_reducible first | exact HB.out | apply below_alloc | apply pw_below_drewN | apply below_drew1) | exact HB.out)⟩⟩
        · rw [if_neg c14] at H
          have c14b0 : (a1 == 0) = false := beq_eq_false_iff_ne.mpr c14
          have c14b1 : (a1 != 0) = true := bne_iff_ne.mpr c14
          by_cases c16 : a1 = 5
          · rw [if_pos c16] at H
            have c16b0 : (a1 == 5) = true := beq_iff_eq.mpr c16
            have c16b1 : (a1 != 5) = false := bne_eq_false_iff_eq.mpr c16
            clear c16
            have H' := Aside0.mk H
            clear H
            go_wp2
            go_meet
            case rel => exact ⟨_, ((⟨#[115, 114, 97]⟩ : ByteArray)), (by first | rfl | (simp; done) | (simp [*]; done)), H', ⟨by first | omega | exact Nat.le_refl _⟩, ⟨by repeat (first | (with_reducible first | exact HB.out | apply below_alloc | apply pw_below_drewN | apply below_drew1) | exact HB.out)⟩⟩
          · rw [if_neg c16] at H
            have c16b0 : (a1 == 5) = false := beq_eq_false_iff_ne.mpr c16
            have c16b1 : (a1 != 5) = true := bne_iff_ne.mpr c16
            have H' := Aside0.mk H
            clear H
            go_wp2
            go_meet
            case rel => exact ⟨_, ((⟨#[]⟩ : ByteArray)), (by first | rfl | (simp; done) | (simp [*]; done)), H', ⟨by first | omega | exact Nat.le_refl _⟩, ⟨by repeat (first | (with_reducible first | exact HB.out | apply below_alloc | apply pw_below_drewN | apply below_drew1) | exact HB.out)⟩⟩
      · rw [if_neg c13] at H
        have c13b0 : (a2 == 32) = false := beq_eq_false_iff_ne.mpr c13
        have c13b1 : (a2 != 32) = true := bne_iff_ne.mpr c13
        by_cases c17 : a2 = 1
        · rw [if_pos c17] at H
          have c17b0 : (a2 == 1) = true := beq_iff_eq.mpr c17
          have c17b1 : (a2 != 1) = false := bne_eq_false_iff_eq.mpr c17
          clear c17
          by_cases c18 : 0 ≤ a1
          · rw [if_pos c18] at H
            have c18b0 : decide (0 ≤ a1) = true := decide_eq_true c18
            clear c18
            by_cases c19 : a1 < (y115.length : Int)
            · rw [if_pos c19] at H
              have c19b0 : decide (a1 < (y115.length : Int)) = true := decide_eq_true c19
              clear c19
              have H' := Aside0.mk H
              clear H
              obtain ⟨Ao20, co20, eo20⟩ := Kd.R_slice HO117.out
              subst eo20
              have p119 : 0 ≤ (a1 : Int) := of_decide_eq_true (by first | (with_reducible assumption) | assumption)
              have q119 : a1 < (y115.length : Int) := of_decide_eq_true (by first | (with_reducible assumption) | assumption)
              obtain ⟨ad119, e119, hx119_0⟩ := Kd.at_string (Kd.R_reads' HO117.out).2.2 a1 p119 q119
              cases e119
              replace p119 := eq_true p119
              replace q119 := eq_true q119
              go_wp2
              go_meet
              case rel => exact ⟨_, (rdOf ByteArray.empty y115 a1), (by first | rfl | (simp; done) | (simp [*]; done)), H', ⟨by first | omega | exact Nat.le_refl _⟩, ⟨by repeat (first | (with_reducible first | exact HB.out | apply below_alloc | apply pw_below_drewN | apply below_drew1) | exact HB.out)⟩⟩
            · rw [if_neg c19] at H
              exact absurd H (by simp)
          · rw [if_neg c18] at H
            exact absurd H (by simp)
        · rw [if_neg c17] at H
          have c17b0 : (a2 == 1) = false := beq_eq_false_iff_ne.mpr c17
          have c17b1 : (a2 != 1) = true := bne_iff_ne.mpr c17
          have H' := Aside0.mk H
          clear H
          go_wp2
          go_meet
          case rel => exact ⟨_, ((⟨#[]⟩ : ByteArray)), (by first | rfl | (simp; done) | (simp [*]; done)), H', ⟨by first | omega | exact Nat.le_refl _⟩, ⟨by repeat (first | (with_reducible first | exact HB.out | apply below_alloc | apply pw_below_drewN | apply below_drew1) | exact HB.out)⟩⟩
  case rest =>
    clear HC4
    try clear c1
    try clear p1
    try clear q1
    try clear hx1
    try clear p2
    try clear c9
    try clear c9b0
    try clear c9b1
    try clear c10
    try clear c10b0
    try clear c11
    try clear c11b0
    try clear p11
    try clear q11
    try clear hx11
    try clear c13
    try clear c13b0
    try clear c13b1
    try clear c14
    try clear c14b0
    try clear c14b1
    try clear c15
    try clear c15b0
    try clear c15b1
    try clear c16
    try clear c16b0
    try clear c16b1
    try clear c17
    try clear c17b0
    try clear c17b1
    try clear c18
    try clear c18b0
    try clear c19
    try clear c19b0
    try clear hx118_0
    try clear hx119_0
    try clear p118
    try clear p119
    try clear q118
    try clear q119
    obtain ⟨kq, x9_3, rfl, HA, HJ3, HB⟩ := hcut
    cases kq with
    | zero => exact absurd HA.out (by simp [burinref26_opR.j0])
    | succ kj3 =>
      have H := HA.out
      clear HA
      simp only [burinref26_opR.j0] at H
      have HC21 := Aside0.mk H
      clear H
      go_upto_region 14 with (fail)
      go_cut [36] (fun v36 wc => ∃ (kq : Nat) (x36_20 : Bool), v36 = .bool x36_20 ∧ Aside0 (burinref26_opR.j1 kq a1 a2 x9_3 x36_20 = some r) ∧ Aside0 (kq ≤ kj3) ∧ Aside0 (Below w.heap.size w wc))
      case first =>
        have H := HC21.out
        clear HC21
        by_cases c22 : a0 = 59
        · rw [if_pos c22] at H
          have c22b0 : (a0 == 59) = true := beq_iff_eq.mpr c22
          have c22b1 : (a0 != 59) = false := bne_eq_false_iff_eq.mpr c22
          clear c22
          (first | rw [c22b0] | (simp only [i64_w, i32_w]; rw [c22b0]) | skip)
          have H' := Aside0.mk H
          clear H
          go_wp2
          go_meet
          case rel => exact ⟨_, ((x9_3.toList == ([] : List UInt8))), (by first | rfl | (simp; done) | (simp [*]; done)), H', ⟨by have := HJ3.out; first | omega | exact Nat.le_refl _⟩, ⟨by repeat (first | (with_reducible first | exact HB.out | apply below_alloc | apply pw_below_drewN | apply below_drew1) | exact HB.out)⟩⟩
        · rw [if_neg c22] at H
          have c22b0 : (a0 == 59) = false := beq_eq_false_iff_ne.mpr c22
          have c22b1 : (a0 != 59) = true := bne_iff_ne.mpr c22
          (first | rw [c22b0] | (simp only [i64_w, i32_w]; rw [c22b0]) | skip)
          have H' := Aside0.mk H
          clear H
          go_wp2
          go_meet
          case rel => exact ⟨_, (true), (by first | rfl | (simp; done) | (simp [*]; done)), H', ⟨by have := HJ3.out; first | omega | exact Nat.le_refl _⟩, ⟨by repeat (first | (with_reducible first | exact HB.out | apply below_alloc | apply pw_below_drewN | apply below_drew1) | exact HB.out)⟩⟩
      case rest =>
        clear HC21
        try clear c1
        try clear p1
        try clear q1
        try clear hx1
        try clear c2
        try clear p2
        try clear c9
        try clear c9b0
        try clear c9b1
        try clear c10
        try clear c10b0
        try clear c11
        try clear c11b0
        try clear p11
        try clear q11
        try clear hx11
        try clear c13
        try clear c13b0
        try clear c13b1
        try clear c14
        try clear c14b0
        try clear c14b1
        try clear c15
        try clear c15b0
        try clear c15b1
        try clear c16
        try clear c16b0
        try clear c16b1
        try clear c17
        try clear c17b0
        try clear c17b1
        try clear c18
        try clear c18b0
        try clear c19
        try clear c19b0
        try clear c22
        try clear c22b0
        try clear c22b1
        try clear hx118_0
        try clear hx119_0
        try clear p1
        try clear p11
        try clear p118
        try clear p119
        try clear p2
        try clear q1
        try clear q11
        try clear q118
        try clear q119
        obtain ⟨kq, x36_20, rfl, HA, HJ20, HB⟩ := hcut
        cases kq with
        | zero => exact absurd HA.out (by simp [burinref26_opR.j1])
        | succ kj20 =>
          have H := HA.out
          clear HA
          simp only [burinref26_opR.j1] at H
          by_cases c23 : x36_20 = true
          · subst c23
            have H1 : (some x9_3) = some r := by rw [if_pos rfl] at H; exact H
            clear H
            have H := H1
            clear H1
            obtain rfl := Option.some.inj H
            go_wp2
            go_ret
            exact ⟨by first | rfl | (simp [errW_none, errW_some] <;> rfl) | (simp [*, errW_none, errW_some] <;> rfl), by repeat (first | (with_reducible first | exact HB.out | apply below_alloc | apply pw_below_drewN | apply below_drew1) | exact HB.out)⟩
          · replace c23 := Bool.eq_false_iff.mpr c23
            subst c23
            have H1 : (if a2 = 0 then (if a1 = 2 then (some (⟨#[]⟩ : ByteArray)) else (if a1 = 3 then (some (⟨#[]⟩ : ByteArray)) else (if a1 = 4 then (some (⟨#[]⟩ : ByteArray)) else (if a1 = 6 then (some (⟨#[]⟩ : ByteArray)) else (if a1 = 7 then (some (⟨#[]⟩ : ByteArray)) else (if a2 = 1 then (if a1 ≥ 1 then (if a1 ≤ 3 then (some (⟨#[]⟩ : ByteArray)) else (if x9_3.size + 1 ≤ 9223372036854775807 then (some (x9_3 ++ (⟨#[119]⟩ : ByteArray))) else (none))) else (if x9_3.size + 1 ≤ 9223372036854775807 then (some (x9_3 ++ (⟨#[119]⟩ : ByteArray))) else (none))) else (if x9_3.size + 1 ≤ 9223372036854775807 then (some (x9_3 ++ (⟨#[119]⟩ : ByteArray))) else (none)))))))) else (if a2 = 1 then (if a1 ≥ 1 then (if a1 ≤ 3 then (some (⟨#[]⟩ : ByteArray)) else (if x9_3.size + 1 ≤ 9223372036854775807 then (some (x9_3 ++ (⟨#[119]⟩ : ByteArray))) else (none))) else (if x9_3.size + 1 ≤ 9223372036854775807 then (some (x9_3 ++ (⟨#[119]⟩ : ByteArray))) else (none))) else (if x9_3.size + 1 ≤ 9223372036854775807 then (some (x9_3 ++ (⟨#[119]⟩ : ByteArray))) else (none)))) = some r := by rw [if_neg (show ¬ (false = true) by decide)] at H; exact H
            clear H
            have H := H1
            clear H1
            by_cases c24 : a2 = 0
            · rw [if_pos c24] at H
              have c24b0 : (a2 == 0) = true := beq_iff_eq.mpr c24
              have c24b1 : (a2 != 0) = false := bne_eq_false_iff_eq.mpr c24
              clear c24
              by_cases c25 : a1 = 2
              · rw [if_pos c25] at H
                have c25b0 : (a1 == 2) = true := beq_iff_eq.mpr c25
                have c25b1 : (a1 != 2) = false := bne_eq_false_iff_eq.mpr c25
                clear c25
                obtain rfl := Option.some.inj H
                go_wp2
                go_ret
                exact ⟨by first | rfl | (simp [errW_none, errW_some] <;> rfl) | (simp [*, errW_none, errW_some] <;> rfl), by repeat (first | (with_reducible first | exact HB.out | apply below_alloc | apply pw_below_drewN | apply below_drew1) | exact HB.out)⟩
              · rw [if_neg c25] at H
                have c25b0 : (a1 == 2) = false := beq_eq_false_iff_ne.mpr c25
                have c25b1 : (a1 != 2) = true := bne_iff_ne.mpr c25
                by_cases c26 : a1 = 3
                · rw [if_pos c26] at H
                  have c26b0 : (a1 == 3) = true := beq_iff_eq.mpr c26
                  have c26b1 : (a1 != 3) = false := bne_eq_false_iff_eq.mpr c26
                  clear c26
                  obtain rfl := Option.some.inj H
                  go_wp2
                  go_ret
                  exact ⟨by first | rfl | (simp [errW_none, errW_some] <;> rfl) | (simp [*, errW_none, errW_some] <;> rfl), by repeat (first | (with_reducible first | exact HB.out | apply below_alloc | apply pw_below_drewN | apply below_drew1) | exact HB.out)⟩
                · rw [if_neg c26] at H
                  have c26b0 : (a1 == 3) = false := beq_eq_false_iff_ne.mpr c26
                  have c26b1 : (a1 != 3) = true := bne_iff_ne.mpr c26
                  by_cases c27 : a1 = 4
                  · rw [if_pos c27] at H
                    have c27b0 : (a1 == 4) = true := beq_iff_eq.mpr c27
                    have c27b1 : (a1 != 4) = false := bne_eq_false_iff_eq.mpr c27
                    clear c27
                    obtain rfl := Option.some.inj H
                    go_wp2
                    go_ret
                    exact ⟨by first | rfl | (simp [errW_none, errW_some] <;> rfl) | (simp [*, errW_none, errW_some] <;> rfl), by repeat (first | (with_reducible first | exact HB.out | apply below_alloc | apply pw_below_drewN | apply below_drew1) | exact HB.out)⟩
                  · rw [if_neg c27] at H
                    have c27b0 : (a1 == 4) = false := beq_eq_false_iff_ne.mpr c27
                    have c27b1 : (a1 != 4) = true := bne_iff_ne.mpr c27
                    by_cases c28 : a1 = 6
                    · rw [if_pos c28] at H
                      have c28b0 : (a1 == 6) = true := beq_iff_eq.mpr c28
                      have c28b1 : (a1 != 6) = false := bne_eq_false_iff_eq.mpr c28
                      clear c28
                      obtain rfl := Option.some.inj H
                      go_wp2
                      go_ret
                      exact ⟨by first | rfl | (simp [errW_none, errW_some] <;> rfl) | (simp [*, errW_none, errW_some] <;> rfl), by repeat (first | (with_reducible first | exact HB.out | apply below_alloc | apply pw_below_drewN | apply below_drew1) | exact HB.out)⟩
                    · rw [if_neg c28] at H
                      have c28b0 : (a1 == 6) = false := beq_eq_false_iff_ne.mpr c28
                      have c28b1 : (a1 != 6) = true := bne_iff_ne.mpr c28
                      by_cases c29 : a1 = 7
                      · rw [if_pos c29] at H
                        have c29b0 : (a1 == 7) = true := beq_iff_eq.mpr c29
                        have c29b1 : (a1 != 7) = false := bne_eq_false_iff_eq.mpr c29
                        clear c29
                        obtain rfl := Option.some.inj H
                        go_wp2
                        go_ret
                        exact ⟨by first | rfl | (simp [errW_none, errW_some] <;> rfl) | (simp [*, errW_none, errW_some] <;> rfl), by repeat (first | (with_reducible first | exact HB.out | apply below_alloc | apply pw_below_drewN | apply below_drew1) | exact HB.out)⟩
                      · rw [if_neg c29] at H
                        have c29b0 : (a1 == 7) = false := beq_eq_false_iff_ne.mpr c29
                        have c29b1 : (a1 != 7) = true := bne_iff_ne.mpr c29
                        by_cases c30 : a2 = 1
                        · rw [if_pos c30] at H
                          have c30b0 : (a2 == 1) = true := beq_iff_eq.mpr c30
                          have c30b1 : (a2 != 1) = false := bne_eq_false_iff_eq.mpr c30
                          clear c30
                          by_cases c31 : a1 ≥ 1
                          · rw [if_pos c31] at H
                            have c31b0 : decide (1 ≤ a1) = true := decide_eq_true c31
                            clear c31
                            by_cases c32 : a1 ≤ 3
                            · rw [if_pos c32] at H
                              have c32b0 : decide (a1 ≤ 3) = true := decide_eq_true c32
                              clear c32
                              obtain rfl := Option.some.inj H
                              go_wp2
                              go_ret
                              exact ⟨by first | rfl | (simp [errW_none, errW_some] <;> rfl) | (simp [*, errW_none, errW_some] <;> rfl), by repeat (first | (with_reducible first | exact HB.out | apply below_alloc | apply pw_below_drewN | apply below_drew1) | exact HB.out)⟩
                            · rw [if_neg c32] at H
                              have c32b0 : decide (a1 ≤ 3) = false := decide_eq_false c32
                              clear c32
                              by_cases c33 : x9_3.size + 1 ≤ 9223372036854775807
                              · rw [if_pos c33] at H
                                have c33b0 := eq_true c33
                                have c33b1 : decide (x9_3.size + 1 ≤ 9223372036854775807) = true := decide_eq_true c33
                                try have c33b2 : (9223372036854775807 < x9_3.size + 1) = False := eq_false (Nat.not_lt.2 c33)
                                obtain rfl := Option.some.inj H
                                go_wp2
                                go_ret
                                exact ⟨by first | rfl | (simp [errW_none, errW_some] <;> rfl) | (simp [*, errW_none, errW_some] <;> rfl), by repeat (first | (with_reducible first | exact HB.out | apply below_alloc | apply pw_below_drewN | apply below_drew1) | exact HB.out)⟩
                              · rw [if_neg c33] at H
                                exact absurd H (by simp)
                          · rw [if_neg c31] at H
                            have c31b0 : decide (1 ≤ a1) = false := decide_eq_false c31
                            clear c31
                            by_cases c34 : x9_3.size + 1 ≤ 9223372036854775807
                            · rw [if_pos c34] at H
                              have c34b0 := eq_true c34
                              have c34b1 : decide (x9_3.size + 1 ≤ 9223372036854775807) = true := decide_eq_true c34
                              try have c34b2 : (9223372036854775807 < x9_3.size + 1) = False := eq_false (Nat.not_lt.2 c34)
                              obtain rfl := Option.some.inj H
                              go_wp2
                              go_ret
                              exact ⟨by first | rfl | (simp [errW_none, errW_some] <;> rfl) | (simp [*, errW_none, errW_some] <;> rfl), by repeat (first | (with_reducible first | exact HB.out | apply below_alloc | apply pw_below_drewN | apply below_drew1) | exact HB.out)⟩
                            · rw [if_neg c34] at H
                              exact absurd H (by simp)
                        · rw [if_neg c30] at H
                          have c30b0 : (a2 == 1) = false := beq_eq_false_iff_ne.mpr c30
                          have c30b1 : (a2 != 1) = true := bne_iff_ne.mpr c30
                          by_cases c35 : x9_3.size + 1 ≤ 9223372036854775807
                          · rw [if_pos c35] at H
                            have c35b0 := eq_true c35
                            have c35b1 : decide (x9_3.size + 1 ≤ 9223372036854775807) = true := decide_eq_true c35
                            try have c35b2 : (9223372036854775807 < x9_3.size + 1) = False := eq_false (Nat.not_lt.2 c35)
                            obtain rfl := Option.some.inj H
                            go_wp2
                            go_ret
                            exact ⟨by first | rfl | (simp [errW_none, errW_some] <;> rfl) | (simp [*, errW_none, errW_some] <;> rfl), by repeat (first | (with_reducible first | exact HB.out | apply below_alloc | apply pw_below_drewN | apply below_drew1) | exact HB.out)⟩
                          · rw [if_neg c35] at H
                            exact absurd H (by simp)
            · rw [if_neg c24] at H
              have c24b0 : (a2 == 0) = false := beq_eq_false_iff_ne.mpr c24
              have c24b1 : (a2 != 0) = true := bne_iff_ne.mpr c24
              by_cases c36 : a2 = 1
              · rw [if_pos c36] at H
                have c36b0 : (a2 == 1) = true := beq_iff_eq.mpr c36
                have c36b1 : (a2 != 1) = false := bne_eq_false_iff_eq.mpr c36
                clear c36
                by_cases c37 : a1 ≥ 1
                · rw [if_pos c37] at H
                  have c37b0 : decide (1 ≤ a1) = true := decide_eq_true c37
                  clear c37
                  by_cases c38 : a1 ≤ 3
                  · rw [if_pos c38] at H
                    have c38b0 : decide (a1 ≤ 3) = true := decide_eq_true c38
                    clear c38
                    obtain rfl := Option.some.inj H
                    go_wp2
                    go_ret
                    exact ⟨by first | rfl | (simp [errW_none, errW_some] <;> rfl) | (simp [*, errW_none, errW_some] <;> rfl), by repeat (first | (with_reducible first | exact HB.out | apply below_alloc | apply pw_below_drewN | apply below_drew1) | exact HB.out)⟩
                  · rw [if_neg c38] at H
                    have c38b0 : decide (a1 ≤ 3) = false := decide_eq_false c38
                    clear c38
                    by_cases c39 : x9_3.size + 1 ≤ 9223372036854775807
                    · rw [if_pos c39] at H
                      have c39b0 := eq_true c39
                      have c39b1 : decide (x9_3.size + 1 ≤ 9223372036854775807) = true := decide_eq_true c39
                      try have c39b2 : (9223372036854775807 < x9_3.size + 1) = False := eq_false (Nat.not_lt.2 c39)
                      obtain rfl := Option.some.inj H
                      go_wp2
                      go_ret
                      exact ⟨by first | rfl | (simp [errW_none, errW_some] <;> rfl) | (simp [*, errW_none, errW_some] <;> rfl), by repeat (first | (with_reducible first | exact HB.out | apply below_alloc | apply pw_below_drewN | apply below_drew1) | exact HB.out)⟩
                    · rw [if_neg c39] at H
                      exact absurd H (by simp)
                · rw [if_neg c37] at H
                  have c37b0 : decide (1 ≤ a1) = false := decide_eq_false c37
                  clear c37
                  by_cases c40 : x9_3.size + 1 ≤ 9223372036854775807
                  · rw [if_pos c40] at H
                    have c40b0 := eq_true c40
                    have c40b1 : decide (x9_3.size + 1 ≤ 9223372036854775807) = true := decide_eq_true c40
                    try have c40b2 : (9223372036854775807 < x9_3.size + 1) = False := eq_false (Nat.not_lt.2 c40)
                    obtain rfl := Option.some.inj H
                    go_wp2
                    go_ret
                    exact ⟨by first | rfl | (simp [errW_none, errW_some] <;> rfl) | (simp [*, errW_none, errW_some] <;> rfl), by repeat (first | (with_reducible first | exact HB.out | apply below_alloc | apply pw_below_drewN | apply below_drew1) | exact HB.out)⟩
                  · rw [if_neg c40] at H
                    exact absurd H (by simp)
              · rw [if_neg c36] at H
                have c36b0 : (a2 == 1) = false := beq_eq_false_iff_ne.mpr c36
                have c36b1 : (a2 != 1) = true := bne_iff_ne.mpr c36
                by_cases c41 : x9_3.size + 1 ≤ 9223372036854775807
                · rw [if_pos c41] at H
                  have c41b0 := eq_true c41
                  have c41b1 : decide (x9_3.size + 1 ≤ 9223372036854775807) = true := decide_eq_true c41
                  try have c41b2 : (9223372036854775807 < x9_3.size + 1) = False := eq_false (Nat.not_lt.2 c41)
                  obtain rfl := Option.some.inj H
                  go_wp2
                  go_ret
                  exact ⟨by first | rfl | (simp [errW_none, errW_some] <;> rfl) | (simp [*, errW_none, errW_some] <;> rfl), by repeat (first | (with_reducible first | exact HB.out | apply below_alloc | apply pw_below_drewN | apply below_drew1) | exact HB.out)⟩
                · rw [if_neg c41] at H
                  exact absurd H (by simp)

end Go.Proofs.Ytciehejifdbpoaa.PRvcodeDecodes
end
