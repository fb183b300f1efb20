import Derived.Test.YtpfcdhjknmijjaaGreatCo22
section
set_option linter.unusedSimpArgs false
set_option linter.unusedVariables false
namespace Go.Proofs.YtpfcdhjknmijjaaGreat.Em
open Go.RowKit Go.Maps Go.Proofs.YtpfcdhjknmijjaaGreat.Ve Go.Proofs.YtpfcdhjknmijjaaGreat.Grow Go.Proofs.YtpfcdhjknmijjaaGreat.Rv Go.Proofs.YtpfcdhjknmijjaaGreat.As Go.Proofs.YtpfcdhjknmijjaaGreat.PEmitFinds
open Go.Proofs.YtpfcdhjknmijjaaGreatW.PrintWords Go.Proofs.YtpfcdhjknmijjaaGreatW.PrintLast Go.Proofs.YtpfcdhjknmijjaaGreatW.PrintMore

/-! ### What a checked program tells -/
theorem MkAt.chk_cells {w : World} {b p m g : Nat} {E : Ends} {ls : List Int} {l : List S61} {st sl : Int} {A : AsmS} (h : MkAt w b p m g E ls l st sl A) : ∃ A0 c0 A3 n3 c3, (∀ k, w.cell? ⟨g, k, none⟩ = (#[.slice A0 l.length c0, .int .i64 st, .int .i64 sl, .slice A3 n3 c3] : Array Value)[k]?) ∧ g < w.heap.size ∧ Kd.C k61 w A0 l.length l := by
  obtain ⟨w0, out, hI, hB, hb0⟩ := h.chk
  obtain ⟨A0, c0, A3, c3, hg, hge, hC0, hC3⟩ := hI
  exact ⟨A0, c0, A3, _, c3, blk_cell hg, blk_lt hg, Kd.C_below hC0 hB⟩
section
variable {w : World} {b p m g : Nat} {E : Ends} {ls : List Int} {l : List S61} {st sl : Int} {A : AsmS}
set_option maxHeartbeats 1000000 in
theorem slots_any (h : MkAt w b p m g E ls l st sl A) : Calls Tryz.prog 33 #[.pointer (some ⟨g, 0, none⟩)] w fun e w' => e = .returned (.int .i64 sl) ∧ w = w' := by
  obtain ⟨A0, c0, A3, n3, c3, hc, hz, _⟩ := h.chk_cells
  have c2 := (hc 2).trans (show _ = some (.int .i64 sl) from rfl)
  clear hc h
  go_enter Tryz.func33, Tryz.ntmps33
  go_wp2
  go_ret
  exact ⟨rfl, rfl⟩
set_option maxHeartbeats 1000000 in
theorem start_any (h : MkAt w b p m g E ls l st sl A) : Calls Tryz.prog 76 #[.pointer (some ⟨g, 0, none⟩)] w fun e w' => e = .returned (.int .i64 st) ∧ w = w' := by
  obtain ⟨A0, c0, A3, n3, c3, hc, hz, _⟩ := h.chk_cells
  have c2 := (hc 1).trans (show _ = some (.int .i64 st) from rfl)
  clear hc h
  go_enter Tryz.func76, Tryz.ntmps76
  go_wp2
  go_ret
  exact ⟨rfl, rfl⟩
set_option maxHeartbeats 1000000 in
theorem len_any (h : MkAt w b p m g E ls l st sl A) : Calls Tryz.prog 35 #[.pointer (some ⟨g, 0, none⟩)] w fun e w' => e = .returned (.int .i64 (l.length : Int)) ∧ w = w' := by
  obtain ⟨A0, c0, A3, n3, c3, hc, hz, _⟩ := h.chk_cells
  have c2 := (hc 0).trans (show _ = some (.slice A0 l.length c0) from rfl)
  clear hc h
  go_enter Tryz.func35, Tryz.ntmps35
  go_wp2
  go_ret
  exact ⟨rfl, rfl⟩
end
def copyC (sl : Int) (j : Nat) : List Cmd := [.op (imm ⟨#[108, 100]⟩ 5 8 (8 * (j : Int))), .op (store ⟨#[115, 100]⟩ 5 8 (8 * sl + 8 * (j : Int)))]
theorem copy_len (sl : Int) (n : Nat) : ((List.range n).flatMap (copyC sl)).length = 2 * n := by
  induction n with
  | zero => rfl
  | succ n ih => rw [List.range_succ, List.flatMap_append, List.length_append, ih]; simp [copyC]; omega
def matchH (E : Ends) (sl : Int) : List Cmd := [.mrk E.mtch, .br ⟨#[98, 101, 113]⟩ 27 0 E.take, .op (imm ⟨#[108, 100]⟩ 5 8 (8 * sl + 8)), .br ⟨#[98, 103, 101, 117]⟩ 5 22 E.after, .mrk E.take]
def matchT (E : Ends) (sl : Int) : List Cmd := [.op (store ⟨#[115, 100]⟩ 22 8 (8 * sl + 8)), .op (imm ⟨#[97, 100, 100, 105]⟩ 27 0 1), .mrk E.after, .br ⟨#[98, 110, 101]⟩ 26 0 E.fail, .mrk E.done, .op (move 10 27), .op (imm ⟨#[106, 97, 108, 114]⟩ 0 1 0)]
def matchC (E : Ends) (n : Nat) : List Cmd := matchH E n ++ (List.range n).flatMap (copyC (n : Int)) ++ matchT E n
set_option maxHeartbeats 4000000 in
set_option maxRecDepth 100000 in
theorem match_calls {w : World} {b p m g : Nat} {E : Ends} {ls : List Int} {l : List S61} {st : Int} {n : Nat} {A : AsmS} (h : MkAt w b p m g E ls l st n A) {k : Nat} (hS : Small A k) (hk : k < 700000000) (hE : ∀ x ∈ E.all, I64 x) (hsl : 0 ≤ (n : Int) ∧ (n : Int) ≤ 64) :
    Calls Tryz.prog 41 #[.pointer (some ⟨m, 0, none⟩)] w fun e w' => e = .returned (.tuple #[]) ∧ AsmAt w' b p (run A (matchC E n)) ∧ Fr b w w' := by
  have M := Aside0.mk h
  have S := Aside0.mk hS
  have K := Aside0.mk hk
  have F := Aside0.mk (Fr.refl b w)
  clear h hS hk
  have HN := Aside0.mk hsl
  go_enter Tryz.func41, Tryz.ntmps41
  obtain ⟨m0, m1, ⟨r, rcap, m2, hI⟩, m3, m4, m5, m6, m7, m8, m9, m10, mz⟩ := M.out.get
  have hs0 := hsl.1
  have hs1 := hsl.2
  go_wp2_with (first | (go_at_call 33; refine (slots_any M.out).mono ?_; rintro e wq ⟨rfl, rfl⟩))
  clear m0 m1 m2 hI m3 m4 m5 m6 m7 m8 m9 m10 mz
  go_wp2_with fail
  refine still_tail 9 (by kernel_rfl) (by kernel_rfl) ?_
  intro wi hwi
  replace M := Aside0.mk (show MkAt wi b p m g E ls l st n A by rw [hwi]; exact M.out.drew)
  replace F := Aside0.mk (show Fr b w wi by rw [hwi]; exact F.out.trans (Fr.of_below (below_drew (Below.refl _ _))))
  clear hwi
  obtain ⟨m0, m1, ⟨r, rcap, m2, hI⟩, m3, m4, m5, m6, m7, m8, m9, m10, mz⟩ := M.out.get
  simp only [List.take_succ_cons, List.take_zero, List.drop_succ_cons, List.drop_zero]
  repeat still_step
  refine wpStill_nil ?_
  go_wp2_with fail
  refine (Mark_calls M.out.asm (by have := S.out.ps; have := K.out; omega) (by have := S.out.nm; have := K.out; omega) (label := E.mtch) (hE _ (by simp [Ends.all]))).mono ?_
  rintro e wd ⟨rfl, hA, hF⟩
  replace M : Aside0 (MkAt wd b p m g E ls l st n (Cmd.step A (.mrk E.mtch))) := Aside0.mk (M.out.step hA hF)
  replace F := Aside0.mk (F.out.trans hF)
  clear hA hF
  clear m0 m1 m2 hI m3 m4 m5 m6 m7 m8 m9 m10 mz
  replace S := Aside0.mk ((S.out.step (.mrk E.mtch)).mono (n := k + 8) (by omega))
  obtain ⟨A1, hA1⟩ : ∃ X, Cmd.step A (.mrk E.mtch) = X := ⟨_, rfl⟩
  rw [hA1] at M S
  have HA1 := Aside0.mk hA1
  clear hA1
  go_wp2_with fail
  refine still_tail 9 (by kernel_rfl) (by kernel_rfl) ?_
  intro wi hwi
  replace M := Aside0.mk (show MkAt wi b p m g E ls l st n A1 by rw [hwi]; exact M.out.drew)
  replace F := Aside0.mk (show Fr b w wi by rw [hwi]; exact F.out.trans (Fr.of_below (below_drew (Below.refl _ _))))
  clear hwi
  obtain ⟨m0, m1, ⟨r, rcap, m2, hI⟩, m3, m4, m5, m6, m7, m8, m9, m10, mz⟩ := M.out.get
  simp only [List.take_succ_cons, List.take_zero, List.drop_succ_cons, List.drop_zero]
  repeat still_step
  refine wpStill_nil ?_
  go_wp2_with fail
  refine (Branch_calls M.out.asm (by have := S.out.ps; have := K.out; omega) ⟨#[98, 101, 113]⟩ 27 0 E.take).mono ?_
  rintro e wd ⟨rfl, hA, hF⟩
  replace M : Aside0 (MkAt wd b p m g E ls l st n (Cmd.step A1 (.br ⟨#[98, 101, 113]⟩ 27 0 E.take))) := Aside0.mk (M.out.step hA hF)
  replace F := Aside0.mk (F.out.trans hF)
  clear hA hF
  clear m0 m1 m2 hI m3 m4 m5 m6 m7 m8 m9 m10 mz
  replace S := Aside0.mk ((S.out.step (.br ⟨#[98, 101, 113]⟩ 27 0 E.take)).mono (n := k + 16) (by omega))
  obtain ⟨A2, hA2⟩ : ∃ X, Cmd.step A1 (.br ⟨#[98, 101, 113]⟩ 27 0 E.take) = X := ⟨_, rfl⟩
  rw [hA2] at M S
  have HA2 := Aside0.mk hA2
  clear hA2
  go_wp2_with (first
      | (go_at_call 69; refine (move_any _ _ _).mono ?_; rintro e wq ⟨rfl, hb⟩; replace M := Aside0.mk (M.out.below hb); replace F := Aside0.mk (F.out.trans (Fr.of_below hb)); clear hb)
      | (go_at_call 70; refine (imm_any _ _ _ _ _).mono ?_; rintro e wq ⟨rfl, hb⟩; replace M := Aside0.mk (M.out.below hb); replace F := Aside0.mk (F.out.trans (Fr.of_below hb)); clear hb)
      | (go_at_call 72; refine (three_any _ _ _ _ _).mono ?_; rintro e wq ⟨rfl, hb⟩; replace M := Aside0.mk (M.out.below hb); replace F := Aside0.mk (F.out.trans (Fr.of_below hb)); clear hb)
      | (go_at_call 74; refine (store_any _ _ _ _ _).mono ?_; rintro e wq ⟨rfl, hb⟩; replace M := Aside0.mk (M.out.below hb); replace F := Aside0.mk (F.out.trans (Fr.of_below hb)); clear hb))
  refine (do_calls (M.out.alloc _) S.out (by have := K.out; omega) [imm ⟨#[108, 100]⟩ 5 8 (8 * (n : Int) + 8)] (by simp only [List.length_cons, List.length_nil]; omega) (heap_alloc_last _ _)).mono ?_
  rintro e wd ⟨rfl, hA, hF⟩
  replace M := Aside0.mk ((M.out.alloc _).step hA hF)
  replace F := Aside0.mk (F.out.trans ((Fr.alloc b _ _).trans hF))
  clear hA hF
  replace S := Aside0.mk ((S.out.doF [imm ⟨#[108, 100]⟩ 5 8 (8 * (n : Int) + 8)]).mono (n := k + 24) (by simp only [List.length_cons, List.length_nil]; omega))
  obtain ⟨A3, hA3⟩ : ∃ X, doF A2 [imm ⟨#[108, 100]⟩ 5 8 (8 * (n : Int) + 8)] = X := ⟨_, rfl⟩
  rw [hA3] at M S
  have HA3 := Aside0.mk hA3
  clear hA3
  go_wp2_with fail
  refine still_tail 9 (by kernel_rfl) (by kernel_rfl) ?_
  intro wi hwi
  replace M := Aside0.mk (show MkAt wi b p m g E ls l st n A3 by rw [hwi]; exact M.out.drew)
  replace F := Aside0.mk (show Fr b w wi by rw [hwi]; exact F.out.trans (Fr.of_below (below_drew (Below.refl _ _))))
  clear hwi
  obtain ⟨m0, m1, ⟨r, rcap, m2, hI⟩, m3, m4, m5, m6, m7, m8, m9, m10, mz⟩ := M.out.get
  simp only [List.take_succ_cons, List.take_zero, List.drop_succ_cons, List.drop_zero]
  repeat still_step
  refine wpStill_nil ?_
  go_wp2_with fail
  refine (Branch_calls M.out.asm (by have := S.out.ps; have := K.out; omega) ⟨#[98, 103, 101, 117]⟩ 5 22 E.after).mono ?_
  rintro e wd ⟨rfl, hA, hF⟩
  replace M : Aside0 (MkAt wd b p m g E ls l st n (Cmd.step A3 (.br ⟨#[98, 103, 101, 117]⟩ 5 22 E.after))) := Aside0.mk (M.out.step hA hF)
  replace F := Aside0.mk (F.out.trans hF)
  clear hA hF
  clear m0 m1 m2 hI m3 m4 m5 m6 m7 m8 m9 m10 mz
  replace S := Aside0.mk ((S.out.step (.br ⟨#[98, 103, 101, 117]⟩ 5 22 E.after)).mono (n := k + 32) (by omega))
  obtain ⟨A4, hA4⟩ : ∃ X, Cmd.step A3 (.br ⟨#[98, 103, 101, 117]⟩ 5 22 E.after) = X := ⟨_, rfl⟩
  rw [hA4] at M S
  have HA4 := Aside0.mk hA4
  clear hA4
  go_wp2_with fail
  refine still_tail 9 (by kernel_rfl) (by kernel_rfl) ?_
  intro wi hwi
  replace M := Aside0.mk (show MkAt wi b p m g E ls l st n A4 by rw [hwi]; exact M.out.drew)
  replace F := Aside0.mk (show Fr b w wi by rw [hwi]; exact F.out.trans (Fr.of_below (below_drew (Below.refl _ _))))
  clear hwi
  obtain ⟨m0, m1, ⟨r, rcap, m2, hI⟩, m3, m4, m5, m6, m7, m8, m9, m10, mz⟩ := M.out.get
  simp only [List.take_succ_cons, List.take_zero, List.drop_succ_cons, List.drop_zero]
  repeat still_step
  refine wpStill_nil ?_
  go_wp2_with fail
  refine (Mark_calls M.out.asm (by have := S.out.ps; have := K.out; omega) (by have := S.out.nm; have := K.out; omega) (label := E.take) (hE _ (by simp [Ends.all]))).mono ?_
  rintro e wd ⟨rfl, hA, hF⟩
  replace M : Aside0 (MkAt wd b p m g E ls l st n (Cmd.step A4 (.mrk E.take))) := Aside0.mk (M.out.step hA hF)
  replace F := Aside0.mk (F.out.trans hF)
  clear hA hF
  clear m0 m1 m2 hI m3 m4 m5 m6 m7 m8 m9 m10 mz
  replace S := Aside0.mk ((S.out.step (.mrk E.take)).mono (n := k + 40) (by omega))
  obtain ⟨A5, hA5⟩ : ∃ X, Cmd.step A4 (.mrk E.take) = X := ⟨_, rfl⟩
  rw [hA5] at M S
  have HA5 := Aside0.mk hA5
  clear hA5
  go_wp2
  go_loopw [59] (fun i wr => ∃ j : Nat, j ≤ n ∧ i = .int .i64 j ∧ Aside0 (MkAt wr b p m g E ls l st (n : Int) (run A5 ((List.range j).flatMap (copyC (n : Int)))) ∧ Fr b w wr)) (fun i _ => n - (intOf i).toNat)
  case atStart => exact ⟨0, by omega, rfl, ⟨M.out, F.out⟩⟩
  case round =>
    obtain ⟨j, hj, rfl, hR⟩ := hrel
    by_cases hlt : j < n
    · have HJ := Aside0.mk hlt
      have j0 : (0 : Int) ≤ (j : Int) := by omega
      have j1 : (j : Int) < (n : Int) := by omega
      have TK := Aside0.mk (show run A5 ((List.range (j + 1)).flatMap (copyC (n : Int))) = doF (run A5 ((List.range j).flatMap (copyC (n : Int)))) [imm ⟨#[108, 100]⟩ 5 8 (8 * (j : Int)), store ⟨#[115, 100]⟩ 5 8 (8 * (n : Int) + 8 * (j : Int))] by
        rw [List.range_succ, List.flatMap_append, run_app, doF_run]; simp [copyC])
      have S2 := Aside0.mk ((S.out.run ((List.range j).flatMap (copyC (n : Int)))).mono (n := k + 2000) (by rw [copy_len]; have := HJ.out; have := HN.out; omega))
      have M2 := Aside0.mk hR.out.1
      have F2 := Aside0.mk hR.out.2
      obtain ⟨B, hB⟩ : ∃ X, run A5 ((List.range j).flatMap (copyC (n : Int))) = X := ⟨_, rfl⟩
      rw [hB] at TK S2 M2
      clear hB
      go_wp2_with (first
          | (go_at_call 69; refine (move_any _ _ _).mono ?_; rintro e wq ⟨rfl, hb⟩; replace M2 := Aside0.mk (M2.out.below hb); replace F2 := Aside0.mk (F2.out.trans (Fr.of_below hb)); clear hb)
          | (go_at_call 70; refine (imm_any _ _ _ _ _).mono ?_; rintro e wq ⟨rfl, hb⟩; replace M2 := Aside0.mk (M2.out.below hb); replace F2 := Aside0.mk (F2.out.trans (Fr.of_below hb)); clear hb)
          | (go_at_call 72; refine (three_any _ _ _ _ _).mono ?_; rintro e wq ⟨rfl, hb⟩; replace M2 := Aside0.mk (M2.out.below hb); replace F2 := Aside0.mk (F2.out.trans (Fr.of_below hb)); clear hb)
          | (go_at_call 74; refine (store_any _ _ _ _ _).mono ?_; rintro e wq ⟨rfl, hb⟩; replace M2 := Aside0.mk (M2.out.below hb); replace F2 := Aside0.mk (F2.out.trans (Fr.of_below hb)); clear hb))
      refine (do_calls (M2.out.alloc _) S2.out (by have := K.out; omega) [imm ⟨#[108, 100]⟩ 5 8 (8 * (j : Int)), store ⟨#[115, 100]⟩ 5 8 (8 * (n : Int) + 8 * (j : Int))] (by simp only [List.length_cons, List.length_nil]; omega) (heap_alloc_last _ _)).mono ?_
      rintro e wd ⟨rfl, hA, hF⟩
      replace M2 := Aside0.mk ((M2.out.alloc _).step hA hF)
      replace F2 := Aside0.mk (F2.out.trans ((Fr.alloc b _ _).trans hF))
      clear hA hF
      go_wp2
      go_roundw
      case rel => exact ⟨j + 1, by have := HJ.out; omega, by go_num, ⟨by rw [TK.out]; exact M2.out, F2.out⟩⟩
      case measure => simp [intOf]; have := HJ.out; omega
    · obtain rfl : n = j := by omega
      have M := Aside0.mk hR.out.1
      have F := Aside0.mk hR.out.2
      have S := Aside0.mk ((S.out.run ((List.range n).flatMap (copyC (n : Int)))).mono (n := k + 2000) (by rw [copy_len]; have := HN.out; omega))
      obtain ⟨A90, hA90⟩ : ∃ X, run A5 ((List.range n).flatMap (copyC (n : Int))) = X := ⟨_, rfl⟩
      rw [hA90] at M S
      have HA90 := Aside0.mk hA90
      clear hA90 hR hj
      go_wp2_with (first
          | (go_at_call 69; refine (move_any _ _ _).mono ?_; rintro e wq ⟨rfl, hb⟩; replace M := Aside0.mk (M.out.below hb); replace F := Aside0.mk (F.out.trans (Fr.of_below hb)); clear hb)
          | (go_at_call 70; refine (imm_any _ _ _ _ _).mono ?_; rintro e wq ⟨rfl, hb⟩; replace M := Aside0.mk (M.out.below hb); replace F := Aside0.mk (F.out.trans (Fr.of_below hb)); clear hb)
          | (go_at_call 72; refine (three_any _ _ _ _ _).mono ?_; rintro e wq ⟨rfl, hb⟩; replace M := Aside0.mk (M.out.below hb); replace F := Aside0.mk (F.out.trans (Fr.of_below hb)); clear hb)
          | (go_at_call 74; refine (store_any _ _ _ _ _).mono ?_; rintro e wq ⟨rfl, hb⟩; replace M := Aside0.mk (M.out.below hb); replace F := Aside0.mk (F.out.trans (Fr.of_below hb)); clear hb))
      refine (do_calls (M.out.alloc _) S.out (by have := K.out; omega) [store ⟨#[115, 100]⟩ 22 8 (8 * (n : Int) + 8), imm ⟨#[97, 100, 100, 105]⟩ 27 0 1] (by simp only [List.length_cons, List.length_nil]; omega) (heap_alloc_last _ _)).mono ?_
      rintro e wd ⟨rfl, hA, hF⟩
      replace M := Aside0.mk ((M.out.alloc _).step hA hF)
      replace F := Aside0.mk (F.out.trans ((Fr.alloc b _ _).trans hF))
      clear hA hF
      replace S := Aside0.mk ((S.out.doF [store ⟨#[115, 100]⟩ 22 8 (8 * (n : Int) + 8), imm ⟨#[97, 100, 100, 105]⟩ 27 0 1]).mono (n := k + 2016) (by simp only [List.length_cons, List.length_nil]; omega))
      obtain ⟨A91, hA91⟩ : ∃ X, doF A90 [store ⟨#[115, 100]⟩ 22 8 (8 * (n : Int) + 8), imm ⟨#[97, 100, 100, 105]⟩ 27 0 1] = X := ⟨_, rfl⟩
      rw [hA91] at M S
      have HA91 := Aside0.mk hA91
      clear hA91
      go_wp2_with fail
      refine still_tail 9 (by kernel_rfl) (by kernel_rfl) ?_
      intro wi hwi
      replace M := Aside0.mk (show MkAt wi b p m g E ls l st n A91 by rw [hwi]; exact M.out.drew)
      replace F := Aside0.mk (show Fr b w wi by rw [hwi]; exact F.out.trans (Fr.of_below (below_drew (Below.refl _ _))))
      clear hwi
      obtain ⟨m0, m1, ⟨r, rcap, m2, hI⟩, m3, m4, m5, m6, m7, m8, m9, m10, mz⟩ := M.out.get
      simp only [List.take_succ_cons, List.take_zero, List.drop_succ_cons, List.drop_zero]
      repeat still_step
      refine wpStill_nil ?_
      go_wp2_with fail
      refine (Mark_calls M.out.asm (by have := S.out.ps; have := K.out; omega) (by have := S.out.nm; have := K.out; omega) (label := E.after) (hE _ (by simp [Ends.all]))).mono ?_
      rintro e wd ⟨rfl, hA, hF⟩
      replace M : Aside0 (MkAt wd b p m g E ls l st n (Cmd.step A91 (.mrk E.after))) := Aside0.mk (M.out.step hA hF)
      replace F := Aside0.mk (F.out.trans hF)
      clear hA hF
      clear m0 m1 m2 hI m3 m4 m5 m6 m7 m8 m9 m10 mz
      replace S := Aside0.mk ((S.out.step (.mrk E.after)).mono (n := k + 2024) (by omega))
      obtain ⟨A92, hA92⟩ : ∃ X, Cmd.step A91 (.mrk E.after) = X := ⟨_, rfl⟩
      rw [hA92] at M S
      have HA92 := Aside0.mk hA92
      clear hA92
      go_wp2_with fail
      refine still_tail 9 (by kernel_rfl) (by kernel_rfl) ?_
      intro wi hwi
      replace M := Aside0.mk (show MkAt wi b p m g E ls l st n A92 by rw [hwi]; exact M.out.drew)
      replace F := Aside0.mk (show Fr b w wi by rw [hwi]; exact F.out.trans (Fr.of_below (below_drew (Below.refl _ _))))
      clear hwi
      obtain ⟨m0, m1, ⟨r, rcap, m2, hI⟩, m3, m4, m5, m6, m7, m8, m9, m10, mz⟩ := M.out.get
      simp only [List.take_succ_cons, List.take_zero, List.drop_succ_cons, List.drop_zero]
      repeat still_step
      refine wpStill_nil ?_
      go_wp2_with fail
      refine (Branch_calls M.out.asm (by have := S.out.ps; have := K.out; omega) ⟨#[98, 110, 101]⟩ 26 0 E.fail).mono ?_
      rintro e wd ⟨rfl, hA, hF⟩
      replace M : Aside0 (MkAt wd b p m g E ls l st n (Cmd.step A92 (.br ⟨#[98, 110, 101]⟩ 26 0 E.fail))) := Aside0.mk (M.out.step hA hF)
      replace F := Aside0.mk (F.out.trans hF)
      clear hA hF
      clear m0 m1 m2 hI m3 m4 m5 m6 m7 m8 m9 m10 mz
      replace S := Aside0.mk ((S.out.step (.br ⟨#[98, 110, 101]⟩ 26 0 E.fail)).mono (n := k + 2032) (by omega))
      obtain ⟨A93, hA93⟩ : ∃ X, Cmd.step A92 (.br ⟨#[98, 110, 101]⟩ 26 0 E.fail) = X := ⟨_, rfl⟩
      rw [hA93] at M S
      have HA93 := Aside0.mk hA93
      clear hA93
      go_wp2_with fail
      refine still_tail 9 (by kernel_rfl) (by kernel_rfl) ?_
      intro wi hwi
      replace M := Aside0.mk (show MkAt wi b p m g E ls l st n A93 by rw [hwi]; exact M.out.drew)
      replace F := Aside0.mk (show Fr b w wi by rw [hwi]; exact F.out.trans (Fr.of_below (below_drew (Below.refl _ _))))
      clear hwi
      obtain ⟨m0, m1, ⟨r, rcap, m2, hI⟩, m3, m4, m5, m6, m7, m8, m9, m10, mz⟩ := M.out.get
      simp only [List.take_succ_cons, List.take_zero, List.drop_succ_cons, List.drop_zero]
      repeat still_step
      refine wpStill_nil ?_
      go_wp2_with fail
      refine (Mark_calls M.out.asm (by have := S.out.ps; have := K.out; omega) (by have := S.out.nm; have := K.out; omega) (label := E.done) (hE _ (by simp [Ends.all]))).mono ?_
      rintro e wd ⟨rfl, hA, hF⟩
      replace M : Aside0 (MkAt wd b p m g E ls l st n (Cmd.step A93 (.mrk E.done))) := Aside0.mk (M.out.step hA hF)
      replace F := Aside0.mk (F.out.trans hF)
      clear hA hF
      clear m0 m1 m2 hI m3 m4 m5 m6 m7 m8 m9 m10 mz
      replace S := Aside0.mk ((S.out.step (.mrk E.done)).mono (n := k + 2040) (by omega))
      obtain ⟨A94, hA94⟩ : ∃ X, Cmd.step A93 (.mrk E.done) = X := ⟨_, rfl⟩
      rw [hA94] at M S
      have HA94 := Aside0.mk hA94
      clear hA94
      go_wp2_with (first
          | (go_at_call 69; refine (move_any _ _ _).mono ?_; rintro e wq ⟨rfl, hb⟩; replace M := Aside0.mk (M.out.below hb); replace F := Aside0.mk (F.out.trans (Fr.of_below hb)); clear hb)
          | (go_at_call 70; refine (imm_any _ _ _ _ _).mono ?_; rintro e wq ⟨rfl, hb⟩; replace M := Aside0.mk (M.out.below hb); replace F := Aside0.mk (F.out.trans (Fr.of_below hb)); clear hb)
          | (go_at_call 72; refine (three_any _ _ _ _ _).mono ?_; rintro e wq ⟨rfl, hb⟩; replace M := Aside0.mk (M.out.below hb); replace F := Aside0.mk (F.out.trans (Fr.of_below hb)); clear hb)
          | (go_at_call 74; refine (store_any _ _ _ _ _).mono ?_; rintro e wq ⟨rfl, hb⟩; replace M := Aside0.mk (M.out.below hb); replace F := Aside0.mk (F.out.trans (Fr.of_below hb)); clear hb))
      refine (do_calls (M.out.alloc _) S.out (by have := K.out; omega) [move 10 27, imm ⟨#[106, 97, 108, 114]⟩ 0 1 0] (by simp only [List.length_cons, List.length_nil]; omega) (heap_alloc_last _ _)).mono ?_
      rintro e wd ⟨rfl, hA, hF⟩
      replace M := Aside0.mk ((M.out.alloc _).step hA hF)
      replace F := Aside0.mk (F.out.trans ((Fr.alloc b _ _).trans hF))
      clear hA hF
      replace S := Aside0.mk ((S.out.doF [move 10 27, imm ⟨#[106, 97, 108, 114]⟩ 0 1 0]).mono (n := k + 2056) (by simp only [List.length_cons, List.length_nil]; omega))
      obtain ⟨A95, hA95⟩ : ∃ X, doF A94 [move 10 27, imm ⟨#[106, 97, 108, 114]⟩ 0 1 0] = X := ⟨_, rfl⟩
      rw [hA95] at M S
      have HA95 := Aside0.mk hA95
      clear hA95
      have EQ : Aside0 (run A (matchC E n) = A95) := ⟨by
        unfold matchC matchH matchT
        rw [run_app, run_app, ← HA95.out, ← HA94.out, ← HA93.out, ← HA92.out, ← HA91.out, ← HA90.out, ← HA5.out, ← HA4.out, ← HA3.out, ← HA2.out, ← HA1.out]
        rfl⟩
      go_wp2
      exact bodyPost_end (v := .tuple #[]) (by simp [results, Tryz.results41, go_sem]) rfl ⟨rfl, by rw [EQ.out]; exact M.out.asm, F.out⟩
end Go.Proofs.YtpfcdhjknmijjaaGreat.Em
end
