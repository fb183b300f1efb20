import Derived.Test.YtpfcdhjknmijjaaGreatCo21
section
set_option linter.unusedSimpArgs false
set_option linter.unusedVariables false
namespace Go.Proofs.YtpfcdhjknmijjaaGreat.Em
open Go.RowKit Go.Maps Go.Proofs.YtpfcdhjknmijjaaGreat.Ve Go.Proofs.YtpfcdhjknmijjaaGreat.Grow Go.Proofs.YtpfcdhjknmijjaaGreat.Rv Go.Proofs.YtpfcdhjknmijjaaGreat.As Go.Proofs.YtpfcdhjknmijjaaGreat.PEmitFinds
open Go.Proofs.YtpfcdhjknmijjaaGreatW.PrintWords Go.Proofs.YtpfcdhjknmijjaaGreatW.PrintLast Go.Proofs.YtpfcdhjknmijjaaGreatW.PrintMore

def Ends.all (E : Ends) : List Int := [E.start, E.fail, E.restore, E.empty, E.mtch, E.take, E.after, E.done]
def backC (E : Ends) : List Cmd := [.mrk E.fail, .br ⟨#[98, 101, 113]⟩ 19 18 E.empty, .op (imm ⟨#[97, 100, 100, 105]⟩ 19 19 (-16)), .op (imm ⟨#[108, 100]⟩ 5 19 0), .op (imm ⟨#[108, 100]⟩ 6 19 8), .op (imm ⟨#[97, 110, 100, 105]⟩ 7 5 1), .br ⟨#[98, 110, 101]⟩ 7 0 E.restore, .op (move 22 6), .op (imm ⟨#[106, 97, 108, 114]⟩ 0 5 0), .mrk E.restore, .op (imm ⟨#[115, 114, 108, 105]⟩ 5 5 1), .op (three ⟨#[97, 100, 100]⟩ 5 5 8), .op (store ⟨#[115, 100]⟩ 6 5 0), .jmp 0 E.fail, .mrk E.empty, .br ⟨#[98, 110, 101]⟩ 27 0 E.done, .br ⟨#[98, 110, 101]⟩ 25 0 E.done, .op (imm ⟨#[97, 100, 100, 105]⟩ 30 30 1), .br ⟨#[98, 108, 116, 117]⟩ 24 30 E.done, .jmp 0 E.start]
set_option maxHeartbeats 4000000 in
set_option maxRecDepth 100000 in
theorem back_calls {w : World} {b p m g : Nat} {E : Ends} {ls : List Int} {l : List S61} {st sl : Int} {A : AsmS} (h : MkAt w b p m g E ls l st sl A) {k : Nat} (hS : Small A k) (hk : k < 700000000) (hE : ∀ x ∈ E.all, I64 x) :
    Calls Tryz.prog 40 #[.pointer (some ⟨m, 0, none⟩)] w fun e w' => e = .returned (.tuple #[]) ∧ AsmAt w' b p (run A (backC E)) ∧ Fr b w w' := by
  have M := Aside0.mk h
  have S := Aside0.mk hS
  have K := Aside0.mk hk
  have F := Aside0.mk (Fr.refl b w)
  clear h hS hk
  go_enter Tryz.func40, Tryz.ntmps40
  go_wp2_with fail
  refine still_tail 9 (by kernel_rfl) (by kernel_rfl) ?_
  intro wi hwi
  replace M := Aside0.mk (show MkAt wi b p m g E ls l st sl A by rw [hwi]; exact M.out.drew)
  replace F := Aside0.mk (show Fr b w wi by rw [hwi]; exact F.out.trans (Fr.of_below (below_drew (Below.refl _ _))))
  clear hwi
  obtain ⟨m0, m1, ⟨r, rcap, m2, hI⟩, m3, m4, m5, m6, m7, m8, m9, m10, mz⟩ := M.out.get
  simp only [List.take_succ_cons, List.take_zero, List.drop_succ_cons, List.drop_zero]
  repeat still_step
  refine wpStill_nil ?_
  go_wp2_with fail
  refine (Mark_calls M.out.asm (by have := S.out.ps; have := K.out; omega) (by have := S.out.nm; have := K.out; omega) (label := E.fail) (hE _ (by simp [Ends.all]))).mono ?_
  rintro e wd ⟨rfl, hA, hF⟩
  replace M : Aside0 (MkAt wd b p m g E ls l st sl (Cmd.step A (.mrk E.fail))) := Aside0.mk (M.out.step hA hF)
  replace F := Aside0.mk (F.out.trans hF)
  clear hA hF
  clear m0 m1 m2 hI m3 m4 m5 m6 m7 m8 m9 m10 mz
  replace S := Aside0.mk ((S.out.step (.mrk E.fail)).mono (n := k + 8) (by omega))
  obtain ⟨A1, hA1⟩ : ∃ X, Cmd.step A (.mrk E.fail) = X := ⟨_, rfl⟩
  rw [hA1] at M S
  have HA1 := Aside0.mk hA1
  clear hA1
  go_wp2_with fail
  refine still_tail 9 (by kernel_rfl) (by kernel_rfl) ?_
  intro wi hwi
  replace M := Aside0.mk (show MkAt wi b p m g E ls l st sl A1 by rw [hwi]; exact M.out.drew)
  replace F := Aside0.mk (show Fr b w wi by rw [hwi]; exact F.out.trans (Fr.of_below (below_drew (Below.refl _ _))))
  clear hwi
  obtain ⟨m0, m1, ⟨r, rcap, m2, hI⟩, m3, m4, m5, m6, m7, m8, m9, m10, mz⟩ := M.out.get
  simp only [List.take_succ_cons, List.take_zero, List.drop_succ_cons, List.drop_zero]
  repeat still_step
  refine wpStill_nil ?_
  go_wp2_with fail
  refine (Branch_calls M.out.asm (by have := S.out.ps; have := K.out; omega) ⟨#[98, 101, 113]⟩ 19 18 E.empty).mono ?_
  rintro e wd ⟨rfl, hA, hF⟩
  replace M : Aside0 (MkAt wd b p m g E ls l st sl (Cmd.step A1 (.br ⟨#[98, 101, 113]⟩ 19 18 E.empty))) := Aside0.mk (M.out.step hA hF)
  replace F := Aside0.mk (F.out.trans hF)
  clear hA hF
  clear m0 m1 m2 hI m3 m4 m5 m6 m7 m8 m9 m10 mz
  replace S := Aside0.mk ((S.out.step (.br ⟨#[98, 101, 113]⟩ 19 18 E.empty)).mono (n := k + 16) (by omega))
  obtain ⟨A2, hA2⟩ : ∃ X, Cmd.step A1 (.br ⟨#[98, 101, 113]⟩ 19 18 E.empty) = X := ⟨_, rfl⟩
  rw [hA2] at M S
  have HA2 := Aside0.mk hA2
  clear hA2
  go_wp2_with (first
      | (go_at_call 69; refine (move_any _ _ _).mono ?_; rintro e wq ⟨rfl, hb⟩; replace M := Aside0.mk (M.out.below hb); replace F := Aside0.mk (F.out.trans (Fr.of_below hb)); clear hb)
      | (go_at_call 70; refine (imm_any _ _ _ _ _).mono ?_; rintro e wq ⟨rfl, hb⟩; replace M := Aside0.mk (M.out.below hb); replace F := Aside0.mk (F.out.trans (Fr.of_below hb)); clear hb)
      | (go_at_call 72; refine (three_any _ _ _ _ _).mono ?_; rintro e wq ⟨rfl, hb⟩; replace M := Aside0.mk (M.out.below hb); replace F := Aside0.mk (F.out.trans (Fr.of_below hb)); clear hb)
      | (go_at_call 74; refine (store_any _ _ _ _ _).mono ?_; rintro e wq ⟨rfl, hb⟩; replace M := Aside0.mk (M.out.below hb); replace F := Aside0.mk (F.out.trans (Fr.of_below hb)); clear hb))
  refine (do_calls (M.out.alloc _) S.out (by have := K.out; omega) [imm ⟨#[97, 100, 100, 105]⟩ 19 19 (-16), imm ⟨#[108, 100]⟩ 5 19 0, imm ⟨#[108, 100]⟩ 6 19 8, imm ⟨#[97, 110, 100, 105]⟩ 7 5 1] (by simp only [List.length_cons, List.length_nil]; omega) (heap_alloc_last _ _)).mono ?_
  rintro e wd ⟨rfl, hA, hF⟩
  replace M := Aside0.mk ((M.out.alloc _).step hA hF)
  replace F := Aside0.mk (F.out.trans ((Fr.alloc b _ _).trans hF))
  clear hA hF
  replace S := Aside0.mk ((S.out.doF [imm ⟨#[97, 100, 100, 105]⟩ 19 19 (-16), imm ⟨#[108, 100]⟩ 5 19 0, imm ⟨#[108, 100]⟩ 6 19 8, imm ⟨#[97, 110, 100, 105]⟩ 7 5 1]).mono (n := k + 48) (by simp only [List.length_cons, List.length_nil]; omega))
  obtain ⟨A3, hA3⟩ : ∃ X, doF A2 [imm ⟨#[97, 100, 100, 105]⟩ 19 19 (-16), imm ⟨#[108, 100]⟩ 5 19 0, imm ⟨#[108, 100]⟩ 6 19 8, imm ⟨#[97, 110, 100, 105]⟩ 7 5 1] = X := ⟨_, rfl⟩
  rw [hA3] at M S
  have HA3 := Aside0.mk hA3
  clear hA3
  go_wp2_with fail
  refine still_tail 9 (by kernel_rfl) (by kernel_rfl) ?_
  intro wi hwi
  replace M := Aside0.mk (show MkAt wi b p m g E ls l st sl A3 by rw [hwi]; exact M.out.drew)
  replace F := Aside0.mk (show Fr b w wi by rw [hwi]; exact F.out.trans (Fr.of_below (below_drew (Below.refl _ _))))
  clear hwi
  obtain ⟨m0, m1, ⟨r, rcap, m2, hI⟩, m3, m4, m5, m6, m7, m8, m9, m10, mz⟩ := M.out.get
  simp only [List.take_succ_cons, List.take_zero, List.drop_succ_cons, List.drop_zero]
  repeat still_step
  refine wpStill_nil ?_
  go_wp2_with fail
  refine (Branch_calls M.out.asm (by have := S.out.ps; have := K.out; omega) ⟨#[98, 110, 101]⟩ 7 0 E.restore).mono ?_
  rintro e wd ⟨rfl, hA, hF⟩
  replace M : Aside0 (MkAt wd b p m g E ls l st sl (Cmd.step A3 (.br ⟨#[98, 110, 101]⟩ 7 0 E.restore))) := Aside0.mk (M.out.step hA hF)
  replace F := Aside0.mk (F.out.trans hF)
  clear hA hF
  clear m0 m1 m2 hI m3 m4 m5 m6 m7 m8 m9 m10 mz
  replace S := Aside0.mk ((S.out.step (.br ⟨#[98, 110, 101]⟩ 7 0 E.restore)).mono (n := k + 56) (by omega))
  obtain ⟨A4, hA4⟩ : ∃ X, Cmd.step A3 (.br ⟨#[98, 110, 101]⟩ 7 0 E.restore) = X := ⟨_, rfl⟩
  rw [hA4] at M S
  have HA4 := Aside0.mk hA4
  clear hA4
  go_wp2_with (first
      | (go_at_call 69; refine (move_any _ _ _).mono ?_; rintro e wq ⟨rfl, hb⟩; replace M := Aside0.mk (M.out.below hb); replace F := Aside0.mk (F.out.trans (Fr.of_below hb)); clear hb)
      | (go_at_call 70; refine (imm_any _ _ _ _ _).mono ?_; rintro e wq ⟨rfl, hb⟩; replace M := Aside0.mk (M.out.below hb); replace F := Aside0.mk (F.out.trans (Fr.of_below hb)); clear hb)
      | (go_at_call 72; refine (three_any _ _ _ _ _).mono ?_; rintro e wq ⟨rfl, hb⟩; replace M := Aside0.mk (M.out.below hb); replace F := Aside0.mk (F.out.trans (Fr.of_below hb)); clear hb)
      | (go_at_call 74; refine (store_any _ _ _ _ _).mono ?_; rintro e wq ⟨rfl, hb⟩; replace M := Aside0.mk (M.out.below hb); replace F := Aside0.mk (F.out.trans (Fr.of_below hb)); clear hb))
  refine (do_calls (M.out.alloc _) S.out (by have := K.out; omega) [move 22 6, imm ⟨#[106, 97, 108, 114]⟩ 0 5 0] (by simp only [List.length_cons, List.length_nil]; omega) (heap_alloc_last _ _)).mono ?_
  rintro e wd ⟨rfl, hA, hF⟩
  replace M := Aside0.mk ((M.out.alloc _).step hA hF)
  replace F := Aside0.mk (F.out.trans ((Fr.alloc b _ _).trans hF))
  clear hA hF
  replace S := Aside0.mk ((S.out.doF [move 22 6, imm ⟨#[106, 97, 108, 114]⟩ 0 5 0]).mono (n := k + 72) (by simp only [List.length_cons, List.length_nil]; omega))
  obtain ⟨A5, hA5⟩ : ∃ X, doF A4 [move 22 6, imm ⟨#[106, 97, 108, 114]⟩ 0 5 0] = X := ⟨_, rfl⟩
  rw [hA5] at M S
  have HA5 := Aside0.mk hA5
  clear hA5
  go_wp2_with fail
  refine still_tail 9 (by kernel_rfl) (by kernel_rfl) ?_
  intro wi hwi
  replace M := Aside0.mk (show MkAt wi b p m g E ls l st sl A5 by rw [hwi]; exact M.out.drew)
  replace F := Aside0.mk (show Fr b w wi by rw [hwi]; exact F.out.trans (Fr.of_below (below_drew (Below.refl _ _))))
  clear hwi
  obtain ⟨m0, m1, ⟨r, rcap, m2, hI⟩, m3, m4, m5, m6, m7, m8, m9, m10, mz⟩ := M.out.get
  simp only [List.take_succ_cons, List.take_zero, List.drop_succ_cons, List.drop_zero]
  repeat still_step
  refine wpStill_nil ?_
  go_wp2_with fail
  refine (Mark_calls M.out.asm (by have := S.out.ps; have := K.out; omega) (by have := S.out.nm; have := K.out; omega) (label := E.restore) (hE _ (by simp [Ends.all]))).mono ?_
  rintro e wd ⟨rfl, hA, hF⟩
  replace M : Aside0 (MkAt wd b p m g E ls l st sl (Cmd.step A5 (.mrk E.restore))) := Aside0.mk (M.out.step hA hF)
  replace F := Aside0.mk (F.out.trans hF)
  clear hA hF
  clear m0 m1 m2 hI m3 m4 m5 m6 m7 m8 m9 m10 mz
  replace S := Aside0.mk ((S.out.step (.mrk E.restore)).mono (n := k + 80) (by omega))
  obtain ⟨A6, hA6⟩ : ∃ X, Cmd.step A5 (.mrk E.restore) = X := ⟨_, rfl⟩
  rw [hA6] at M S
  have HA6 := Aside0.mk hA6
  clear hA6
  go_wp2_with (first
      | (go_at_call 69; refine (move_any _ _ _).mono ?_; rintro e wq ⟨rfl, hb⟩; replace M := Aside0.mk (M.out.below hb); replace F := Aside0.mk (F.out.trans (Fr.of_below hb)); clear hb)
      | (go_at_call 70; refine (imm_any _ _ _ _ _).mono ?_; rintro e wq ⟨rfl, hb⟩; replace M := Aside0.mk (M.out.below hb); replace F := Aside0.mk (F.out.trans (Fr.of_below hb)); clear hb)
      | (go_at_call 72; refine (three_any _ _ _ _ _).mono ?_; rintro e wq ⟨rfl, hb⟩; replace M := Aside0.mk (M.out.below hb); replace F := Aside0.mk (F.out.trans (Fr.of_below hb)); clear hb)
      | (go_at_call 74; refine (store_any _ _ _ _ _).mono ?_; rintro e wq ⟨rfl, hb⟩; replace M := Aside0.mk (M.out.below hb); replace F := Aside0.mk (F.out.trans (Fr.of_below hb)); clear hb))
  refine (do_calls (M.out.alloc _) S.out (by have := K.out; omega) [imm ⟨#[115, 114, 108, 105]⟩ 5 5 1, three ⟨#[97, 100, 100]⟩ 5 5 8, store ⟨#[115, 100]⟩ 6 5 0] (by simp only [List.length_cons, List.length_nil]; omega) (heap_alloc_last _ _)).mono ?_
  rintro e wd ⟨rfl, hA, hF⟩
  replace M := Aside0.mk ((M.out.alloc _).step hA hF)
  replace F := Aside0.mk (F.out.trans ((Fr.alloc b _ _).trans hF))
  clear hA hF
  replace S := Aside0.mk ((S.out.doF [imm ⟨#[115, 114, 108, 105]⟩ 5 5 1, three ⟨#[97, 100, 100]⟩ 5 5 8, store ⟨#[115, 100]⟩ 6 5 0]).mono (n := k + 104) (by simp only [List.length_cons, List.length_nil]; omega))
  obtain ⟨A7, hA7⟩ : ∃ X, doF A6 [imm ⟨#[115, 114, 108, 105]⟩ 5 5 1, three ⟨#[97, 100, 100]⟩ 5 5 8, store ⟨#[115, 100]⟩ 6 5 0] = X := ⟨_, rfl⟩
  rw [hA7] at M S
  have HA7 := Aside0.mk hA7
  clear hA7
  go_wp2_with fail
  refine still_tail 9 (by kernel_rfl) (by kernel_rfl) ?_
  intro wi hwi
  replace M := Aside0.mk (show MkAt wi b p m g E ls l st sl A7 by rw [hwi]; exact M.out.drew)
  replace F := Aside0.mk (show Fr b w wi by rw [hwi]; exact F.out.trans (Fr.of_below (below_drew (Below.refl _ _))))
  clear hwi
  obtain ⟨m0, m1, ⟨r, rcap, m2, hI⟩, m3, m4, m5, m6, m7, m8, m9, m10, mz⟩ := M.out.get
  simp only [List.take_succ_cons, List.take_zero, List.drop_succ_cons, List.drop_zero]
  repeat still_step
  refine wpStill_nil ?_
  go_wp2_with fail
  refine (Jump_calls M.out.asm (by have := S.out.ps; have := K.out; omega) 0 E.fail).mono ?_
  rintro e wd ⟨rfl, hA, hF⟩
  replace M : Aside0 (MkAt wd b p m g E ls l st sl (Cmd.step A7 (.jmp 0 E.fail))) := Aside0.mk (M.out.step hA hF)
  replace F := Aside0.mk (F.out.trans hF)
  clear hA hF
  clear m0 m1 m2 hI m3 m4 m5 m6 m7 m8 m9 m10 mz
  replace S := Aside0.mk ((S.out.step (.jmp 0 E.fail)).mono (n := k + 112) (by omega))
  obtain ⟨A8, hA8⟩ : ∃ X, Cmd.step A7 (.jmp 0 E.fail) = X := ⟨_, rfl⟩
  rw [hA8] at M S
  have HA8 := Aside0.mk hA8
  clear hA8
  go_wp2_with fail
  refine still_tail 9 (by kernel_rfl) (by kernel_rfl) ?_
  intro wi hwi
  replace M := Aside0.mk (show MkAt wi b p m g E ls l st sl A8 by rw [hwi]; exact M.out.drew)
  replace F := Aside0.mk (show Fr b w wi by rw [hwi]; exact F.out.trans (Fr.of_below (below_drew (Below.refl _ _))))
  clear hwi
  obtain ⟨m0, m1, ⟨r, rcap, m2, hI⟩, m3, m4, m5, m6, m7, m8, m9, m10, mz⟩ := M.out.get
  simp only [List.take_succ_cons, List.take_zero, List.drop_succ_cons, List.drop_zero]
  repeat still_step
  refine wpStill_nil ?_
  go_wp2_with fail
  refine (Mark_calls M.out.asm (by have := S.out.ps; have := K.out; omega) (by have := S.out.nm; have := K.out; omega) (label := E.empty) (hE _ (by simp [Ends.all]))).mono ?_
  rintro e wd ⟨rfl, hA, hF⟩
  replace M : Aside0 (MkAt wd b p m g E ls l st sl (Cmd.step A8 (.mrk E.empty))) := Aside0.mk (M.out.step hA hF)
  replace F := Aside0.mk (F.out.trans hF)
  clear hA hF
  clear m0 m1 m2 hI m3 m4 m5 m6 m7 m8 m9 m10 mz
  replace S := Aside0.mk ((S.out.step (.mrk E.empty)).mono (n := k + 120) (by omega))
  obtain ⟨A9, hA9⟩ : ∃ X, Cmd.step A8 (.mrk E.empty) = X := ⟨_, rfl⟩
  rw [hA9] at M S
  have HA9 := Aside0.mk hA9
  clear hA9
  go_wp2_with fail
  refine still_tail 9 (by kernel_rfl) (by kernel_rfl) ?_
  intro wi hwi
  replace M := Aside0.mk (show MkAt wi b p m g E ls l st sl A9 by rw [hwi]; exact M.out.drew)
  replace F := Aside0.mk (show Fr b w wi by rw [hwi]; exact F.out.trans (Fr.of_below (below_drew (Below.refl _ _))))
  clear hwi
  obtain ⟨m0, m1, ⟨r, rcap, m2, hI⟩, m3, m4, m5, m6, m7, m8, m9, m10, mz⟩ := M.out.get
  simp only [List.take_succ_cons, List.take_zero, List.drop_succ_cons, List.drop_zero]
  repeat still_step
  refine wpStill_nil ?_
  go_wp2_with fail
  refine (Branch_calls M.out.asm (by have := S.out.ps; have := K.out; omega) ⟨#[98, 110, 101]⟩ 27 0 E.done).mono ?_
  rintro e wd ⟨rfl, hA, hF⟩
  replace M : Aside0 (MkAt wd b p m g E ls l st sl (Cmd.step A9 (.br ⟨#[98, 110, 101]⟩ 27 0 E.done))) := Aside0.mk (M.out.step hA hF)
  replace F := Aside0.mk (F.out.trans hF)
  clear hA hF
  clear m0 m1 m2 hI m3 m4 m5 m6 m7 m8 m9 m10 mz
  replace S := Aside0.mk ((S.out.step (.br ⟨#[98, 110, 101]⟩ 27 0 E.done)).mono (n := k + 128) (by omega))
  obtain ⟨A10, hA10⟩ : ∃ X, Cmd.step A9 (.br ⟨#[98, 110, 101]⟩ 27 0 E.done) = X := ⟨_, rfl⟩
  rw [hA10] at M S
  have HA10 := Aside0.mk hA10
  clear hA10
  go_wp2_with fail
  refine still_tail 9 (by kernel_rfl) (by kernel_rfl) ?_
  intro wi hwi
  replace M := Aside0.mk (show MkAt wi b p m g E ls l st sl A10 by rw [hwi]; exact M.out.drew)
  replace F := Aside0.mk (show Fr b w wi by rw [hwi]; exact F.out.trans (Fr.of_below (below_drew (Below.refl _ _))))
  clear hwi
  obtain ⟨m0, m1, ⟨r, rcap, m2, hI⟩, m3, m4, m5, m6, m7, m8, m9, m10, mz⟩ := M.out.get
  simp only [List.take_succ_cons, List.take_zero, List.drop_succ_cons, List.drop_zero]
  repeat still_step
  refine wpStill_nil ?_
  go_wp2_with fail
  refine (Branch_calls M.out.asm (by have := S.out.ps; have := K.out; omega) ⟨#[98, 110, 101]⟩ 25 0 E.done).mono ?_
  rintro e wd ⟨rfl, hA, hF⟩
  replace M : Aside0 (MkAt wd b p m g E ls l st sl (Cmd.step A10 (.br ⟨#[98, 110, 101]⟩ 25 0 E.done))) := Aside0.mk (M.out.step hA hF)
  replace F := Aside0.mk (F.out.trans hF)
  clear hA hF
  clear m0 m1 m2 hI m3 m4 m5 m6 m7 m8 m9 m10 mz
  replace S := Aside0.mk ((S.out.step (.br ⟨#[98, 110, 101]⟩ 25 0 E.done)).mono (n := k + 136) (by omega))
  obtain ⟨A11, hA11⟩ : ∃ X, Cmd.step A10 (.br ⟨#[98, 110, 101]⟩ 25 0 E.done) = X := ⟨_, rfl⟩
  rw [hA11] at M S
  have HA11 := Aside0.mk hA11
  clear hA11
  go_wp2_with (first
      | (go_at_call 69; refine (move_any _ _ _).mono ?_; rintro e wq ⟨rfl, hb⟩; replace M := Aside0.mk (M.out.below hb); replace F := Aside0.mk (F.out.trans (Fr.of_below hb)); clear hb)
      | (go_at_call 70; refine (imm_any _ _ _ _ _).mono ?_; rintro e wq ⟨rfl, hb⟩; replace M := Aside0.mk (M.out.below hb); replace F := Aside0.mk (F.out.trans (Fr.of_below hb)); clear hb)
      | (go_at_call 72; refine (three_any _ _ _ _ _).mono ?_; rintro e wq ⟨rfl, hb⟩; replace M := Aside0.mk (M.out.below hb); replace F := Aside0.mk (F.out.trans (Fr.of_below hb)); clear hb)
      | (go_at_call 74; refine (store_any _ _ _ _ _).mono ?_; rintro e wq ⟨rfl, hb⟩; replace M := Aside0.mk (M.out.below hb); replace F := Aside0.mk (F.out.trans (Fr.of_below hb)); clear hb))
  refine (do_calls (M.out.alloc _) S.out (by have := K.out; omega) [imm ⟨#[97, 100, 100, 105]⟩ 30 30 1] (by simp only [List.length_cons, List.length_nil]; omega) (heap_alloc_last _ _)).mono ?_
  rintro e wd ⟨rfl, hA, hF⟩
  replace M := Aside0.mk ((M.out.alloc _).step hA hF)
  replace F := Aside0.mk (F.out.trans ((Fr.alloc b _ _).trans hF))
  clear hA hF
  replace S := Aside0.mk ((S.out.doF [imm ⟨#[97, 100, 100, 105]⟩ 30 30 1]).mono (n := k + 144) (by simp only [List.length_cons, List.length_nil]; omega))
  obtain ⟨A12, hA12⟩ : ∃ X, doF A11 [imm ⟨#[97, 100, 100, 105]⟩ 30 30 1] = X := ⟨_, rfl⟩
  rw [hA12] at M S
  have HA12 := Aside0.mk hA12
  clear hA12
  go_wp2_with fail
  refine still_tail 9 (by kernel_rfl) (by kernel_rfl) ?_
  intro wi hwi
  replace M := Aside0.mk (show MkAt wi b p m g E ls l st sl A12 by rw [hwi]; exact M.out.drew)
  replace F := Aside0.mk (show Fr b w wi by rw [hwi]; exact F.out.trans (Fr.of_below (below_drew (Below.refl _ _))))
  clear hwi
  obtain ⟨m0, m1, ⟨r, rcap, m2, hI⟩, m3, m4, m5, m6, m7, m8, m9, m10, mz⟩ := M.out.get
  simp only [List.take_succ_cons, List.take_zero, List.drop_succ_cons, List.drop_zero]
  repeat still_step
  refine wpStill_nil ?_
  go_wp2_with fail
  refine (Branch_calls M.out.asm (by have := S.out.ps; have := K.out; omega) ⟨#[98, 108, 116, 117]⟩ 24 30 E.done).mono ?_
  rintro e wd ⟨rfl, hA, hF⟩
  replace M : Aside0 (MkAt wd b p m g E ls l st sl (Cmd.step A12 (.br ⟨#[98, 108, 116, 117]⟩ 24 30 E.done))) := Aside0.mk (M.out.step hA hF)
  replace F := Aside0.mk (F.out.trans hF)
  clear hA hF
  clear m0 m1 m2 hI m3 m4 m5 m6 m7 m8 m9 m10 mz
  replace S := Aside0.mk ((S.out.step (.br ⟨#[98, 108, 116, 117]⟩ 24 30 E.done)).mono (n := k + 152) (by omega))
  obtain ⟨A13, hA13⟩ : ∃ X, Cmd.step A12 (.br ⟨#[98, 108, 116, 117]⟩ 24 30 E.done) = X := ⟨_, rfl⟩
  rw [hA13] at M S
  have HA13 := Aside0.mk hA13
  clear hA13
  go_wp2_with fail
  refine still_tail 9 (by kernel_rfl) (by kernel_rfl) ?_
  intro wi hwi
  replace M := Aside0.mk (show MkAt wi b p m g E ls l st sl A13 by rw [hwi]; exact M.out.drew)
  replace F := Aside0.mk (show Fr b w wi by rw [hwi]; exact F.out.trans (Fr.of_below (below_drew (Below.refl _ _))))
  clear hwi
  obtain ⟨m0, m1, ⟨r, rcap, m2, hI⟩, m3, m4, m5, m6, m7, m8, m9, m10, mz⟩ := M.out.get
  simp only [List.take_succ_cons, List.take_zero, List.drop_succ_cons, List.drop_zero]
  repeat still_step
  refine wpStill_nil ?_
  go_wp2_with fail
  refine (Jump_calls M.out.asm (by have := S.out.ps; have := K.out; omega) 0 E.start).mono ?_
  rintro e wd ⟨rfl, hA, hF⟩
  replace M : Aside0 (MkAt wd b p m g E ls l st sl (Cmd.step A13 (.jmp 0 E.start))) := Aside0.mk (M.out.step hA hF)
  replace F := Aside0.mk (F.out.trans hF)
  clear hA hF
  clear m0 m1 m2 hI m3 m4 m5 m6 m7 m8 m9 m10 mz
  replace S := Aside0.mk ((S.out.step (.jmp 0 E.start)).mono (n := k + 160) (by omega))
  obtain ⟨A14, hA14⟩ : ∃ X, Cmd.step A13 (.jmp 0 E.start) = X := ⟨_, rfl⟩
  rw [hA14] at M S
  have HA14 := Aside0.mk hA14
  clear hA14
  have EQ : Aside0 (run A (backC E) = A14) := ⟨by
    rw [← HA14.out, ← HA13.out, ← HA12.out, ← HA11.out, ← HA10.out, ← HA9.out, ← HA8.out, ← HA7.out, ← HA6.out, ← HA5.out, ← HA4.out, ← HA3.out, ← HA2.out, ← HA1.out]
    rfl⟩
  go_wp2
  exact bodyPost_end (v := .tuple #[]) (by simp [results, Tryz.results40, go_sem]) rfl ⟨rfl, by rw [EQ.out]; exact M.out.asm, F.out⟩
def lineC (E : Ends) (where_ by_ L0 : Int) : List Cmd := [.new, .br ⟨#[98, 101, 113]⟩ 22 where_ L0, .op (three ⟨#[97, 100, 100]⟩ 5 23 22), .op (imm ⟨#[108, 98, 117]⟩ 5 5 by_), .op (imm ⟨#[97, 100, 100, 105]⟩ 6 0 10), .br ⟨#[98, 110, 101]⟩ 5 6 E.fail, .mrk L0]
set_option maxHeartbeats 4000000 in
set_option maxRecDepth 100000 in
theorem line_calls {w : World} {b p m g : Nat} {E : Ends} {ls : List Int} {l : List S61} {st sl : Int} {A : AsmS} (h : MkAt w b p m g E ls l st sl A) {k : Nat} (hS : Small A k) (hk : k < 700000000) (where_ by_ : Int) :
    Calls Tryz.prog 122 #[.pointer (some ⟨m, 0, none⟩), .int .i64 where_, .int .i64 by_] w fun e w' => e = .returned (.tuple #[]) ∧ AsmAt w' b p (run A (lineC E where_ by_ A.labels)) ∧ Fr b w w' := by
  have M := Aside0.mk h
  have S := Aside0.mk hS
  have K := Aside0.mk hk
  have F := Aside0.mk (Fr.refl b w)
  clear h hS hk
  go_enter Tryz.func122, Tryz.ntmps122
  obtain ⟨L0, hL0⟩ : ∃ x, A.labels = x := ⟨_, rfl⟩
  have HL := Aside0.mk (show I64 L0 by have := S.out.lab0; have := S.out.lab; have := K.out; unfold I64; omega)
  obtain ⟨m0, m1, ⟨r, rcap, m2, hI⟩, m3, m4, m5, m6, m7, m8, m9, m10, mz⟩ := M.out.get
  go_wp2_with fail
  refine (label_calls M.out.asm S.out.lab0 (by have := S.out.lab; have := K.out; omega)).mono ?_
  rintro e wd ⟨rfl, hA, hF⟩
  replace M : Aside0 (MkAt wd b p m g E ls l st sl (Cmd.step A .new)) := Aside0.mk (M.out.step hA hF)
  replace F := Aside0.mk (F.out.trans hF)
  clear hA hF m0 m1 m2 hI m3 m4 m5 m6 m7 m8 m9 m10 mz
  rw [hL0]
  replace S := Aside0.mk ((S.out.step .new).mono (n := k + 8) (by omega))
  obtain ⟨A1, hA1⟩ : ∃ X, Cmd.step A .new = X := ⟨_, rfl⟩
  rw [hA1] at M S
  have HA1 := Aside0.mk hA1
  clear hA1
  have HL0 := Aside0.mk hL0
  clear hL0
  obtain ⟨m0, m1, ⟨r, rcap, m2, hI⟩, m3, m4, m5, m6, m7, m8, m9, m10, mz⟩ := M.out.get
  go_wp2_with fail
  refine (Branch_calls M.out.asm (by have := S.out.ps; have := K.out; omega) ⟨#[98, 101, 113]⟩ 22 where_ L0).mono ?_
  rintro e wd ⟨rfl, hA, hF⟩
  replace M : Aside0 (MkAt wd b p m g E ls l st sl (Cmd.step A1 (.br ⟨#[98, 101, 113]⟩ 22 where_ L0))) := Aside0.mk (M.out.step hA hF)
  replace F := Aside0.mk (F.out.trans hF)
  clear hA hF
  clear m0 m1 m2 hI m3 m4 m5 m6 m7 m8 m9 m10 mz
  replace S := Aside0.mk ((S.out.step (.br ⟨#[98, 101, 113]⟩ 22 where_ L0)).mono (n := k + 16) (by omega))
  obtain ⟨A2, hA2⟩ : ∃ X, Cmd.step A1 (.br ⟨#[98, 101, 113]⟩ 22 where_ L0) = X := ⟨_, rfl⟩
  rw [hA2] at M S
  have HA2 := Aside0.mk hA2
  clear hA2
  go_wp2_with (first
      | (go_at_call 69; refine (move_any _ _ _).mono ?_; rintro e wq ⟨rfl, hb⟩; replace M := Aside0.mk (M.out.below hb); replace F := Aside0.mk (F.out.trans (Fr.of_below hb)); clear hb)
      | (go_at_call 70; refine (imm_any _ _ _ _ _).mono ?_; rintro e wq ⟨rfl, hb⟩; replace M := Aside0.mk (M.out.below hb); replace F := Aside0.mk (F.out.trans (Fr.of_below hb)); clear hb)
      | (go_at_call 72; refine (three_any _ _ _ _ _).mono ?_; rintro e wq ⟨rfl, hb⟩; replace M := Aside0.mk (M.out.below hb); replace F := Aside0.mk (F.out.trans (Fr.of_below hb)); clear hb)
      | (go_at_call 74; refine (store_any _ _ _ _ _).mono ?_; rintro e wq ⟨rfl, hb⟩; replace M := Aside0.mk (M.out.below hb); replace F := Aside0.mk (F.out.trans (Fr.of_below hb)); clear hb))
  refine (do_calls (M.out.alloc _) S.out (by have := K.out; omega) [three ⟨#[97, 100, 100]⟩ 5 23 22, imm ⟨#[108, 98, 117]⟩ 5 5 by_, imm ⟨#[97, 100, 100, 105]⟩ 6 0 10] (by simp only [List.length_cons, List.length_nil]; omega) (heap_alloc_last _ _)).mono ?_
  rintro e wd ⟨rfl, hA, hF⟩
  replace M := Aside0.mk ((M.out.alloc _).step hA hF)
  replace F := Aside0.mk (F.out.trans ((Fr.alloc b _ _).trans hF))
  clear hA hF
  replace S := Aside0.mk ((S.out.doF [three ⟨#[97, 100, 100]⟩ 5 23 22, imm ⟨#[108, 98, 117]⟩ 5 5 by_, imm ⟨#[97, 100, 100, 105]⟩ 6 0 10]).mono (n := k + 40) (by simp only [List.length_cons, List.length_nil]; omega))
  obtain ⟨A3, hA3⟩ : ∃ X, doF A2 [three ⟨#[97, 100, 100]⟩ 5 23 22, imm ⟨#[108, 98, 117]⟩ 5 5 by_, imm ⟨#[97, 100, 100, 105]⟩ 6 0 10] = X := ⟨_, rfl⟩
  rw [hA3] at M S
  have HA3 := Aside0.mk hA3
  clear hA3
  go_wp2_with fail
  refine still_tail 9 (by kernel_rfl) (by kernel_rfl) ?_
  intro wi hwi
  replace M := Aside0.mk (show MkAt wi b p m g E ls l st sl A3 by rw [hwi]; exact M.out.drew)
  replace F := Aside0.mk (show Fr b w wi by rw [hwi]; exact F.out.trans (Fr.of_below (below_drew (Below.refl _ _))))
  clear hwi
  obtain ⟨m0, m1, ⟨r, rcap, m2, hI⟩, m3, m4, m5, m6, m7, m8, m9, m10, mz⟩ := M.out.get
  simp only [List.take_succ_cons, List.take_zero, List.drop_succ_cons, List.drop_zero]
  repeat still_step
  refine wpStill_nil ?_
  go_wp2_with fail
  refine (Branch_calls M.out.asm (by have := S.out.ps; have := K.out; omega) ⟨#[98, 110, 101]⟩ 5 6 E.fail).mono ?_
  rintro e wd ⟨rfl, hA, hF⟩
  replace M : Aside0 (MkAt wd b p m g E ls l st sl (Cmd.step A3 (.br ⟨#[98, 110, 101]⟩ 5 6 E.fail))) := Aside0.mk (M.out.step hA hF)
  replace F := Aside0.mk (F.out.trans hF)
  clear hA hF
  clear m0 m1 m2 hI m3 m4 m5 m6 m7 m8 m9 m10 mz
  replace S := Aside0.mk ((S.out.step (.br ⟨#[98, 110, 101]⟩ 5 6 E.fail)).mono (n := k + 48) (by omega))
  obtain ⟨A4, hA4⟩ : ∃ X, Cmd.step A3 (.br ⟨#[98, 110, 101]⟩ 5 6 E.fail) = X := ⟨_, rfl⟩
  rw [hA4] at M S
  have HA4 := Aside0.mk hA4
  clear hA4
  obtain ⟨m0, m1, ⟨r, rcap, m2, hI⟩, m3, m4, m5, m6, m7, m8, m9, m10, mz⟩ := M.out.get
  go_wp2_with fail
  refine (Mark_calls M.out.asm (by have := S.out.ps; have := K.out; omega) (by have := S.out.nm; have := K.out; omega) (label := L0) HL.out).mono ?_
  rintro e wd ⟨rfl, hA, hF⟩
  replace M : Aside0 (MkAt wd b p m g E ls l st sl (Cmd.step A4 (.mrk L0))) := Aside0.mk (M.out.step hA hF)
  replace F := Aside0.mk (F.out.trans hF)
  clear hA hF
  clear m0 m1 m2 hI m3 m4 m5 m6 m7 m8 m9 m10 mz
  replace S := Aside0.mk ((S.out.step (.mrk L0)).mono (n := k + 56) (by omega))
  obtain ⟨A5, hA5⟩ : ∃ X, Cmd.step A4 (.mrk L0) = X := ⟨_, rfl⟩
  rw [hA5] at M S
  have HA5 := Aside0.mk hA5
  clear hA5
  have EQ : Aside0 (run A (lineC E where_ by_ A.labels) = A5) := ⟨by
    rw [← HA5.out, ← HA4.out, ← HA3.out, ← HA2.out, ← HA1.out, HL0.out]
    rfl⟩
  go_wp2
  exact bodyPost_end (v := .tuple #[]) (by simp [results, Tryz.results122, go_sem]) rfl ⟨rfl, by rw [EQ.out]; exact M.out.asm, F.out⟩
end Go.Proofs.YtpfcdhjknmijjaaGreat.Em
end
