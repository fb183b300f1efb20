import Derived.Test.YtpfcdhjknmijjaaGreatTe23
section
set_option linter.unusedSimpArgs false
set_option linter.unusedVariables false
namespace Go.Proofs.YtpfcdhjknmijjaaGreat.Em
open Go.RowKit Go.Maps Go.Proofs.YtpfcdhjknmijjaaGreat.Ve Go.Proofs.YtpfcdhjknmijjaaGreat.Grow Go.Proofs.YtpfcdhjknmijjaaGreat.Rv Go.Proofs.YtpfcdhjknmijjaaGreat.As Go.Proofs.YtpfcdhjknmijjaaGreat.PEmitFinds
open Go.Proofs.YtpfcdhjknmijjaaGreatW.PrintWords Go.Proofs.YtpfcdhjknmijjaaGreatW.PrintLast Go.Proofs.YtpfcdhjknmijjaaGreatW.PrintMore

def jobC (ra_ rb_ : Int) : List Cmd := [.op (store ⟨#[115, 100]⟩ ra_ 19 0), .op (store ⟨#[115, 100]⟩ rb_ 19 8), .op (imm ⟨#[97, 100, 100, 105]⟩ 19 19 16)]
set_option maxHeartbeats 4000000 in
set_option maxRecDepth 100000 in
theorem job_calls {w : World} {b p m g : Nat} {E : Ends} {ls : List Int} {l : List S61} {st sl : Int} {A : AsmS} (h : MkAt w b p m g E ls l st sl A) {k : Nat} (hS : Small A k) (hk : k < 700000000) (ra_ rb_ : Int) :
    Calls Tryz.prog 80 #[.pointer (some ⟨m, 0, none⟩), .int .i64 ra_, .int .i64 rb_] w fun e w' => e = .returned (.tuple #[]) ∧ AsmAt w' b p (run A (jobC ra_ rb_)) ∧ Fr b w w' := by
  have M := Aside0.mk h
  have S := Aside0.mk hS
  have K := Aside0.mk hk
  have F := Aside0.mk (Fr.refl b w)
  clear h hS hk
  go_enter Tryz.func80, Tryz.ntmps80
  go_wp2_with (first
      | (go_at_call 69; refine (move_any _ _ _).mono ?_; rintro e wq ⟨rfl, hb⟩; replace M := Aside0.mk (M.out.below hb); replace F := Aside0.mk (F.out.trans (Fr.of_below hb)); clear hb)
      | (go_at_call 70; refine (imm_any _ _ _ _ _).mono ?_; rintro e wq ⟨rfl, hb⟩; replace M := Aside0.mk (M.out.below hb); replace F := Aside0.mk (F.out.trans (Fr.of_below hb)); clear hb)
      | (go_at_call 72; refine (three_any _ _ _ _ _).mono ?_; rintro e wq ⟨rfl, hb⟩; replace M := Aside0.mk (M.out.below hb); replace F := Aside0.mk (F.out.trans (Fr.of_below hb)); clear hb)
      | (go_at_call 74; refine (store_any _ _ _ _ _).mono ?_; rintro e wq ⟨rfl, hb⟩; replace M := Aside0.mk (M.out.below hb); replace F := Aside0.mk (F.out.trans (Fr.of_below hb)); clear hb))
  refine (do_calls (M.out.alloc _) S.out (by have := K.out; omega) [store ⟨#[115, 100]⟩ ra_ 19 0, store ⟨#[115, 100]⟩ rb_ 19 8, imm ⟨#[97, 100, 100, 105]⟩ 19 19 16] (by simp only [List.length_cons, List.length_nil]; omega) (heap_alloc_last _ _)).mono ?_
  rintro e wd ⟨rfl, hA, hF⟩
  replace M := Aside0.mk ((M.out.alloc _).step hA hF)
  replace F := Aside0.mk (F.out.trans ((Fr.alloc b _ _).trans hF))
  clear hA hF
  replace S := Aside0.mk ((S.out.doF [store ⟨#[115, 100]⟩ ra_ 19 0, store ⟨#[115, 100]⟩ rb_ 19 8, imm ⟨#[97, 100, 100, 105]⟩ 19 19 16]).mono (n := k + 24) (by simp only [List.length_cons, List.length_nil]; omega))
  obtain ⟨A1, hA1⟩ : ∃ X, doF A [store ⟨#[115, 100]⟩ ra_ 19 0, store ⟨#[115, 100]⟩ rb_ 19 8, imm ⟨#[97, 100, 100, 105]⟩ 19 19 16] = X := ⟨_, rfl⟩
  rw [hA1] at M S
  have HA1 := Aside0.mk hA1
  clear hA1
  have EQ : Aside0 (run A (jobC ra_ rb_) = A1) := ⟨by
    rw [← HA1.out]
    rfl⟩
  go_wp2
  exact bodyPost_end (v := .tuple #[]) (by simp [results, Tryz.results80, go_sem]) rfl ⟨rfl, by rw [EQ.out]; exact M.out.asm, F.out⟩
def markC (E : Ends) (i : Int) : List Cmd := [.num 5 i, .op (three ⟨#[109, 117, 108]⟩ 5 5 20), .op (three ⟨#[97, 100, 100]⟩ 5 5 22), .op (imm ⟨#[115, 114, 108, 105]⟩ 6 5 3), .op (three ⟨#[97, 100, 100]⟩ 6 6 9), .op (imm ⟨#[108, 98, 117]⟩ 7 6 0), .op (imm ⟨#[97, 110, 100, 105]⟩ 5 5 7), .op (imm ⟨#[97, 100, 100, 105]⟩ 28 0 1), .op (three ⟨#[115, 108, 108]⟩ 28 28 5), .op (three ⟨#[97, 110, 100]⟩ 29 7 28), .br ⟨#[98, 110, 101]⟩ 29 0 E.fail, .op (three ⟨#[111, 114]⟩ 7 7 28), .op (store ⟨#[115, 98]⟩ 7 6 0)]
set_option maxHeartbeats 4000000 in
set_option maxRecDepth 100000 in
theorem mark_calls {w : World} {b p m g : Nat} {E : Ends} {ls : List Int} {l : List S61} {st sl : Int} {A : AsmS} (h : MkAt w b p m g E ls l st sl A) {k : Nat} (hS : Small A k) (hk : k < 700000000) (i : Int) (hi : I64 i) :
    Calls Tryz.prog 77 #[.pointer (some ⟨m, 0, none⟩), .int .i64 i] w fun e w' => e = .returned (.tuple #[]) ∧ AsmAt w' b p (run A (markC E i)) ∧ Fr b w w' := by
  have M := Aside0.mk h
  have S := Aside0.mk hS
  have K := Aside0.mk hk
  have F := Aside0.mk (Fr.refl b w)
  clear h hS hk
  go_enter Tryz.func77, Tryz.ntmps77
  obtain ⟨m0, m1, ⟨r, rcap, m2, hI⟩, m3, m4, m5, m6, m7, m8, m9, m10, mz⟩ := M.out.get
  go_wp2_with fail
  refine (Number_calls M.out.asm (by have := S.out.ps; have := K.out; omega) 5 (n := i) hi).mono ?_
  rintro e wd ⟨rfl, hA, hF⟩
  replace M : Aside0 (MkAt wd b p m g E ls l st sl (Cmd.step A (.num 5 i))) := Aside0.mk (M.out.step hA hF)
  replace F := Aside0.mk (F.out.trans hF)
  clear hA hF
  clear m0 m1 m2 hI m3 m4 m5 m6 m7 m8 m9 m10 mz
  replace S := Aside0.mk ((S.out.step (.num 5 i)).mono (n := k + 8) (by omega))
  obtain ⟨A1, hA1⟩ : ∃ X, Cmd.step A (.num 5 i) = X := ⟨_, rfl⟩
  rw [hA1] at M S
  have HA1 := Aside0.mk hA1
  clear hA1
  go_wp2_with (first
      | (go_at_call 69; refine (move_any _ _ _).mono ?_; rintro e wq ⟨rfl, hb⟩; replace M := Aside0.mk (M.out.below hb); replace F := Aside0.mk (F.out.trans (Fr.of_below hb)); clear hb)
      | (go_at_call 70; refine (imm_any _ _ _ _ _).mono ?_; rintro e wq ⟨rfl, hb⟩; replace M := Aside0.mk (M.out.below hb); replace F := Aside0.mk (F.out.trans (Fr.of_below hb)); clear hb)
      | (go_at_call 72; refine (three_any _ _ _ _ _).mono ?_; rintro e wq ⟨rfl, hb⟩; replace M := Aside0.mk (M.out.below hb); replace F := Aside0.mk (F.out.trans (Fr.of_below hb)); clear hb)
      | (go_at_call 74; refine (store_any _ _ _ _ _).mono ?_; rintro e wq ⟨rfl, hb⟩; replace M := Aside0.mk (M.out.below hb); replace F := Aside0.mk (F.out.trans (Fr.of_below hb)); clear hb))
  refine (do_calls (M.out.alloc _) S.out (by have := K.out; omega) [three ⟨#[109, 117, 108]⟩ 5 5 20, three ⟨#[97, 100, 100]⟩ 5 5 22, imm ⟨#[115, 114, 108, 105]⟩ 6 5 3, three ⟨#[97, 100, 100]⟩ 6 6 9, imm ⟨#[108, 98, 117]⟩ 7 6 0] (by simp only [List.length_cons, List.length_nil]; omega) (heap_alloc_last _ _)).mono ?_
  rintro e wd ⟨rfl, hA, hF⟩
  replace M := Aside0.mk ((M.out.alloc _).step hA hF)
  replace F := Aside0.mk (F.out.trans ((Fr.alloc b _ _).trans hF))
  clear hA hF
  replace S := Aside0.mk ((S.out.doF [three ⟨#[109, 117, 108]⟩ 5 5 20, three ⟨#[97, 100, 100]⟩ 5 5 22, imm ⟨#[115, 114, 108, 105]⟩ 6 5 3, three ⟨#[97, 100, 100]⟩ 6 6 9, imm ⟨#[108, 98, 117]⟩ 7 6 0]).mono (n := k + 48) (by simp only [List.length_cons, List.length_nil]; omega))
  obtain ⟨A2, hA2⟩ : ∃ X, doF A1 [three ⟨#[109, 117, 108]⟩ 5 5 20, three ⟨#[97, 100, 100]⟩ 5 5 22, imm ⟨#[115, 114, 108, 105]⟩ 6 5 3, three ⟨#[97, 100, 100]⟩ 6 6 9, imm ⟨#[108, 98, 117]⟩ 7 6 0] = X := ⟨_, rfl⟩
  rw [hA2] at M S
  have HA2 := Aside0.mk hA2
  clear hA2
  go_wp2_with (first
      | (go_at_call 69; refine (move_any _ _ _).mono ?_; rintro e wq ⟨rfl, hb⟩; replace M := Aside0.mk (M.out.below hb); replace F := Aside0.mk (F.out.trans (Fr.of_below hb)); clear hb)
      | (go_at_call 70; refine (imm_any _ _ _ _ _).mono ?_; rintro e wq ⟨rfl, hb⟩; replace M := Aside0.mk (M.out.below hb); replace F := Aside0.mk (F.out.trans (Fr.of_below hb)); clear hb)
      | (go_at_call 72; refine (three_any _ _ _ _ _).mono ?_; rintro e wq ⟨rfl, hb⟩; replace M := Aside0.mk (M.out.below hb); replace F := Aside0.mk (F.out.trans (Fr.of_below hb)); clear hb)
      | (go_at_call 74; refine (store_any _ _ _ _ _).mono ?_; rintro e wq ⟨rfl, hb⟩; replace M := Aside0.mk (M.out.below hb); replace F := Aside0.mk (F.out.trans (Fr.of_below hb)); clear hb))
  refine (do_calls (M.out.alloc _) S.out (by have := K.out; omega) [imm ⟨#[97, 110, 100, 105]⟩ 5 5 7, imm ⟨#[97, 100, 100, 105]⟩ 28 0 1, three ⟨#[115, 108, 108]⟩ 28 28 5, three ⟨#[97, 110, 100]⟩ 29 7 28] (by simp only [List.length_cons, List.length_nil]; omega) (heap_alloc_last _ _)).mono ?_
  rintro e wd ⟨rfl, hA, hF⟩
  replace M := Aside0.mk ((M.out.alloc _).step hA hF)
  replace F := Aside0.mk (F.out.trans ((Fr.alloc b _ _).trans hF))
  clear hA hF
  replace S := Aside0.mk ((S.out.doF [imm ⟨#[97, 110, 100, 105]⟩ 5 5 7, imm ⟨#[97, 100, 100, 105]⟩ 28 0 1, three ⟨#[115, 108, 108]⟩ 28 28 5, three ⟨#[97, 110, 100]⟩ 29 7 28]).mono (n := k + 80) (by simp only [List.length_cons, List.length_nil]; omega))
  obtain ⟨A3, hA3⟩ : ∃ X, doF A2 [imm ⟨#[97, 110, 100, 105]⟩ 5 5 7, imm ⟨#[97, 100, 100, 105]⟩ 28 0 1, three ⟨#[115, 108, 108]⟩ 28 28 5, three ⟨#[97, 110, 100]⟩ 29 7 28] = X := ⟨_, rfl⟩
  rw [hA3] at M S
  have HA3 := Aside0.mk hA3
  clear hA3
  go_wp2_with fail
  refine still_tail 9 (by kernel_rfl) (by kernel_rfl) ?_
  intro wi hwi
  replace M := Aside0.mk (show MkAt wi b p m g E ls l st sl A3 by rw [hwi]; exact M.out.drew)
  replace F := Aside0.mk (show Fr b w wi by rw [hwi]; exact F.out.trans (Fr.of_below (below_drew (Below.refl _ _))))
  clear hwi
  obtain ⟨m0, m1, ⟨r, rcap, m2, hI⟩, m3, m4, m5, m6, m7, m8, m9, m10, mz⟩ := M.out.get
  simp only [List.take_succ_cons, List.take_zero, List.drop_succ_cons, List.drop_zero]
  repeat still_step
  refine wpStill_nil ?_
  go_wp2_with fail
  refine (Branch_calls M.out.asm (by have := S.out.ps; have := K.out; omega) ⟨#[98, 110, 101]⟩ 29 0 E.fail).mono ?_
  rintro e wd ⟨rfl, hA, hF⟩
  replace M : Aside0 (MkAt wd b p m g E ls l st sl (Cmd.step A3 (.br ⟨#[98, 110, 101]⟩ 29 0 E.fail))) := Aside0.mk (M.out.step hA hF)
  replace F := Aside0.mk (F.out.trans hF)
  clear hA hF
  clear m0 m1 m2 hI m3 m4 m5 m6 m7 m8 m9 m10 mz
  replace S := Aside0.mk ((S.out.step (.br ⟨#[98, 110, 101]⟩ 29 0 E.fail)).mono (n := k + 88) (by omega))
  obtain ⟨A4, hA4⟩ : ∃ X, Cmd.step A3 (.br ⟨#[98, 110, 101]⟩ 29 0 E.fail) = X := ⟨_, rfl⟩
  rw [hA4] at M S
  have HA4 := Aside0.mk hA4
  clear hA4
  go_wp2_with (first
      | (go_at_call 69; refine (move_any _ _ _).mono ?_; rintro e wq ⟨rfl, hb⟩; replace M := Aside0.mk (M.out.below hb); replace F := Aside0.mk (F.out.trans (Fr.of_below hb)); clear hb)
      | (go_at_call 70; refine (imm_any _ _ _ _ _).mono ?_; rintro e wq ⟨rfl, hb⟩; replace M := Aside0.mk (M.out.below hb); replace F := Aside0.mk (F.out.trans (Fr.of_below hb)); clear hb)
      | (go_at_call 72; refine (three_any _ _ _ _ _).mono ?_; rintro e wq ⟨rfl, hb⟩; replace M := Aside0.mk (M.out.below hb); replace F := Aside0.mk (F.out.trans (Fr.of_below hb)); clear hb)
      | (go_at_call 74; refine (store_any _ _ _ _ _).mono ?_; rintro e wq ⟨rfl, hb⟩; replace M := Aside0.mk (M.out.below hb); replace F := Aside0.mk (F.out.trans (Fr.of_below hb)); clear hb))
  refine (do_calls (M.out.alloc _) S.out (by have := K.out; omega) [three ⟨#[111, 114]⟩ 7 7 28, store ⟨#[115, 98]⟩ 7 6 0] (by simp only [List.length_cons, List.length_nil]; omega) (heap_alloc_last _ _)).mono ?_
  rintro e wd ⟨rfl, hA, hF⟩
  replace M := Aside0.mk ((M.out.alloc _).step hA hF)
  replace F := Aside0.mk (F.out.trans ((Fr.alloc b _ _).trans hF))
  clear hA hF
  replace S := Aside0.mk ((S.out.doF [three ⟨#[111, 114]⟩ 7 7 28, store ⟨#[115, 98]⟩ 7 6 0]).mono (n := k + 104) (by simp only [List.length_cons, List.length_nil]; omega))
  obtain ⟨A5, hA5⟩ : ∃ X, doF A4 [three ⟨#[111, 114]⟩ 7 7 28, store ⟨#[115, 98]⟩ 7 6 0] = X := ⟨_, rfl⟩
  rw [hA5] at M S
  have HA5 := Aside0.mk hA5
  clear hA5
  have EQ : Aside0 (run A (markC E i) = A5) := ⟨by
    rw [← HA5.out, ← HA4.out, ← HA3.out, ← HA2.out, ← HA1.out]
    rfl⟩
  go_wp2
  exact bodyPost_end (v := .tuple #[]) (by simp [results, Tryz.results77, go_sem]) rfl ⟨rfl, by rw [EQ.out]; exact M.out.asm, F.out⟩
end Go.Proofs.YtpfcdhjknmijjaaGreat.Em
end
