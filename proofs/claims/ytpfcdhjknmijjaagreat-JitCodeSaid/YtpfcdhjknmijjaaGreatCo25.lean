import Derived.Test.YtpfcdhjknmijjaaGreatCo24
section
set_option linter.unusedSimpArgs false
set_option linter.unusedVariables false
namespace Go.Proofs.YtpfcdhjknmijjaaGreat.Em
open Go.RowKit Go.Maps Go.Proofs.YtpfcdhjknmijjaaGreat.Ve Go.Proofs.YtpfcdhjknmijjaaGreat.Grow Go.Proofs.YtpfcdhjknmijjaaGreat.Rv Go.Proofs.YtpfcdhjknmijjaaGreat.As Go.Proofs.YtpfcdhjknmijjaaGreat.PEmitFinds
open Go.Proofs.YtpfcdhjknmijjaaGreatW.PrintWords Go.Proofs.YtpfcdhjknmijjaaGreatW.PrintLast Go.Proofs.YtpfcdhjknmijjaaGreatW.PrintMore

/-! ### What is asserted -/
def assertC (E : Ends) (kind L : Int) : List Cmd :=
  if kind = 1 then [.br ⟨#[98, 110, 101]⟩ 22 0 E.fail] else if kind = 2 then [.br ⟨#[98, 110, 101]⟩ 22 24 E.fail] else if kind = 3 then lineC E 0 (-1) L else if kind = 4 then lineC E 24 0 L
  else if kind = 5 then wordsC L ++ [.br ⟨#[98, 101, 113]⟩ 7 28 E.fail] else wordsC L ++ [.br ⟨#[98, 110, 101]⟩ 7 28 E.fail]
set_option maxHeartbeats 4000000 in
set_option maxRecDepth 100000 in
theorem assert_calls {w : World} {b p m g : Nat} {E : Ends} {ls : List Int} {l : List S61} {st sl : Int} {A : AsmS} (h : MkAt w b p m g E ls l st sl A) {k : Nat} (hS : Small A k) (hk : k < 700000000) (kind : Int) :
    Calls Tryz.prog 81 #[.pointer (some ⟨m, 0, none⟩), .int .i64 kind] w fun e w' => e = .returned (.tuple #[]) ∧ AsmAt w' b p (run A (assertC E kind A.labels)) ∧ Fr b w w' := by
  have M := Aside0.mk h
  have S := Aside0.mk hS
  have K := Aside0.mk hk
  have F := Aside0.mk (Fr.refl b w)
  clear h hS hk
  by_cases h1 : kind = 1
  · subst h1
    go_enter Tryz.func81, Tryz.ntmps81
    go_wp2_with fail
    refine still_tail 9 (by kernel_rfl) (by kernel_rfl) ?_
    intro wi hwi
    replace M := Aside0.mk (show MkAt wi b p m g E ls l st sl A by rw [hwi]; exact M.out.drew)
    replace F := Aside0.mk (show Fr b w wi by rw [hwi]; exact F.out.trans (Fr.of_below (below_drew (Below.refl _ _))))
    clear hwi
    obtain ⟨m0, m1, ⟨r, rcap, m2, hI⟩, m3, m4, m5, m6, m7, m8, m9, m10, mz⟩ := M.out.get
    simp only [List.take_succ_cons, List.take_zero, List.drop_succ_cons, List.drop_zero]
    repeat still_step
    refine wpStill_nil ?_
    go_wp2_with fail
    refine (Branch_calls M.out.asm (by have := S.out.ps; have := K.out; omega) ⟨#[98, 110, 101]⟩ 22 0 E.fail).mono ?_
    rintro e wd ⟨rfl, hA, hF⟩
    replace M : Aside0 (MkAt wd b p m g E ls l st sl (Cmd.step A (.br ⟨#[98, 110, 101]⟩ 22 0 E.fail))) := Aside0.mk (M.out.step hA hF)
    replace F := Aside0.mk (F.out.trans hF)
    clear hA hF
    clear m0 m1 m2 hI m3 m4 m5 m6 m7 m8 m9 m10 mz
    replace S := Aside0.mk ((S.out.step (.br ⟨#[98, 110, 101]⟩ 22 0 E.fail)).mono (n := k + 8) (by omega))
    obtain ⟨A1, hA1⟩ : ∃ X, Cmd.step A (.br ⟨#[98, 110, 101]⟩ 22 0 E.fail) = X := ⟨_, rfl⟩
    rw [hA1] at M S
    have HA1 := Aside0.mk hA1
    clear hA1
    have EQ : Aside0 (run A (assertC E 1 A.labels) = A1) := ⟨by
      rw [← HA1.out]
      rfl⟩
    go_wp2
    exact bodyPost_end (v := .tuple #[]) (by simp [results, Tryz.results81, go_sem]) rfl ⟨rfl, by rw [EQ.out]; exact M.out.asm, F.out⟩
  by_cases h2 : kind = 2
  · subst h2
    clear h1
    go_enter Tryz.func81, Tryz.ntmps81
    go_wp2_with fail
    refine still_tail 9 (by kernel_rfl) (by kernel_rfl) ?_
    intro wi hwi
    replace M := Aside0.mk (show MkAt wi b p m g E ls l st sl A by rw [hwi]; exact M.out.drew)
    replace F := Aside0.mk (show Fr b w wi by rw [hwi]; exact F.out.trans (Fr.of_below (below_drew (Below.refl _ _))))
    clear hwi
    obtain ⟨m0, m1, ⟨r, rcap, m2, hI⟩, m3, m4, m5, m6, m7, m8, m9, m10, mz⟩ := M.out.get
    simp only [List.take_succ_cons, List.take_zero, List.drop_succ_cons, List.drop_zero]
    repeat still_step
    refine wpStill_nil ?_
    go_wp2_with fail
    refine (Branch_calls M.out.asm (by have := S.out.ps; have := K.out; omega) ⟨#[98, 110, 101]⟩ 22 24 E.fail).mono ?_
    rintro e wd ⟨rfl, hA, hF⟩
    replace M : Aside0 (MkAt wd b p m g E ls l st sl (Cmd.step A (.br ⟨#[98, 110, 101]⟩ 22 24 E.fail))) := Aside0.mk (M.out.step hA hF)
    replace F := Aside0.mk (F.out.trans hF)
    clear hA hF
    clear m0 m1 m2 hI m3 m4 m5 m6 m7 m8 m9 m10 mz
    replace S := Aside0.mk ((S.out.step (.br ⟨#[98, 110, 101]⟩ 22 24 E.fail)).mono (n := k + 8) (by omega))
    obtain ⟨A1, hA1⟩ : ∃ X, Cmd.step A (.br ⟨#[98, 110, 101]⟩ 22 24 E.fail) = X := ⟨_, rfl⟩
    rw [hA1] at M S
    have HA1 := Aside0.mk hA1
    clear hA1
    have EQ : Aside0 (run A (assertC E 2 A.labels) = A1) := ⟨by
      rw [← HA1.out]
      rfl⟩
    go_wp2
    exact bodyPost_end (v := .tuple #[]) (by simp [results, Tryz.results81, go_sem]) rfl ⟨rfl, by rw [EQ.out]; exact M.out.asm, F.out⟩
  by_cases h3 : kind = 3
  · subst h3
    clear h1 h2
    go_enter Tryz.func81, Tryz.ntmps81
    go_wp2_with fail
    refine (line_calls M.out S.out (by have := K.out; omega) 0 (-1)).mono ?_
    rintro e wd ⟨rfl, hA, hF⟩
    replace M := Aside0.mk (M.out.step hA hF)
    replace F := Aside0.mk (F.out.trans hF)
    clear hA hF
    replace S := Aside0.mk ((S.out.run (lineC E 0 (-1) A.labels)).mono (n := k + 64) (by simp only [lineC, List.length_cons, List.length_nil]; omega))
    obtain ⟨A1, hA1⟩ : ∃ X, run A (lineC E 0 (-1) A.labels) = X := ⟨_, rfl⟩
    rw [hA1] at M S
    have HA1 := Aside0.mk hA1
    clear hA1
    have EQ : Aside0 (run A (assertC E 3 A.labels) = A1) := ⟨by
      rw [← HA1.out]
      rfl⟩
    go_wp2
    exact bodyPost_end (v := .tuple #[]) (by simp [results, Tryz.results81, go_sem]) rfl ⟨rfl, by rw [EQ.out]; exact M.out.asm, F.out⟩
  by_cases h4 : kind = 4
  · subst h4
    clear h1 h2 h3
    go_enter Tryz.func81, Tryz.ntmps81
    go_wp2_with fail
    refine (line_calls M.out S.out (by have := K.out; omega) 24 0).mono ?_
    rintro e wd ⟨rfl, hA, hF⟩
    replace M := Aside0.mk (M.out.step hA hF)
    replace F := Aside0.mk (F.out.trans hF)
    clear hA hF
    replace S := Aside0.mk ((S.out.run (lineC E 24 0 A.labels)).mono (n := k + 64) (by simp only [lineC, List.length_cons, List.length_nil]; omega))
    obtain ⟨A1, hA1⟩ : ∃ X, run A (lineC E 24 0 A.labels) = X := ⟨_, rfl⟩
    rw [hA1] at M S
    have HA1 := Aside0.mk hA1
    clear hA1
    have EQ : Aside0 (run A (assertC E 4 A.labels) = A1) := ⟨by
      rw [← HA1.out]
      rfl⟩
    go_wp2
    exact bodyPost_end (v := .tuple #[]) (by simp [results, Tryz.results81, go_sem]) rfl ⟨rfl, by rw [EQ.out]; exact M.out.asm, F.out⟩
  by_cases h5 : kind = 5
  · subst h5
    clear h1 h2 h3 h4
    go_enter Tryz.func81, Tryz.ntmps81
    go_wp2_with fail
    refine (words_calls M.out S.out (by have := K.out; omega)).mono ?_
    rintro e wd ⟨rfl, hA, hF⟩
    replace M := Aside0.mk (M.out.step hA hF)
    replace F := Aside0.mk (F.out.trans hF)
    clear hA hF
    replace S := Aside0.mk ((S.out.run (wordsC A.labels)).mono (n := k + 128) (by unfold wordsC; rw [wordsN_len]; omega))
    obtain ⟨A1, hA1⟩ : ∃ X, run A (wordsC A.labels) = X := ⟨_, rfl⟩
    rw [hA1] at M S
    have HA1 := Aside0.mk hA1
    clear hA1
    go_wp2_with fail
    refine still_tail 9 (by kernel_rfl) (by kernel_rfl) ?_
    intro wi hwi
    replace M := Aside0.mk (show MkAt wi b p m g E ls l st sl A1 by rw [hwi]; exact M.out.drew)
    replace F := Aside0.mk (show Fr b w wi by rw [hwi]; exact F.out.trans (Fr.of_below (below_drew (Below.refl _ _))))
    clear hwi
    obtain ⟨m0, m1, ⟨r, rcap, m2, hI⟩, m3, m4, m5, m6, m7, m8, m9, m10, mz⟩ := M.out.get
    simp only [List.take_succ_cons, List.take_zero, List.drop_succ_cons, List.drop_zero]
    repeat still_step
    refine wpStill_nil ?_
    go_wp2_with fail
    refine (Branch_calls M.out.asm (by have := S.out.ps; have := K.out; omega) ⟨#[98, 101, 113]⟩ 7 28 E.fail).mono ?_
    rintro e wd ⟨rfl, hA, hF⟩
    replace M : Aside0 (MkAt wd b p m g E ls l st sl (Cmd.step A1 (.br ⟨#[98, 101, 113]⟩ 7 28 E.fail))) := Aside0.mk (M.out.step hA hF)
    replace F := Aside0.mk (F.out.trans hF)
    clear hA hF
    clear m0 m1 m2 hI m3 m4 m5 m6 m7 m8 m9 m10 mz
    replace S := Aside0.mk ((S.out.step (.br ⟨#[98, 101, 113]⟩ 7 28 E.fail)).mono (n := k + 136) (by omega))
    obtain ⟨A2, hA2⟩ : ∃ X, Cmd.step A1 (.br ⟨#[98, 101, 113]⟩ 7 28 E.fail) = X := ⟨_, rfl⟩
    rw [hA2] at M S
    have HA2 := Aside0.mk hA2
    clear hA2
    have EQ : Aside0 (run A (assertC E 5 A.labels) = A2) := ⟨by
      rw [← HA2.out, ← HA1.out]
      rw [show assertC E 5 A.labels = wordsC A.labels ++ [.br ⟨#[98, 101, 113]⟩ 7 28 E.fail] from rfl, run_app]
      rfl⟩
    go_wp2
    exact bodyPost_end (v := .tuple #[]) (by simp [results, Tryz.results81, go_sem]) rfl ⟨rfl, by rw [EQ.out]; exact M.out.asm, F.out⟩
  have e1 : (kind == 1) = false := beq_eq_false_iff_ne.2 h1
  have e2 : (kind == 2) = false := beq_eq_false_iff_ne.2 h2
  have e3 : (kind == 3) = false := beq_eq_false_iff_ne.2 h3
  have e4 : (kind == 4) = false := beq_eq_false_iff_ne.2 h4
  have e5 : (kind == 5) = false := beq_eq_false_iff_ne.2 h5
  have HN := Aside0.mk (show kind ≠ 1 ∧ kind ≠ 2 ∧ kind ≠ 3 ∧ kind ≠ 4 ∧ kind ≠ 5 from ⟨h1, h2, h3, h4, h5⟩)
  clear h1 h2 h3 h4 h5
  go_enter Tryz.func81, Tryz.ntmps81
  go_wp2_with fail
  refine (words_calls M.out S.out (by have := K.out; omega)).mono ?_
  rintro e wd ⟨rfl, hA, hF⟩
  replace M := Aside0.mk (M.out.step hA hF)
  replace F := Aside0.mk (F.out.trans hF)
  clear hA hF
  replace S := Aside0.mk ((S.out.run (wordsC A.labels)).mono (n := k + 128) (by unfold wordsC; rw [wordsN_len]; omega))
  obtain ⟨A1, hA1⟩ : ∃ X, run A (wordsC A.labels) = X := ⟨_, rfl⟩
  rw [hA1] at M S
  have HA1 := Aside0.mk hA1
  clear hA1
  go_wp2_with fail
  refine still_tail 9 (by kernel_rfl) (by kernel_rfl) ?_
  intro wi hwi
  replace M := Aside0.mk (show MkAt wi b p m g E ls l st sl A1 by rw [hwi]; exact M.out.drew)
  replace F := Aside0.mk (show Fr b w wi by rw [hwi]; exact F.out.trans (Fr.of_below (below_drew (Below.refl _ _))))
  clear hwi
  obtain ⟨m0, m1, ⟨r, rcap, m2, hI⟩, m3, m4, m5, m6, m7, m8, m9, m10, mz⟩ := M.out.get
  simp only [List.take_succ_cons, List.take_zero, List.drop_succ_cons, List.drop_zero]
  repeat still_step
  refine wpStill_nil ?_
  go_wp2_with fail
  refine (Branch_calls M.out.asm (by have := S.out.ps; have := K.out; omega) ⟨#[98, 110, 101]⟩ 7 28 E.fail).mono ?_
  rintro e wd ⟨rfl, hA, hF⟩
  replace M : Aside0 (MkAt wd b p m g E ls l st sl (Cmd.step A1 (.br ⟨#[98, 110, 101]⟩ 7 28 E.fail))) := Aside0.mk (M.out.step hA hF)
  replace F := Aside0.mk (F.out.trans hF)
  clear hA hF
  clear m0 m1 m2 hI m3 m4 m5 m6 m7 m8 m9 m10 mz
  replace S := Aside0.mk ((S.out.step (.br ⟨#[98, 110, 101]⟩ 7 28 E.fail)).mono (n := k + 136) (by omega))
  obtain ⟨A2, hA2⟩ : ∃ X, Cmd.step A1 (.br ⟨#[98, 110, 101]⟩ 7 28 E.fail) = X := ⟨_, rfl⟩
  rw [hA2] at M S
  have HA2 := Aside0.mk hA2
  clear hA2
  have EQ : Aside0 (run A (assertC E kind A.labels) = A2) := ⟨by
    rw [← HA2.out, ← HA1.out]
    unfold assertC
    rw [if_neg HN.out.1, if_neg HN.out.2.1, if_neg HN.out.2.2.1, if_neg HN.out.2.2.2.1, if_neg HN.out.2.2.2.2, run_app]
    rfl⟩
  go_wp2
  exact bodyPost_end (v := .tuple #[]) (by simp [results, Tryz.results81, go_sem]) rfl ⟨rfl, by rw [EQ.out]; exact M.out.asm, F.out⟩
end Go.Proofs.YtpfcdhjknmijjaaGreat.Em
end
