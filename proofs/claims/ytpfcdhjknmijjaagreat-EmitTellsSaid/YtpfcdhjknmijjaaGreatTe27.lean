import Derived.Test.YtpfcdhjknmijjaaGreatTe26
section
set_option linter.unusedSimpArgs false
set_option linter.unusedVariables false
namespace Go.Proofs.YtpfcdhjknmijjaaGreat.Em
open Go.RowKit Go.Maps Go.Proofs.YtpfcdhjknmijjaaGreat.Ve Go.Proofs.YtpfcdhjknmijjaaGreat.Grow Go.Proofs.YtpfcdhjknmijjaaGreat.Rv Go.Proofs.YtpfcdhjknmijjaaGreat.As Go.Proofs.YtpfcdhjknmijjaaGreat.PEmitFinds
open Go.Proofs.YtpfcdhjknmijjaaGreatW.PrintWords Go.Proofs.YtpfcdhjknmijjaaGreatW.PrintLast Go.Proofs.YtpfcdhjknmijjaaGreatW.PrintMore

def enterC (E : Ends) (ls : List Int) (len n s0 : Nat) : List Cmd := [.op (move 8 15), .op (move 23 10), .op (move 24 11), .op (move 30 12), .op (move 25 13), .op (move 26 14), .op (move 21 16), .op (move 27 0), .op (imm ⟨#[97, 100, 100, 105]⟩ 20 11 1), .op (imm ⟨#[97, 100, 100, 105]⟩ 9 8 (16 * (n : Int))), .num 5 (len : Int), .op (three ⟨#[109, 117, 108]⟩ 5 5 20), .op (imm ⟨#[97, 100, 100, 105]⟩ 5 5 63), .op (imm ⟨#[115, 114, 108, 105]⟩ 5 5 6), .op (imm ⟨#[115, 108, 108, 105]⟩ 5 5 3), .op (three ⟨#[97, 100, 100]⟩ 18 9 5), .op (move 19 18), .mrk E.start, .op (store ⟨#[115, 100]⟩ 30 8 0), .op (move 22 30), .jmp 0 (rd ls (s0 : Int))]
set_option maxHeartbeats 4000000 in
set_option maxRecDepth 100000 in
theorem enter_calls {w : World} {b p m g : Nat} {E : Ends} {ls : List Int} {l : List S61} {s0 n : Nat} {A : AsmS} (h : MkAt w b p m g E ls l s0 n A) {k : Nat} (hS : Small A k) (hk : k < 700000000) (hE : ∀ x ∈ E.all, I64 x) (hsl : 0 ≤ (n : Int) ∧ (n : Int) ≤ 64) (hln : l.length ≤ 4000) (hs0 : s0 < ls.length) :
    Calls Tryz.prog 37 #[.pointer (some ⟨m, 0, none⟩)] w fun e w' => e = .returned (.tuple #[]) ∧ AsmAt w' b p (run A (enterC E ls l.length n s0)) ∧ Fr b w w' := by
  have M := Aside0.mk h
  have S := Aside0.mk hS
  have K := Aside0.mk hk
  have F := Aside0.mk (Fr.refl b w)
  clear h hS hk
  have HN := Aside0.mk hsl
  have HLN := Aside0.mk hln
  have HS0 := Aside0.mk hs0
  clear hs0 hln hsl
  go_enter Tryz.func37, Tryz.ntmps37
  go_wp2_with (first
      | (go_at_call 69; refine (move_any _ _ _).mono ?_; rintro e wq ⟨rfl, hb⟩; replace M := Aside0.mk (M.out.below hb); replace F := Aside0.mk (F.out.trans (Fr.of_below hb)); clear hb)
      | (go_at_call 70; refine (imm_any _ _ _ _ _).mono ?_; rintro e wq ⟨rfl, hb⟩; replace M := Aside0.mk (M.out.below hb); replace F := Aside0.mk (F.out.trans (Fr.of_below hb)); clear hb)
      | (go_at_call 72; refine (three_any _ _ _ _ _).mono ?_; rintro e wq ⟨rfl, hb⟩; replace M := Aside0.mk (M.out.below hb); replace F := Aside0.mk (F.out.trans (Fr.of_below hb)); clear hb)
      | (go_at_call 74; refine (store_any _ _ _ _ _).mono ?_; rintro e wq ⟨rfl, hb⟩; replace M := Aside0.mk (M.out.below hb); replace F := Aside0.mk (F.out.trans (Fr.of_below hb)); clear hb))
  refine (do_calls (M.out.alloc _) S.out (by have := K.out; omega) [move 8 15, move 23 10, move 24 11, move 30 12, move 25 13, move 26 14, move 21 16, move 27 0, imm ⟨#[97, 100, 100, 105]⟩ 20 11 1] (by simp only [List.length_cons, List.length_nil]; omega) (heap_alloc_last _ _)).mono ?_
  rintro e wd ⟨rfl, hA, hF⟩
  replace M := Aside0.mk ((M.out.alloc _).step hA hF)
  replace F := Aside0.mk (F.out.trans ((Fr.alloc b _ _).trans hF))
  clear hA hF
  replace S := Aside0.mk ((S.out.doF [move 8 15, move 23 10, move 24 11, move 30 12, move 25 13, move 26 14, move 21 16, move 27 0, imm ⟨#[97, 100, 100, 105]⟩ 20 11 1]).mono (n := k + 72) (by simp only [List.length_cons, List.length_nil]; omega))
  obtain ⟨A1, hA1⟩ : ∃ X, doF A [move 8 15, move 23 10, move 24 11, move 30 12, move 25 13, move 26 14, move 21 16, move 27 0, imm ⟨#[97, 100, 100, 105]⟩ 20 11 1] = X := ⟨_, rfl⟩
  rw [hA1] at M S
  have HA1 := Aside0.mk hA1
  clear hA1
  obtain ⟨m0, m1, ⟨r, rcap, m2, hI⟩, m3, m4, m5, m6, m7, m8, m9, m10, mz⟩ := M.out.get
  have hs0 := HN.out.1
  have hs1 := HN.out.2
  go_wp2_with (first
      | (go_at_call 33; refine (slots_any M.out).mono ?_; rintro e wq ⟨rfl, rfl⟩)
      | (go_at_call 69; refine (move_any _ _ _).mono ?_; rintro e wq ⟨rfl, hb⟩; replace M := Aside0.mk (M.out.below hb); replace F := Aside0.mk (F.out.trans (Fr.of_below hb)); clear hb)
      | (go_at_call 70; refine (imm_any _ _ _ _ _).mono ?_; rintro e wq ⟨rfl, hb⟩; replace M := Aside0.mk (M.out.below hb); replace F := Aside0.mk (F.out.trans (Fr.of_below hb)); clear hb)
      | (go_at_call 72; refine (three_any _ _ _ _ _).mono ?_; rintro e wq ⟨rfl, hb⟩; replace M := Aside0.mk (M.out.below hb); replace F := Aside0.mk (F.out.trans (Fr.of_below hb)); clear hb)
      | (go_at_call 74; refine (store_any _ _ _ _ _).mono ?_; rintro e wq ⟨rfl, hb⟩; replace M := Aside0.mk (M.out.below hb); replace F := Aside0.mk (F.out.trans (Fr.of_below hb)); clear hb))
  refine (do_calls (M.out.alloc _) S.out (by have := K.out; omega) [imm ⟨#[97, 100, 100, 105]⟩ 9 8 (16 * (n : Int))] (by simp only [List.length_cons, List.length_nil]; omega) (heap_alloc_last _ _)).mono ?_
  rintro e wd ⟨rfl, hA, hF⟩
  replace M := Aside0.mk ((M.out.alloc _).step hA hF)
  replace F := Aside0.mk (F.out.trans ((Fr.alloc b _ _).trans hF))
  clear hA hF
  replace S := Aside0.mk ((S.out.doF [imm ⟨#[97, 100, 100, 105]⟩ 9 8 (16 * (n : Int))]).mono (n := k + 80) (by simp only [List.length_cons, List.length_nil]; omega))
  obtain ⟨A2, hA2⟩ : ∃ X, doF A1 [imm ⟨#[97, 100, 100, 105]⟩ 9 8 (16 * (n : Int))] = X := ⟨_, rfl⟩
  rw [hA2] at M S
  have HA2 := Aside0.mk hA2
  clear hA2
  clear m0 m1 m2 hI m3 m4 m5 m6 m7 m8 m9 m10 mz hs0 hs1
  go_wp2_with fail
  refine still_tail 9 (by kernel_rfl) (by kernel_rfl) ?_
  intro wi hwi
  replace M := Aside0.mk (show MkAt wi b p m g E ls l s0 n A2 by rw [hwi]; exact M.out.drew)
  replace F := Aside0.mk (show Fr b w wi by rw [hwi]; exact F.out.trans (Fr.of_below (below_drew (Below.refl _ _))))
  clear hwi
  obtain ⟨m0, m1, ⟨r, rcap, m2, hI⟩, m3, m4, m5, m6, m7, m8, m9, m10, mz⟩ := M.out.get
  simp only [List.take_succ_cons, List.take_zero, List.drop_succ_cons, List.drop_zero]
  repeat still_step
  still_call ((len_any M.out).mono (fun _ _ h => ⟨h.1, h.2.symm⟩))
  repeat still_step
  refine wpStill_nil ?_
  go_wp2_with fail
  refine (Number_calls M.out.asm (by have := S.out.ps; have := K.out; omega) 5 (n := (l.length : Int)) (by have := HLN.out; unfold I64; omega)).mono ?_
  rintro e wd ⟨rfl, hA, hF⟩
  replace M : Aside0 (MkAt wd b p m g E ls l s0 n (Cmd.step A2 (.num 5 (l.length : Int)))) := Aside0.mk (M.out.step hA hF)
  replace F := Aside0.mk (F.out.trans hF)
  clear hA hF
  clear m0 m1 m2 hI m3 m4 m5 m6 m7 m8 m9 m10 mz
  replace S := Aside0.mk ((S.out.step (.num 5 (l.length : Int))).mono (n := k + 88) (by omega))
  obtain ⟨A3, hA3⟩ : ∃ X, Cmd.step A2 (.num 5 (l.length : Int)) = X := ⟨_, rfl⟩
  rw [hA3] at M S
  have HA3 := Aside0.mk hA3
  clear hA3
  go_wp2_with (first
      | (go_at_call 69; refine (move_any _ _ _).mono ?_; rintro e wq ⟨rfl, hb⟩; replace M := Aside0.mk (M.out.below hb); replace F := Aside0.mk (F.out.trans (Fr.of_below hb)); clear hb)
      | (go_at_call 70; refine (imm_any _ _ _ _ _).mono ?_; rintro e wq ⟨rfl, hb⟩; replace M := Aside0.mk (M.out.below hb); replace F := Aside0.mk (F.out.trans (Fr.of_below hb)); clear hb)
      | (go_at_call 72; refine (three_any _ _ _ _ _).mono ?_; rintro e wq ⟨rfl, hb⟩; replace M := Aside0.mk (M.out.below hb); replace F := Aside0.mk (F.out.trans (Fr.of_below hb)); clear hb)
      | (go_at_call 74; refine (store_any _ _ _ _ _).mono ?_; rintro e wq ⟨rfl, hb⟩; replace M := Aside0.mk (M.out.below hb); replace F := Aside0.mk (F.out.trans (Fr.of_below hb)); clear hb))
  refine (do_calls (M.out.alloc _) S.out (by have := K.out; omega) [three ⟨#[109, 117, 108]⟩ 5 5 20, imm ⟨#[97, 100, 100, 105]⟩ 5 5 63, imm ⟨#[115, 114, 108, 105]⟩ 5 5 6, imm ⟨#[115, 108, 108, 105]⟩ 5 5 3, three ⟨#[97, 100, 100]⟩ 18 9 5, move 19 18] (by simp only [List.length_cons, List.length_nil]; omega) (heap_alloc_last _ _)).mono ?_
  rintro e wd ⟨rfl, hA, hF⟩
  replace M := Aside0.mk ((M.out.alloc _).step hA hF)
  replace F := Aside0.mk (F.out.trans ((Fr.alloc b _ _).trans hF))
  clear hA hF
  replace S := Aside0.mk ((S.out.doF [three ⟨#[109, 117, 108]⟩ 5 5 20, imm ⟨#[97, 100, 100, 105]⟩ 5 5 63, imm ⟨#[115, 114, 108, 105]⟩ 5 5 6, imm ⟨#[115, 108, 108, 105]⟩ 5 5 3, three ⟨#[97, 100, 100]⟩ 18 9 5, move 19 18]).mono (n := k + 136) (by simp only [List.length_cons, List.length_nil]; omega))
  obtain ⟨A4, hA4⟩ : ∃ X, doF A3 [three ⟨#[109, 117, 108]⟩ 5 5 20, imm ⟨#[97, 100, 100, 105]⟩ 5 5 63, imm ⟨#[115, 114, 108, 105]⟩ 5 5 6, imm ⟨#[115, 108, 108, 105]⟩ 5 5 3, three ⟨#[97, 100, 100]⟩ 18 9 5, move 19 18] = X := ⟨_, rfl⟩
  rw [hA4] at M S
  have HA4 := Aside0.mk hA4
  clear hA4
  go_wp2_with fail
  refine still_tail 9 (by kernel_rfl) (by kernel_rfl) ?_
  intro wi hwi
  replace M := Aside0.mk (show MkAt wi b p m g E ls l s0 n A4 by rw [hwi]; exact M.out.drew)
  replace F := Aside0.mk (show Fr b w wi by rw [hwi]; exact F.out.trans (Fr.of_below (below_drew (Below.refl _ _))))
  clear hwi
  obtain ⟨m0, m1, ⟨r, rcap, m2, hI⟩, m3, m4, m5, m6, m7, m8, m9, m10, mz⟩ := M.out.get
  simp only [List.take_succ_cons, List.take_zero, List.drop_succ_cons, List.drop_zero]
  repeat still_step
  refine wpStill_nil ?_
  go_wp2_with fail
  refine (Mark_calls M.out.asm (by have := S.out.ps; have := K.out; omega) (by have := S.out.nm; have := K.out; omega) (label := E.start) (hE _ (by simp [Ends.all]))).mono ?_
  rintro e wd ⟨rfl, hA, hF⟩
  replace M : Aside0 (MkAt wd b p m g E ls l s0 n (Cmd.step A4 (.mrk E.start))) := Aside0.mk (M.out.step hA hF)
  replace F := Aside0.mk (F.out.trans hF)
  clear hA hF
  clear m0 m1 m2 hI m3 m4 m5 m6 m7 m8 m9 m10 mz
  replace S := Aside0.mk ((S.out.step (.mrk E.start)).mono (n := k + 144) (by omega))
  obtain ⟨A5, hA5⟩ : ∃ X, Cmd.step A4 (.mrk E.start) = X := ⟨_, rfl⟩
  rw [hA5] at M S
  have HA5 := Aside0.mk hA5
  clear hA5
  go_wp2_with (first
      | (go_at_call 69; refine (move_any _ _ _).mono ?_; rintro e wq ⟨rfl, hb⟩; replace M := Aside0.mk (M.out.below hb); replace F := Aside0.mk (F.out.trans (Fr.of_below hb)); clear hb)
      | (go_at_call 70; refine (imm_any _ _ _ _ _).mono ?_; rintro e wq ⟨rfl, hb⟩; replace M := Aside0.mk (M.out.below hb); replace F := Aside0.mk (F.out.trans (Fr.of_below hb)); clear hb)
      | (go_at_call 72; refine (three_any _ _ _ _ _).mono ?_; rintro e wq ⟨rfl, hb⟩; replace M := Aside0.mk (M.out.below hb); replace F := Aside0.mk (F.out.trans (Fr.of_below hb)); clear hb)
      | (go_at_call 74; refine (store_any _ _ _ _ _).mono ?_; rintro e wq ⟨rfl, hb⟩; replace M := Aside0.mk (M.out.below hb); replace F := Aside0.mk (F.out.trans (Fr.of_below hb)); clear hb))
  refine (do_calls (M.out.alloc _) S.out (by have := K.out; omega) [store ⟨#[115, 100]⟩ 30 8 0, move 22 30] (by simp only [List.length_cons, List.length_nil]; omega) (heap_alloc_last _ _)).mono ?_
  rintro e wd ⟨rfl, hA, hF⟩
  replace M := Aside0.mk ((M.out.alloc _).step hA hF)
  replace F := Aside0.mk (F.out.trans ((Fr.alloc b _ _).trans hF))
  clear hA hF
  replace S := Aside0.mk ((S.out.doF [store ⟨#[115, 100]⟩ 30 8 0, move 22 30]).mono (n := k + 160) (by simp only [List.length_cons, List.length_nil]; omega))
  obtain ⟨A6, hA6⟩ : ∃ X, doF A5 [store ⟨#[115, 100]⟩ 30 8 0, move 22 30] = X := ⟨_, rfl⟩
  rw [hA6] at M S
  have HA6 := Aside0.mk hA6
  clear hA6
  go_wp2_with fail
  refine still_tail 15 (by kernel_rfl) (by kernel_rfl) ?_
  intro wi hwi
  replace M := Aside0.mk (show MkAt wi b p m g E ls l s0 n A6 by rw [hwi]; exact M.out.drew)
  replace F := Aside0.mk (show Fr b w wi by rw [hwi]; exact F.out.trans (Fr.of_below (below_drew (Below.refl _ _))))
  clear hwi
  obtain ⟨m0, m1, ⟨r, rcap, m2, hI⟩, m3, m4, m5, m6, m7, m8, m9, m10, mz⟩ := M.out.get
  have cL := hI.cell (j := s0) HS0.out
  have rz := hI.lt
  have q0 : (0 : Int) ≤ (s0 : Int) := by omega
  have q1 : (s0 : Int) < (ls.length : Int) := by have := HS0.out; omega
  simp only [List.take_succ_cons, List.take_zero, List.drop_succ_cons, List.drop_zero]
  repeat still_step
  still_call ((start_any M.out).mono (fun _ _ h => ⟨h.1, h.2.symm⟩))
  repeat still_step
  refine wpStill_nil ?_
  go_wp2_with fail
  refine (Jump_calls M.out.asm (by have := S.out.ps; have := K.out; omega) 0 (rd ls (s0 : Int))).mono ?_
  rintro e wd ⟨rfl, hA, hF⟩
  replace M : Aside0 (MkAt wd b p m g E ls l s0 n (Cmd.step A6 (.jmp 0 (rd ls (s0 : Int))))) := Aside0.mk (M.out.step hA hF)
  replace F := Aside0.mk (F.out.trans hF)
  clear hA hF
  clear m0 m1 m2 hI m3 m4 m5 m6 m7 m8 m9 m10 mz
  replace S := Aside0.mk ((S.out.step (.jmp 0 (rd ls (s0 : Int)))).mono (n := k + 168) (by omega))
  obtain ⟨A7, hA7⟩ : ∃ X, Cmd.step A6 (.jmp 0 (rd ls (s0 : Int))) = X := ⟨_, rfl⟩
  rw [hA7] at M S
  have HA7 := Aside0.mk hA7
  clear hA7
  clear cL rz q0 q1
  have EQ : Aside0 (run A (enterC E ls l.length n s0) = A7) := ⟨by
    rw [← HA7.out, ← HA6.out, ← HA5.out, ← HA4.out, ← HA3.out, ← HA2.out, ← HA1.out]
    rfl⟩
  go_wp2
  exact bodyPost_end (v := .tuple #[]) (by simp [results, Tryz.results37, go_sem]) rfl ⟨rfl, by rw [EQ.out]; exact M.out.asm, F.out⟩
end Go.Proofs.YtpfcdhjknmijjaaGreat.Em
end
