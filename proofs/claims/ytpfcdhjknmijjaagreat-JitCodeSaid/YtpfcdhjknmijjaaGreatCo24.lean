import Derived.Test.YtpfcdhjknmijjaaGreatCo23
section
set_option linter.unusedSimpArgs false
set_option linter.unusedVariables false
namespace Go.Proofs.YtpfcdhjknmijjaaGreat.Em
open Go.RowKit Go.Maps Go.Proofs.YtpfcdhjknmijjaaGreat.Ve Go.Proofs.YtpfcdhjknmijjaaGreat.Grow Go.Proofs.YtpfcdhjknmijjaaGreat.Rv Go.Proofs.YtpfcdhjknmijjaaGreat.As Go.Proofs.YtpfcdhjknmijjaaGreat.PEmitFinds
open Go.Proofs.YtpfcdhjknmijjaaGreatW.PrintWords Go.Proofs.YtpfcdhjknmijjaaGreatW.PrintLast Go.Proofs.YtpfcdhjknmijjaaGreatW.PrintMore

def enterC (E : Ends) (ls : List Int) (len n s0 : Nat) : List Cmd := [.op (move 8 15), .op (move 23 10), .op (move 24 11), .op (move 30 12), .op (move 25 13), .op (move 26 14), .op (move 21 16), .op (move 27 0), .op (imm ⟨#[97, 100, 100, 105]⟩ 20 11 1), .op (imm ⟨#[97, 100, 100, 105]⟩ 9 8 (16 * (n : Int))), .num 5 (len : Int), .op (three ⟨#[109, 117, 108]⟩ 5 5 20), .op (imm ⟨#[97, 100, 100, 105]⟩ 5 5 63), .op (imm ⟨#[115, 114, 108, 105]⟩ 5 5 6), .op (imm ⟨#[115, 108, 108, 105]⟩ 5 5 3), .op (three ⟨#[97, 100, 100]⟩ 18 9 5), .op (move 19 18), .mrk E.start, .op (store ⟨#[115, 100]⟩ 30 8 0), .op (move 22 30), .jmp 0 (rd ls (s0 : Int))]
set_option maxHeartbeats 4000000 in
set_option maxRecDepth 100000 in
theorem enter_calls {w : World} {b p m g : Nat} {E : Ends} {ls : List Int} {l : List S61} {s0 n : Nat} {A : AsmS} (h : MkAt w b p m g E ls l s0 n A) {k : Nat} (hS : Small A k) (hk : k < 700000000) (hE : ∀ x ∈ E.all, I64 x) (hsl : 0 ≤ (n : Int) ∧ (n : Int) ≤ 64) (hln : l.length ≤ 4000) (hs0 : s0 < ls.length) :
    Calls Tryz.prog 37 #[.pointer (some ⟨m, 0, none⟩)] w fun e w' => e = .returned (.tuple #[]) ∧ AsmAt w' b p (run A (enterC E ls l.length n s0)) ∧ Fr b w w' := by
  have M := Aside0.mk h
  have S := Aside0.mk hS
  have K := Aside0.mk hk
  have F := Aside0.mk (Fr.refl b w)
  clear h hS hk
  have HN := Aside0.mk hsl
  have HLN := Aside0.mk hln
  have HS0 := Aside0.mk hs0
  clear hs0 hln hsl
  go_enter Tryz.func37, Tryz.ntmps37
  go_wp2_with (first
      | (go_at_call 69; refine (move_any _ _ _).mono ?_; rintro e wq ⟨rfl, hb⟩; replace M := Aside0.mk (M.out.below hb); replace F := Aside0.mk (F.out.trans (Fr.of_below hb)); clear hb)
      | (go_at_call 70; refine (imm_any _ _ _ _ _).mono ?_; rintro e wq ⟨rfl, hb⟩; replace M := Aside0.mk (M.out.below hb); replace F := Aside0.mk (F.out.trans (Fr.of_below hb)); clear hb)
      | (go_at_call 72; refine (three_any _ _ _ _ _).mono ?_; rintro e wq ⟨rfl, hb⟩; replace M := Aside0.mk (M.out.below hb); replace F := Aside0.mk (F.out.trans (Fr.of_below hb)); clear hb)
      | (go_at_call 74; refine (store_any _ _ _ _ _).mono ?_; rintro e wq ⟨rfl, hb⟩; replace M := Aside0.mk (M.out.below hb); replace F := Aside0.mk (F.out.trans (Fr.of_below hb)); clear hb))
  refine (do_calls (M.out.alloc _) S.out (by have := K.out; omega) [move 8 15, move 23 10, move 24 11, move 30 12, move 25 13, move 26 14, move 21 16, move 27 0, imm ⟨#[97, 100, 100, 105]⟩ 20 11 1] (by simp only [List.length_cons, List.length_nil]; omega) (heap_alloc_last _ _)).mono ?_
  rintro e wd ⟨rfl, hA, hF⟩
  replace M := Aside0.mk ((M.out.alloc _).step hA hF)
  replace F := Aside0.mk (F.out.trans ((Fr.alloc b _ _).trans hF))
  clear hA hF
  replace S := Aside0.mk ((S.out.doF [move 8 15, move 23 10, move 24 11, move 30 12, move 25 13, move 26 14, move 21 16, move 27 0, imm ⟨#[97, 100, 100, 105]⟩ 20 11 1]).mono (n := k + 72) (by simp only [List.length_cons, List.length_nil]; omega))
  obtain ⟨A1, hA1⟩ : ∃ X, doF A [move 8 15, move 23 10, move 24 11, move 30 12, move 25 13, move 26 14, move 21 16, move 27 0, imm ⟨#[97, 100, 100, 105]⟩ 20 11 1] = X := ⟨_, rfl⟩
  rw [hA1] at M S
  have HA1 := Aside0.mk hA1
  clear hA1
  obtain ⟨m0, m1, ⟨r, rcap, m2, hI⟩, m3, m4, m5, m6, m7, m8, m9, m10, mz⟩ := M.out.get
  have hs0 := HN.out.1
  have hs1 := HN.out.2
  go_wp2_with (first
      | (go_at_call 33; refine (slots_any M.out).mono ?_; rintro e wq ⟨rfl, rfl⟩)
      | (go_at_call 69; refine (move_any _ _ _).mono ?_; rintro e wq ⟨rfl, hb⟩; replace M := Aside0.mk (M.out.below hb); replace F := Aside0.mk (F.out.trans (Fr.of_below hb)); clear hb)
      | (go_at_call 70; refine (imm_any _ _ _ _ _).mono ?_; rintro e wq ⟨rfl, hb⟩; replace M := Aside0.mk (M.out.below hb); replace F := Aside0.mk (F.out.trans (Fr.of_below hb)); clear hb)
      | (go_at_call 72; refine (three_any _ _ _ _ _).mono ?_; rintro e wq ⟨rfl, hb⟩; replace M := Aside0.mk (M.out.below hb); replace F := Aside0.mk (F.out.trans (Fr.of_below hb)); clear hb)
      | (go_at_call 74; refine (store_any _ _ _ _ _).mono ?_; rintro e wq ⟨rfl, hb⟩; replace M := Aside0.mk (M.out.below hb); replace F := Aside0.mk (F.out.trans (Fr.of_below hb)); clear hb))
  refine (do_calls (M.out.alloc _) S.out (by have := K.out; omega) [imm ⟨#[97, 100, 100, 105]⟩ 9 8 (16 * (n : Int))] (by simp only [List.length_cons, List.length_nil]; omega) (heap_alloc_last _ _)).mono ?_
  rintro e wd ⟨rfl, hA, hF⟩
  replace M := Aside0.mk ((M.out.alloc _).step hA hF)
  replace F := Aside0.mk (F.out.trans ((Fr.alloc b _ _).trans hF))
  clear hA hF
  replace S := Aside0.mk ((S.out.doF [imm ⟨#[97, 100, 100, 105]⟩ 9 8 (16 * (n : Int))]).mono (n := k + 80) (by simp only [List.length_cons, List.length_nil]; omega))
  obtain ⟨A2, hA2⟩ : ∃ X, doF A1 [imm ⟨#[97, 100, 100, 105]⟩ 9 8 (16 * (n : Int))] = X := ⟨_, rfl⟩
  rw [hA2] at M S
  have HA2 := Aside0.mk hA2
  clear hA2
  clear m0 m1 m2 hI m3 m4 m5 m6 m7 m8 m9 m10 mz hs0 hs1
  go_wp2_with fail
  refine still_tail 9 (by kernel_rfl) (by kernel_rfl) ?_
  intro wi hwi
  replace M := Aside0.mk (show MkAt wi b p m g E ls l s0 n A2 by rw [hwi]; exact M.out.drew)
  replace F := Aside0.mk (show Fr b w wi by rw [hwi]; exact F.out.trans (Fr.of_below (below_drew (Below.refl _ _))))
  clear hwi
  obtain ⟨m0, m1, ⟨r, rcap, m2, hI⟩, m3, m4, m5, m6, m7, m8, m9, m10, mz⟩ := M.out.get
  simp only [List.take_succ_cons, List.take_zero, List.drop_succ_cons, List.drop_zero]
  repeat still_step
  still_call ((len_any M.out).mono (fun _ _ h => ⟨h.1, h.2.symm⟩))
  repeat still_step
  refine wpStill_nil ?_
  go_wp2_with fail
  refine (Number_calls M.out.asm (by have := S.out.ps; have := K.out; omega) 5 (n := (l.length : Int)) (by have := HLN.out; unfold I64; omega)).mono ?_
  rintro e wd ⟨rfl, hA, hF⟩
  replace M : Aside0 (MkAt wd b p m g E ls l s0 n (Cmd.step A2 (.num 5 (l.length : Int)))) := Aside0.mk (M.out.step hA hF)
  replace F := Aside0.mk (F.out.trans hF)
  clear hA hF
  clear m0 m1 m2 hI m3 m4 m5 m6 m7 m8 m9 m10 mz
  replace S := Aside0.mk ((S.out.step (.num 5 (l.length : Int))).mono (n := k + 88) (by omega))
  obtain ⟨A3, hA3⟩ : ∃ X, Cmd.step A2 (.num 5 (l.length : Int)) = X := ⟨_, rfl⟩
  rw [hA3] at M S
  have HA3 := Aside0.mk hA3
  clear hA3
  go_wp2_with (first
      | (go_at_call 69; refine (move_any _ _ _).mono ?_; rintro e wq ⟨rfl, hb⟩; replace M := Aside0.mk (M.out.below hb); replace F := Aside0.mk (F.out.trans (Fr.of_below hb)); clear hb)
      | (go_at_call 70; refine (imm_any _ _ _ _ _).mono ?_; rintro e wq ⟨rfl, hb⟩; replace M := Aside0.mk (M.out.below hb); replace F := Aside0.mk (F.out.trans (Fr.of_below hb)); clear hb)
      | (go_at_call 72; refine (three_any _ _ _ _ _).mono ?_; rintro e wq ⟨rfl, hb⟩; replace M := Aside0.mk (M.out.below hb); replace F := Aside0.mk (F.out.trans (Fr.of_below hb)); clear hb)
      | (go_at_call 74; refine (store_any _ _ _ _ _).mono ?_; rintro e wq ⟨rfl, hb⟩; replace M := Aside0.mk (M.out.below hb); replace F := Aside0.mk (F.out.trans (Fr.of_below hb)); clear hb))
  refine (do_calls (M.out.alloc _) S.out (by have := K.out; omega) [three ⟨#[109, 117, 108]⟩ 5 5 20, imm ⟨#[97, 100, 100, 105]⟩ 5 5 63, imm ⟨#[115, 114, 108, 105]⟩ 5 5 6, imm ⟨#[115, 108, 108, 105]⟩ 5 5 3, three ⟨#[97, 100, 100]⟩ 18 9 5, move 19 18] (by simp only [List.length_cons, List.length_nil]; omega) (heap_alloc_last _ _)).mono ?_
  rintro e wd ⟨rfl, hA, hF⟩
  replace M := Aside0.mk ((M.out.alloc _).step hA hF)
  replace F := Aside0.mk (F.out.trans ((Fr.alloc b _ _).trans hF))
  clear hA hF
  replace S := Aside0.mk ((S.out.doF [three ⟨#[109, 117, 108]⟩ 5 5 20, imm ⟨#[97, 100, 100, 105]⟩ 5 5 63, imm ⟨#[115, 114, 108, 105]⟩ 5 5 6, imm ⟨#[115, 108, 108, 105]⟩ 5 5 3, three ⟨#[97, 100, 100]⟩ 18 9 5, move 19 18]).mono (n := k + 136) (by simp only [List.length_cons, List.length_nil]; omega))
  obtain ⟨A4, hA4⟩ : ∃ X, doF A3 [three ⟨#[109, 117, 108]⟩ 5 5 20, imm ⟨#[97, 100, 100, 105]⟩ 5 5 63, imm ⟨#[115, 114, 108, 105]⟩ 5 5 6, imm ⟨#[115, 108, 108, 105]⟩ 5 5 3, three ⟨#[97, 100, 100]⟩ 18 9 5, move 19 18] = X := ⟨_, rfl⟩
  rw [hA4] at M S
  have HA4 := Aside0.mk hA4
  clear hA4
  go_wp2_with fail
  refine still_tail 9 (by kernel_rfl) (by kernel_rfl) ?_
  intro wi hwi
  replace M := Aside0.mk (show MkAt wi b p m g E ls l s0 n A4 by rw [hwi]; exact M.out.drew)
  replace F := Aside0.mk (show Fr b w wi by rw [hwi]; exact F.out.trans (Fr.of_below (below_drew (Below.refl _ _))))
  clear hwi
  obtain ⟨m0, m1, ⟨r, rcap, m2, hI⟩, m3, m4, m5, m6, m7, m8, m9, m10, mz⟩ := M.out.get
  simp only [List.take_succ_cons, List.take_zero, List.drop_succ_cons, List.drop_zero]
  repeat still_step
  refine wpStill_nil ?_
  go_wp2_with fail
  refine (Mark_calls M.out.asm (by have := S.out.ps; have := K.out; omega) (by have := S.out.nm; have := K.out; omega) (label := E.start) (hE _ (by simp [Ends.all]))).mono ?_
  rintro e wd ⟨rfl, hA, hF⟩
  replace M : Aside0 (MkAt wd b p m g E ls l s0 n (Cmd.step A4 (.mrk E.start))) := Aside0.mk (M.out.step hA hF)
  replace F := Aside0.mk (F.out.trans hF)
  clear hA hF
  clear m0 m1 m2 hI m3 m4 m5 m6 m7 m8 m9 m10 mz
  replace S := Aside0.mk ((S.out.step (.mrk E.start)).mono (n := k + 144) (by omega))
  obtain ⟨A5, hA5⟩ : ∃ X, Cmd.step A4 (.mrk E.start) = X := ⟨_, rfl⟩
  rw [hA5] at M S
  have HA5 := Aside0.mk hA5
  clear hA5
  go_wp2_with (first
      | (go_at_call 69; refine (move_any _ _ _).mono ?_; rintro e wq ⟨rfl, hb⟩; replace M := Aside0.mk (M.out.below hb); replace F := Aside0.mk (F.out.trans (Fr.of_below hb)); clear hb)
      | (go_at_call 70; refine (imm_any _ _ _ _ _).mono ?_; rintro e wq ⟨rfl, hb⟩; replace M := Aside0.mk (M.out.below hb); replace F := Aside0.mk (F.out.trans (Fr.of_below hb)); clear hb)
      | (go_at_call 72; refine (three_any _ _ _ _ _).mono ?_; rintro e wq ⟨rfl, hb⟩; replace M := Aside0.mk (M.out.below hb); replace F := Aside0.mk (F.out.trans (Fr.of_below hb)); clear hb)
      | (go_at_call 74; refine (store_any _ _ _ _ _).mono ?_; rintro e wq ⟨rfl, hb⟩; replace M := Aside0.mk (M.out.below hb); replace F := Aside0.mk (F.out.trans (Fr.of_below hb)); clear hb))
  refine (do_calls (M.out.alloc _) S.out (by have := K.out; omega) [store ⟨#[115, 100]⟩ 30 8 0, move 22 30] (by simp only [List.length_cons, List.length_nil]; omega) (heap_alloc_last _ _)).mono ?_
  rintro e wd ⟨rfl, hA, hF⟩
  replace M := Aside0.mk ((M.out.alloc _).step hA hF)
  replace F := Aside0.mk (F.out.trans ((Fr.alloc b _ _).trans hF))
  clear hA hF
  replace S := Aside0.mk ((S.out.doF [store ⟨#[115, 100]⟩ 30 8 0, move 22 30]).mono (n := k + 160) (by simp only [List.length_cons, List.length_nil]; omega))
  obtain ⟨A6, hA6⟩ : ∃ X, doF A5 [store ⟨#[115, 100]⟩ 30 8 0, move 22 30] = X := ⟨_, rfl⟩
  rw [hA6] at M S
  have HA6 := Aside0.mk hA6
  clear hA6
  go_wp2_with fail
  refine still_tail 15 (by kernel_rfl) (by kernel_rfl) ?_
  intro wi hwi
  replace M := Aside0.mk (show MkAt wi b p m g E ls l s0 n A6 by rw [hwi]; exact M.out.drew)
  replace F := Aside0.mk (show Fr b w wi by rw [hwi]; exact F.out.trans (Fr.of_below (below_drew (Below.refl _ _))))
  clear hwi
  obtain ⟨m0, m1, ⟨r, rcap, m2, hI⟩, m3, m4, m5, m6, m7, m8, m9, m10, mz⟩ := M.out.get
  have cL := hI.cell (j := s0) HS0.out
  have rz := hI.lt
  have q0 : (0 : Int) ≤ (s0 : Int) := by omega
  have q1 : (s0 : Int) < (ls.length : Int) := by have := HS0.out; omega
  simp only [List.take_succ_cons, List.take_zero, List.drop_succ_cons, List.drop_zero]
  repeat still_step
  still_call ((start_any M.out).mono (fun _ _ h => ⟨h.1, h.2.symm⟩))
  repeat still_step
  refine wpStill_nil ?_
  go_wp2_with fail
  refine (Jump_calls M.out.asm (by have := S.out.ps; have := K.out; omega) 0 (rd ls (s0 : Int))).mono ?_
  rintro e wd ⟨rfl, hA, hF⟩
  replace M : Aside0 (MkAt wd b p m g E ls l s0 n (Cmd.step A6 (.jmp 0 (rd ls (s0 : Int))))) := Aside0.mk (M.out.step hA hF)
  replace F := Aside0.mk (F.out.trans hF)
  clear hA hF
  clear m0 m1 m2 hI m3 m4 m5 m6 m7 m8 m9 m10 mz
  replace S := Aside0.mk ((S.out.step (.jmp 0 (rd ls (s0 : Int)))).mono (n := k + 168) (by omega))
  obtain ⟨A7, hA7⟩ : ∃ X, Cmd.step A6 (.jmp 0 (rd ls (s0 : Int))) = X := ⟨_, rfl⟩
  rw [hA7] at M S
  have HA7 := Aside0.mk hA7
  clear hA7
  clear cL rz q0 q1
  have EQ : Aside0 (run A (enterC E ls l.length n s0) = A7) := ⟨by
    rw [← HA7.out, ← HA6.out, ← HA5.out, ← HA4.out, ← HA3.out, ← HA2.out, ← HA1.out]
    rfl⟩
  go_wp2
  exact bodyPost_end (v := .tuple #[]) (by simp [results, Tryz.results37, go_sem]) rfl ⟨rfl, by rw [EQ.out]; exact M.out.asm, F.out⟩
end Go.Proofs.YtpfcdhjknmijjaaGreat.Em
end
section
set_option linter.unusedSimpArgs false
set_option linter.unusedVariables false
namespace Go.Proofs.YtpfcdhjknmijjaaGreat.Em
open Go.RowKit Go.Maps Go.Proofs.YtpfcdhjknmijjaaGreat.Ve Go.Proofs.YtpfcdhjknmijjaaGreat.Grow Go.Proofs.YtpfcdhjknmijjaaGreat.Rv Go.Proofs.YtpfcdhjknmijjaaGreat.As Go.Proofs.YtpfcdhjknmijjaaGreat.PEmitFinds
open Go.Proofs.YtpfcdhjknmijjaaGreatW.PrintWords Go.Proofs.YtpfcdhjknmijjaaGreatW.PrintLast Go.Proofs.YtpfcdhjknmijjaaGreatW.PrintMore

/-! ### Whether words' bytes are ahead and behind -/
def sideR : Nat → Int | 0 => 7 | _ => 28
def sideW : Nat → Int | 0 => 0 | _ => 24
def sideB : Nat → Int | 0 => -1 | _ => 0
def sidesC : Array Value := #[.int .i64 7, .int .i64 0, .int .i64 (-1), .int .i64 28, .int .i64 24, .int .i64 0]
theorem sides_get : ∀ j, j < 2 → sidesC[j * 3]? = some (.int .i64 (sideR j)) ∧ sidesC[j * 3 + 1]? = some (.int .i64 (sideW j)) ∧ sidesC[j * 3 + 2]? = some (.int .i64 (sideB j))
  | 0, _ => ⟨rfl, rfl, rfl⟩
  | 1, _ => ⟨rfl, rfl, rfl⟩
  | n + 2, h => absurd h (by omega)
def sideC (r w_ b_ L : Int) : List Cmd := [.new, .op (move r 0), .br ⟨#[98, 101, 113]⟩ 22 w_ L, .op (three ⟨#[97, 100, 100]⟩ 5 23 22), .op (imm ⟨#[108, 98, 117]⟩ 5 5 b_), .op (three ⟨#[97, 100, 100]⟩ 5 5 21), .op (imm ⟨#[108, 98, 117]⟩ r 5 0), .mrk L]
def wordsN (L : Int) (n : Nat) : List Cmd := (List.range n).flatMap fun (j : Nat) => sideC (sideR j) (sideW j) (sideB j) (L + (j : Int))
def wordsC (L : Int) : List Cmd := wordsN L 2
def newsC (l : List Cmd) : Nat := l.countP fun c => match c with | .new => true | _ => false
theorem step_labels (A : AsmS) (c : Cmd) : (c.step A).labels = A.labels + (match c with | .new => 1 | _ => 0) := by
  cases c
  case new => rfl
  all_goals simp only [Cmd.step, putO, AsmS.putF, AsmS.pushIf, AsmS.markIf, AsmS.puts]
  all_goals (try split)
  all_goals simp [AsmS.push, AsmS.mark]
theorem run_labels (l : List Cmd) : ∀ A, (run A l).labels = A.labels + (newsC l : Int) := by
  induction l with
  | nil => intro A; simp [run, newsC]
  | cons c l ih =>
    intro A
    rw [run_cons, ih, step_labels]
    cases c <;> simp [newsC, List.countP_cons] <;> omega
theorem wordsN_len (L : Int) (n : Nat) : (wordsN L n).length = 8 * n := by
  unfold wordsN
  induction n with
  | zero => rfl
  | succ n ih => rw [List.range_succ, List.flatMap_append, List.length_append, ih]; simp [sideC]; omega
theorem wordsN_news (L : Int) (n : Nat) : newsC (wordsN L n) = n := by
  unfold wordsN newsC
  induction n with
  | zero => rfl
  | succ n ih => rw [List.range_succ, List.flatMap_append, List.countP_append, ih]; simp [sideC, List.countP_cons]
theorem wordsN_succ (L : Int) (n : Nat) : wordsN L (n + 1) = wordsN L n ++ sideC (sideR n) (sideW n) (sideB n) (L + (n : Int)) := by
  unfold wordsN; rw [List.range_succ, List.flatMap_append]; simp
set_option maxHeartbeats 4000000 in
set_option maxRecDepth 100000 in
theorem words_calls {w : World} {b p m g : Nat} {E : Ends} {ls : List Int} {l : List S61} {st sl : Int} {A : AsmS} (h : MkAt w b p m g E ls l st sl A) {k : Nat} (hS : Small A k) (hk : k < 700000000)  :
    Calls Tryz.prog 123 #[.pointer (some ⟨m, 0, none⟩)] w fun e w' => e = .returned (.tuple #[]) ∧ AsmAt w' b p (run A (wordsC A.labels)) ∧ Fr b w w' := by
  have M := Aside0.mk h
  have S := Aside0.mk hS
  have K := Aside0.mk hk
  clear h hS hk
  go_enter Tryz.func123, Tryz.ntmps123
  go_wp2_with fail
  have hsb := heap_alloc_new w (.cells #[.int .i64 7, .int .i64 0, .int .i64 (-1), .int .i64 28, .int .i64 24, .int .i64 0] 234)
  have HSB := Aside0.mk hsb
  have M1 := Aside0.mk (M.out.alloc (.cells #[.int .i64 7, .int .i64 0, .int .i64 (-1), .int .i64 28, .int .i64 24, .int .i64 0] 234))
  have F1 := Aside0.mk (Fr.alloc b w (.cells #[.int .i64 7, .int .i64 0, .int .i64 (-1), .int .i64 28, .int .i64 24, .int .i64 0] 234))
  obtain ⟨sb, hsbe⟩ : ∃ x, w.heap.size = x := ⟨_, rfl⟩
  rw [hsbe] at HSB ⊢
  clear hsb hsbe
  generalize w.alloc (.cells #[.int .i64 7, .int .i64 0, .int .i64 (-1), .int .i64 28, .int .i64 24, .int .i64 0] 234) = w1 at *
  go_loopw [9] (fun i wr => ∃ j : Nat, j ≤ 2 ∧ i = .int .i64 j ∧ Aside0 (MkAt wr b p m g E ls l st sl (run A (wordsN A.labels j)) ∧ Fr b w wr ∧ Fr b w1 wr)) (fun i _ => 2 - (intOf i).toNat)
  case atStart => exact ⟨0, by omega, rfl, ⟨M1.out, F1.out, Fr.refl _ _⟩⟩
  case round =>
    obtain ⟨j, hj, rfl, hR⟩ := hrel
    by_cases hlt : j < 2
    · have HJ := Aside0.mk hlt
      have SJ := Aside0.mk ((S.out.run (wordsN A.labels j)).mono (n := k + 64) (by rw [wordsN_len]; omega))
      have LJ := Aside0.mk ((run_labels (wordsN A.labels j) A).trans (by rw [wordsN_news]))
      have TK := Aside0.mk (show run A (wordsN A.labels (j + 1)) = run (run A (wordsN A.labels j)) (sideC (sideR j) (sideW j) (sideB j) (A.labels + (j : Int))) by rw [wordsN_succ, run_app])
      have MM := Aside0.mk hR.out.1
      have FF := Aside0.mk hR.out.2.1
      have F11 := Aside0.mk hR.out.2.2
      obtain ⟨L0, hL0⟩ : ∃ x, A.labels + (j : Int) = x := ⟨_, rfl⟩
      rw [hL0] at LJ TK
      have HL := Aside0.mk (show I64 L0 by have := S.out.lab0; have := S.out.lab; have := K.out; have := HJ.out; unfold I64; omega)
      obtain ⟨A0, hA0⟩ : ∃ x, run A (wordsN A.labels j) = x := ⟨_, rfl⟩
      rw [hA0] at SJ LJ TK MM
      have hsr := (F11.out.block sb (blk_lt HSB.out) (.inr (tag_no HSB.out (by decide) (by decide)))).trans HSB.out
      obtain ⟨q0, q1, q2⟩ := sides_get j hlt
      have c0 := (blk_cell hsr (j * 3)).trans q0
      have c1 := (blk_cell hsr (j * 3 + 1)).trans q1
      have c2 := (blk_cell hsr (j * 3 + 2)).trans q2
      have zs := blk_lt hsr
      obtain ⟨r_, hr_⟩ : ∃ x, sideR j = x := ⟨_, rfl⟩
      obtain ⟨w_, hw_⟩ : ∃ x, sideW j = x := ⟨_, rfl⟩
      obtain ⟨b_, hb_⟩ : ∃ x, sideB j = x := ⟨_, rfl⟩
      rw [hr_] at c0 TK
      rw [hw_] at c1 TK
      rw [hb_] at c2 TK
      have j0 : (0 : Int) ≤ (j : Int) := by omega
      have j1 : (j : Int) < 2 := by omega
      have M := Aside0.mk (MM.out.alloc (.cells #[.int .i64 r_, .int .i64 w_, .int .i64 b_] 234))
      have F := Aside0.mk (F11.out.trans (Fr.alloc b _ (.cells #[.int .i64 r_, .int .i64 w_, .int .i64 b_] 234)))
      have hbx := heap_alloc_new wr (.cells #[.int .i64 r_, .int .i64 w_, .int .i64 b_] 234)
      have FB := Aside0.mk (Fr.refl b (wr.alloc (.cells #[.int .i64 r_, .int .i64 w_, .int .i64 b_] 234)))
      have HBX := Aside0.mk hbx
      obtain ⟨m0, m1, ⟨r, rcap, m2, hI⟩, m3, m4, m5, m6, m7, m8, m9, m10, mz⟩ := M.out.get
      have S := SJ
      clear hR hL0 hA0 hsr q0 q1 q2 hr_ hw_ hb_ hbx SJ MM FF HSB M1 F11 hj
      go_wp2_with fail
      refine (label_calls M.out.asm S.out.lab0 (by have := S.out.lab; have := K.out; omega)).mono ?_
      rintro e wd ⟨rfl, hA, hF⟩
      generalize wr.alloc (.cells #[.int .i64 r_, .int .i64 w_, .int .i64 b_] 234) = w3 at *
      replace M : Aside0 (MkAt wd b p m g E ls l st sl (Cmd.step A0 .new)) := Aside0.mk (M.out.step hA hF)
      replace F := Aside0.mk (F.out.trans hF)
      replace FB := Aside0.mk (FB.out.trans hF)
      clear hA hF m0 m1 m2 hI m3 m4 m5 m6 m7 m8 m9 m10 mz c0 c1 c2 zs
      rw [LJ.out]
      obtain ⟨B3, hB3⟩ : ∃ x, wr.heap.size = x := ⟨_, rfl⟩
      rw [hB3] at HBX ⊢
      clear hB3
      replace S := Aside0.mk ((S.out.step .new).mono (n := k + 72) (by omega))
      obtain ⟨A1, hA1⟩ : ∃ X, Cmd.step A0 .new = X := ⟨_, rfl⟩
      rw [hA1] at M S
      have HA1 := Aside0.mk hA1
      clear hA1
      have hbx := (FB.out.block B3 (blk_lt HBX.out) (.inr (tag_no HBX.out (by decide) (by decide)))).trans HBX.out
      have x0 := blk_cell hbx 0
      have x1 := blk_cell hbx 1
      have x2 := blk_cell hbx 2
      have xz := blk_lt hbx
      go_wp2_with (first
          | (go_at_call 69; refine (move_any _ _ _).mono ?_; rintro e wq ⟨rfl, hb⟩; replace M := Aside0.mk (M.out.below hb); replace F := Aside0.mk (F.out.trans (Fr.of_below hb)); replace FB := Aside0.mk (FB.out.trans (Fr.of_below hb)); clear hb)
          | (go_at_call 70; refine (imm_any _ _ _ _ _).mono ?_; rintro e wq ⟨rfl, hb⟩; replace M := Aside0.mk (M.out.below hb); replace F := Aside0.mk (F.out.trans (Fr.of_below hb)); replace FB := Aside0.mk (FB.out.trans (Fr.of_below hb)); clear hb)
          | (go_at_call 72; refine (three_any _ _ _ _ _).mono ?_; rintro e wq ⟨rfl, hb⟩; replace M := Aside0.mk (M.out.below hb); replace F := Aside0.mk (F.out.trans (Fr.of_below hb)); replace FB := Aside0.mk (FB.out.trans (Fr.of_below hb)); clear hb)
          | (go_at_call 74; refine (store_any _ _ _ _ _).mono ?_; rintro e wq ⟨rfl, hb⟩; replace M := Aside0.mk (M.out.below hb); replace F := Aside0.mk (F.out.trans (Fr.of_below hb)); replace FB := Aside0.mk (FB.out.trans (Fr.of_below hb)); clear hb))
      refine (do_calls (M.out.alloc _) S.out (by have := K.out; omega) [move r_ 0] (by simp only [List.length_cons, List.length_nil]; omega) (heap_alloc_last _ _)).mono ?_
      rintro e wd ⟨rfl, hA, hF⟩
      replace M := Aside0.mk ((M.out.alloc _).step hA hF)
      replace F := Aside0.mk (F.out.trans ((Fr.alloc b _ _).trans hF))
      replace FB := Aside0.mk (FB.out.trans ((Fr.alloc b _ _).trans hF))
      clear hA hF
      replace S := Aside0.mk ((S.out.doF [move r_ 0]).mono (n := k + 80) (by simp only [List.length_cons, List.length_nil]; omega))
      obtain ⟨A2, hA2⟩ : ∃ X, doF A1 [move r_ 0] = X := ⟨_, rfl⟩
      rw [hA2] at M S
      have HA2 := Aside0.mk hA2
      clear hA2
      clear hbx x0 x1 x2 xz
      go_wp2_with fail
      refine still_tail 7 (by kernel_rfl) (by kernel_rfl) ?_
      intro wi hwi
      replace M := Aside0.mk (show MkAt wi b p m g E ls l st sl A2 by rw [hwi]; exact M.out.drew)
      replace F := Aside0.mk (show Fr b w1 wi by rw [hwi]; exact F.out.trans (Fr.of_below (below_drew (Below.refl _ _))))
      replace FB := Aside0.mk (show Fr b w3 wi by rw [hwi]; exact FB.out.trans (Fr.of_below (below_drew (Below.refl _ _))))
      clear hwi
      obtain ⟨m0, m1, ⟨r, rcap, m2, hI⟩, m3, m4, m5, m6, m7, m8, m9, m10, mz⟩ := M.out.get
      have hbx := (FB.out.block B3 (blk_lt HBX.out) (.inr (tag_no HBX.out (by decide) (by decide)))).trans HBX.out
      have x0 := blk_cell hbx 0
      have x1 := blk_cell hbx 1
      have x2 := blk_cell hbx 2
      have xz := blk_lt hbx
      simp only [List.take_succ_cons, List.take_zero, List.drop_succ_cons, List.drop_zero]
      repeat still_step
      refine wpStill_nil ?_
      go_wp2_with fail
      refine (Branch_calls M.out.asm (by have := S.out.ps; have := K.out; omega) ⟨#[98, 101, 113]⟩ 22 w_ L0).mono ?_
      rintro e wd ⟨rfl, hA, hF⟩
      replace M : Aside0 (MkAt wd b p m g E ls l st sl (Cmd.step A2 (.br ⟨#[98, 101, 113]⟩ 22 w_ L0))) := Aside0.mk (M.out.step hA hF)
      replace F := Aside0.mk (F.out.trans hF)
      replace FB := Aside0.mk (FB.out.trans hF)
      clear hA hF
      clear m0 m1 m2 hI m3 m4 m5 m6 m7 m8 m9 m10 mz
      replace S := Aside0.mk ((S.out.step (.br ⟨#[98, 101, 113]⟩ 22 w_ L0)).mono (n := k + 88) (by omega))
      obtain ⟨A3, hA3⟩ : ∃ X, Cmd.step A2 (.br ⟨#[98, 101, 113]⟩ 22 w_ L0) = X := ⟨_, rfl⟩
      rw [hA3] at M S
      have HA3 := Aside0.mk hA3
      clear hA3
      clear hbx x0 x1 x2 xz
      have hbx := (FB.out.block B3 (blk_lt HBX.out) (.inr (tag_no HBX.out (by decide) (by decide)))).trans HBX.out
      have x0 := blk_cell hbx 0
      have x1 := blk_cell hbx 1
      have x2 := blk_cell hbx 2
      have xz := blk_lt hbx
      go_wp2_with fail
      refine wp_region_grow2 [32, 33, 34, 35, 36, 37, 38, 39, 40, 41] (fun j v w2 => match j with
        | 0 => v = .pointer (some ⟨m, 0, none⟩)
        | 1 => v = .agg #[.string ⟨#[97, 100, 100]⟩, .int .i64 5, .int .i64 23, .int .i64 22, .int .i64 0]
        | 2 => v = .pointer (some ⟨B3, 2, none⟩)
        | 3 => v = .int .i64 b_
        | 4 => v = .agg #[.string ⟨#[108, 98, 117]⟩, .int .i64 5, .int .i64 5, .int .i64 0, .int .i64 b_]
        | 5 => v = .agg #[.string ⟨#[97, 100, 100]⟩, .int .i64 5, .int .i64 5, .int .i64 21, .int .i64 0]
        | 6 => v = .pointer (some ⟨B3, 0, none⟩)
        | 7 => v = .int .i64 r_
        | 8 => v = .agg #[.string ⟨#[108, 98, 117]⟩, .int .i64 r_, .int .i64 5, .int .i64 0, .int .i64 0]
        | 9 => ∃ q, v = .slice (some ⟨q, 0, none⟩) 4 4 ∧ w2.heap[q]? = some (.cells (([three ⟨#[97, 100, 100]⟩ 5 23 22, imm ⟨#[108, 98, 117]⟩ 5 5 b_, three ⟨#[97, 100, 100]⟩ 5 5 21, imm ⟨#[108, 98, 117]⟩ r_ 5 0].flatMap OpI.cells).toArray) 130 (0, 0))
        | _ => True) (by kernel_rfl) (by kernel_rfl) ?_ ?_ ?_
      · intro j v w2 w3 hv hb
        rcases j with _ | _ | _ | _ | _ | _ | _ | _ | _ | _ | j <;> first | exact hv | trivial | (obtain ⟨q, rfl, hq⟩ := hv; exact ⟨q, rfl, blk_below hq hb⟩)
      · refine ⟨?_, ?_, ?_, ?_, ?_, ?_, ?_, ?_, ?_, ?_, trivial⟩
        all_goals
          intro a w5 hB hoth hdep
          have p0 := blk_cell (blk_below hbx hB) 0
          have p2 := blk_cell (blk_below hbx hB) 2
          have z0 := blk_lt (blk_below hbx hB)
          have h0 := hoth 0 (by decide)
          have h3 := hoth 3 (by decide)
          clear hoth hB
          simp [Ve.bd1, Ve.bd2, Ve.bd3, Ve.bd5] at hdep h0 h3
          simp only [StepTo, Oper.grows]
          go_simp
          all_goals first
            | with_reducible exact Below.refl _ _
            | exact ⟨Below.refl _ _, three_any _ _ _ _ _⟩
            | exact ⟨Below.refl _ _, imm_any _ _ _ _ _⟩
            | exact ⟨below_alloc (Below.refl _ _) _, (Array.getElem?_eq_some_iff.1 (heap_alloc_new _ _)).2⟩
      · intro v w5 hB hV
        have q0 : v 0 = .pointer (some ⟨m, 0, none⟩) := hV 0 (by decide)
        obtain ⟨q, q9, hq⟩ : ∃ q, v 9 = .slice (some ⟨q, 0, none⟩) 4 4 ∧ w5.heap[q]? = some (.cells (([three ⟨#[97, 100, 100]⟩ 5 23 22, imm ⟨#[108, 98, 117]⟩ 5 5 b_, three ⟨#[97, 100, 100]⟩ 5 5 21, imm ⟨#[108, 98, 117]⟩ r_ 5 0].flatMap OpI.cells).toArray) 130 (0, 0)) := hV 9 (by decide)
        replace M := Aside0.mk (M.out.below hB)
        replace F := Aside0.mk (F.out.trans (Fr.of_below hB))
        have HQ := Aside0.mk hq
        clear hV hB hq hbx x0 x1 x2 xz FB HBX
        simp only [fillF, q0, q9, Act.put, List.setIfInBounds_toArray, List.set_cons_zero, List.set_cons_succ, List.length_cons, List.length_nil, Nat.reduceAdd, List.drop_succ_cons, List.drop_zero]
        clear q0 q9
        go_wp2_with fail
        refine (do_calls M.out S.out (by have := K.out; omega) [three ⟨#[97, 100, 100]⟩ 5 23 22, imm ⟨#[108, 98, 117]⟩ 5 5 b_, three ⟨#[97, 100, 100]⟩ 5 5 21, imm ⟨#[108, 98, 117]⟩ r_ 5 0] (by simp only [List.length_cons, List.length_nil]; omega) HQ.out).mono ?_
        rintro e wd ⟨rfl, hA, hF⟩
        replace M := Aside0.mk (M.out.step hA hF)
        replace F := Aside0.mk (F.out.trans hF)
        clear hA hF HQ
        replace S := Aside0.mk ((S.out.doF [three ⟨#[97, 100, 100]⟩ 5 23 22, imm ⟨#[108, 98, 117]⟩ 5 5 b_, three ⟨#[97, 100, 100]⟩ 5 5 21, imm ⟨#[108, 98, 117]⟩ r_ 5 0]).mono (n := k + 120) (by simp only [List.length_cons, List.length_nil]; omega))
        obtain ⟨A4, hA4⟩ : ∃ X, doF A3 [three ⟨#[97, 100, 100]⟩ 5 23 22, imm ⟨#[108, 98, 117]⟩ 5 5 b_, three ⟨#[97, 100, 100]⟩ 5 5 21, imm ⟨#[108, 98, 117]⟩ r_ 5 0] = X := ⟨_, rfl⟩
        rw [hA4] at M S
        have HA4 := Aside0.mk hA4
        clear hA4
        obtain ⟨m0, m1, ⟨r, rcap, m2, hI⟩, m3, m4, m5, m6, m7, m8, m9, m10, mz⟩ := M.out.get
        go_wp2_with fail
        refine (Mark_calls M.out.asm (by have := S.out.ps; have := K.out; omega) (by have := S.out.nm; have := K.out; omega) (label := L0) HL.out).mono ?_
        rintro e wd ⟨rfl, hA, hF⟩
        replace M : Aside0 (MkAt wd b p m g E ls l st sl (Cmd.step A4 (.mrk L0))) := Aside0.mk (M.out.step hA hF)
        replace F := Aside0.mk (F.out.trans hF)
        clear hA hF
        clear m0 m1 m2 hI m3 m4 m5 m6 m7 m8 m9 m10 mz
        replace S := Aside0.mk ((S.out.step (.mrk L0)).mono (n := k + 128) (by omega))
        obtain ⟨A5, hA5⟩ : ∃ X, Cmd.step A4 (.mrk L0) = X := ⟨_, rfl⟩
        rw [hA5] at M S
        have HA5 := Aside0.mk hA5
        clear hA5
        have EQ : Aside0 (run A (wordsN A.labels (j + 1)) = A5) := ⟨by
          rw [TK.out, ← HA5.out, ← HA4.out, ← HA3.out, ← HA2.out, ← HA1.out]
          rfl⟩
        go_wp2
        go_roundw
        case rel => exact ⟨j + 1, by have := HJ.out; omega, by go_num, ⟨by rw [EQ.out]; exact M.out, F1.out.trans F.out, F.out⟩⟩
        case measure => simp [intOf]; have := HJ.out; omega
    · obtain rfl : j = 2 := by omega
      have F := Aside0.mk hR.out.2.1
      have M := Aside0.mk hR.out.1
      go_wp2
      exact bodyPost_end (v := .tuple #[]) (by simp [results, Tryz.results123, go_sem]) rfl ⟨rfl, M.out.asm, F.out⟩
end Go.Proofs.YtpfcdhjknmijjaaGreat.Em
end
