import Derived.Test.YtpfcdhjknmijjaaGreatCo25
section
set_option linter.unusedSimpArgs false
set_option linter.unusedVariables false
namespace Go.Proofs.YtpfcdhjknmijjaaGreat.Em
open Go.RowKit Go.Maps Go.Proofs.YtpfcdhjknmijjaaGreat.Ve Go.Proofs.YtpfcdhjknmijjaaGreat.Grow Go.Proofs.YtpfcdhjknmijjaaGreat.Rv Go.Proofs.YtpfcdhjknmijjaaGreat.As Go.Proofs.YtpfcdhjknmijjaaGreat.PEmitFinds
open Go.Proofs.YtpfcdhjknmijjaaGreatW.PrintWords Go.Proofs.YtpfcdhjknmijjaaGreatW.PrintLast Go.Proofs.YtpfcdhjknmijjaaGreatW.PrintMore

/-! ### One of the instructions -/
theorem under61 : ∃ fs, Tryz.prog.underlying 61 = some (.struct fs) := ⟨_, Tryz.underlying61⟩
theorem size61 : (Tryz.prog.info? 61).map (·.size) = some 5 := by kernel_rfl
set_option maxHeartbeats 2000000 in
set_option maxRecDepth 100000 in
theorem inst_any {w : World} {b p m g : Nat} {E : Ends} {ls : List Int} {l : List S61} {st sl : Int} {A : AsmS} (h : MkAt w b p m g E ls l st sl A) (hl : l.length ≤ 4000) {i : Nat} (hi : i < l.length) :
    Calls Tryz.prog 39 #[.pointer (some ⟨g, 0, none⟩), .int .i64 (i : Int)] w fun e w' => e = .returned (instV (rd_T61 l (i : Int))) ∧ Below w.heap.size w w' := by
  obtain ⟨A0, c0, A3, n3, c3, hc, hz, hK⟩ := h.chk_cells
  have g0 := (hc 0).trans (show _ = some (.slice A0 l.length c0) from rfl)
  obtain ⟨ad, rfl, e0, e1, e2, e3, e4⟩ := at_T61 (Kd.C_below hK (below_alloc (Below.refl _ _) (.cells #[.int .i64 0, .int .i64 0, .int .i64 0, .int .i64 0, .int .i64 0] 61))) (i : Int) (by omega) (by omega)
  rw [Int.toNat_natCast] at e0 e1 e2 e3 e4
  obtain ⟨X, hX⟩ : ∃ X, rd_T61 l (i : Int) = X := ⟨_, rfl⟩
  rw [hX] at e0 e1 e2 e3 e4 ⊢
  obtain ⟨N, hN⟩ : ∃ N, l.length = N := ⟨_, rfl⟩
  rw [hN] at g0 hi hl
  have hal := heap_alloc_new w (.cells #[.int .i64 0, .int .i64 0, .int .i64 0, .int .i64 0, .int .i64 0] 61)
  have HB := Aside0.mk (below_setRow (below_alloc (Below.refl w.heap.size w) (.cells #[.int .i64 0, .int .i64 0, .int .i64 0, .int .i64 0, .int .i64 0] 61)) (Nat.le_refl _) #[.int .i64 X.f0, .int .i64 X.f1, .int .i64 X.f2, .int .i64 X.f3, .int .i64 X.f4])
  have HR := Aside0.mk (setRow_heap _ w.heap.size _ #[.int .i64 X.f0, .int .i64 X.f1, .int .i64 X.f2, .int .i64 X.f3, .int .i64 X.f4] 61 (0, 0) hal)
  have i0 : (0 : Int) ≤ (i : Int) := by omega
  have i1 : (i : Int) < (N : Int) := by omega
  have i2 : (N : Int) ≤ 4000 := by omega
  clear hc h hK hX hN hi hl
  unfold instV
  go_enter Tryz.func39, Tryz.ntmps39
  go_wp2_with (first | (refine wpList_store_row rfl 61 (.tmp 4) (.tmp 25) rfl w.heap.size #[.int .i64 X.f0, .int .i64 X.f1, .int .i64 X.f2, .int .i64 X.f3, .int .i64 X.f4] rfl rfl 61 _ hal (by kernel_rfl) (by rfl) (by simp [Value.oneCell']) ?_))
  obtain ⟨fs, hu⟩ := under61
  exact bodyPost_ret (v := .agg #[.int .i64 X.f0, .int .i64 X.f1, .int .i64 X.f2, .int .i64 X.f3, .int .i64 X.f4]) (results_cell_row (fn := Tryz.f39) rfl _ _ w.heap.size 61 _ (0, 0) _ rfl HR.out hu rfl (by rw [size61]; rfl)) rfl ⟨rfl, HB.out⟩
def instB (E : Ends) (ls : List Int) (x : S61) (L : Int) : List Cmd :=
  if x.f0 = 1 then [.br ⟨#[98, 101, 113]⟩ 22 24 E.fail, .op (three ⟨#[97, 100, 100]⟩ 5 23 22), .op (imm ⟨#[108, 98, 117]⟩ 5 5 0), .op (imm ⟨#[97, 100, 100, 105]⟩ 6 0 x.f1), .br ⟨#[98, 108, 116, 117]⟩ 5 6 E.fail, .op (imm ⟨#[97, 100, 100, 105]⟩ 6 0 x.f2), .br ⟨#[98, 108, 116, 117]⟩ 6 5 E.fail, .op (imm ⟨#[97, 100, 100, 105]⟩ 22 22 1), .jmp 0 (rd ls x.f3)]
  else if x.f0 = 2 then .adr 5 (rd ls x.f4) :: (jobC 5 22 ++ [.jmp 0 (rd ls x.f3)])
  else if x.f0 = 3 then [.op (imm ⟨#[97, 100, 100, 105]⟩ 5 0 (2 * (8 * x.f1) + 1)), .op (imm ⟨#[108, 100]⟩ 6 8 (8 * x.f1))] ++ (jobC 5 6 ++ [.op (store ⟨#[115, 100]⟩ 22 8 (8 * x.f1)), .jmp 0 (rd ls x.f3)])
  else if x.f0 = 4 then assertC E x.f1 L ++ [.jmp 0 (rd ls x.f3)]
  else if x.f0 = 5 then [.jmp 0 E.mtch] else [.jmp 0 E.fail]
def instC (E : Ends) (ls : List Int) (i : Int) (x : S61) (L : Int) : List Cmd := .mrk (rd ls i) :: (markC E i ++ instB E ls x L)
theorem assert_len (E : Ends) (kind L : Int) : (assertC E kind L).length ≤ 20 := by
  unfold assertC
  repeat' split
  all_goals simp [lineC, wordsC, wordsN_len]
theorem marks_news (E : Ends) (i : Int) : newsC (markC E i) = 0 := rfl
set_option maxHeartbeats 4000000 in
set_option maxRecDepth 100000 in
theorem inst_calls {w : World} {b p m g : Nat} {E : Ends} {ls : List Int} {l : List S61} {st sl : Int} {A : AsmS} (h : MkAt w b p m g E ls l st sl A) {k : Nat} (hS : Small A k) (hk : k < 600000000) {i : Nat} (hi : i < ls.length) (hll : ls.length ≤ 4000) (hls : ∀ z ∈ ls, I64 z) (x : S61) (hF : FitsP x) (hop : x.f0 = 1 ∨ x.f0 = 2 ∨ x.f0 = 3 ∨ x.f0 = 4 ∨ x.f0 = 5 ∨ x.f0 = 6) (h3 : x.f0 ≠ 5 → x.f0 ≠ 6 → x.f3 < (ls.length : Int)) (h4 : x.f0 = 2 → x.f4 < (ls.length : Int)) :
    Calls Tryz.prog 38 #[.pointer (some ⟨m, 0, none⟩), .int .i64 (i : Int), instV x] w fun e w' => e = .returned (.tuple #[]) ∧ AsmAt w' b p (run A (instC E ls (i : Int) x A.labels)) ∧ Fr b w w' := by
  obtain ⟨f0, f1, f2, f3, f4⟩ := x
  obtain ⟨x3, hx3⟩ := Int.eq_ofNat_of_zero_le hF.x_.1
  obtain ⟨x4, hx4⟩ := Int.eq_ofNat_of_zero_le hF.y_.1
  simp only at hx3 hx4
  subst hx3 hx4
  have T3 := Aside0.mk (show f0 ≠ 5 → f0 ≠ 6 → x3 < ls.length from fun a b => by have := h3 a b; simp only at this; omega)
  have T4 := Aside0.mk (show f0 = 2 → x4 < ls.length from fun a => by have := h4 a; simp only at this; omega)
  have HF := Aside0.mk hF
  have HI := Aside0.mk hi
  have HLS := Aside0.mk hls
  have HLI := Aside0.mk (show I64 (rd ls (i : Int)) from hls _ (mem_rd hi))
  have HII := Aside0.mk (show I64 (i : Int) by unfold I64; omega)
  have hbx := heap_alloc_new w (.cells #[.int .i64 f0, .int .i64 f1, .int .i64 f2, .int .i64 x3, .int .i64 x4] 61)
  have HBX := Aside0.mk hbx
  have M := Aside0.mk (h.alloc (.cells #[.int .i64 f0, .int .i64 f1, .int .i64 f2, .int .i64 x3, .int .i64 x4] 61))
  have F := Aside0.mk (Fr.alloc b w (.cells #[.int .i64 f0, .int .i64 f1, .int .i64 f2, .int .i64 x3, .int .i64 x4] 61))
  have S := Aside0.mk hS
  have K := Aside0.mk hk
  clear h hS hk hF h3 h4 hls hbx hi hll
  unfold instV
  go_enter Tryz.func38, Tryz.ntmps38
  go_wp2_with fail
  have FB := Aside0.mk (Fr.refl b (w.alloc (.cells #[.int .i64 f0, .int .i64 f1, .int .i64 f2, .int .i64 x3, .int .i64 x4] 61)))
  obtain ⟨B3, hB3⟩ : ∃ x, w.heap.size = x := ⟨_, rfl⟩
  rw [hB3] at HBX ⊢
  clear hB3
  generalize w.alloc (.cells #[.int .i64 f0, .int .i64 f1, .int .i64 f2, .int .i64 x3, .int .i64 x4] 61) = w3 at *
  go_wp2_with fail
  refine still_tail 11 (by kernel_rfl) (by kernel_rfl) ?_
  intro wi hwi
  replace M := Aside0.mk (show MkAt wi b p m g E ls l st sl A by rw [hwi]; exact M.out.drew)
  replace F := Aside0.mk (show Fr b w wi by rw [hwi]; exact F.out.trans (Fr.of_below (below_drew (Below.refl _ _))))
  replace FB := Aside0.mk (show Fr b w3 wi by rw [hwi]; exact FB.out.trans (Fr.of_below (below_drew (Below.refl _ _))))
  clear hwi
  obtain ⟨m0, m1, ⟨r, rcap, m2, hI⟩, m3, m4, m5, m6, m7, m8, m9, m10, mz⟩ := M.out.get
  have cL := hI.cell (j := i) HI.out
  have rz := hI.lt
  have q0 : (0 : Int) ≤ (i : Int) := by omega
  have q1 : (i : Int) < (ls.length : Int) := by have := HI.out; omega
  simp only [List.take_succ_cons, List.take_zero, List.drop_succ_cons, List.drop_zero]
  repeat still_step
  refine wpStill_nil ?_
  go_wp2_with fail
  refine (Mark_calls M.out.asm (by have := S.out.ps; have := K.out; omega) (by have := S.out.nm; have := K.out; omega) (label := (rd ls (i : Int))) HLI.out).mono ?_
  rintro e wd ⟨rfl, hA, hF⟩
  replace M : Aside0 (MkAt wd b p m g E ls l st sl (Cmd.step A (.mrk (rd ls (i : Int))))) := Aside0.mk (M.out.step hA hF)
  replace F := Aside0.mk (F.out.trans hF)
  replace FB := Aside0.mk (FB.out.trans hF)
  clear hA hF
  clear m0 m1 m2 hI m3 m4 m5 m6 m7 m8 m9 m10 mz
  replace S := Aside0.mk ((S.out.step (.mrk (rd ls (i : Int)))).mono (n := k + 8) (by omega))
  obtain ⟨A1, hA1⟩ : ∃ X, Cmd.step A (.mrk (rd ls (i : Int))) = X := ⟨_, rfl⟩
  rw [hA1] at M S
  have HA1 := Aside0.mk hA1
  clear hA1
  clear cL rz q0 q1
  go_wp2_with fail
  refine (mark_calls M.out S.out (by have := K.out; omega) (i : Int) HII.out).mono ?_
  rintro e wd ⟨rfl, hA, hF⟩
  replace M := Aside0.mk (M.out.step hA hF)
  replace F := Aside0.mk (F.out.trans hF)
  replace FB := Aside0.mk (FB.out.trans hF)
  clear hA hF
  replace S := Aside0.mk ((S.out.run (markC E (i : Int))).mono (n := k + 120) (by simp only [markC, List.length_cons, List.length_nil]; omega))
  obtain ⟨A2, hA2⟩ : ∃ X, run A1 (markC E (i : Int)) = X := ⟨_, rfl⟩
  rw [hA2] at M S
  have HA2 := Aside0.mk hA2
  clear hA2
  have LB := Aside0.mk (show A2.labels = A.labels by rw [← HA2.out, ← HA1.out, run_labels, marks_news, step_labels]; simp)
  have HE := Aside0.mk (show ∀ X, run A2 (instB E ls ⟨f0, f1, f2, x3, x4⟩ A.labels) = X → run A (instC E ls (i : Int) ⟨f0, f1, f2, x3, x4⟩ A.labels) = X from fun X h => by rw [instC, run_cons, run_app, HA1.out, HA2.out]; exact h)
  rcases hop with rfl | rfl | rfl | rfl | rfl | rfl
  · replace T3 := Aside0.mk (T3.out (by decide) (by decide))
    have hbx := (FB.out.block B3 (blk_lt HBX.out) (.inr (tag_no HBX.out (by decide) (by decide)))).trans HBX.out
    have x_0 := blk_cell hbx 0
    have x_1 := blk_cell hbx 1
    have x_2 := blk_cell hbx 2
    have x_3 := blk_cell hbx 3
    have x_4 := blk_cell hbx 4
    have xz := blk_lt hbx
    go_wp2_with fail
    clear hbx x_0 x_1 x_2 x_3 x_4 xz
    go_wp2_with fail
    refine still_tail 9 (by kernel_rfl) (by kernel_rfl) ?_
    intro wi hwi
    replace M := Aside0.mk (show MkAt wi b p m g E ls l st sl A2 by rw [hwi]; exact M.out.drew)
    replace F := Aside0.mk (show Fr b w wi by rw [hwi]; exact F.out.trans (Fr.of_below (below_drew (Below.refl _ _))))
    replace FB := Aside0.mk (show Fr b w3 wi by rw [hwi]; exact FB.out.trans (Fr.of_below (below_drew (Below.refl _ _))))
    clear hwi
    obtain ⟨m0, m1, ⟨r, rcap, m2, hI⟩, m3, m4, m5, m6, m7, m8, m9, m10, mz⟩ := M.out.get
    simp only [List.take_succ_cons, List.take_zero, List.drop_succ_cons, List.drop_zero]
    repeat still_step
    refine wpStill_nil ?_
    go_wp2_with fail
    refine (Branch_calls M.out.asm (by have := S.out.ps; have := K.out; omega) ⟨#[98, 101, 113]⟩ 22 24 E.fail).mono ?_
    rintro e wd ⟨rfl, hA, hF⟩
    replace M : Aside0 (MkAt wd b p m g E ls l st sl (Cmd.step A2 (.br ⟨#[98, 101, 113]⟩ 22 24 E.fail))) := Aside0.mk (M.out.step hA hF)
    replace F := Aside0.mk (F.out.trans hF)
    replace FB := Aside0.mk (FB.out.trans hF)
    clear hA hF
    clear m0 m1 m2 hI m3 m4 m5 m6 m7 m8 m9 m10 mz
    replace S := Aside0.mk ((S.out.step (.br ⟨#[98, 101, 113]⟩ 22 24 E.fail)).mono (n := k + 128) (by omega))
    obtain ⟨A3, hA3⟩ : ∃ X, Cmd.step A2 (.br ⟨#[98, 101, 113]⟩ 22 24 E.fail) = X := ⟨_, rfl⟩
    rw [hA3] at M S
    have HA3 := Aside0.mk hA3
    clear hA3
    have hbx := (FB.out.block B3 (blk_lt HBX.out) (.inr (tag_no HBX.out (by decide) (by decide)))).trans HBX.out
    have x_0 := blk_cell hbx 0
    have x_1 := blk_cell hbx 1
    have x_2 := blk_cell hbx 2
    have x_3 := blk_cell hbx 3
    have x_4 := blk_cell hbx 4
    have xz := blk_lt hbx
    go_wp2_with fail
    refine wp_region_grow2 [46, 47, 48, 49, 50, 51, 52] (fun j v w2 => match j with
      | 0 => v = .pointer (some ⟨m, 0, none⟩)
      | 1 => v = .agg #[.string ⟨#[97, 100, 100]⟩, .int .i64 5, .int .i64 23, .int .i64 22, .int .i64 0]
      | 2 => v = .agg #[.string ⟨#[108, 98, 117]⟩, .int .i64 5, .int .i64 5, .int .i64 0, .int .i64 0]
      | 3 => v = .pointer (some ⟨B3, 1, none⟩)
      | 4 => v = .int .i64 f1
      | 5 => v = .agg #[.string ⟨#[97, 100, 100, 105]⟩, .int .i64 6, .int .i64 0, .int .i64 0, .int .i64 f1]
      | 6 => ∃ q, v = .slice (some ⟨q, 0, none⟩) 3 3 ∧ w2.heap[q]? = some (.cells (([three ⟨#[97, 100, 100]⟩ 5 23 22, imm ⟨#[108, 98, 117]⟩ 5 5 0, imm ⟨#[97, 100, 100, 105]⟩ 6 0 f1].flatMap OpI.cells).toArray) 130 (0, 0))
      | _ => True) (by kernel_rfl) (by kernel_rfl) ?_ ?_ ?_
    · intro j v w2 w3 hv hb
      rcases j with _ | _ | _ | _ | _ | _ | _ | j <;> first | exact hv | trivial | (obtain ⟨q, rfl, hq⟩ := hv; exact ⟨q, rfl, blk_below hq hb⟩)
    · refine ⟨?_, ?_, ?_, ?_, ?_, ?_, ?_, trivial⟩
      all_goals
        intro a w5 hB hoth hdep
        have p1 := blk_cell (blk_below hbx hB) 1
        have z0 := blk_lt (blk_below hbx hB)
        have h0 := hoth 0 (by decide)
        have h5 := hoth 5 (by decide)
        clear hoth hB
        simp [Ve.bd1, Ve.bd2, Ve.bd3, Ve.bd5] at hdep h0 h5
        simp only [StepTo, Oper.grows]
        go_simp
        all_goals first
          | with_reducible exact Below.refl _ _
          | exact ⟨Below.refl _ _, three_any _ _ _ _ _⟩
          | exact ⟨Below.refl _ _, imm_any _ _ _ _ _⟩
          | exact ⟨below_alloc (Below.refl _ _) _, (Array.getElem?_eq_some_iff.1 (heap_alloc_new _ _)).2⟩
    · intro v w5 hB hV
      have q0 : v 0 = .pointer (some ⟨m, 0, none⟩) := hV 0 (by decide)
      obtain ⟨q, q9, hq⟩ : ∃ q, v 6 = .slice (some ⟨q, 0, none⟩) 3 3 ∧ w5.heap[q]? = some (.cells (([three ⟨#[97, 100, 100]⟩ 5 23 22, imm ⟨#[108, 98, 117]⟩ 5 5 0, imm ⟨#[97, 100, 100, 105]⟩ 6 0 f1].flatMap OpI.cells).toArray) 130 (0, 0)) := hV 6 (by decide)
      replace M := Aside0.mk (M.out.below hB)
      replace F := Aside0.mk (F.out.trans (Fr.of_below hB))
      replace FB := Aside0.mk (FB.out.trans (Fr.of_below hB))
      have HQ := Aside0.mk hq
      clear hV hB hq
      clear hbx x_0 x_1 x_2 x_3 x_4 xz
      simp only [fillF, q0, q9, Act.put, List.setIfInBounds_toArray, List.set_cons_zero, List.set_cons_succ, List.length_cons, List.length_nil, Nat.reduceAdd, List.drop_succ_cons, List.drop_zero]
      clear q0 q9
      go_wp2_with fail
      refine (do_calls M.out S.out (by have := K.out; omega) [three ⟨#[97, 100, 100]⟩ 5 23 22, imm ⟨#[108, 98, 117]⟩ 5 5 0, imm ⟨#[97, 100, 100, 105]⟩ 6 0 f1] (by simp only [List.length_cons, List.length_nil]; omega) HQ.out).mono ?_
      rintro e wd ⟨rfl, hA, hF⟩
      replace M := Aside0.mk (M.out.step hA hF)
      replace F := Aside0.mk (F.out.trans hF)
      replace FB := Aside0.mk (FB.out.trans hF)
      clear hA hF HQ
      replace S := Aside0.mk ((S.out.doF [three ⟨#[97, 100, 100]⟩ 5 23 22, imm ⟨#[108, 98, 117]⟩ 5 5 0, imm ⟨#[97, 100, 100, 105]⟩ 6 0 f1]).mono (n := k + 152) (by simp only [List.length_cons, List.length_nil]; omega))
      obtain ⟨A4, hA4⟩ : ∃ X, doF A3 [three ⟨#[97, 100, 100]⟩ 5 23 22, imm ⟨#[108, 98, 117]⟩ 5 5 0, imm ⟨#[97, 100, 100, 105]⟩ 6 0 f1] = X := ⟨_, rfl⟩
      rw [hA4] at M S
      have HA4 := Aside0.mk hA4
      clear hA4
      go_wp2_with fail
      refine still_tail 9 (by kernel_rfl) (by kernel_rfl) ?_
      intro wi hwi
      replace M := Aside0.mk (show MkAt wi b p m g E ls l st sl A4 by rw [hwi]; exact M.out.drew)
      replace F := Aside0.mk (show Fr b w wi by rw [hwi]; exact F.out.trans (Fr.of_below (below_drew (Below.refl _ _))))
      replace FB := Aside0.mk (show Fr b w3 wi by rw [hwi]; exact FB.out.trans (Fr.of_below (below_drew (Below.refl _ _))))
      clear hwi
      obtain ⟨m0, m1, ⟨r, rcap, m2, hI⟩, m3, m4, m5, m6, m7, m8, m9, m10, mz⟩ := M.out.get
      simp only [List.take_succ_cons, List.take_zero, List.drop_succ_cons, List.drop_zero]
      repeat still_step
      refine wpStill_nil ?_
      go_wp2_with fail
      refine (Branch_calls M.out.asm (by have := S.out.ps; have := K.out; omega) ⟨#[98, 108, 116, 117]⟩ 5 6 E.fail).mono ?_
      rintro e wd ⟨rfl, hA, hF⟩
      replace M : Aside0 (MkAt wd b p m g E ls l st sl (Cmd.step A4 (.br ⟨#[98, 108, 116, 117]⟩ 5 6 E.fail))) := Aside0.mk (M.out.step hA hF)
      replace F := Aside0.mk (F.out.trans hF)
      replace FB := Aside0.mk (FB.out.trans hF)
      clear hA hF
      clear m0 m1 m2 hI m3 m4 m5 m6 m7 m8 m9 m10 mz
      replace S := Aside0.mk ((S.out.step (.br ⟨#[98, 108, 116, 117]⟩ 5 6 E.fail)).mono (n := k + 160) (by omega))
      obtain ⟨A5, hA5⟩ : ∃ X, Cmd.step A4 (.br ⟨#[98, 108, 116, 117]⟩ 5 6 E.fail) = X := ⟨_, rfl⟩
      rw [hA5] at M S
      have HA5 := Aside0.mk hA5
      clear hA5
      have hbx := (FB.out.block B3 (blk_lt HBX.out) (.inr (tag_no HBX.out (by decide) (by decide)))).trans HBX.out
      have x_0 := blk_cell hbx 0
      have x_1 := blk_cell hbx 1
      have x_2 := blk_cell hbx 2
      have x_3 := blk_cell hbx 3
      have x_4 := blk_cell hbx 4
      have xz := blk_lt hbx
      go_wp2_with (first
          | (go_at_call 69; refine (move_any _ _ _).mono ?_; rintro e wq ⟨rfl, hb⟩; replace M := Aside0.mk (M.out.below hb); replace F := Aside0.mk (F.out.trans (Fr.of_below hb)); replace FB := Aside0.mk (FB.out.trans (Fr.of_below hb)); clear hb)
          | (go_at_call 70; refine (imm_any _ _ _ _ _).mono ?_; rintro e wq ⟨rfl, hb⟩; replace M := Aside0.mk (M.out.below hb); replace F := Aside0.mk (F.out.trans (Fr.of_below hb)); replace FB := Aside0.mk (FB.out.trans (Fr.of_below hb)); clear hb)
          | (go_at_call 72; refine (three_any _ _ _ _ _).mono ?_; rintro e wq ⟨rfl, hb⟩; replace M := Aside0.mk (M.out.below hb); replace F := Aside0.mk (F.out.trans (Fr.of_below hb)); replace FB := Aside0.mk (FB.out.trans (Fr.of_below hb)); clear hb)
          | (go_at_call 74; refine (store_any _ _ _ _ _).mono ?_; rintro e wq ⟨rfl, hb⟩; replace M := Aside0.mk (M.out.below hb); replace F := Aside0.mk (F.out.trans (Fr.of_below hb)); replace FB := Aside0.mk (FB.out.trans (Fr.of_below hb)); clear hb))
      refine (do_calls (M.out.alloc _) S.out (by have := K.out; omega) [imm ⟨#[97, 100, 100, 105]⟩ 6 0 f2] (by simp only [List.length_cons, List.length_nil]; omega) (heap_alloc_last _ _)).mono ?_
      rintro e wd ⟨rfl, hA, hF⟩
      replace M := Aside0.mk ((M.out.alloc _).step hA hF)
      replace F := Aside0.mk (F.out.trans ((Fr.alloc b _ _).trans hF))
      replace FB := Aside0.mk (FB.out.trans ((Fr.alloc b _ _).trans hF))
      clear hA hF
      replace S := Aside0.mk ((S.out.doF [imm ⟨#[97, 100, 100, 105]⟩ 6 0 f2]).mono (n := k + 168) (by simp only [List.length_cons, List.length_nil]; omega))
      obtain ⟨A6, hA6⟩ : ∃ X, doF A5 [imm ⟨#[97, 100, 100, 105]⟩ 6 0 f2] = X := ⟨_, rfl⟩
      rw [hA6] at M S
      have HA6 := Aside0.mk hA6
      clear hA6
      clear hbx x_0 x_1 x_2 x_3 x_4 xz
      go_wp2_with fail
      refine still_tail 9 (by kernel_rfl) (by kernel_rfl) ?_
      intro wi hwi
      replace M := Aside0.mk (show MkAt wi b p m g E ls l st sl A6 by rw [hwi]; exact M.out.drew)
      replace F := Aside0.mk (show Fr b w wi by rw [hwi]; exact F.out.trans (Fr.of_below (below_drew (Below.refl _ _))))
      replace FB := Aside0.mk (show Fr b w3 wi by rw [hwi]; exact FB.out.trans (Fr.of_below (below_drew (Below.refl _ _))))
      clear hwi
      obtain ⟨m0, m1, ⟨r, rcap, m2, hI⟩, m3, m4, m5, m6, m7, m8, m9, m10, mz⟩ := M.out.get
      simp only [List.take_succ_cons, List.take_zero, List.drop_succ_cons, List.drop_zero]
      repeat still_step
      refine wpStill_nil ?_
      go_wp2_with fail
      refine (Branch_calls M.out.asm (by have := S.out.ps; have := K.out; omega) ⟨#[98, 108, 116, 117]⟩ 6 5 E.fail).mono ?_
      rintro e wd ⟨rfl, hA, hF⟩
      replace M : Aside0 (MkAt wd b p m g E ls l st sl (Cmd.step A6 (.br ⟨#[98, 108, 116, 117]⟩ 6 5 E.fail))) := Aside0.mk (M.out.step hA hF)
      replace F := Aside0.mk (F.out.trans hF)
      replace FB := Aside0.mk (FB.out.trans hF)
      clear hA hF
      clear m0 m1 m2 hI m3 m4 m5 m6 m7 m8 m9 m10 mz
      replace S := Aside0.mk ((S.out.step (.br ⟨#[98, 108, 116, 117]⟩ 6 5 E.fail)).mono (n := k + 176) (by omega))
      obtain ⟨A7, hA7⟩ : ∃ X, Cmd.step A6 (.br ⟨#[98, 108, 116, 117]⟩ 6 5 E.fail) = X := ⟨_, rfl⟩
      rw [hA7] at M S
      have HA7 := Aside0.mk hA7
      clear hA7
      go_wp2_with (first
          | (go_at_call 69; refine (move_any _ _ _).mono ?_; rintro e wq ⟨rfl, hb⟩; replace M := Aside0.mk (M.out.below hb); replace F := Aside0.mk (F.out.trans (Fr.of_below hb)); replace FB := Aside0.mk (FB.out.trans (Fr.of_below hb)); clear hb)
          | (go_at_call 70; refine (imm_any _ _ _ _ _).mono ?_; rintro e wq ⟨rfl, hb⟩; replace M := Aside0.mk (M.out.below hb); replace F := Aside0.mk (F.out.trans (Fr.of_below hb)); replace FB := Aside0.mk (FB.out.trans (Fr.of_below hb)); clear hb)
          | (go_at_call 72; refine (three_any _ _ _ _ _).mono ?_; rintro e wq ⟨rfl, hb⟩; replace M := Aside0.mk (M.out.below hb); replace F := Aside0.mk (F.out.trans (Fr.of_below hb)); replace FB := Aside0.mk (FB.out.trans (Fr.of_below hb)); clear hb)
          | (go_at_call 74; refine (store_any _ _ _ _ _).mono ?_; rintro e wq ⟨rfl, hb⟩; replace M := Aside0.mk (M.out.below hb); replace F := Aside0.mk (F.out.trans (Fr.of_below hb)); replace FB := Aside0.mk (FB.out.trans (Fr.of_below hb)); clear hb))
      refine (do_calls (M.out.alloc _) S.out (by have := K.out; omega) [imm ⟨#[97, 100, 100, 105]⟩ 22 22 1] (by simp only [List.length_cons, List.length_nil]; omega) (heap_alloc_last _ _)).mono ?_
      rintro e wd ⟨rfl, hA, hF⟩
      replace M := Aside0.mk ((M.out.alloc _).step hA hF)
      replace F := Aside0.mk (F.out.trans ((Fr.alloc b _ _).trans hF))
      replace FB := Aside0.mk (FB.out.trans ((Fr.alloc b _ _).trans hF))
      clear hA hF
      replace S := Aside0.mk ((S.out.doF [imm ⟨#[97, 100, 100, 105]⟩ 22 22 1]).mono (n := k + 184) (by simp only [List.length_cons, List.length_nil]; omega))
      obtain ⟨A8, hA8⟩ : ∃ X, doF A7 [imm ⟨#[97, 100, 100, 105]⟩ 22 22 1] = X := ⟨_, rfl⟩
      rw [hA8] at M S
      have HA8 := Aside0.mk hA8
      clear hA8
      go_wp2_with fail
      refine still_tail 12 (by kernel_rfl) (by kernel_rfl) ?_
      intro wi hwi
      replace M := Aside0.mk (show MkAt wi b p m g E ls l st sl A8 by rw [hwi]; exact M.out.drew)
      replace F := Aside0.mk (show Fr b w wi by rw [hwi]; exact F.out.trans (Fr.of_below (below_drew (Below.refl _ _))))
      replace FB := Aside0.mk (show Fr b w3 wi by rw [hwi]; exact FB.out.trans (Fr.of_below (below_drew (Below.refl _ _))))
      clear hwi
      obtain ⟨m0, m1, ⟨r, rcap, m2, hI⟩, m3, m4, m5, m6, m7, m8, m9, m10, mz⟩ := M.out.get
      have hbx := (FB.out.block B3 (blk_lt HBX.out) (.inr (tag_no HBX.out (by decide) (by decide)))).trans HBX.out
      have x_0 := blk_cell hbx 0
      have x_1 := blk_cell hbx 1
      have x_2 := blk_cell hbx 2
      have x_3 := blk_cell hbx 3
      have x_4 := blk_cell hbx 4
      have xz := blk_lt hbx
      have cL := hI.cell (j := x3) T3.out
      have rz := hI.lt
      have q0 : (0 : Int) ≤ (x3 : Int) := by omega
      have q1 : (x3 : Int) < (ls.length : Int) := by have := T3.out; omega
      simp only [List.take_succ_cons, List.take_zero, List.drop_succ_cons, List.drop_zero]
      repeat still_step
      refine wpStill_nil ?_
      go_wp2_with fail
      refine (Jump_calls M.out.asm (by have := S.out.ps; have := K.out; omega) 0 (rd ls (x3 : Int))).mono ?_
      rintro e wd ⟨rfl, hA, hF⟩
      replace M : Aside0 (MkAt wd b p m g E ls l st sl (Cmd.step A8 (.jmp 0 (rd ls (x3 : Int))))) := Aside0.mk (M.out.step hA hF)
      replace F := Aside0.mk (F.out.trans hF)
      replace FB := Aside0.mk (FB.out.trans hF)
      clear hA hF
      clear m0 m1 m2 hI m3 m4 m5 m6 m7 m8 m9 m10 mz
      replace S := Aside0.mk ((S.out.step (.jmp 0 (rd ls (x3 : Int)))).mono (n := k + 192) (by omega))
      obtain ⟨A9, hA9⟩ : ∃ X, Cmd.step A8 (.jmp 0 (rd ls (x3 : Int))) = X := ⟨_, rfl⟩
      rw [hA9] at M S
      have HA9 := Aside0.mk hA9
      clear hA9
      clear hbx x_0 x_1 x_2 x_3 x_4 xz
      clear cL rz q0 q1
      have EQ := Aside0.mk (HE.out A9 (by
        rw [← HA9.out, ← HA8.out, ← HA7.out, ← HA6.out, ← HA5.out, ← HA4.out, ← HA3.out]
        rfl))
      go_wp2
      exact bodyPost_end (v := .tuple #[]) (by simp [results, Tryz.results38, go_sem]) rfl ⟨rfl, by rw [EQ.out]; exact M.out.asm, F.out⟩
  · replace T3 := Aside0.mk (T3.out (by decide) (by decide))
    have hbx := (FB.out.block B3 (blk_lt HBX.out) (.inr (tag_no HBX.out (by decide) (by decide)))).trans HBX.out
    have x_0 := blk_cell hbx 0
    have x_1 := blk_cell hbx 1
    have x_2 := blk_cell hbx 2
    have x_3 := blk_cell hbx 3
    have x_4 := blk_cell hbx 4
    have xz := blk_lt hbx
    go_wp2_with fail
    clear hbx x_0 x_1 x_2 x_3 x_4 xz
    replace T4 := Aside0.mk (T4.out (by simp))
    go_wp2_with fail
    refine still_tail 12 (by kernel_rfl) (by kernel_rfl) ?_
    intro wi hwi
    replace M := Aside0.mk (show MkAt wi b p m g E ls l st sl A2 by rw [hwi]; exact M.out.drew)
    replace F := Aside0.mk (show Fr b w wi by rw [hwi]; exact F.out.trans (Fr.of_below (below_drew (Below.refl _ _))))
    replace FB := Aside0.mk (show Fr b w3 wi by rw [hwi]; exact FB.out.trans (Fr.of_below (below_drew (Below.refl _ _))))
    clear hwi
    obtain ⟨m0, m1, ⟨r, rcap, m2, hI⟩, m3, m4, m5, m6, m7, m8, m9, m10, mz⟩ := M.out.get
    have hbx := (FB.out.block B3 (blk_lt HBX.out) (.inr (tag_no HBX.out (by decide) (by decide)))).trans HBX.out
    have x_0 := blk_cell hbx 0
    have x_1 := blk_cell hbx 1
    have x_2 := blk_cell hbx 2
    have x_3 := blk_cell hbx 3
    have x_4 := blk_cell hbx 4
    have xz := blk_lt hbx
    have cL := hI.cell (j := x4) T4.out
    have rz := hI.lt
    have q0 : (0 : Int) ≤ (x4 : Int) := by omega
    have q1 : (x4 : Int) < (ls.length : Int) := by have := T4.out; omega
    simp only [List.take_succ_cons, List.take_zero, List.drop_succ_cons, List.drop_zero]
    repeat still_step
    refine wpStill_nil ?_
    go_wp2_with fail
    refine (Address_calls M.out.asm (by have := S.out.ps; have := K.out; omega) 5 (rd ls (x4 : Int))).mono ?_
    rintro e wd ⟨rfl, hA, hF⟩
    replace M : Aside0 (MkAt wd b p m g E ls l st sl (Cmd.step A2 (.adr 5 (rd ls (x4 : Int))))) := Aside0.mk (M.out.step hA hF)
    replace F := Aside0.mk (F.out.trans hF)
    replace FB := Aside0.mk (FB.out.trans hF)
    clear hA hF
    clear m0 m1 m2 hI m3 m4 m5 m6 m7 m8 m9 m10 mz
    replace S := Aside0.mk ((S.out.step (.adr 5 (rd ls (x4 : Int)))).mono (n := k + 128) (by omega))
    obtain ⟨A3, hA3⟩ : ∃ X, Cmd.step A2 (.adr 5 (rd ls (x4 : Int))) = X := ⟨_, rfl⟩
    rw [hA3] at M S
    have HA3 := Aside0.mk hA3
    clear hA3
    clear hbx x_0 x_1 x_2 x_3 x_4 xz
    clear cL rz q0 q1
    go_wp2_with fail
    refine (job_calls M.out S.out (by have := K.out; omega) 5 22).mono ?_
    rintro e wd ⟨rfl, hA, hF⟩
    replace M := Aside0.mk (M.out.step hA hF)
    replace F := Aside0.mk (F.out.trans hF)
    replace FB := Aside0.mk (FB.out.trans hF)
    clear hA hF
    replace S := Aside0.mk ((S.out.run (jobC 5 22)).mono (n := k + 160) (by simp only [jobC, List.length_cons, List.length_nil]; omega))
    obtain ⟨A4, hA4⟩ : ∃ X, run A3 (jobC 5 22) = X := ⟨_, rfl⟩
    rw [hA4] at M S
    have HA4 := Aside0.mk hA4
    clear hA4
    go_wp2_with fail
    refine still_tail 12 (by kernel_rfl) (by kernel_rfl) ?_
    intro wi hwi
    replace M := Aside0.mk (show MkAt wi b p m g E ls l st sl A4 by rw [hwi]; exact M.out.drew)
    replace F := Aside0.mk (show Fr b w wi by rw [hwi]; exact F.out.trans (Fr.of_below (below_drew (Below.refl _ _))))
    replace FB := Aside0.mk (show Fr b w3 wi by rw [hwi]; exact FB.out.trans (Fr.of_below (below_drew (Below.refl _ _))))
    clear hwi
    obtain ⟨m0, m1, ⟨r, rcap, m2, hI⟩, m3, m4, m5, m6, m7, m8, m9, m10, mz⟩ := M.out.get
    have hbx := (FB.out.block B3 (blk_lt HBX.out) (.inr (tag_no HBX.out (by decide) (by decide)))).trans HBX.out
    have x_0 := blk_cell hbx 0
    have x_1 := blk_cell hbx 1
    have x_2 := blk_cell hbx 2
    have x_3 := blk_cell hbx 3
    have x_4 := blk_cell hbx 4
    have xz := blk_lt hbx
    have cL := hI.cell (j := x3) T3.out
    have rz := hI.lt
    have q0 : (0 : Int) ≤ (x3 : Int) := by omega
    have q1 : (x3 : Int) < (ls.length : Int) := by have := T3.out; omega
    simp only [List.take_succ_cons, List.take_zero, List.drop_succ_cons, List.drop_zero]
    repeat still_step
    refine wpStill_nil ?_
    go_wp2_with fail
    refine (Jump_calls M.out.asm (by have := S.out.ps; have := K.out; omega) 0 (rd ls (x3 : Int))).mono ?_
    rintro e wd ⟨rfl, hA, hF⟩
    replace M : Aside0 (MkAt wd b p m g E ls l st sl (Cmd.step A4 (.jmp 0 (rd ls (x3 : Int))))) := Aside0.mk (M.out.step hA hF)
    replace F := Aside0.mk (F.out.trans hF)
    replace FB := Aside0.mk (FB.out.trans hF)
    clear hA hF
    clear m0 m1 m2 hI m3 m4 m5 m6 m7 m8 m9 m10 mz
    replace S := Aside0.mk ((S.out.step (.jmp 0 (rd ls (x3 : Int)))).mono (n := k + 168) (by omega))
    obtain ⟨A5, hA5⟩ : ∃ X, Cmd.step A4 (.jmp 0 (rd ls (x3 : Int))) = X := ⟨_, rfl⟩
    rw [hA5] at M S
    have HA5 := Aside0.mk hA5
    clear hA5
    clear hbx x_0 x_1 x_2 x_3 x_4 xz
    clear cL rz q0 q1
    have EQ := Aside0.mk (HE.out A5 (by
      rw [← HA5.out, ← HA4.out, ← HA3.out]
      rfl))
    go_wp2
    exact bodyPost_end (v := .tuple #[]) (by simp [results, Tryz.results38, go_sem]) rfl ⟨rfl, by rw [EQ.out]; exact M.out.asm, F.out⟩
  · replace T3 := Aside0.mk (T3.out (by decide) (by decide))
    have a0 : 0 ≤ f1 := (HF.out.c_ rfl).1
    have a1 : f1 < 64 := (HF.out.c_ rfl).2
    have hbx := (FB.out.block B3 (blk_lt HBX.out) (.inr (tag_no HBX.out (by decide) (by decide)))).trans HBX.out
    have x_0 := blk_cell hbx 0
    have x_1 := blk_cell hbx 1
    have x_2 := blk_cell hbx 2
    have x_3 := blk_cell hbx 3
    have x_4 := blk_cell hbx 4
    have xz := blk_lt hbx
    go_wp2_with fail
    clear hbx x_0 x_1 x_2 x_3 x_4 xz
    have hbx := (FB.out.block B3 (blk_lt HBX.out) (.inr (tag_no HBX.out (by decide) (by decide)))).trans HBX.out
    have x_0 := blk_cell hbx 0
    have x_1 := blk_cell hbx 1
    have x_2 := blk_cell hbx 2
    have x_3 := blk_cell hbx 3
    have x_4 := blk_cell hbx 4
    have xz := blk_lt hbx
    go_wp2_with (first
        | (go_at_call 69; refine (move_any _ _ _).mono ?_; rintro e wq ⟨rfl, hb⟩; replace M := Aside0.mk (M.out.below hb); replace F := Aside0.mk (F.out.trans (Fr.of_below hb)); replace FB := Aside0.mk (FB.out.trans (Fr.of_below hb)); clear hb)
        | (go_at_call 70; refine (imm_any _ _ _ _ _).mono ?_; rintro e wq ⟨rfl, hb⟩; replace M := Aside0.mk (M.out.below hb); replace F := Aside0.mk (F.out.trans (Fr.of_below hb)); replace FB := Aside0.mk (FB.out.trans (Fr.of_below hb)); clear hb)
        | (go_at_call 72; refine (three_any _ _ _ _ _).mono ?_; rintro e wq ⟨rfl, hb⟩; replace M := Aside0.mk (M.out.below hb); replace F := Aside0.mk (F.out.trans (Fr.of_below hb)); replace FB := Aside0.mk (FB.out.trans (Fr.of_below hb)); clear hb)
        | (go_at_call 74; refine (store_any _ _ _ _ _).mono ?_; rintro e wq ⟨rfl, hb⟩; replace M := Aside0.mk (M.out.below hb); replace F := Aside0.mk (F.out.trans (Fr.of_below hb)); replace FB := Aside0.mk (FB.out.trans (Fr.of_below hb)); clear hb))
    refine (do_calls (M.out.alloc _) S.out (by have := K.out; omega) [imm ⟨#[97, 100, 100, 105]⟩ 5 0 (2 * (8 * f1) + 1), imm ⟨#[108, 100]⟩ 6 8 (8 * f1)] (by simp only [List.length_cons, List.length_nil]; omega) (heap_alloc_last _ _)).mono ?_
    rintro e wd ⟨rfl, hA, hF⟩
    replace M := Aside0.mk ((M.out.alloc _).step hA hF)
    replace F := Aside0.mk (F.out.trans ((Fr.alloc b _ _).trans hF))
    replace FB := Aside0.mk (FB.out.trans ((Fr.alloc b _ _).trans hF))
    clear hA hF
    replace S := Aside0.mk ((S.out.doF [imm ⟨#[97, 100, 100, 105]⟩ 5 0 (2 * (8 * f1) + 1), imm ⟨#[108, 100]⟩ 6 8 (8 * f1)]).mono (n := k + 136) (by simp only [List.length_cons, List.length_nil]; omega))
    obtain ⟨A3, hA3⟩ : ∃ X, doF A2 [imm ⟨#[97, 100, 100, 105]⟩ 5 0 (2 * (8 * f1) + 1), imm ⟨#[108, 100]⟩ 6 8 (8 * f1)] = X := ⟨_, rfl⟩
    rw [hA3] at M S
    have HA3 := Aside0.mk hA3
    clear hA3
    clear hbx x_0 x_1 x_2 x_3 x_4 xz
    go_wp2_with fail
    refine (job_calls M.out S.out (by have := K.out; omega) 5 6).mono ?_
    rintro e wd ⟨rfl, hA, hF⟩
    replace M := Aside0.mk (M.out.step hA hF)
    replace F := Aside0.mk (F.out.trans hF)
    replace FB := Aside0.mk (FB.out.trans hF)
    clear hA hF
    replace S := Aside0.mk ((S.out.run (jobC 5 6)).mono (n := k + 168) (by simp only [jobC, List.length_cons, List.length_nil]; omega))
    obtain ⟨A4, hA4⟩ : ∃ X, run A3 (jobC 5 6) = X := ⟨_, rfl⟩
    rw [hA4] at M S
    have HA4 := Aside0.mk hA4
    clear hA4
    go_wp2_with (first
        | (go_at_call 69; refine (move_any _ _ _).mono ?_; rintro e wq ⟨rfl, hb⟩; replace M := Aside0.mk (M.out.below hb); replace F := Aside0.mk (F.out.trans (Fr.of_below hb)); replace FB := Aside0.mk (FB.out.trans (Fr.of_below hb)); clear hb)
        | (go_at_call 70; refine (imm_any _ _ _ _ _).mono ?_; rintro e wq ⟨rfl, hb⟩; replace M := Aside0.mk (M.out.below hb); replace F := Aside0.mk (F.out.trans (Fr.of_below hb)); replace FB := Aside0.mk (FB.out.trans (Fr.of_below hb)); clear hb)
        | (go_at_call 72; refine (three_any _ _ _ _ _).mono ?_; rintro e wq ⟨rfl, hb⟩; replace M := Aside0.mk (M.out.below hb); replace F := Aside0.mk (F.out.trans (Fr.of_below hb)); replace FB := Aside0.mk (FB.out.trans (Fr.of_below hb)); clear hb)
        | (go_at_call 74; refine (store_any _ _ _ _ _).mono ?_; rintro e wq ⟨rfl, hb⟩; replace M := Aside0.mk (M.out.below hb); replace F := Aside0.mk (F.out.trans (Fr.of_below hb)); replace FB := Aside0.mk (FB.out.trans (Fr.of_below hb)); clear hb))
    refine (do_calls (M.out.alloc _) S.out (by have := K.out; omega) [store ⟨#[115, 100]⟩ 22 8 (8 * f1)] (by simp only [List.length_cons, List.length_nil]; omega) (heap_alloc_last _ _)).mono ?_
    rintro e wd ⟨rfl, hA, hF⟩
    replace M := Aside0.mk ((M.out.alloc _).step hA hF)
    replace F := Aside0.mk (F.out.trans ((Fr.alloc b _ _).trans hF))
    replace FB := Aside0.mk (FB.out.trans ((Fr.alloc b _ _).trans hF))
    clear hA hF
    replace S := Aside0.mk ((S.out.doF [store ⟨#[115, 100]⟩ 22 8 (8 * f1)]).mono (n := k + 176) (by simp only [List.length_cons, List.length_nil]; omega))
    obtain ⟨A5, hA5⟩ : ∃ X, doF A4 [store ⟨#[115, 100]⟩ 22 8 (8 * f1)] = X := ⟨_, rfl⟩
    rw [hA5] at M S
    have HA5 := Aside0.mk hA5
    clear hA5
    go_wp2_with fail
    refine still_tail 12 (by kernel_rfl) (by kernel_rfl) ?_
    intro wi hwi
    replace M := Aside0.mk (show MkAt wi b p m g E ls l st sl A5 by rw [hwi]; exact M.out.drew)
    replace F := Aside0.mk (show Fr b w wi by rw [hwi]; exact F.out.trans (Fr.of_below (below_drew (Below.refl _ _))))
    replace FB := Aside0.mk (show Fr b w3 wi by rw [hwi]; exact FB.out.trans (Fr.of_below (below_drew (Below.refl _ _))))
    clear hwi
    obtain ⟨m0, m1, ⟨r, rcap, m2, hI⟩, m3, m4, m5, m6, m7, m8, m9, m10, mz⟩ := M.out.get
    have hbx := (FB.out.block B3 (blk_lt HBX.out) (.inr (tag_no HBX.out (by decide) (by decide)))).trans HBX.out
    have x_0 := blk_cell hbx 0
    have x_1 := blk_cell hbx 1
    have x_2 := blk_cell hbx 2
    have x_3 := blk_cell hbx 3
    have x_4 := blk_cell hbx 4
    have xz := blk_lt hbx
    have cL := hI.cell (j := x3) T3.out
    have rz := hI.lt
    have q0 : (0 : Int) ≤ (x3 : Int) := by omega
    have q1 : (x3 : Int) < (ls.length : Int) := by have := T3.out; omega
    simp only [List.take_succ_cons, List.take_zero, List.drop_succ_cons, List.drop_zero]
    repeat still_step
    refine wpStill_nil ?_
    go_wp2_with fail
    refine (Jump_calls M.out.asm (by have := S.out.ps; have := K.out; omega) 0 (rd ls (x3 : Int))).mono ?_
    rintro e wd ⟨rfl, hA, hF⟩
    replace M : Aside0 (MkAt wd b p m g E ls l st sl (Cmd.step A5 (.jmp 0 (rd ls (x3 : Int))))) := Aside0.mk (M.out.step hA hF)
    replace F := Aside0.mk (F.out.trans hF)
    replace FB := Aside0.mk (FB.out.trans hF)
    clear hA hF
    clear m0 m1 m2 hI m3 m4 m5 m6 m7 m8 m9 m10 mz
    replace S := Aside0.mk ((S.out.step (.jmp 0 (rd ls (x3 : Int)))).mono (n := k + 184) (by omega))
    obtain ⟨A6, hA6⟩ : ∃ X, Cmd.step A5 (.jmp 0 (rd ls (x3 : Int))) = X := ⟨_, rfl⟩
    rw [hA6] at M S
    have HA6 := Aside0.mk hA6
    clear hA6
    clear hbx x_0 x_1 x_2 x_3 x_4 xz
    clear cL rz q0 q1
    have EQ := Aside0.mk (HE.out A6 (by
      rw [← HA6.out, ← HA5.out, ← HA4.out, ← HA3.out]
      rfl))
    go_wp2
    exact bodyPost_end (v := .tuple #[]) (by simp [results, Tryz.results38, go_sem]) rfl ⟨rfl, by rw [EQ.out]; exact M.out.asm, F.out⟩
  · replace T3 := Aside0.mk (T3.out (by decide) (by decide))
    have hbx := (FB.out.block B3 (blk_lt HBX.out) (.inr (tag_no HBX.out (by decide) (by decide)))).trans HBX.out
    have x_0 := blk_cell hbx 0
    have x_1 := blk_cell hbx 1
    have x_2 := blk_cell hbx 2
    have x_3 := blk_cell hbx 3
    have x_4 := blk_cell hbx 4
    have xz := blk_lt hbx
    go_wp2_with fail
    clear hbx x_0 x_1 x_2 x_3 x_4 xz
    have hbx := (FB.out.block B3 (blk_lt HBX.out) (.inr (tag_no HBX.out (by decide) (by decide)))).trans HBX.out
    have x_0 := blk_cell hbx 0
    have x_1 := blk_cell hbx 1
    have x_2 := blk_cell hbx 2
    have x_3 := blk_cell hbx 3
    have x_4 := blk_cell hbx 4
    have xz := blk_lt hbx
    go_wp2_with fail
    clear hbx x_0 x_1 x_2 x_3 x_4 xz
    refine (assert_calls M.out S.out (by have := K.out; omega) f1).mono ?_
    rintro e wd ⟨rfl, hA, hF⟩
    replace M := Aside0.mk (M.out.step hA hF)
    replace F := Aside0.mk (F.out.trans hF)
    replace FB := Aside0.mk (FB.out.trans hF)
    clear hA hF
    replace S := Aside0.mk ((S.out.run (assertC E f1 A2.labels)).mono (n := k + 280) (by have := assert_len E f1 A2.labels; omega))
    obtain ⟨A3, hA3⟩ : ∃ X, run A2 (assertC E f1 A2.labels) = X := ⟨_, rfl⟩
    rw [hA3] at M S
    have HA3 := Aside0.mk hA3
    clear hA3
    go_wp2_with fail
    refine still_tail 12 (by kernel_rfl) (by kernel_rfl) ?_
    intro wi hwi
    replace M := Aside0.mk (show MkAt wi b p m g E ls l st sl A3 by rw [hwi]; exact M.out.drew)
    replace F := Aside0.mk (show Fr b w wi by rw [hwi]; exact F.out.trans (Fr.of_below (below_drew (Below.refl _ _))))
    replace FB := Aside0.mk (show Fr b w3 wi by rw [hwi]; exact FB.out.trans (Fr.of_below (below_drew (Below.refl _ _))))
    clear hwi
    obtain ⟨m0, m1, ⟨r, rcap, m2, hI⟩, m3, m4, m5, m6, m7, m8, m9, m10, mz⟩ := M.out.get
    have hbx := (FB.out.block B3 (blk_lt HBX.out) (.inr (tag_no HBX.out (by decide) (by decide)))).trans HBX.out
    have x_0 := blk_cell hbx 0
    have x_1 := blk_cell hbx 1
    have x_2 := blk_cell hbx 2
    have x_3 := blk_cell hbx 3
    have x_4 := blk_cell hbx 4
    have xz := blk_lt hbx
    have cL := hI.cell (j := x3) T3.out
    have rz := hI.lt
    have q0 : (0 : Int) ≤ (x3 : Int) := by omega
    have q1 : (x3 : Int) < (ls.length : Int) := by have := T3.out; omega
    simp only [List.take_succ_cons, List.take_zero, List.drop_succ_cons, List.drop_zero]
    repeat still_step
    refine wpStill_nil ?_
    go_wp2_with fail
    refine (Jump_calls M.out.asm (by have := S.out.ps; have := K.out; omega) 0 (rd ls (x3 : Int))).mono ?_
    rintro e wd ⟨rfl, hA, hF⟩
    replace M : Aside0 (MkAt wd b p m g E ls l st sl (Cmd.step A3 (.jmp 0 (rd ls (x3 : Int))))) := Aside0.mk (M.out.step hA hF)
    replace F := Aside0.mk (F.out.trans hF)
    replace FB := Aside0.mk (FB.out.trans hF)
    clear hA hF
    clear m0 m1 m2 hI m3 m4 m5 m6 m7 m8 m9 m10 mz
    replace S := Aside0.mk ((S.out.step (.jmp 0 (rd ls (x3 : Int)))).mono (n := k + 288) (by omega))
    obtain ⟨A4, hA4⟩ : ∃ X, Cmd.step A3 (.jmp 0 (rd ls (x3 : Int))) = X := ⟨_, rfl⟩
    rw [hA4] at M S
    have HA4 := Aside0.mk hA4
    clear hA4
    clear hbx x_0 x_1 x_2 x_3 x_4 xz
    clear cL rz q0 q1
    have EQ := Aside0.mk (HE.out A4 (by
      rw [← HA4.out, ← HA3.out]
      rw [show instB E ls ⟨4, f1, f2, x3, x4⟩ A.labels = assertC E f1 A.labels ++ [.jmp 0 (rd ls (x3 : Int))] from rfl, run_app, LB.out]
      rfl))
    go_wp2
    exact bodyPost_end (v := .tuple #[]) (by simp [results, Tryz.results38, go_sem]) rfl ⟨rfl, by rw [EQ.out]; exact M.out.asm, F.out⟩
  · clear T3
    have hbx := (FB.out.block B3 (blk_lt HBX.out) (.inr (tag_no HBX.out (by decide) (by decide)))).trans HBX.out
    have x_0 := blk_cell hbx 0
    have x_1 := blk_cell hbx 1
    have x_2 := blk_cell hbx 2
    have x_3 := blk_cell hbx 3
    have x_4 := blk_cell hbx 4
    have xz := blk_lt hbx
    go_wp2_with fail
    clear hbx x_0 x_1 x_2 x_3 x_4 xz
    go_wp2_with fail
    refine still_tail 9 (by kernel_rfl) (by kernel_rfl) ?_
    intro wi hwi
    replace M := Aside0.mk (show MkAt wi b p m g E ls l st sl A2 by rw [hwi]; exact M.out.drew)
    replace F := Aside0.mk (show Fr b w wi by rw [hwi]; exact F.out.trans (Fr.of_below (below_drew (Below.refl _ _))))
    replace FB := Aside0.mk (show Fr b w3 wi by rw [hwi]; exact FB.out.trans (Fr.of_below (below_drew (Below.refl _ _))))
    clear hwi
    obtain ⟨m0, m1, ⟨r, rcap, m2, hI⟩, m3, m4, m5, m6, m7, m8, m9, m10, mz⟩ := M.out.get
    simp only [List.take_succ_cons, List.take_zero, List.drop_succ_cons, List.drop_zero]
    repeat still_step
    refine wpStill_nil ?_
    go_wp2_with fail
    refine (Jump_calls M.out.asm (by have := S.out.ps; have := K.out; omega) 0 E.mtch).mono ?_
    rintro e wd ⟨rfl, hA, hF⟩
    replace M : Aside0 (MkAt wd b p m g E ls l st sl (Cmd.step A2 (.jmp 0 E.mtch))) := Aside0.mk (M.out.step hA hF)
    replace F := Aside0.mk (F.out.trans hF)
    replace FB := Aside0.mk (FB.out.trans hF)
    clear hA hF
    clear m0 m1 m2 hI m3 m4 m5 m6 m7 m8 m9 m10 mz
    replace S := Aside0.mk ((S.out.step (.jmp 0 E.mtch)).mono (n := k + 128) (by omega))
    obtain ⟨A3, hA3⟩ : ∃ X, Cmd.step A2 (.jmp 0 E.mtch) = X := ⟨_, rfl⟩
    rw [hA3] at M S
    have HA3 := Aside0.mk hA3
    clear hA3
    have EQ := Aside0.mk (HE.out A3 (by
      rw [← HA3.out]
      rfl))
    go_wp2
    exact bodyPost_ret (v := .tuple #[]) (by simp [results, Tryz.results38, go_sem]) rfl ⟨rfl, by rw [EQ.out]; exact M.out.asm, F.out⟩
  · clear T3
    have hbx := (FB.out.block B3 (blk_lt HBX.out) (.inr (tag_no HBX.out (by decide) (by decide)))).trans HBX.out
    have x_0 := blk_cell hbx 0
    have x_1 := blk_cell hbx 1
    have x_2 := blk_cell hbx 2
    have x_3 := blk_cell hbx 3
    have x_4 := blk_cell hbx 4
    have xz := blk_lt hbx
    go_wp2_with fail
    clear hbx x_0 x_1 x_2 x_3 x_4 xz
    go_wp2_with fail
    refine still_tail 9 (by kernel_rfl) (by kernel_rfl) ?_
    intro wi hwi
    replace M := Aside0.mk (show MkAt wi b p m g E ls l st sl A2 by rw [hwi]; exact M.out.drew)
    replace F := Aside0.mk (show Fr b w wi by rw [hwi]; exact F.out.trans (Fr.of_below (below_drew (Below.refl _ _))))
    replace FB := Aside0.mk (show Fr b w3 wi by rw [hwi]; exact FB.out.trans (Fr.of_below (below_drew (Below.refl _ _))))
    clear hwi
    obtain ⟨m0, m1, ⟨r, rcap, m2, hI⟩, m3, m4, m5, m6, m7, m8, m9, m10, mz⟩ := M.out.get
    simp only [List.take_succ_cons, List.take_zero, List.drop_succ_cons, List.drop_zero]
    repeat still_step
    refine wpStill_nil ?_
    go_wp2_with fail
    refine (Jump_calls M.out.asm (by have := S.out.ps; have := K.out; omega) 0 E.fail).mono ?_
    rintro e wd ⟨rfl, hA, hF⟩
    replace M : Aside0 (MkAt wd b p m g E ls l st sl (Cmd.step A2 (.jmp 0 E.fail))) := Aside0.mk (M.out.step hA hF)
    replace F := Aside0.mk (F.out.trans hF)
    replace FB := Aside0.mk (FB.out.trans hF)
    clear hA hF
    clear m0 m1 m2 hI m3 m4 m5 m6 m7 m8 m9 m10 mz
    replace S := Aside0.mk ((S.out.step (.jmp 0 E.fail)).mono (n := k + 128) (by omega))
    obtain ⟨A3, hA3⟩ : ∃ X, Cmd.step A2 (.jmp 0 E.fail) = X := ⟨_, rfl⟩
    rw [hA3] at M S
    have HA3 := Aside0.mk hA3
    clear hA3
    have EQ := Aside0.mk (HE.out A3 (by
      rw [← HA3.out]
      rfl))
    go_wp2
    exact bodyPost_ret (v := .tuple #[]) (by simp [results, Tryz.results38, go_sem]) rfl ⟨rfl, by rw [EQ.out]; exact M.out.asm, F.out⟩
end Go.Proofs.YtpfcdhjknmijjaaGreat.Em
end
