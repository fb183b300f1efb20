import Derived.Test.YtpfcdhjknmijjaaGreatCo32
section
set_option linter.unusedSimpArgs false
set_option linter.unusedVariables false
namespace Go.Proofs.YtpfcdhjknmijjaaGreat.Ht
open Go.RowKit Go.Maps Go.Proofs.YtpfcdhjknmijjaaGreat.Grow Go.Proofs.YtpfcdhjknmijjaaGreat.Rv Go.Proofs.YtpfcdhjknmijjaaGreat.As Go.Proofs.YtpfcdhjknmijjaaGreat.PHartQuotients
open Go.Proofs.YtpfcdhjknmijjaaGreatW.PrintWords Go.Proofs.YtpfcdhjknmijjaaGreatW.PrintLast Go.Proofs.YtpfcdhjknmijjaaGreatW.PrintMore

theorem put_pc (S : HartS) (i x : Int) : (S.put i x).pc = S.pc := by unfold HartS.put; split <;> rfl
theorem ra_u64 {S : HartS} (h : GoodH S) (i : Nat) : U64 (S.regs.getD i 0) := by
  rw [List.getD_eq_getElem?_getD]
  by_cases hi : i < S.regs.length
  · rw [List.getElem?_eq_getElem hi]; exact h.regs _ (List.getElem_mem hi)
  · rw [List.getElem?_eq_none (by omega)]; exact ⟨by decide, by decide⟩
set_option maxHeartbeats 8000000 in
set_option maxRecDepth 100000 in
theorem step_def {w : World} {p n : Nat} {B : HB} {S : HartS} (h : HartIs w p B n S) (hG : GoodH S) (hn : n < maxLen) (nm by_ : ByteArray) (num : Bool) (rd imm : Int) (ra rb : Nat) (hra : (ra : Int) < 32) (hrb : (rb : Int) < 32) (hnx : nextF S = (⟨⟨nm, rd, ra, rb, imm⟩, by_, num⟩, 0)) (hd : GoodD ⟨⟨nm, rd, ra, rb, imm⟩, by_, num⟩)
    (f0 : (nm.toList == ([101, 99, 97, 108, 108] : List UInt8)) = false) (f1 : (nm.toList == ([101, 98, 114, 101, 97, 107] : List UInt8)) = false) (f2 : (nm.toList == ([108, 98] : List UInt8)) = false) (f3 : (nm.toList == ([108, 104] : List UInt8)) = false) (f4 : (nm.toList == ([108, 119] : List UInt8)) = false) (f5 : (nm.toList == ([108, 100] : List UInt8)) = false) (f6 : (nm.toList == ([108, 98, 117] : List UInt8)) = false) (f7 : (nm.toList == ([108, 104, 117] : List UInt8)) = false) (f8 : (nm.toList == ([108, 119, 117] : List UInt8)) = false) (f9 : (nm.toList == ([115, 98] : List UInt8)) = false) (f10 : (nm.toList == ([115, 104] : List UInt8)) = false) (f11 : (nm.toList == ([115, 119] : List UInt8)) = false) (f12 : (nm.toList == ([115, 100] : List UInt8)) = false) (f13 : (nm.toList == ([98, 101, 113] : List UInt8)) = false) (f14 : (nm.toList == ([98, 110, 101] : List UInt8)) = false) (f15 : (nm.toList == ([98, 108, 116] : List UInt8)) = false) (f16 : (nm.toList == ([98, 103, 101] : List UInt8)) = false) (f17 : (nm.toList == ([98, 108, 116, 117] : List UInt8)) = false) (f18 : (nm.toList == ([98, 103, 101, 117] : List UInt8)) = false) (f19 : (nm.toList == ([108, 117, 105] : List UInt8)) = false) (f20 : (nm.toList == ([97, 117, 105, 112, 99] : List UInt8)) = false) (f21 : (nm.toList == ([106, 97, 108] : List UInt8)) = false) (f22 : (nm.toList == ([106, 97, 108, 114] : List UInt8)) = false)
    (R : HartS × Int) (hR : execF S ⟨⟨nm, rd, ra, rb, imm⟩, by_, num⟩ (S.ra ra) (S.ra rb) (IntKind.u64.wrap imm) (IntKind.u64.wrap (S.pc + 4)) = R) :
    Calls Tryz.prog 103 #[.pointer (some ⟨p, 0, none⟩)] w fun e w' => e = .returned (.int .i64 R.2) ∧ (∃ m, m ≤ n + 1 ∧ HartIs w' p B m R.1) ∧ Keep (HF p B) w w' := by
  have HC : Aside0 (clsF nm = 8) := Aside0.mk (by unfold clsF sysL loadL storeL branchL; simp only [List.any_cons, List.any_nil, isN, f0, f1, f2, f3, f4, f5, f6, f7, f8, f9, f10, f11, f12, f13, f14, f15, f16, f17, f18, f19, f20, f21, f22, Bool.or_false, Bool.false_eq_true, if_false])
  have NC := Aside0.mk (next_calls h hG hn)
  rw [hnx] at NC
  have HR := Aside0.mk hR
  have HG := Aside0.mk hG
  have HD := Aside0.mk hd
  clear hd
  clear h hR hnx hG
  go_enter Tryz.func103, Tryz.ntmps103
  go_wp2_with fail
  refine NC.out.mono ?_
  rintro e w1 ⟨rfl, ⟨m, hm, h1⟩, K1⟩
  simp only [Done.val]
  have H1 := Aside0.mk h1
  have HK1 := Aside0.mk K1
  have HM := Aside0.mk hm
  clear NC h1 K1 hm
  go_wp2_with fail
  have hD := blk_alloc (heap_alloc_last w1 (.cells #[.string nm, .int .i64 rd, .int .i64 ra, .int .i64 rb, .int .i64 imm, .string by_, .bool num] 219)) (.cells #[.string nm, .int .i64 rd, .int .i64 ra, .int .i64 rb, .int .i64 imm] 130)
  have hO := heap_alloc_at (w1.alloc (.cells #[.string nm, .int .i64 rd, .int .i64 ra, .int .i64 rb, .int .i64 imm, .string by_, .bool num] 219)) (.cells #[.string nm, .int .i64 rd, .int .i64 ra, .int .i64 rb, .int .i64 imm] 130) (n := w1.heap.size + 1) (by simp)
  have B2 := below_alloc (below_alloc (Below.refl w1.heap.size w1) (.cells #[.string nm, .int .i64 rd, .int .i64 ra, .int .i64 rb, .int .i64 imm, .string by_, .bool num] 219)) (.cells #[.string nm, .int .i64 rd, .int .i64 ra, .int .i64 rb, .int .i64 imm] 130)
  generalize (w1.alloc (.cells #[.string nm, .int .i64 rd, .int .i64 ra, .int .i64 rb, .int .i64 imm, .string by_, .bool num] 219)).alloc (.cells #[.string nm, .int .i64 rd, .int .i64 ra, .int .i64 rb, .int .i64 imm] 130) = w2 at *
  have hO1 : w1.heap.size + 1 ≠ p := by have := H1.out.lt; omega
  have hD1 : w1.heap.size ≠ p := by have := H1.out.lt; omega
  obtain ⟨O, hOe⟩ : ∃ O, w1.heap.size + 1 = O := ⟨_, rfl⟩
  obtain ⟨D, hDe⟩ : ∃ D, w1.heap.size = D := ⟨_, rfl⟩
  rw [hOe] at hO hO1 ⊢
  rw [hDe] at hD hD1 ⊢
  have H2 := Aside0.mk (H1.out.below B2)
  have K2 := Aside0.mk (HK1.out.trans (Keep.of_below (F := HF p B) B2))
  clear hOe hDe B2 H1 HK1
  obtain ⟨A, hA⟩ : ∃ A, S.regs.getD ra 0 = A := ⟨_, rfl⟩
  obtain ⟨Bv, hBv⟩ : ∃ Bv, S.regs.getD rb 0 = Bv := ⟨_, rfl⟩
  obtain ⟨I, hI⟩ : ∃ I, IntKind.u64.wrap imm = I := ⟨_, rfl⟩
  obtain ⟨PC, hPC⟩ : ∃ PC, S.pc = PC := ⟨_, rfl⟩
  have cA := H2.out.cr (i := ra) (by omega)
  have cB := H2.out.cr (i := rb) (by omega)
  have c0 := H2.out.c0
  have c1 := H2.out.c1
  have zp := H2.out.lt
  have cD := blk_cell hD
  have zD := blk_lt hD
  have cO := blk_cell hO
  have zO := blk_lt hO
  have ra0 : (0 : Int) ≤ (ra : Int) := Int.natCast_nonneg ra
  have rb0 : (0 : Int) ≤ (rb : Int) := Int.natCast_nonneg rb
  simp only [HartS.ra, Int.toNat_natCast, hA, hBv, hI, hPC] at HR
  rw [hA] at cA
  rw [hBv] at cB
  rw [hPC] at c1
  have HA := Aside0.mk hA
  have HB := Aside0.mk hBv
  have HP := Aside0.mk hPC
  clear hA hBv hPC
  have UA := Aside0.mk (show U64 A by rw [← HA.out]; exact ra_u64 HG.out _)
  have UB := Aside0.mk (show U64 Bv by rw [← HB.out]; exact ra_u64 HG.out _)
  have UI := Aside0.mk (show U64 I by rw [← hI]; exact wrap_range _)
  have HI := Aside0.mk hI
  have hR := HR.out
  unfold execF at hR
  simp only [HC.out, HP.out] at hR
  have HR2 := Aside0.mk hR
  clear HA HB HI hR HR
  go_quiet (fail)
  clear hI
  have UV : ∀ y : Bool, U64 (if y = true then I else Bv) := fun y => by cases y; exact UB.out; exact UI.out
  have RC := Aside0.mk (fun w9 => reck_calls HD.out.by0 HD.out.by1 UA.out (UV num) w9)
  clear UA UB UI UV HD
  cases num
  · simp only [Bool.false_eq_true, if_false, if_true] at RC HR2
    go_wp2_with fail
    refine wp_region_grow2 [54, 55, 56, 57, 58, 59, 60, 61] (fun j v w1 => match j with
      | 0 => v = .pointer (some ⟨p, 0, none⟩)
      | 1 => v = .pointer (some ⟨O, 1, none⟩)
      | 2 => v = .int .i64 rd
      | 3 => v = .pointer (some ⟨D, 5, none⟩)
      | 4 => v = .string by_
      | 5 => v = .int .u64 A
      | 6 => v = .int .u64 Bv
      | 7 => v = .int .u64 (reckF by_ A Bv)
      | _ => True) (by kernel_rfl) (by kernel_rfl) ?_ ?_ ?_
    · intro j v w1 w2 hv hb
      rcases j with _ | _ | _ | _ | _ | _ | _ | _ | j <;> first | exact hv | trivial
    · refine ⟨?_, ?_, ?_, ?_, ?_, ?_, ?_, ?_, trivial⟩
      all_goals
        intro a w5 hB hoth hdep
        have hB0 := (pw_below_drewN (Below.refl w2.heap.size w2) nq).trans (hB.mono (pw_below_drewN (Below.refl w2.heap.size w2) nq).size)
        have cD := blk_cell (blk_below hD hB0)
        have zD := blk_lt (blk_below hD hB0)
        have cO := blk_cell (blk_below hO hB0)
        have zO := blk_lt (blk_below hO hB0)
        have h0 := hoth 0 (by decide)
        have h3 := hoth 3 (by decide)
        have h5 := hoth 5 (by decide)
        have h6 := hoth 6 (by decide)
        have h7 := hoth 7 (by decide)
        have rc := RC.out w5
        clear hoth hB hB0 RC HR2 H2 K2 HG HP HM HC hD hO zp c0 c1 cA cB
        simp [bd1, bd2, bd3, bd5, bd6] at hdep h0 h3 h5 h6 h7
        simp only [StepTo, Oper.grows]
        go_simp
        all_goals first
          | exact Below.refl _ _
          | (refine ⟨Below.refl _ _, rc.mono ?_⟩; rintro e w' ⟨rfl, hb⟩; exact ⟨rfl, hb⟩)
          | exact ⟨Below.refl _ _, rfl⟩
          | skip
    · intro v w5 hB hv
      have q0 : v 0 = _ := hv 0 (by decide)
      have q2 : v 2 = _ := hv 2 (by decide)
      have q7 : v 7 = _ := hv 7 (by decide)
      simp only [fillF, q0, q2, q7, Act.put, List.setIfInBounds_toArray, List.set_cons_zero, List.set_cons_succ, List.length_cons, List.length_nil, Nat.reduceAdd, List.drop_succ_cons, List.drop_zero]
      have hB0 := (pw_below_drewN (Below.refl w2.heap.size w2) nq).trans (hB.mono (pw_below_drewN (Below.refl w2.heap.size w2) nq).size)
      have H5 := H2.out.below hB0
      have K5 := Aside0.mk (K2.out.trans (Keep.of_below (F := HF p B) hB0))
      have SC := Aside0.mk (Set_calls H5 rd (reckF by_ A Bv))
      clear hv hB hB0 q0 q2 q7 cD cO zD zO hD hO c0 c1 cA cB zp H2 K2 H5 RC
      go_wp2_with fail
      refine SC.out.mono ?_
      rintro e w6 ⟨rfl, h6, k6⟩
      have c1 := h6.c1
      have c0 := h6.c0
      have zp := h6.lt
      have fz := frozen_of_row w6 p 1 _ 175 h6.head
      have H6 := Aside0.mk (h6.setPC (IntKind.u64.wrap (PC + 4)))
      have K6 := Aside0.mk ((K5.out.trans k6).trans (Keep.setCell (F := HF p B) (a := ⟨p, 1, none⟩) (.int .u64 (IntKind.u64.wrap (PC + 4))) (.inl rfl)))
      clear h6 k6 K5 SC
      go_wp2
      exact bodyPost_ret (v := .int .i64 0) (by simp [results, Tryz.results103, go_sem]) rfl ⟨by rw [← HR2.out], ⟨m, HM.out, by rw [← HR2.out]; exact H6.out⟩, K6.out⟩
  · simp only [Bool.false_eq_true, if_false, if_true] at RC HR2
    go_wp2_with fail
    refine wp_region_grow2 [54, 55, 56, 57, 58, 59, 60, 61] (fun j v w1 => match j with
      | 0 => v = .pointer (some ⟨p, 0, none⟩)
      | 1 => v = .pointer (some ⟨O, 1, none⟩)
      | 2 => v = .int .i64 rd
      | 3 => v = .pointer (some ⟨D, 5, none⟩)
      | 4 => v = .string by_
      | 5 => v = .int .u64 A
      | 6 => v = .int .u64 I
      | 7 => v = .int .u64 (reckF by_ A I)
      | _ => True) (by kernel_rfl) (by kernel_rfl) ?_ ?_ ?_
    · intro j v w1 w2 hv hb
      rcases j with _ | _ | _ | _ | _ | _ | _ | _ | j <;> first | exact hv | trivial
    · refine ⟨?_, ?_, ?_, ?_, ?_, ?_, ?_, ?_, trivial⟩
      all_goals
        intro a w5 hB hoth hdep
        have hB0 := (pw_below_drewN (Below.refl w2.heap.size w2) nq).trans (hB.mono (pw_below_drewN (Below.refl w2.heap.size w2) nq).size)
        have cD := blk_cell (blk_below hD hB0)
        have zD := blk_lt (blk_below hD hB0)
        have cO := blk_cell (blk_below hO hB0)
        have zO := blk_lt (blk_below hO hB0)
        have h0 := hoth 0 (by decide)
        have h3 := hoth 3 (by decide)
        have h5 := hoth 5 (by decide)
        have h6 := hoth 6 (by decide)
        have h7 := hoth 7 (by decide)
        have rc := RC.out w5
        clear hoth hB hB0 RC HR2 H2 K2 HG HP HM HC hD hO zp c0 c1 cA cB
        simp [bd1, bd2, bd3, bd5, bd6] at hdep h0 h3 h5 h6 h7
        simp only [StepTo, Oper.grows]
        go_simp
        all_goals first
          | exact Below.refl _ _
          | (refine ⟨Below.refl _ _, rc.mono ?_⟩; rintro e w' ⟨rfl, hb⟩; exact ⟨rfl, hb⟩)
          | exact ⟨Below.refl _ _, rfl⟩
          | skip
    · intro v w5 hB hv
      have q0 : v 0 = _ := hv 0 (by decide)
      have q2 : v 2 = _ := hv 2 (by decide)
      have q7 : v 7 = _ := hv 7 (by decide)
      simp only [fillF, q0, q2, q7, Act.put, List.setIfInBounds_toArray, List.set_cons_zero, List.set_cons_succ, List.length_cons, List.length_nil, Nat.reduceAdd, List.drop_succ_cons, List.drop_zero]
      have hB0 := (pw_below_drewN (Below.refl w2.heap.size w2) nq).trans (hB.mono (pw_below_drewN (Below.refl w2.heap.size w2) nq).size)
      have H5 := H2.out.below hB0
      have K5 := Aside0.mk (K2.out.trans (Keep.of_below (F := HF p B) hB0))
      have SC := Aside0.mk (Set_calls H5 rd (reckF by_ A I))
      clear hv hB hB0 q0 q2 q7 cD cO zD zO hD hO c0 c1 cA cB zp H2 K2 H5 RC
      go_wp2_with fail
      refine SC.out.mono ?_
      rintro e w6 ⟨rfl, h6, k6⟩
      have c1 := h6.c1
      have c0 := h6.c0
      have zp := h6.lt
      have fz := frozen_of_row w6 p 1 _ 175 h6.head
      have H6 := Aside0.mk (h6.setPC (IntKind.u64.wrap (PC + 4)))
      have K6 := Aside0.mk ((K5.out.trans k6).trans (Keep.setCell (F := HF p B) (a := ⟨p, 1, none⟩) (.int .u64 (IntKind.u64.wrap (PC + 4))) (.inl rfl)))
      clear h6 k6 K5 SC
      go_wp2
      exact bodyPost_ret (v := .int .i64 0) (by simp [results, Tryz.results103, go_sem]) rfl ⟨by rw [← HR2.out], ⟨m, HM.out, by rw [← HR2.out]; exact H6.out⟩, K6.out⟩
set_option maxHeartbeats 8000000 in
set_option maxRecDepth 100000 in
theorem step_sys {w : World} {p n : Nat} {B : HB} {S : HartS} (h : HartIs w p B n S) (hG : GoodH S) (hn : n < maxLen) (nm by_ : ByteArray) (num : Bool) (rd imm : Int) (ra rb : Nat) (hra : (ra : Int) < 32) (hrb : (rb : Int) < 32) (hnx : nextF S = (⟨⟨nm, rd, ra, rb, imm⟩, by_, num⟩, 0)) (hd : GoodD ⟨⟨nm, rd, ra, rb, imm⟩, by_, num⟩)
    (hnm : nm = ⟨#[101, 99, 97, 108, 108]⟩ ∨ nm = ⟨#[101, 98, 114, 101, 97, 107]⟩)
    (R : HartS × Int) (hR : execF S ⟨⟨nm, rd, ra, rb, imm⟩, by_, num⟩ (S.ra ra) (S.ra rb) (IntKind.u64.wrap imm) (IntKind.u64.wrap (S.pc + 4)) = R) :
    Calls Tryz.prog 103 #[.pointer (some ⟨p, 0, none⟩)] w fun e w' => e = .returned (.int .i64 R.2) ∧ (∃ m, m ≤ n + 1 ∧ HartIs w' p B m R.1) ∧ Keep (HF p B) w w' := by
  have HC : Aside0 (clsF nm = 0) := Aside0.mk (by rcases hnm with rfl | rfl <;> decide +kernel)
  have HNM := Aside0.mk hnm
  clear hnm
  have NC := Aside0.mk (next_calls h hG hn)
  rw [hnx] at NC
  have HR := Aside0.mk hR
  have HG := Aside0.mk hG
  have HD := Aside0.mk hd
  clear hd
  clear h hR hnx hG
  go_enter Tryz.func103, Tryz.ntmps103
  go_wp2_with fail
  refine NC.out.mono ?_
  rintro e w1 ⟨rfl, ⟨m, hm, h1⟩, K1⟩
  simp only [Done.val]
  have H1 := Aside0.mk h1
  have HK1 := Aside0.mk K1
  have HM := Aside0.mk hm
  clear NC h1 K1 hm
  go_wp2_with fail
  have hD := blk_alloc (heap_alloc_last w1 (.cells #[.string nm, .int .i64 rd, .int .i64 ra, .int .i64 rb, .int .i64 imm, .string by_, .bool num] 219)) (.cells #[.string nm, .int .i64 rd, .int .i64 ra, .int .i64 rb, .int .i64 imm] 130)
  have hO := heap_alloc_at (w1.alloc (.cells #[.string nm, .int .i64 rd, .int .i64 ra, .int .i64 rb, .int .i64 imm, .string by_, .bool num] 219)) (.cells #[.string nm, .int .i64 rd, .int .i64 ra, .int .i64 rb, .int .i64 imm] 130) (n := w1.heap.size + 1) (by simp)
  have B2 := below_alloc (below_alloc (Below.refl w1.heap.size w1) (.cells #[.string nm, .int .i64 rd, .int .i64 ra, .int .i64 rb, .int .i64 imm, .string by_, .bool num] 219)) (.cells #[.string nm, .int .i64 rd, .int .i64 ra, .int .i64 rb, .int .i64 imm] 130)
  generalize (w1.alloc (.cells #[.string nm, .int .i64 rd, .int .i64 ra, .int .i64 rb, .int .i64 imm, .string by_, .bool num] 219)).alloc (.cells #[.string nm, .int .i64 rd, .int .i64 ra, .int .i64 rb, .int .i64 imm] 130) = w2 at *
  have hO1 : w1.heap.size + 1 ≠ p := by have := H1.out.lt; omega
  have hD1 : w1.heap.size ≠ p := by have := H1.out.lt; omega
  obtain ⟨O, hOe⟩ : ∃ O, w1.heap.size + 1 = O := ⟨_, rfl⟩
  obtain ⟨D, hDe⟩ : ∃ D, w1.heap.size = D := ⟨_, rfl⟩
  rw [hOe] at hO hO1 ⊢
  rw [hDe] at hD hD1 ⊢
  have H2 := Aside0.mk (H1.out.below B2)
  have K2 := Aside0.mk (HK1.out.trans (Keep.of_below (F := HF p B) B2))
  clear hOe hDe B2 H1 HK1
  obtain ⟨A, hA⟩ : ∃ A, S.regs.getD ra 0 = A := ⟨_, rfl⟩
  obtain ⟨Bv, hBv⟩ : ∃ Bv, S.regs.getD rb 0 = Bv := ⟨_, rfl⟩
  obtain ⟨I, hI⟩ : ∃ I, IntKind.u64.wrap imm = I := ⟨_, rfl⟩
  obtain ⟨PC, hPC⟩ : ∃ PC, S.pc = PC := ⟨_, rfl⟩
  have cA := H2.out.cr (i := ra) (by omega)
  have cB := H2.out.cr (i := rb) (by omega)
  have c0 := H2.out.c0
  have c1 := H2.out.c1
  have zp := H2.out.lt
  have cD := blk_cell hD
  have zD := blk_lt hD
  have cO := blk_cell hO
  have zO := blk_lt hO
  have ra0 : (0 : Int) ≤ (ra : Int) := Int.natCast_nonneg ra
  have rb0 : (0 : Int) ≤ (rb : Int) := Int.natCast_nonneg rb
  simp only [HartS.ra, Int.toNat_natCast, hA, hBv, hI, hPC] at HR
  rw [hA] at cA
  rw [hBv] at cB
  rw [hPC] at c1
  have HA := Aside0.mk hA
  have HB := Aside0.mk hBv
  have HP := Aside0.mk hPC
  clear hA hBv hPC
  have UA := Aside0.mk (show U64 A by rw [← HA.out]; exact ra_u64 HG.out _)
  have UB := Aside0.mk (show U64 Bv by rw [← HB.out]; exact ra_u64 HG.out _)
  have UI := Aside0.mk (show U64 I by rw [← hI]; exact wrap_range _)
  have HI := Aside0.mk hI
  have hR := HR.out
  unfold execF at hR
  simp only [HC.out, HP.out] at hR
  have HR2 := Aside0.mk hR
  clear HA HB HI hR HR
  go_quiet (fail)
  clear hI
  have hnm := HNM.out
  clear HNM
  rcases hnm with rfl | rfl
  all_goals
    have hB0 := pw_below_drewN (Below.refl w2.heap.size w2) nq
    have H5 := H2.out.below hB0
    have K5 := Aside0.mk (K2.out.trans (Keep.of_below (F := HF p B) hB0))
    clear H2 K2
    have H6 := Aside0.mk H5
    clear H5 hB0
    go_wp2
    exact bodyPost_ret (v := .int .i64 260) (by simp [results, Tryz.results103, go_sem]) rfl ⟨by rw [← HR2.out], ⟨m, HM.out, by rw [← HR2.out]; exact H6.out⟩, K5.out⟩
set_option maxHeartbeats 8000000 in
set_option maxRecDepth 100000 in
theorem step_lui {w : World} {p n : Nat} {B : HB} {S : HartS} (h : HartIs w p B n S) (hG : GoodH S) (hn : n < maxLen) (nm by_ : ByteArray) (num : Bool) (rd imm : Int) (ra rb : Nat) (hra : (ra : Int) < 32) (hrb : (rb : Int) < 32) (hnx : nextF S = (⟨⟨nm, rd, ra, rb, imm⟩, by_, num⟩, 0)) (hd : GoodD ⟨⟨nm, rd, ra, rb, imm⟩, by_, num⟩)
    (hnm : nm = ⟨#[108, 117, 105]⟩)
    (R : HartS × Int) (hR : execF S ⟨⟨nm, rd, ra, rb, imm⟩, by_, num⟩ (S.ra ra) (S.ra rb) (IntKind.u64.wrap imm) (IntKind.u64.wrap (S.pc + 4)) = R) :
    Calls Tryz.prog 103 #[.pointer (some ⟨p, 0, none⟩)] w fun e w' => e = .returned (.int .i64 R.2) ∧ (∃ m, m ≤ n + 1 ∧ HartIs w' p B m R.1) ∧ Keep (HF p B) w w' := by
  have HC : Aside0 (clsF nm = 4) := Aside0.mk (by rcases hnm with rfl <;> decide +kernel)
  have HNM := Aside0.mk hnm
  clear hnm
  have NC := Aside0.mk (next_calls h hG hn)
  rw [hnx] at NC
  have HR := Aside0.mk hR
  have HG := Aside0.mk hG
  have HD := Aside0.mk hd
  clear hd
  clear h hR hnx hG
  go_enter Tryz.func103, Tryz.ntmps103
  go_wp2_with fail
  refine NC.out.mono ?_
  rintro e w1 ⟨rfl, ⟨m, hm, h1⟩, K1⟩
  simp only [Done.val]
  have H1 := Aside0.mk h1
  have HK1 := Aside0.mk K1
  have HM := Aside0.mk hm
  clear NC h1 K1 hm
  go_wp2_with fail
  have hD := blk_alloc (heap_alloc_last w1 (.cells #[.string nm, .int .i64 rd, .int .i64 ra, .int .i64 rb, .int .i64 imm, .string by_, .bool num] 219)) (.cells #[.string nm, .int .i64 rd, .int .i64 ra, .int .i64 rb, .int .i64 imm] 130)
  have hO := heap_alloc_at (w1.alloc (.cells #[.string nm, .int .i64 rd, .int .i64 ra, .int .i64 rb, .int .i64 imm, .string by_, .bool num] 219)) (.cells #[.string nm, .int .i64 rd, .int .i64 ra, .int .i64 rb, .int .i64 imm] 130) (n := w1.heap.size + 1) (by simp)
  have B2 := below_alloc (below_alloc (Below.refl w1.heap.size w1) (.cells #[.string nm, .int .i64 rd, .int .i64 ra, .int .i64 rb, .int .i64 imm, .string by_, .bool num] 219)) (.cells #[.string nm, .int .i64 rd, .int .i64 ra, .int .i64 rb, .int .i64 imm] 130)
  generalize (w1.alloc (.cells #[.string nm, .int .i64 rd, .int .i64 ra, .int .i64 rb, .int .i64 imm, .string by_, .bool num] 219)).alloc (.cells #[.string nm, .int .i64 rd, .int .i64 ra, .int .i64 rb, .int .i64 imm] 130) = w2 at *
  have hO1 : w1.heap.size + 1 ≠ p := by have := H1.out.lt; omega
  have hD1 : w1.heap.size ≠ p := by have := H1.out.lt; omega
  obtain ⟨O, hOe⟩ : ∃ O, w1.heap.size + 1 = O := ⟨_, rfl⟩
  obtain ⟨D, hDe⟩ : ∃ D, w1.heap.size = D := ⟨_, rfl⟩
  rw [hOe] at hO hO1 ⊢
  rw [hDe] at hD hD1 ⊢
  have H2 := Aside0.mk (H1.out.below B2)
  have K2 := Aside0.mk (HK1.out.trans (Keep.of_below (F := HF p B) B2))
  clear hOe hDe B2 H1 HK1
  obtain ⟨A, hA⟩ : ∃ A, S.regs.getD ra 0 = A := ⟨_, rfl⟩
  obtain ⟨Bv, hBv⟩ : ∃ Bv, S.regs.getD rb 0 = Bv := ⟨_, rfl⟩
  obtain ⟨I, hI⟩ : ∃ I, IntKind.u64.wrap imm = I := ⟨_, rfl⟩
  obtain ⟨PC, hPC⟩ : ∃ PC, S.pc = PC := ⟨_, rfl⟩
  have cA := H2.out.cr (i := ra) (by omega)
  have cB := H2.out.cr (i := rb) (by omega)
  have c0 := H2.out.c0
  have c1 := H2.out.c1
  have zp := H2.out.lt
  have cD := blk_cell hD
  have zD := blk_lt hD
  have cO := blk_cell hO
  have zO := blk_lt hO
  have ra0 : (0 : Int) ≤ (ra : Int) := Int.natCast_nonneg ra
  have rb0 : (0 : Int) ≤ (rb : Int) := Int.natCast_nonneg rb
  simp only [HartS.ra, Int.toNat_natCast, hA, hBv, hI, hPC] at HR
  rw [hA] at cA
  rw [hBv] at cB
  rw [hPC] at c1
  have HA := Aside0.mk hA
  have HB := Aside0.mk hBv
  have HP := Aside0.mk hPC
  clear hA hBv hPC
  have UA := Aside0.mk (show U64 A by rw [← HA.out]; exact ra_u64 HG.out _)
  have UB := Aside0.mk (show U64 Bv by rw [← HB.out]; exact ra_u64 HG.out _)
  have UI := Aside0.mk (show U64 I by rw [← hI]; exact wrap_range _)
  have HI := Aside0.mk hI
  have hR := HR.out
  unfold execF at hR
  simp only [HC.out, HP.out] at hR
  have HR2 := Aside0.mk hR
  clear HA HB HI hR HR
  go_quiet (fail)
  clear hI
  have hnm := HNM.out
  clear HNM
  rcases hnm with rfl
  all_goals
    have hB0 := pw_below_drewN (Below.refl w2.heap.size w2) nq
    have H5 := H2.out.below hB0
    have K5 := Aside0.mk (K2.out.trans (Keep.of_below (F := HF p B) hB0))
    have SC := Aside0.mk (Set_calls H5 rd (IntKind.u64.wrap (I * 4096)))
    clear hB0 zp H2 K2 H5
    go_wp2_with fail
    refine SC.out.mono ?_
    rintro e w6 ⟨rfl, h6, k6⟩
    have c1 := h6.c1
    have c0 := h6.c0
    have zp := h6.lt
    have fz := frozen_of_row w6 p 1 _ 175 h6.head
    skip
    have H6 := Aside0.mk (h6.setPC (IntKind.u64.wrap (PC + 4)))
    have K6 := Aside0.mk ((K5.out.trans k6).trans (Keep.setCell (F := HF p B) (a := ⟨p, 1, none⟩) (.int .u64 (IntKind.u64.wrap (PC + 4))) (.inl rfl)))
    clear h6 k6 K5 SC
    go_wp2
    exact bodyPost_ret (v := .int .i64 0) (by simp [results, Tryz.results103, go_sem]) rfl ⟨by rw [← HR2.out], ⟨m, HM.out, by rw [← HR2.out]; exact H6.out⟩, K6.out⟩
set_option maxHeartbeats 8000000 in
set_option maxRecDepth 100000 in
theorem step_auipc {w : World} {p n : Nat} {B : HB} {S : HartS} (h : HartIs w p B n S) (hG : GoodH S) (hn : n < maxLen) (nm by_ : ByteArray) (num : Bool) (rd imm : Int) (ra rb : Nat) (hra : (ra : Int) < 32) (hrb : (rb : Int) < 32) (hnx : nextF S = (⟨⟨nm, rd, ra, rb, imm⟩, by_, num⟩, 0)) (hd : GoodD ⟨⟨nm, rd, ra, rb, imm⟩, by_, num⟩)
    (hnm : nm = ⟨#[97, 117, 105, 112, 99]⟩)
    (R : HartS × Int) (hR : execF S ⟨⟨nm, rd, ra, rb, imm⟩, by_, num⟩ (S.ra ra) (S.ra rb) (IntKind.u64.wrap imm) (IntKind.u64.wrap (S.pc + 4)) = R) :
    Calls Tryz.prog 103 #[.pointer (some ⟨p, 0, none⟩)] w fun e w' => e = .returned (.int .i64 R.2) ∧ (∃ m, m ≤ n + 1 ∧ HartIs w' p B m R.1) ∧ Keep (HF p B) w w' := by
  have HC : Aside0 (clsF nm = 5) := Aside0.mk (by rcases hnm with rfl <;> decide +kernel)
  have HNM := Aside0.mk hnm
  clear hnm
  have NC := Aside0.mk (next_calls h hG hn)
  rw [hnx] at NC
  have HR := Aside0.mk hR
  have HG := Aside0.mk hG
  have HD := Aside0.mk hd
  clear hd
  clear h hR hnx hG
  go_enter Tryz.func103, Tryz.ntmps103
  go_wp2_with fail
  refine NC.out.mono ?_
  rintro e w1 ⟨rfl, ⟨m, hm, h1⟩, K1⟩
  simp only [Done.val]
  have H1 := Aside0.mk h1
  have HK1 := Aside0.mk K1
  have HM := Aside0.mk hm
  clear NC h1 K1 hm
  go_wp2_with fail
  have hD := blk_alloc (heap_alloc_last w1 (.cells #[.string nm, .int .i64 rd, .int .i64 ra, .int .i64 rb, .int .i64 imm, .string by_, .bool num] 219)) (.cells #[.string nm, .int .i64 rd, .int .i64 ra, .int .i64 rb, .int .i64 imm] 130)
  have hO := heap_alloc_at (w1.alloc (.cells #[.string nm, .int .i64 rd, .int .i64 ra, .int .i64 rb, .int .i64 imm, .string by_, .bool num] 219)) (.cells #[.string nm, .int .i64 rd, .int .i64 ra, .int .i64 rb, .int .i64 imm] 130) (n := w1.heap.size + 1) (by simp)
  have B2 := below_alloc (below_alloc (Below.refl w1.heap.size w1) (.cells #[.string nm, .int .i64 rd, .int .i64 ra, .int .i64 rb, .int .i64 imm, .string by_, .bool num] 219)) (.cells #[.string nm, .int .i64 rd, .int .i64 ra, .int .i64 rb, .int .i64 imm] 130)
  generalize (w1.alloc (.cells #[.string nm, .int .i64 rd, .int .i64 ra, .int .i64 rb, .int .i64 imm, .string by_, .bool num] 219)).alloc (.cells #[.string nm, .int .i64 rd, .int .i64 ra, .int .i64 rb, .int .i64 imm] 130) = w2 at *
  have hO1 : w1.heap.size + 1 ≠ p := by have := H1.out.lt; omega
  have hD1 : w1.heap.size ≠ p := by have := H1.out.lt; omega
  obtain ⟨O, hOe⟩ : ∃ O, w1.heap.size + 1 = O := ⟨_, rfl⟩
  obtain ⟨D, hDe⟩ : ∃ D, w1.heap.size = D := ⟨_, rfl⟩
  rw [hOe] at hO hO1 ⊢
  rw [hDe] at hD hD1 ⊢
  have H2 := Aside0.mk (H1.out.below B2)
  have K2 := Aside0.mk (HK1.out.trans (Keep.of_below (F := HF p B) B2))
  clear hOe hDe B2 H1 HK1
  obtain ⟨A, hA⟩ : ∃ A, S.regs.getD ra 0 = A := ⟨_, rfl⟩
  obtain ⟨Bv, hBv⟩ : ∃ Bv, S.regs.getD rb 0 = Bv := ⟨_, rfl⟩
  obtain ⟨I, hI⟩ : ∃ I, IntKind.u64.wrap imm = I := ⟨_, rfl⟩
  obtain ⟨PC, hPC⟩ : ∃ PC, S.pc = PC := ⟨_, rfl⟩
  have cA := H2.out.cr (i := ra) (by omega)
  have cB := H2.out.cr (i := rb) (by omega)
  have c0 := H2.out.c0
  have c1 := H2.out.c1
  have zp := H2.out.lt
  have cD := blk_cell hD
  have zD := blk_lt hD
  have cO := blk_cell hO
  have zO := blk_lt hO
  have ra0 : (0 : Int) ≤ (ra : Int) := Int.natCast_nonneg ra
  have rb0 : (0 : Int) ≤ (rb : Int) := Int.natCast_nonneg rb
  simp only [HartS.ra, Int.toNat_natCast, hA, hBv, hI, hPC] at HR
  rw [hA] at cA
  rw [hBv] at cB
  rw [hPC] at c1
  have HA := Aside0.mk hA
  have HB := Aside0.mk hBv
  have HP := Aside0.mk hPC
  clear hA hBv hPC
  have UA := Aside0.mk (show U64 A by rw [← HA.out]; exact ra_u64 HG.out _)
  have UB := Aside0.mk (show U64 Bv by rw [← HB.out]; exact ra_u64 HG.out _)
  have UI := Aside0.mk (show U64 I by rw [← hI]; exact wrap_range _)
  have HI := Aside0.mk hI
  have hR := HR.out
  unfold execF at hR
  simp only [HC.out, HP.out] at hR
  have HR2 := Aside0.mk hR
  clear HA HB HI hR HR
  go_quiet (fail)
  clear hI
  have hnm := HNM.out
  clear HNM
  rcases hnm with rfl
  all_goals
    go_wp2_with fail
    refine wp_region_grow2 [157, 158, 159, 160, 161, 162, 163, 164, 165, 166] (fun j v w1 => match j with
      | 0 => v = .pointer (some ⟨p, 0, none⟩)
      | 1 => v = .pointer (some ⟨O, 1, none⟩)
      | 2 => v = .int .i64 rd
      | 3 => v = .pointer (some ⟨p, 0, none⟩)
      | 4 => v = .pointer (some ⟨p, 0, none⟩)
      | 5 => v = .pointer (some ⟨p, 1, none⟩)
      | 6 => v = .int .u64 PC
      | 7 => v = .int .u64 I
      | 8 => v = .int .u64 (IntKind.u64.wrap (I * 4096))
      | 9 => v = .int .u64 (IntKind.u64.wrap (PC + IntKind.u64.wrap (I * 4096)))
      | _ => True) (by kernel_rfl) (by kernel_rfl) ?_ ?_ ?_
    · intro j v w1 w2 hv hb
      rcases j with _ | _ | _ | _ | _ | _ | _ | _ | _ | _ | j <;> first | exact hv | trivial
    · refine ⟨?_, ?_, ?_, ?_, ?_, ?_, ?_, ?_, ?_, ?_, trivial⟩
      all_goals
        intro a w5 hB hoth hdep
        have hB0 := (pw_below_drewN (Below.refl w2.heap.size w2) nq).trans (hB.mono (pw_below_drewN (Below.refl w2.heap.size w2) nq).size)
        have H5 := H2.out.below hB0
        have c1 := H5.c1
        rw [HP.out] at c1
        have zp := H5.lt
        have cO := blk_cell (blk_below hO hB0)
        have zO := blk_lt (blk_below hO hB0)
        have h0 := hoth 0 (by decide)
        have h5 := hoth 5 (by decide)
        have h8 := hoth 8 (by decide)
        clear hoth hB hB0 HR2 H2 K2 HG HP HM HC hD hO H5 c0 cA cB cD zD
        simp [bd1, bd2, bd3, bd5, bd6] at hdep h0 h5 h8
        simp only [StepTo, Oper.grows]
        go_simp
        all_goals first
          | exact Below.refl _ _
          | exact ⟨Below.refl _ _, rfl⟩
          | exact ⟨Below.refl _ _, hdep.1⟩
          | skip
    · intro v w5 hB hv
      have q0 : v 0 = _ := hv 0 (by decide)
      have q2 : v 2 = _ := hv 2 (by decide)
      have q9 : v 9 = _ := hv 9 (by decide)
      simp only [fillF, q0, q2, q9, Act.put, List.setIfInBounds_toArray, List.set_cons_zero, List.set_cons_succ, List.length_cons, List.length_nil, Nat.reduceAdd, List.drop_succ_cons, List.drop_zero]
      have hB0 := (pw_below_drewN (Below.refl w2.heap.size w2) nq).trans (hB.mono (pw_below_drewN (Below.refl w2.heap.size w2) nq).size)
      have H5 := H2.out.below hB0
      have K5 := Aside0.mk (K2.out.trans (Keep.of_below (F := HF p B) hB0))
      have SC := Aside0.mk (Set_calls H5 rd (IntKind.u64.wrap (PC + IntKind.u64.wrap (I * 4096))))
      clear hv hB hB0 q0 q2 q9 cD cO zD zO hD hO c0 c1 cA cB zp H2 K2 H5
      go_wp2_with fail
      refine SC.out.mono ?_
      rintro e w6 ⟨rfl, h6, k6⟩
      have c1 := h6.c1
      have c0 := h6.c0
      have zp := h6.lt
      have fz := frozen_of_row w6 p 1 _ 175 h6.head
      skip
      have H6 := Aside0.mk (h6.setPC (IntKind.u64.wrap (PC + 4)))
      have K6 := Aside0.mk ((K5.out.trans k6).trans (Keep.setCell (F := HF p B) (a := ⟨p, 1, none⟩) (.int .u64 (IntKind.u64.wrap (PC + 4))) (.inl rfl)))
      clear h6 k6 K5 SC
      go_wp2
      exact bodyPost_ret (v := .int .i64 0) (by simp [results, Tryz.results103, go_sem]) rfl ⟨by rw [← HR2.out], ⟨m, HM.out, by rw [← HR2.out]; exact H6.out⟩, K6.out⟩
set_option maxHeartbeats 8000000 in
set_option maxRecDepth 100000 in
theorem step_jal {w : World} {p n : Nat} {B : HB} {S : HartS} (h : HartIs w p B n S) (hG : GoodH S) (hn : n < maxLen) (nm by_ : ByteArray) (num : Bool) (rd imm : Int) (ra rb : Nat) (hra : (ra : Int) < 32) (hrb : (rb : Int) < 32) (hnx : nextF S = (⟨⟨nm, rd, ra, rb, imm⟩, by_, num⟩, 0)) (hd : GoodD ⟨⟨nm, rd, ra, rb, imm⟩, by_, num⟩)
    (hnm : nm = ⟨#[106, 97, 108]⟩)
    (R : HartS × Int) (hR : execF S ⟨⟨nm, rd, ra, rb, imm⟩, by_, num⟩ (S.ra ra) (S.ra rb) (IntKind.u64.wrap imm) (IntKind.u64.wrap (S.pc + 4)) = R) :
    Calls Tryz.prog 103 #[.pointer (some ⟨p, 0, none⟩)] w fun e w' => e = .returned (.int .i64 R.2) ∧ (∃ m, m ≤ n + 1 ∧ HartIs w' p B m R.1) ∧ Keep (HF p B) w w' := by
  have HC : Aside0 (clsF nm = 6) := Aside0.mk (by rcases hnm with rfl <;> decide +kernel)
  have HNM := Aside0.mk hnm
  clear hnm
  have NC := Aside0.mk (next_calls h hG hn)
  rw [hnx] at NC
  have HR := Aside0.mk hR
  have HG := Aside0.mk hG
  have HD := Aside0.mk hd
  clear hd
  clear h hR hnx hG
  go_enter Tryz.func103, Tryz.ntmps103
  go_wp2_with fail
  refine NC.out.mono ?_
  rintro e w1 ⟨rfl, ⟨m, hm, h1⟩, K1⟩
  simp only [Done.val]
  have H1 := Aside0.mk h1
  have HK1 := Aside0.mk K1
  have HM := Aside0.mk hm
  clear NC h1 K1 hm
  go_wp2_with fail
  have hD := blk_alloc (heap_alloc_last w1 (.cells #[.string nm, .int .i64 rd, .int .i64 ra, .int .i64 rb, .int .i64 imm, .string by_, .bool num] 219)) (.cells #[.string nm, .int .i64 rd, .int .i64 ra, .int .i64 rb, .int .i64 imm] 130)
  have hO := heap_alloc_at (w1.alloc (.cells #[.string nm, .int .i64 rd, .int .i64 ra, .int .i64 rb, .int .i64 imm, .string by_, .bool num] 219)) (.cells #[.string nm, .int .i64 rd, .int .i64 ra, .int .i64 rb, .int .i64 imm] 130) (n := w1.heap.size + 1) (by simp)
  have B2 := below_alloc (below_alloc (Below.refl w1.heap.size w1) (.cells #[.string nm, .int .i64 rd, .int .i64 ra, .int .i64 rb, .int .i64 imm, .string by_, .bool num] 219)) (.cells #[.string nm, .int .i64 rd, .int .i64 ra, .int .i64 rb, .int .i64 imm] 130)
  generalize (w1.alloc (.cells #[.string nm, .int .i64 rd, .int .i64 ra, .int .i64 rb, .int .i64 imm, .string by_, .bool num] 219)).alloc (.cells #[.string nm, .int .i64 rd, .int .i64 ra, .int .i64 rb, .int .i64 imm] 130) = w2 at *
  have hO1 : w1.heap.size + 1 ≠ p := by have := H1.out.lt; omega
  have hD1 : w1.heap.size ≠ p := by have := H1.out.lt; omega
  obtain ⟨O, hOe⟩ : ∃ O, w1.heap.size + 1 = O := ⟨_, rfl⟩
  obtain ⟨D, hDe⟩ : ∃ D, w1.heap.size = D := ⟨_, rfl⟩
  rw [hOe] at hO hO1 ⊢
  rw [hDe] at hD hD1 ⊢
  have H2 := Aside0.mk (H1.out.below B2)
  have K2 := Aside0.mk (HK1.out.trans (Keep.of_below (F := HF p B) B2))
  clear hOe hDe B2 H1 HK1
  obtain ⟨A, hA⟩ : ∃ A, S.regs.getD ra 0 = A := ⟨_, rfl⟩
  obtain ⟨Bv, hBv⟩ : ∃ Bv, S.regs.getD rb 0 = Bv := ⟨_, rfl⟩
  obtain ⟨I, hI⟩ : ∃ I, IntKind.u64.wrap imm = I := ⟨_, rfl⟩
  obtain ⟨PC, hPC⟩ : ∃ PC, S.pc = PC := ⟨_, rfl⟩
  have cA := H2.out.cr (i := ra) (by omega)
  have cB := H2.out.cr (i := rb) (by omega)
  have c0 := H2.out.c0
  have c1 := H2.out.c1
  have zp := H2.out.lt
  have cD := blk_cell hD
  have zD := blk_lt hD
  have cO := blk_cell hO
  have zO := blk_lt hO
  have ra0 : (0 : Int) ≤ (ra : Int) := Int.natCast_nonneg ra
  have rb0 : (0 : Int) ≤ (rb : Int) := Int.natCast_nonneg rb
  simp only [HartS.ra, Int.toNat_natCast, hA, hBv, hI, hPC] at HR
  rw [hA] at cA
  rw [hBv] at cB
  rw [hPC] at c1
  have HA := Aside0.mk hA
  have HB := Aside0.mk hBv
  have HP := Aside0.mk hPC
  clear hA hBv hPC
  have UA := Aside0.mk (show U64 A by rw [← HA.out]; exact ra_u64 HG.out _)
  have UB := Aside0.mk (show U64 Bv by rw [← HB.out]; exact ra_u64 HG.out _)
  have UI := Aside0.mk (show U64 I by rw [← hI]; exact wrap_range _)
  have HI := Aside0.mk hI
  have hR := HR.out
  unfold execF at hR
  simp only [HC.out, HP.out] at hR
  have HR2 := Aside0.mk hR
  clear HA HB HI hR HR
  go_quiet (fail)
  clear hI
  have hnm := HNM.out
  clear HNM
  rcases hnm with rfl
  all_goals
    have hB0 := pw_below_drewN (Below.refl w2.heap.size w2) nq
    have H5 := H2.out.below hB0
    have K5 := Aside0.mk (K2.out.trans (Keep.of_below (F := HF p B) hB0))
    have SC := Aside0.mk (Set_calls H5 rd (IntKind.u64.wrap (PC + 4)))
    clear hB0 zp H2 K2 H5
    go_wp2_with fail
    refine SC.out.mono ?_
    rintro e w6 ⟨rfl, h6, k6⟩
    have c1 := h6.c1
    have c0 := h6.c0
    have zp := h6.lt
    have fz := frozen_of_row w6 p 1 _ 175 h6.head
    rw [put_pc, HP.out] at c1
    have H6 := Aside0.mk (h6.setPC (IntKind.u64.wrap (PC + I)))
    have K6 := Aside0.mk ((K5.out.trans k6).trans (Keep.setCell (F := HF p B) (a := ⟨p, 1, none⟩) (.int .u64 (IntKind.u64.wrap (PC + I))) (.inl rfl)))
    clear h6 k6 K5 SC
    go_wp2
    exact bodyPost_ret (v := .int .i64 0) (by simp [results, Tryz.results103, go_sem]) rfl ⟨by rw [← HR2.out], ⟨m, HM.out, by rw [← HR2.out]; exact H6.out⟩, K6.out⟩
set_option maxHeartbeats 8000000 in
set_option maxRecDepth 100000 in
theorem step_jalr {w : World} {p n : Nat} {B : HB} {S : HartS} (h : HartIs w p B n S) (hG : GoodH S) (hn : n < maxLen) (nm by_ : ByteArray) (num : Bool) (rd imm : Int) (ra rb : Nat) (hra : (ra : Int) < 32) (hrb : (rb : Int) < 32) (hnx : nextF S = (⟨⟨nm, rd, ra, rb, imm⟩, by_, num⟩, 0)) (hd : GoodD ⟨⟨nm, rd, ra, rb, imm⟩, by_, num⟩)
    (hnm : nm = ⟨#[106, 97, 108, 114]⟩)
    (R : HartS × Int) (hR : execF S ⟨⟨nm, rd, ra, rb, imm⟩, by_, num⟩ (S.ra ra) (S.ra rb) (IntKind.u64.wrap imm) (IntKind.u64.wrap (S.pc + 4)) = R) :
    Calls Tryz.prog 103 #[.pointer (some ⟨p, 0, none⟩)] w fun e w' => e = .returned (.int .i64 R.2) ∧ (∃ m, m ≤ n + 1 ∧ HartIs w' p B m R.1) ∧ Keep (HF p B) w w' := by
  have HC : Aside0 (clsF nm = 7) := Aside0.mk (by rcases hnm with rfl <;> decide +kernel)
  have HNM := Aside0.mk hnm
  clear hnm
  have NC := Aside0.mk (next_calls h hG hn)
  rw [hnx] at NC
  have HR := Aside0.mk hR
  have HG := Aside0.mk hG
  have HD := Aside0.mk hd
  clear hd
  clear h hR hnx hG
  go_enter Tryz.func103, Tryz.ntmps103
  go_wp2_with fail
  refine NC.out.mono ?_
  rintro e w1 ⟨rfl, ⟨m, hm, h1⟩, K1⟩
  simp only [Done.val]
  have H1 := Aside0.mk h1
  have HK1 := Aside0.mk K1
  have HM := Aside0.mk hm
  clear NC h1 K1 hm
  go_wp2_with fail
  have hD := blk_alloc (heap_alloc_last w1 (.cells #[.string nm, .int .i64 rd, .int .i64 ra, .int .i64 rb, .int .i64 imm, .string by_, .bool num] 219)) (.cells #[.string nm, .int .i64 rd, .int .i64 ra, .int .i64 rb, .int .i64 imm] 130)
  have hO := heap_alloc_at (w1.alloc (.cells #[.string nm, .int .i64 rd, .int .i64 ra, .int .i64 rb, .int .i64 imm, .string by_, .bool num] 219)) (.cells #[.string nm, .int .i64 rd, .int .i64 ra, .int .i64 rb, .int .i64 imm] 130) (n := w1.heap.size + 1) (by simp)
  have B2 := below_alloc (below_alloc (Below.refl w1.heap.size w1) (.cells #[.string nm, .int .i64 rd, .int .i64 ra, .int .i64 rb, .int .i64 imm, .string by_, .bool num] 219)) (.cells #[.string nm, .int .i64 rd, .int .i64 ra, .int .i64 rb, .int .i64 imm] 130)
  generalize (w1.alloc (.cells #[.string nm, .int .i64 rd, .int .i64 ra, .int .i64 rb, .int .i64 imm, .string by_, .bool num] 219)).alloc (.cells #[.string nm, .int .i64 rd, .int .i64 ra, .int .i64 rb, .int .i64 imm] 130) = w2 at *
  have hO1 : w1.heap.size + 1 ≠ p := by have := H1.out.lt; omega
  have hD1 : w1.heap.size ≠ p := by have := H1.out.lt; omega
  obtain ⟨O, hOe⟩ : ∃ O, w1.heap.size + 1 = O := ⟨_, rfl⟩
  obtain ⟨D, hDe⟩ : ∃ D, w1.heap.size = D := ⟨_, rfl⟩
  rw [hOe] at hO hO1 ⊢
  rw [hDe] at hD hD1 ⊢
  have H2 := Aside0.mk (H1.out.below B2)
  have K2 := Aside0.mk (HK1.out.trans (Keep.of_below (F := HF p B) B2))
  clear hOe hDe B2 H1 HK1
  obtain ⟨A, hA⟩ : ∃ A, S.regs.getD ra 0 = A := ⟨_, rfl⟩
  obtain ⟨Bv, hBv⟩ : ∃ Bv, S.regs.getD rb 0 = Bv := ⟨_, rfl⟩
  obtain ⟨I, hI⟩ : ∃ I, IntKind.u64.wrap imm = I := ⟨_, rfl⟩
  obtain ⟨PC, hPC⟩ : ∃ PC, S.pc = PC := ⟨_, rfl⟩
  have cA := H2.out.cr (i := ra) (by omega)
  have cB := H2.out.cr (i := rb) (by omega)
  have c0 := H2.out.c0
  have c1 := H2.out.c1
  have zp := H2.out.lt
  have cD := blk_cell hD
  have zD := blk_lt hD
  have cO := blk_cell hO
  have zO := blk_lt hO
  have ra0 : (0 : Int) ≤ (ra : Int) := Int.natCast_nonneg ra
  have rb0 : (0 : Int) ≤ (rb : Int) := Int.natCast_nonneg rb
  simp only [HartS.ra, Int.toNat_natCast, hA, hBv, hI, hPC] at HR
  rw [hA] at cA
  rw [hBv] at cB
  rw [hPC] at c1
  have HA := Aside0.mk hA
  have HB := Aside0.mk hBv
  have HP := Aside0.mk hPC
  clear hA hBv hPC
  have UA := Aside0.mk (show U64 A by rw [← HA.out]; exact ra_u64 HG.out _)
  have UB := Aside0.mk (show U64 Bv by rw [← HB.out]; exact ra_u64 HG.out _)
  have UI := Aside0.mk (show U64 I by rw [← hI]; exact wrap_range _)
  have HI := Aside0.mk hI
  have hR := HR.out
  unfold execF at hR
  simp only [HC.out, HP.out] at hR
  have HR2 := Aside0.mk hR
  clear HA HB HI hR HR
  go_quiet (fail)
  clear hI
  have hnm := HNM.out
  clear HNM
  rcases hnm with rfl
  all_goals
    have hB0 := pw_below_drewN (Below.refl w2.heap.size w2) nq
    have H5 := H2.out.below hB0
    have K5 := Aside0.mk (K2.out.trans (Keep.of_below (F := HF p B) hB0))
    have SC := Aside0.mk (Set_calls H5 rd (IntKind.u64.wrap (PC + 4)))
    clear hB0 zp H2 K2 H5
    go_wp2_with fail
    refine SC.out.mono ?_
    rintro e w6 ⟨rfl, h6, k6⟩
    have c1 := h6.c1
    have c0 := h6.c0
    have zp := h6.lt
    have fz := frozen_of_row w6 p 1 _ 175 h6.head
    skip
    have H6 := Aside0.mk (h6.setPC (Go.bits .andNot .u64 (IntKind.u64.wrap (A + I)) 1))
    have K6 := Aside0.mk ((K5.out.trans k6).trans (Keep.setCell (F := HF p B) (a := ⟨p, 1, none⟩) (.int .u64 (Go.bits .andNot .u64 (IntKind.u64.wrap (A + I)) 1)) (.inl rfl)))
    clear h6 k6 K5 SC
    go_wp2
    exact bodyPost_ret (v := .int .i64 0) (by simp [results, Tryz.results103, go_sem]) rfl ⟨by rw [← HR2.out], ⟨m, HM.out, by rw [← HR2.out]; exact H6.out⟩, K6.out⟩
set_option maxHeartbeats 8000000 in
set_option maxRecDepth 100000 in
theorem step_branch {w : World} {p n : Nat} {B : HB} {S : HartS} (h : HartIs w p B n S) (hG : GoodH S) (hn : n < maxLen) (nm by_ : ByteArray) (num : Bool) (rd imm : Int) (ra rb : Nat) (hra : (ra : Int) < 32) (hrb : (rb : Int) < 32) (hnx : nextF S = (⟨⟨nm, rd, ra, rb, imm⟩, by_, num⟩, 0)) (hd : GoodD ⟨⟨nm, rd, ra, rb, imm⟩, by_, num⟩)
    (hnm : nm = ⟨#[98, 101, 113]⟩ ∨ nm = ⟨#[98, 110, 101]⟩ ∨ nm = ⟨#[98, 108, 116]⟩ ∨ nm = ⟨#[98, 103, 101]⟩ ∨ nm = ⟨#[98, 108, 116, 117]⟩ ∨ nm = ⟨#[98, 103, 101, 117]⟩)
    (R : HartS × Int) (hR : execF S ⟨⟨nm, rd, ra, rb, imm⟩, by_, num⟩ (S.ra ra) (S.ra rb) (IntKind.u64.wrap imm) (IntKind.u64.wrap (S.pc + 4)) = R) :
    Calls Tryz.prog 103 #[.pointer (some ⟨p, 0, none⟩)] w fun e w' => e = .returned (.int .i64 R.2) ∧ (∃ m, m ≤ n + 1 ∧ HartIs w' p B m R.1) ∧ Keep (HF p B) w w' := by
  have HC : Aside0 (clsF nm = 3) := Aside0.mk (by rcases hnm with rfl | rfl | rfl | rfl | rfl | rfl <;> decide +kernel)
  have HNM := Aside0.mk hnm
  clear hnm
  have NC := Aside0.mk (next_calls h hG hn)
  rw [hnx] at NC
  have HR := Aside0.mk hR
  have HG := Aside0.mk hG
  have HD := Aside0.mk hd
  clear hd
  clear h hR hnx hG
  go_enter Tryz.func103, Tryz.ntmps103
  go_wp2_with fail
  refine NC.out.mono ?_
  rintro e w1 ⟨rfl, ⟨m, hm, h1⟩, K1⟩
  simp only [Done.val]
  have H1 := Aside0.mk h1
  have HK1 := Aside0.mk K1
  have HM := Aside0.mk hm
  clear NC h1 K1 hm
  go_wp2_with fail
  have hD := blk_alloc (heap_alloc_last w1 (.cells #[.string nm, .int .i64 rd, .int .i64 ra, .int .i64 rb, .int .i64 imm, .string by_, .bool num] 219)) (.cells #[.string nm, .int .i64 rd, .int .i64 ra, .int .i64 rb, .int .i64 imm] 130)
  have hO := heap_alloc_at (w1.alloc (.cells #[.string nm, .int .i64 rd, .int .i64 ra, .int .i64 rb, .int .i64 imm, .string by_, .bool num] 219)) (.cells #[.string nm, .int .i64 rd, .int .i64 ra, .int .i64 rb, .int .i64 imm] 130) (n := w1.heap.size + 1) (by simp)
  have B2 := below_alloc (below_alloc (Below.refl w1.heap.size w1) (.cells #[.string nm, .int .i64 rd, .int .i64 ra, .int .i64 rb, .int .i64 imm, .string by_, .bool num] 219)) (.cells #[.string nm, .int .i64 rd, .int .i64 ra, .int .i64 rb, .int .i64 imm] 130)
  generalize (w1.alloc (.cells #[.string nm, .int .i64 rd, .int .i64 ra, .int .i64 rb, .int .i64 imm, .string by_, .bool num] 219)).alloc (.cells #[.string nm, .int .i64 rd, .int .i64 ra, .int .i64 rb, .int .i64 imm] 130) = w2 at *
  have hO1 : w1.heap.size + 1 ≠ p := by have := H1.out.lt; omega
  have hD1 : w1.heap.size ≠ p := by have := H1.out.lt; omega
  obtain ⟨O, hOe⟩ : ∃ O, w1.heap.size + 1 = O := ⟨_, rfl⟩
  obtain ⟨D, hDe⟩ : ∃ D, w1.heap.size = D := ⟨_, rfl⟩
  rw [hOe] at hO hO1 ⊢
  rw [hDe] at hD hD1 ⊢
  have H2 := Aside0.mk (H1.out.below B2)
  have K2 := Aside0.mk (HK1.out.trans (Keep.of_below (F := HF p B) B2))
  clear hOe hDe B2 H1 HK1
  obtain ⟨A, hA⟩ : ∃ A, S.regs.getD ra 0 = A := ⟨_, rfl⟩
  obtain ⟨Bv, hBv⟩ : ∃ Bv, S.regs.getD rb 0 = Bv := ⟨_, rfl⟩
  obtain ⟨I, hI⟩ : ∃ I, IntKind.u64.wrap imm = I := ⟨_, rfl⟩
  obtain ⟨PC, hPC⟩ : ∃ PC, S.pc = PC := ⟨_, rfl⟩
  have cA := H2.out.cr (i := ra) (by omega)
  have cB := H2.out.cr (i := rb) (by omega)
  have c0 := H2.out.c0
  have c1 := H2.out.c1
  have zp := H2.out.lt
  have cD := blk_cell hD
  have zD := blk_lt hD
  have cO := blk_cell hO
  have zO := blk_lt hO
  have ra0 : (0 : Int) ≤ (ra : Int) := Int.natCast_nonneg ra
  have rb0 : (0 : Int) ≤ (rb : Int) := Int.natCast_nonneg rb
  simp only [HartS.ra, Int.toNat_natCast, hA, hBv, hI, hPC] at HR
  rw [hA] at cA
  rw [hBv] at cB
  rw [hPC] at c1
  have HA := Aside0.mk hA
  have HB := Aside0.mk hBv
  have HP := Aside0.mk hPC
  clear hA hBv hPC
  have UA := Aside0.mk (show U64 A by rw [← HA.out]; exact ra_u64 HG.out _)
  have UB := Aside0.mk (show U64 Bv by rw [← HB.out]; exact ra_u64 HG.out _)
  have UI := Aside0.mk (show U64 I by rw [← hI]; exact wrap_range _)
  have HI := Aside0.mk hI
  have hR := HR.out
  unfold execF at hR
  simp only [HC.out, HP.out] at hR
  have HR2 := Aside0.mk hR
  clear HA HB HI hR HR
  go_quiet (fail)
  clear hI
  have hnm := HNM.out
  clear HNM
  rcases hnm with rfl | rfl | rfl | rfl | rfl | rfl
  all_goals
    have hB0 := pw_below_drewN (Below.refl w2.heap.size w2) nq
    have H5 := H2.out.below hB0
    have K5 := Aside0.mk (K2.out.trans (Keep.of_below (F := HF p B) hB0))
    have H6 := Aside0.mk H5
    clear hB0 H2 K2 H5
    go_wp2_with fail
    refine (taken_calls _ A Bv _).mono ?_
    rintro e w5 ⟨rfl, hb5⟩
    generalize takenF _ A Bv = TK at *
    have h6 := (H6.out).below hb5
    have K5' := Aside0.mk (K5.out.trans (Keep.of_below (F := HF p B) hb5))
    clear K5 H6 hb5 cD cO zD zO hD hO c0 c1 cA cB zp
    have c1 := h6.c1
    have c0 := h6.c0
    have zp := h6.lt
    have fz := frozen_of_row w5 p 1 _ 175 h6.head
    have c1' := c1
    rw [HP.out] at c1
    cases TK
    · have H6 := Aside0.mk (h6.setPC (IntKind.u64.wrap (PC + 4)))
      have K6 := Aside0.mk (K5'.out.trans (Keep.setCell (F := HF p B) (a := ⟨p, 1, none⟩) (.int .u64 (IntKind.u64.wrap (PC + 4))) (.inl rfl)))
      clear h6 c1'
      go_wp2
      exact bodyPost_ret (v := .int .i64 0) (by simp [results, Tryz.results103, go_sem]) rfl ⟨by rw [← HR2.out], ⟨m, HM.out, by rw [← HR2.out]; exact H6.out⟩, K6.out⟩
    · have H6 := Aside0.mk (h6.setPC (IntKind.u64.wrap (PC + I)))
      have K6 := Aside0.mk (K5'.out.trans (Keep.setCell (F := HF p B) (a := ⟨p, 1, none⟩) (.int .u64 (IntKind.u64.wrap (PC + I))) (.inl rfl)))
      clear h6 c1'
      go_wp2
      exact bodyPost_ret (v := .int .i64 0) (by simp [results, Tryz.results103, go_sem]) rfl ⟨by rw [← HR2.out], ⟨m, HM.out, by rw [← HR2.out]; exact H6.out⟩, K6.out⟩
end Go.Proofs.YtpfcdhjknmijjaaGreat.Ht

namespace Go.Proofs.YtpfcdhjknmijjaaGreat.Ht
open Go.RowKit Go.Maps Go.Proofs.YtpfcdhjknmijjaaGreat.Grow Go.Proofs.YtpfcdhjknmijjaaGreat.Rv Go.Proofs.YtpfcdhjknmijjaaGreat.As Go.Proofs.YtpfcdhjknmijjaaGreat.PHartQuotients
open Go.Proofs.YtpfcdhjknmijjaaGreatW.PrintWords Go.Proofs.YtpfcdhjknmijjaaGreatW.PrintLast Go.Proofs.YtpfcdhjknmijjaaGreatW.PrintMore

theorem widthF_le (nm : ByteArray) : 1 ≤ (widthF nm).1 ∧ (widthF nm).1 ≤ 8 := by
  have j1 : ∀ x y r, hart_width.j1 2 x nm y = some r → 1 ≤ r.1 ∧ r.1 ≤ 8 := fun x y r => by
    rw [hart_width.j1]
    repeat' split
    all_goals
      intro h
      obtain rfl := Option.some.inj h
      refine ⟨?_, ?_⟩ <;> dsimp only <;> decide
  have j0 : ∀ x y r, hart_width.j0 3 x nm y = some r → 1 ≤ r.1 ∧ r.1 ≤ 8 := fun x y r => by
    rw [hart_width.j0]
    repeat' split
    all_goals first | exact j1 _ _ _ | (intro h; obtain rfl := Option.some.inj h; refine ⟨?_, ?_⟩ <;> dsimp only <;> decide)
  have h := widthF_some nm
  revert h
  unfold hart_width.f
  repeat' split
  all_goals first | exact j0 _ _ _ | (intro h; have h := Option.some.inj h; rw [← h]; refine ⟨?_, ?_⟩ <;> dsimp only <;> decide)
set_option maxHeartbeats 8000000 in
set_option maxRecDepth 100000 in
theorem step_load {w : World} {p n : Nat} {B : HB} {S : HartS} (h : HartIs w p B n S) (hG : GoodH S) (hn : n < maxLen) (nm by_ : ByteArray) (num : Bool) (rd imm : Int) (ra rb : Nat) (hra : (ra : Int) < 32) (hrb : (rb : Int) < 32) (hnx : nextF S = (⟨⟨nm, rd, ra, rb, imm⟩, by_, num⟩, 0)) (hd : GoodD ⟨⟨nm, rd, ra, rb, imm⟩, by_, num⟩)
    (hnm : nm = ⟨#[108, 98]⟩ ∨ nm = ⟨#[108, 104]⟩ ∨ nm = ⟨#[108, 119]⟩ ∨ nm = ⟨#[108, 100]⟩ ∨ nm = ⟨#[108, 98, 117]⟩ ∨ nm = ⟨#[108, 104, 117]⟩ ∨ nm = ⟨#[108, 119, 117]⟩)
    (R : HartS × Int) (hR : execF S ⟨⟨nm, rd, ra, rb, imm⟩, by_, num⟩ (S.ra ra) (S.ra rb) (IntKind.u64.wrap imm) (IntKind.u64.wrap (S.pc + 4)) = R) :
    Calls Tryz.prog 103 #[.pointer (some ⟨p, 0, none⟩)] w fun e w' => e = .returned (.int .i64 R.2) ∧ (∃ m, m ≤ n + 1 ∧ HartIs w' p B m R.1) ∧ Keep (HF p B) w w' := by
  have HC : Aside0 (clsF nm = 1) := Aside0.mk (by rcases hnm with rfl | rfl | rfl | rfl | rfl | rfl | rfl <;> decide +kernel)
  have HNM := Aside0.mk hnm
  clear hnm
  have NC := Aside0.mk (next_calls h hG hn)
  rw [hnx] at NC
  have HR := Aside0.mk hR
  have HG := Aside0.mk hG
  have HD := Aside0.mk hd
  clear hd
  clear h hR hnx hG
  go_enter Tryz.func103, Tryz.ntmps103
  go_wp2_with fail
  refine NC.out.mono ?_
  rintro e w1 ⟨rfl, ⟨m, hm, h1⟩, K1⟩
  simp only [Done.val]
  have H1 := Aside0.mk h1
  have HK1 := Aside0.mk K1
  have HM := Aside0.mk hm
  clear NC h1 K1 hm
  go_wp2_with fail
  have hD := blk_alloc (heap_alloc_last w1 (.cells #[.string nm, .int .i64 rd, .int .i64 ra, .int .i64 rb, .int .i64 imm, .string by_, .bool num] 219)) (.cells #[.string nm, .int .i64 rd, .int .i64 ra, .int .i64 rb, .int .i64 imm] 130)
  have hO := heap_alloc_at (w1.alloc (.cells #[.string nm, .int .i64 rd, .int .i64 ra, .int .i64 rb, .int .i64 imm, .string by_, .bool num] 219)) (.cells #[.string nm, .int .i64 rd, .int .i64 ra, .int .i64 rb, .int .i64 imm] 130) (n := w1.heap.size + 1) (by simp)
  have B2 := below_alloc (below_alloc (Below.refl w1.heap.size w1) (.cells #[.string nm, .int .i64 rd, .int .i64 ra, .int .i64 rb, .int .i64 imm, .string by_, .bool num] 219)) (.cells #[.string nm, .int .i64 rd, .int .i64 ra, .int .i64 rb, .int .i64 imm] 130)
  generalize (w1.alloc (.cells #[.string nm, .int .i64 rd, .int .i64 ra, .int .i64 rb, .int .i64 imm, .string by_, .bool num] 219)).alloc (.cells #[.string nm, .int .i64 rd, .int .i64 ra, .int .i64 rb, .int .i64 imm] 130) = w2 at *
  have hO1 : w1.heap.size + 1 ≠ p := by have := H1.out.lt; omega
  have hD1 : w1.heap.size ≠ p := by have := H1.out.lt; omega
  obtain ⟨O, hOe⟩ : ∃ O, w1.heap.size + 1 = O := ⟨_, rfl⟩
  obtain ⟨D, hDe⟩ : ∃ D, w1.heap.size = D := ⟨_, rfl⟩
  rw [hOe] at hO hO1 ⊢
  rw [hDe] at hD hD1 ⊢
  have H2 := Aside0.mk (H1.out.below B2)
  have K2 := Aside0.mk (HK1.out.trans (Keep.of_below (F := HF p B) B2))
  clear hOe hDe B2 H1 HK1
  obtain ⟨A, hA⟩ : ∃ A, S.regs.getD ra 0 = A := ⟨_, rfl⟩
  obtain ⟨Bv, hBv⟩ : ∃ Bv, S.regs.getD rb 0 = Bv := ⟨_, rfl⟩
  obtain ⟨I, hI⟩ : ∃ I, IntKind.u64.wrap imm = I := ⟨_, rfl⟩
  obtain ⟨PC, hPC⟩ : ∃ PC, S.pc = PC := ⟨_, rfl⟩
  have cA := H2.out.cr (i := ra) (by omega)
  have cB := H2.out.cr (i := rb) (by omega)
  have c0 := H2.out.c0
  have c1 := H2.out.c1
  have zp := H2.out.lt
  have cD := blk_cell hD
  have zD := blk_lt hD
  have cO := blk_cell hO
  have zO := blk_lt hO
  have ra0 : (0 : Int) ≤ (ra : Int) := Int.natCast_nonneg ra
  have rb0 : (0 : Int) ≤ (rb : Int) := Int.natCast_nonneg rb
  simp only [HartS.ra, Int.toNat_natCast, hA, hBv, hI, hPC] at HR
  rw [hA] at cA
  rw [hBv] at cB
  rw [hPC] at c1
  have HA := Aside0.mk hA
  have HB := Aside0.mk hBv
  have HP := Aside0.mk hPC
  clear hA hBv hPC
  have UA := Aside0.mk (show U64 A by rw [← HA.out]; exact ra_u64 HG.out _)
  have UB := Aside0.mk (show U64 Bv by rw [← HB.out]; exact ra_u64 HG.out _)
  have UI := Aside0.mk (show U64 I by rw [← hI]; exact wrap_range _)
  have HI := Aside0.mk hI
  have hR := HR.out
  unfold execF at hR
  simp only [HC.out, HP.out] at hR
  have HR2 := Aside0.mk hR
  clear HA HB HI hR HR
  go_quiet (fail)
  clear hI
  obtain ⟨w0, w8⟩ := widthF_le nm
  have WC := Aside0.mk (width_calls nm)
  obtain ⟨N1, hN1⟩ : ∃ N1, (widthF nm).1 = N1 := ⟨_, rfl⟩
  obtain ⟨SG, hSG⟩ : ∃ SG, (widthF nm).2 = SG := ⟨_, rfl⟩
  simp only [hN1, hSG, loadS, widthV] at WC HR2
  rw [hN1] at w0 w8
  clear hN1 hSG
  obtain ⟨AD, hAD⟩ : ∃ AD, IntKind.u64.wrap (A + I) = AD := ⟨_, rfl⟩
  have LC := Aside0.mk (fun (w9 : World) (h9 : HartIs w9 p B m S) => Load_calls (n := N1) h9.mem HG.out.mem HG.out.bytes (wrap_range (A + I)).1 (wrap_range (A + I)).2)
  rw [hAD] at LC HR2
  obtain ⟨LV, hLV⟩ : ∃ LV, (loadF S.mem AD N1).1 = LV := ⟨_, rfl⟩
  obtain ⟨LE, hLE⟩ : ∃ LE, (loadF S.mem AD N1).2 = LE := ⟨_, rfl⟩
  simp only [hLV, hLE] at LC HR2
  clear hLV hLE
  have hnm := HNM.out
  clear HNM
  rcases hnm with rfl | rfl | rfl | rfl | rfl | rfl | rfl
  all_goals
    have hB0 := pw_below_drewN (Below.refl w2.heap.size w2) nq
    have H5 := H2.out.below hB0
    have K5 := Aside0.mk (K2.out.trans (Keep.of_below (F := HF p B) hB0))
    have H6 := Aside0.mk H5
    clear hB0 H2 K2 H5
    go_wp2_with fail
    refine (WC.out _).mono ?_
    rintro e w5 ⟨rfl, hb5⟩
    clear WC
    have h6 := (H6.out).below hb5
    have K6 := Aside0.mk (K5.out.trans (Keep.of_below (F := HF p B) hb5))
    replace cD := blk_cell (blk_below (blk_below hD (pw_below_drewN (Below.refl w2.heap.size w2) nq)) hb5)
    replace zD := blk_lt (blk_below (blk_below hD (pw_below_drewN (Below.refl w2.heap.size w2) nq)) hb5)
    replace hO := blk_below (blk_below hO (pw_below_drewN (Below.refl w2.heap.size w2) nq)) hb5
    clear hD K5 H6 hb5
    replace cO := blk_cell hO
    replace zO := blk_lt hO
    replace c0 := h6.c0
    replace c1 := h6.c1
    replace zp := h6.lt
    have L5 := Aside0.mk (LC.out w5 h6)
    have H6 := Aside0.mk h6
    clear LC cA cB h6
    go_wp2_with fail
    refine L5.out.mono ?_
    rintro e w6 ⟨rfl, hb6⟩
    have h7 := (H6.out).below hb6
    have K7 := Aside0.mk (K6.out.trans (Keep.of_below (F := HF p B) hb6))
    replace hO := blk_below hO hb6
    replace cO := blk_cell hO
    replace zO := blk_lt hO
    replace c0 := h7.c0
    replace c1 := h7.c1
    replace zp := h7.lt
    have H7 := Aside0.mk h7
    clear H6 K6 L5 h7 hb6 cD zD
    by_cases hLE : LE = 0
    · subst hLE
      simp only [if_true] at HR2
      cases SG
      · simp only [Bool.false_eq_true, if_false] at HR2
        have SC := Aside0.mk (Set_calls H7.out rd LV)
        have K5 := Aside0.mk K7.out
        go_wp2_with fail
        refine SC.out.mono ?_
        rintro e w6 ⟨rfl, h6, k6⟩
        have c1 := h6.c1
        have c0 := h6.c0
        have zp := h6.lt
        have fz := frozen_of_row w6 p 1 _ 175 h6.head
        skip
        have H6 := Aside0.mk (h6.setPC (IntKind.u64.wrap (PC + 4)))
        have K6 := Aside0.mk ((K5.out.trans k6).trans (Keep.setCell (F := HF p B) (a := ⟨p, 1, none⟩) (.int .u64 (IntKind.u64.wrap (PC + 4))) (.inl rfl)))
        clear h6 k6 K5 SC
        go_wp2
        exact bodyPost_ret (v := .int .i64 0) (by simp [results, Tryz.results103, go_sem]) rfl ⟨by rw [← HR2.out], ⟨m, HM.out, by rw [← HR2.out]; exact H6.out⟩, K6.out⟩
      · simp only [if_true] at HR2
        have EC := Aside0.mk (ext_calls LV (8 * N1))
        obtain ⟨EV, hEV⟩ : ∃ EV, extF LV (8 * N1) = EV := ⟨_, rfl⟩
        simp only [hEV] at EC HR2
        clear hEV
        go_wp2_with fail
        refine (EC.out _).mono ?_
        rintro e w8 ⟨rfl, hb8⟩
        have SC := Aside0.mk (Set_calls (H7.out.below hb8) rd EV)
        have K5 := Aside0.mk (K7.out.trans (Keep.of_below (F := HF p B) hb8))
        replace hO := blk_below hO hb8
        replace cO := blk_cell hO
        replace zO := blk_lt hO
        replace zp := (H7.out.below hb8).lt
        clear c0 c1 hb8
        go_wp2_with fail
        refine SC.out.mono ?_
        rintro e w6 ⟨rfl, h6, k6⟩
        have c1 := h6.c1
        have c0 := h6.c0
        have zp := h6.lt
        have fz := frozen_of_row w6 p 1 _ 175 h6.head
        skip
        have H6 := Aside0.mk (h6.setPC (IntKind.u64.wrap (PC + 4)))
        have K6 := Aside0.mk ((K5.out.trans k6).trans (Keep.setCell (F := HF p B) (a := ⟨p, 1, none⟩) (.int .u64 (IntKind.u64.wrap (PC + 4))) (.inl rfl)))
        clear h6 k6 K5 SC
        go_wp2
        exact bodyPost_ret (v := .int .i64 0) (by simp [results, Tryz.results103, go_sem]) rfl ⟨by rw [← HR2.out], ⟨m, HM.out, by rw [← HR2.out]; exact H6.out⟩, K6.out⟩
    · simp only [if_neg hLE] at HR2
      go_wp2
      exact bodyPost_ret (v := .int .i64 LE) (by simp [results, Tryz.results103, go_sem]) rfl ⟨by rw [← HR2.out], ⟨m, HM.out, by rw [← HR2.out]; exact H7.out⟩, K7.out⟩
theorem storeF_same (S : MemS) (a n x : Int) : (storeF S a n x).2 ≠ 0 → (storeF S a n x).1 = S := by
  unfold storeF
  split
  · split
    · intro _; rfl
    · intro h; exact absurd rfl h
  · intro _; rfl
theorem HartIs.setMem {w w' : World} {p n : Nat} {B : HB} {S : HartS} {S' : MemS} (h : HartIs w p B n S) (hm : MemIs w' B.mp B.q B.gs S') (k : Keep (MemF B.mp B.gs) w w') : HartIs w' p B n { S with mem := S' } := by
  obtain ⟨cap, m1⟩ := h.mem.head
  obtain ⟨f, s1, s2⟩ := h.seen
  obtain ⟨es, c, sb⟩ := s1.block
  have hh := h.head
  have hb : ∀ j, j ∈ B.gs → ∃ cs, w.heap[j]? = some (.cells cs 5 (0, 0)) := fun j hj => by
    obtain ⟨i, hi, rfl⟩ := List.mem_iff_getElem.1 hj
    exact ⟨_, h.mem.bytes i (by rw [← h.mem.len]; exact hi) hi⟩
  refine ⟨(k.block p h.lt ?_).trans hh, h.len, hm, h.nd, f, s1.kept (k.block B.M h.M_lt ?_), s2⟩
  · rintro (e | e)
    · rw [e, m1] at hh; simp at hh
    · obtain ⟨cs, e'⟩ := hb _ e
      rw [e'] at hh; simp at hh
  · rintro (e | e)
    · rw [e, m1] at sb; simp at sb
    · obtain ⟨cs, e'⟩ := hb _ e
      rw [e'] at sb; simp at sb
set_option maxHeartbeats 8000000 in
set_option maxRecDepth 100000 in
theorem step_store {w : World} {p n : Nat} {B : HB} {S : HartS} (h : HartIs w p B n S) (hG : GoodH S) (hn : n < maxLen) (nm by_ : ByteArray) (num : Bool) (rd imm : Int) (ra rb : Nat) (hra : (ra : Int) < 32) (hrb : (rb : Int) < 32) (hnx : nextF S = (⟨⟨nm, rd, ra, rb, imm⟩, by_, num⟩, 0)) (hd : GoodD ⟨⟨nm, rd, ra, rb, imm⟩, by_, num⟩)
    (hnm : nm = ⟨#[115, 98]⟩ ∨ nm = ⟨#[115, 104]⟩ ∨ nm = ⟨#[115, 119]⟩ ∨ nm = ⟨#[115, 100]⟩)
    (R : HartS × Int) (hR : execF S ⟨⟨nm, rd, ra, rb, imm⟩, by_, num⟩ (S.ra ra) (S.ra rb) (IntKind.u64.wrap imm) (IntKind.u64.wrap (S.pc + 4)) = R) :
    Calls Tryz.prog 103 #[.pointer (some ⟨p, 0, none⟩)] w fun e w' => e = .returned (.int .i64 R.2) ∧ (∃ m, m ≤ n + 1 ∧ HartIs w' p B m R.1) ∧ Keep (HF p B) w w' := by
  have HC : Aside0 (clsF nm = 2) := Aside0.mk (by rcases hnm with rfl | rfl | rfl | rfl <;> decide +kernel)
  have HNM := Aside0.mk hnm
  clear hnm
  have NC := Aside0.mk (next_calls h hG hn)
  rw [hnx] at NC
  have HR := Aside0.mk hR
  have HG := Aside0.mk hG
  have HD := Aside0.mk hd
  clear hd
  clear h hR hnx hG
  go_enter Tryz.func103, Tryz.ntmps103
  go_wp2_with fail
  refine NC.out.mono ?_
  rintro e w1 ⟨rfl, ⟨m, hm, h1⟩, K1⟩
  simp only [Done.val]
  have H1 := Aside0.mk h1
  have HK1 := Aside0.mk K1
  have HM := Aside0.mk hm
  clear NC h1 K1 hm
  go_wp2_with fail
  have hD := blk_alloc (heap_alloc_last w1 (.cells #[.string nm, .int .i64 rd, .int .i64 ra, .int .i64 rb, .int .i64 imm, .string by_, .bool num] 219)) (.cells #[.string nm, .int .i64 rd, .int .i64 ra, .int .i64 rb, .int .i64 imm] 130)
  have hO := heap_alloc_at (w1.alloc (.cells #[.string nm, .int .i64 rd, .int .i64 ra, .int .i64 rb, .int .i64 imm, .string by_, .bool num] 219)) (.cells #[.string nm, .int .i64 rd, .int .i64 ra, .int .i64 rb, .int .i64 imm] 130) (n := w1.heap.size + 1) (by simp)
  have B2 := below_alloc (below_alloc (Below.refl w1.heap.size w1) (.cells #[.string nm, .int .i64 rd, .int .i64 ra, .int .i64 rb, .int .i64 imm, .string by_, .bool num] 219)) (.cells #[.string nm, .int .i64 rd, .int .i64 ra, .int .i64 rb, .int .i64 imm] 130)
  generalize (w1.alloc (.cells #[.string nm, .int .i64 rd, .int .i64 ra, .int .i64 rb, .int .i64 imm, .string by_, .bool num] 219)).alloc (.cells #[.string nm, .int .i64 rd, .int .i64 ra, .int .i64 rb, .int .i64 imm] 130) = w2 at *
  have hO1 : w1.heap.size + 1 ≠ p := by have := H1.out.lt; omega
  have hD1 : w1.heap.size ≠ p := by have := H1.out.lt; omega
  obtain ⟨O, hOe⟩ : ∃ O, w1.heap.size + 1 = O := ⟨_, rfl⟩
  obtain ⟨D, hDe⟩ : ∃ D, w1.heap.size = D := ⟨_, rfl⟩
  rw [hOe] at hO hO1 ⊢
  rw [hDe] at hD hD1 ⊢
  have H2 := Aside0.mk (H1.out.below B2)
  have K2 := Aside0.mk (HK1.out.trans (Keep.of_below (F := HF p B) B2))
  clear hOe hDe B2 H1 HK1
  obtain ⟨A, hA⟩ : ∃ A, S.regs.getD ra 0 = A := ⟨_, rfl⟩
  obtain ⟨Bv, hBv⟩ : ∃ Bv, S.regs.getD rb 0 = Bv := ⟨_, rfl⟩
  obtain ⟨I, hI⟩ : ∃ I, IntKind.u64.wrap imm = I := ⟨_, rfl⟩
  obtain ⟨PC, hPC⟩ : ∃ PC, S.pc = PC := ⟨_, rfl⟩
  have cA := H2.out.cr (i := ra) (by omega)
  have cB := H2.out.cr (i := rb) (by omega)
  have c0 := H2.out.c0
  have c1 := H2.out.c1
  have zp := H2.out.lt
  have cD := blk_cell hD
  have zD := blk_lt hD
  have cO := blk_cell hO
  have zO := blk_lt hO
  have ra0 : (0 : Int) ≤ (ra : Int) := Int.natCast_nonneg ra
  have rb0 : (0 : Int) ≤ (rb : Int) := Int.natCast_nonneg rb
  simp only [HartS.ra, Int.toNat_natCast, hA, hBv, hI, hPC] at HR
  rw [hA] at cA
  rw [hBv] at cB
  rw [hPC] at c1
  have HA := Aside0.mk hA
  have HB := Aside0.mk hBv
  have HP := Aside0.mk hPC
  clear hA hBv hPC
  have UA := Aside0.mk (show U64 A by rw [← HA.out]; exact ra_u64 HG.out _)
  have UB := Aside0.mk (show U64 Bv by rw [← HB.out]; exact ra_u64 HG.out _)
  have UI := Aside0.mk (show U64 I by rw [← hI]; exact wrap_range _)
  have HI := Aside0.mk hI
  have hR := HR.out
  unfold execF at hR
  simp only [HC.out, HP.out] at hR
  have HR2 := Aside0.mk hR
  clear HA HB HI hR HR
  go_quiet (fail)
  clear hI
  obtain ⟨w0, w8⟩ := widthF_le nm
  have WC := Aside0.mk (width_calls nm)
  obtain ⟨N1, hN1⟩ : ∃ N1, (widthF nm).1 = N1 := ⟨_, rfl⟩
  obtain ⟨SG, hSG⟩ : ∃ SG, (widthF nm).2 = SG := ⟨_, rfl⟩
  simp only [hN1, hSG, storeS] at WC HR2
  rw [hN1] at w0 w8
  clear hN1 hSG
  obtain ⟨AD, hAD⟩ : ∃ AD, IntKind.u64.wrap (A + I) = AD := ⟨_, rfl⟩
  have LC := Aside0.mk (fun (w9 : World) (h9 : HartIs w9 p B m S) => Store_calls (n := N1) (x := Bv) h9.mem h9.nd HG.out.mem (wrap_range (A + I)).1 (wrap_range (A + I)).2)
  rw [hAD] at LC HR2
  obtain ⟨LV, hLV⟩ : ∃ LV, (storeF S.mem AD N1 Bv).1 = LV := ⟨_, rfl⟩
  obtain ⟨LE, hLE⟩ : ∃ LE, (storeF S.mem AD N1 Bv).2 = LE := ⟨_, rfl⟩
  have SS := Aside0.mk (storeF_same S.mem AD N1 Bv)
  simp only [hLV, hLE] at LC HR2 SS
  clear hLV hLE
  have hnm := HNM.out
  clear HNM
  rcases hnm with rfl | rfl | rfl | rfl
  all_goals
    have hB0 := pw_below_drewN (Below.refl w2.heap.size w2) nq
    have H5 := H2.out.below hB0
    have K5 := Aside0.mk (K2.out.trans (Keep.of_below (F := HF p B) hB0))
    have H6 := Aside0.mk H5
    clear hB0 H2 K2 H5
    go_wp2_with fail
    refine (WC.out _).mono ?_
    rintro e w5 ⟨rfl, hb5⟩
    clear WC
    have h6 := (H6.out).below hb5
    have K6 := Aside0.mk (K5.out.trans (Keep.of_below (F := HF p B) hb5))
    clear hD K5 H6 hb5 cD zD hO cO zO
    replace c0 := h6.c0
    replace c1 := h6.c1
    replace zp := h6.lt
    have L5 := Aside0.mk (LC.out w5 h6)
    have H6 := Aside0.mk h6
    clear LC cA cB h6
    go_wp2_with fail
    refine L5.out.mono ?_
    rintro e w6 ⟨rfl, hm6, hk6⟩
    have h7 := H6.out.setMem hm6 hk6
    have K5 := Aside0.mk (K6.out.trans (hk6.mono fun k hk => .inr (.inr hk)))
    clear hm6 hk6
    by_cases hLE : LE = 0
    · subst hLE
      simp only [if_true] at HR2
      have c1 := h7.c1
      have c0 := h7.c0
      have zp := h7.lt
      have fz := frozen_of_row w6 p 1 _ 175 h7.head
      have H6 := Aside0.mk (h7.setPC (IntKind.u64.wrap (PC + 4)))
      have K6 := Aside0.mk (K5.out.trans (Keep.setCell (F := HF p B) (a := ⟨p, 1, none⟩) (.int .u64 (IntKind.u64.wrap (PC + 4))) (.inl rfl)))
      clear h7 K5 L5 SS
      go_wp2
      exact bodyPost_ret (v := .int .i64 0) (by simp [results, Tryz.results103, go_sem]) rfl ⟨by rw [← HR2.out], ⟨m, HM.out, by rw [← HR2.out]; exact H6.out⟩, K6.out⟩
    · simp only [if_neg hLE] at HR2
      have hsv := SS.out hLE
      rw [hsv] at h7
      have H7 := Aside0.mk h7
      clear h7 L5 SS hsv
      go_wp2
      exact bodyPost_ret (v := .int .i64 LE) (by simp [results, Tryz.results103, go_sem]) rfl ⟨by rw [← HR2.out], ⟨m, HM.out, by rw [← HR2.out]; exact H7.out⟩, K5.out⟩
end Go.Proofs.YtpfcdhjknmijjaaGreat.Ht

namespace Go.Proofs.YtpfcdhjknmijjaaGreat.Ht
open Go.RowKit Go.Maps Go.Proofs.YtpfcdhjknmijjaaGreat.Grow Go.Proofs.YtpfcdhjknmijjaaGreat.Rv Go.Proofs.YtpfcdhjknmijjaaGreat.As Go.Proofs.YtpfcdhjknmijjaaGreat.PHartQuotients
open Go.Proofs.YtpfcdhjknmijjaaGreatW.PrintWords Go.Proofs.YtpfcdhjknmijjaaGreatW.PrintLast Go.Proofs.YtpfcdhjknmijjaaGreatW.PrintMore

/-! ### A step, whole -/
theorem isN_eq {nm : ByteArray} {l : List UInt8} (h : isN nm l = true) : nm = ⟨⟨l⟩⟩ := by
  unfold isN at h
  rw [beq_iff_eq, ByteArray.toList_eq] at h
  obtain ⟨⟨d⟩⟩ := nm
  exact congrArg (fun z => ByteArray.mk (Array.mk z)) h
theorem any_sys {nm : ByteArray} (h : sysL.any (isN nm) = true) : nm = ⟨#[101, 99, 97, 108, 108]⟩ ∨ nm = ⟨#[101, 98, 114, 101, 97, 107]⟩ := by
  simp only [sysL, List.any_cons, List.any_nil, Bool.or_false, Bool.or_eq_true] at h
  rcases h with h | h
  all_goals
    obtain rfl := isN_eq h
    decide +kernel
theorem any_load {nm : ByteArray} (h : loadL.any (isN nm) = true) : nm = ⟨#[108, 98]⟩ ∨ nm = ⟨#[108, 104]⟩ ∨ nm = ⟨#[108, 119]⟩ ∨ nm = ⟨#[108, 100]⟩ ∨ nm = ⟨#[108, 98, 117]⟩ ∨ nm = ⟨#[108, 104, 117]⟩ ∨ nm = ⟨#[108, 119, 117]⟩ := by
  simp only [loadL, List.any_cons, List.any_nil, Bool.or_false, Bool.or_eq_true] at h
  rcases h with h | h | h | h | h | h | h
  all_goals
    obtain rfl := isN_eq h
    decide +kernel
theorem any_store {nm : ByteArray} (h : storeL.any (isN nm) = true) : nm = ⟨#[115, 98]⟩ ∨ nm = ⟨#[115, 104]⟩ ∨ nm = ⟨#[115, 119]⟩ ∨ nm = ⟨#[115, 100]⟩ := by
  simp only [storeL, List.any_cons, List.any_nil, Bool.or_false, Bool.or_eq_true] at h
  rcases h with h | h | h | h
  all_goals
    obtain rfl := isN_eq h
    decide +kernel
theorem any_br {nm : ByteArray} (h : branchL.any (isN nm) = true) : nm = ⟨#[98, 101, 113]⟩ ∨ nm = ⟨#[98, 110, 101]⟩ ∨ nm = ⟨#[98, 108, 116]⟩ ∨ nm = ⟨#[98, 103, 101]⟩ ∨ nm = ⟨#[98, 108, 116, 117]⟩ ∨ nm = ⟨#[98, 103, 101, 117]⟩ := by
  simp only [branchL, List.any_cons, List.any_nil, Bool.or_false, Bool.or_eq_true] at h
  rcases h with h | h | h | h | h | h
  all_goals
    obtain rfl := isN_eq h
    decide +kernel
theorem bool_false {b : Bool} (h : ¬ b = true) : b = false := by cases b; rfl; exact absurd rfl h
set_option maxHeartbeats 8000000 in
set_option maxRecDepth 100000 in
theorem step_err {w : World} {p n : Nat} {B : HB} {S : HartS} (h : HartIs w p B n S) (hG : GoodH S) (hn : n < maxLen) (d : Done) (c : Int) (hc : c ≠ 0) (hnx : nextF S = (d, c)) :
    Calls Tryz.prog 103 #[.pointer (some ⟨p, 0, none⟩)] w fun e w' => e = .returned (.int .i64 c) ∧ (∃ m, m ≤ n + 1 ∧ HartIs w' p B m S) ∧ Keep (HF p B) w w' := by
  have NC := Aside0.mk (next_calls h hG hn)
  rw [hnx] at NC
  clear h hnx hG
  go_enter Tryz.func103, Tryz.ntmps103
  go_wp2_with fail
  refine NC.out.mono ?_
  rintro e w1 ⟨rfl, ⟨m, hm, h1⟩, K1⟩
  simp only [Done.val]
  have H1 := Aside0.mk h1
  have HK1 := Aside0.mk K1
  have HM := Aside0.mk hm
  clear NC h1 K1 hm
  go_wp2
  have B2 := below_alloc (Below.refl w1.heap.size w1) (.cells #[.string d.op.name, .int .i64 d.op.rd, .int .i64 d.op.ra, .int .i64 d.op.rb, .int .i64 d.op.imm, .string d.by_, .bool d.num] 219)
  exact bodyPost_ret (v := .int .i64 c) (by simp [results, Tryz.results103, go_sem]) rfl ⟨rfl, ⟨m, HM.out, H1.out.below B2⟩, HK1.out.trans (Keep.of_below B2)⟩
theorem Step_calls {w : World} {p n : Nat} {B : HB} {S : HartS} (h : HartIs w p B n S) (hG : GoodH S) (hn : n < maxLen) :
    Calls Tryz.prog 103 #[.pointer (some ⟨p, 0, none⟩)] w fun e w' => e = .returned (.int .i64 (stepF S).2) ∧ (∃ m, m ≤ n + 1 ∧ HartIs w' p B m (stepF S).1) ∧ Keep (HF p B) w w' := by
  by_cases hc : (nextF S).2 = 0
  · have hd := nextF_good hG hc
    obtain ⟨⟨⟨nm, rd, ra, rb, imm⟩, by_, num⟩, hD⟩ : ∃ d, (nextF S).1 = d := ⟨_, rfl⟩
    have hnx : nextF S = (⟨⟨nm, rd, ra, rb, imm⟩, by_, num⟩, 0) := Prod.ext hD hc
    have hs : stepF S = execF S ⟨⟨nm, rd, ra, rb, imm⟩, by_, num⟩ (S.ra ra) (S.ra rb) (IntKind.u64.wrap imm) (IntKind.u64.wrap (S.pc + 4)) := by unfold stepF; rw [hnx, if_pos rfl]
    rw [hD] at hd
    obtain ⟨a0, a1⟩ := hd.ra
    obtain ⟨b0, b1⟩ := hd.rb
    simp only at a0 a1 b0 b1
    obtain ⟨ra, rfl⟩ := Int.eq_ofNat_of_zero_le a0
    obtain ⟨rb, rfl⟩ := Int.eq_ofNat_of_zero_le b0
    rw [hs]
    clear hs hc hD
    by_cases g0 : sysL.any (isN nm) = true
    · exact step_sys h hG hn nm by_ num rd imm ra rb a1 b1 hnx hd (any_sys g0) _ rfl
    by_cases g1 : loadL.any (isN nm) = true
    · exact step_load h hG hn nm by_ num rd imm ra rb a1 b1 hnx hd (any_load g1) _ rfl
    by_cases g2 : storeL.any (isN nm) = true
    · exact step_store h hG hn nm by_ num rd imm ra rb a1 b1 hnx hd (any_store g2) _ rfl
    by_cases g3 : branchL.any (isN nm) = true
    · exact step_branch h hG hn nm by_ num rd imm ra rb a1 b1 hnx hd (any_br g3) _ rfl
    by_cases g4 : isN nm [108, 117, 105] = true
    · exact step_lui h hG hn nm by_ num rd imm ra rb a1 b1 hnx hd (isN_eq g4) _ rfl
    by_cases g5 : isN nm [97, 117, 105, 112, 99] = true
    · exact step_auipc h hG hn nm by_ num rd imm ra rb a1 b1 hnx hd (isN_eq g5) _ rfl
    by_cases g6 : isN nm [106, 97, 108] = true
    · exact step_jal h hG hn nm by_ num rd imm ra rb a1 b1 hnx hd (isN_eq g6) _ rfl
    by_cases g7 : isN nm [106, 97, 108, 114] = true
    · exact step_jalr h hG hn nm by_ num rd imm ra rb a1 b1 hnx hd (isN_eq g7) _ rfl
    have G0 := bool_false g0
    have G1 := bool_false g1
    have G2 := bool_false g2
    have G3 := bool_false g3
    simp only [sysL, loadL, storeL, branchL, List.any_cons, List.any_nil, Bool.or_false, Bool.or_eq_false_iff] at G0 G1 G2 G3
    exact step_def h hG hn nm by_ num rd imm ra rb a1 b1 hnx hd G0.1 G0.2 G1.1 G1.2.1 G1.2.2.1 G1.2.2.2.1 G1.2.2.2.2.1 G1.2.2.2.2.2.1 G1.2.2.2.2.2.2 G2.1 G2.2.1 G2.2.2.1 G2.2.2.2 G3.1 G3.2.1 G3.2.2.1 G3.2.2.2.1 G3.2.2.2.2.1 G3.2.2.2.2.2 (bool_false g4) (bool_false g5) (bool_false g6) (bool_false g7) _ rfl
  · obtain ⟨⟨d, c⟩, hnx⟩ : ∃ r, nextF S = r := ⟨_, rfl⟩
    have hs : stepF S = (S, c) := by unfold stepF; rw [if_neg hc, hnx]
    rw [hs]
    exact step_err h hG hn d c (by rw [hnx] at hc; exact hc) hnx

/-! ### A good state stays good -/
theorem put_good {S : HartS} (h : GoodH S) (i : Int) {x : Int} (hx : U64 x) : GoodH (S.put i x) := by
  unfold HartS.put
  split
  · rename_i hi
    refine ⟨h.mem, h.bytes, h.pc, fun y hy => ?_, by simp [h.len], ?_⟩
    · rcases List.mem_or_eq_of_mem_set hy with hy | rfl
      · exact h.regs y hy
      · exact hx
    · have h0 := h.zero
      have : ¬ i.toNat = 0 := by omega
      simp only [List.getD_eq_getElem?_getD] at h0 ⊢
      rw [List.getElem?_set_ne this]
      exact h0
  · exact h
theorem at_good {S : HartS} (h : GoodH S) {x : Int} (hx : U64 x) : GoodH (S.at_ x) := ⟨h.mem, h.bytes, hx, h.regs, h.len, h.zero⟩
theorem loadF_u64 {S : MemS} (hG : GoodM S) (hB : GoodB S) (a n : Int) : U64 (loadF S a n).1 := by
  unfold loadF
  split
  · rename_i hs
    obtain ⟨m, rfl, _, hm⟩ := sizeOk_nat hs
    split
    · exact ⟨by decide, by decide⟩
    · rename_i i f hF
      obtain ⟨hi, hlen⟩ := found_in hF hG
      have hb : Bytes (bytesAt S i f m) := fun b hb => by
        unfold bytesAt at hb
        rw [List.getElem?_eq_getElem hi] at hb
        exact hB _ (List.getElem_mem hi) b (List.mem_of_mem_drop (List.mem_of_mem_take hb))
      have h := numF_b _ hb
      have hl : (bytesAt S i f m).length ≤ 8 := by unfold bytesAt; exact Nat.le_trans (List.length_take_le _ _) hm
      refine ⟨h.1, Int.lt_of_lt_of_le h.2 ?_⟩
      have : ∀ n, n ≤ 8 → (256 : Int) ^ n ≤ 18446744073709551616 := by decide
      exact this _ hl
  · exact ⟨by decide, by decide⟩
theorem putB_mem {l : List Int} (h : Bytes l) (f : Nat) (x : Int) : ∀ k, Bytes (putB l f x k)
  | 0 => h
  | k + 1 => fun b hb => by
    rcases List.mem_or_eq_of_mem_set (show b ∈ (putB l f x k).set (f + k) (x / 256 ^ k % 256) from hb) with hb | rfl
    · exact putB_mem h f x k b hb
    · exact ⟨Int.emod_nonneg _ (by decide), Int.emod_lt_of_pos _ (by decide)⟩
theorem setB_good {S : MemS} (hG : GoodM S) (hB : GoodB S) {i : Nat} {bs : List Int} (hi : i < S.rs.length) (hl : bs.length = S.rs[i].bytes.length) (hb : Bytes bs) (v : Int) :
    GoodM { S.setB i bs with written := v } ∧ GoodB { S.setB i bs with written := v } := by
  have key : ∀ r ∈ (S.setB i bs).rs, ∃ j, ∃ hj : j < S.rs.length, r.base = S.rs[j].base ∧ r.bytes.length = S.rs[j].bytes.length ∧ (r.bytes = S.rs[j].bytes ∨ r.bytes = bs) := fun r hr => by
    obtain ⟨j, hj, rfl⟩ := List.mem_iff_getElem.1 hr
    have hj' : j < S.rs.length := by rw [setB_len] at hj; exact hj
    refine ⟨j, hj', ?_⟩
    rw [setB_get S i bs j hj']
    split
    · rename_i e
      subst e
      exact ⟨rfl, hl, .inr rfl⟩
    · exact ⟨rfl, rfl, .inl rfl⟩
  refine ⟨⟨fun a b hb' hab => ?_, by rw [show ({ S.setB i bs with written := v } : MemS).rs = (S.setB i bs).rs from rfl, setB_len]; exact hG.few, fun r hr => ?_, fun r hr => ?_⟩, fun r hr => ?_⟩
  · have hb2 : b < S.rs.length := by rw [show ({ S.setB i bs with written := v } : MemS).rs = (S.setB i bs).rs from rfl, setB_len] at hb'; exact hb'
    have e : ∀ j (hj : j < S.rs.length), ((S.setB i bs).rs[j]'(by rw [setB_len]; exact hj)).base = S.rs[j].base := fun j hj => by
      rw [setB_get S i bs j hj]; split <;> rfl
    show ((S.setB i bs).rs[a]'(by rw [setB_len]; omega)).base ≤ ((S.setB i bs).rs[b]'(by rw [setB_len]; exact hb2)).base
    rw [e a (by omega), e b hb2]
    exact hG.sorted a b hb2 hab
  · obtain ⟨j, hj, h1, _⟩ := key r hr
    rw [h1]; exact hG.bases _ (List.getElem_mem hj)
  · obtain ⟨j, hj, _, h2, _⟩ := key r hr
    rw [h2]; exact hG.lens _ (List.getElem_mem hj)
  · obtain ⟨j, hj, _, _, h3 | h3⟩ := key r hr
    · rw [h3]; exact hB _ (List.getElem_mem hj)
    · rw [h3]; exact hb
theorem storeF_good {S : MemS} (hG : GoodM S) (hB : GoodB S) (a n x : Int) : GoodM (storeF S a n x).1 ∧ GoodB (storeF S a n x).1 := by
  unfold storeF
  split
  · split
    · exact ⟨hG, hB⟩
    · rename_i i f hF
      obtain ⟨hi, _⟩ := found_in hF hG
      refine setB_good hG hB hi ?_ ?_ _
      · rw [putB_len, List.getElem?_eq_getElem hi]; rfl
      · rw [List.getElem?_eq_getElem hi]
        exact putB_mem (hB _ (List.getElem_mem hi)) _ _ _
  · exact ⟨hG, hB⟩
theorem regs_u64 {S : HartS} (h : GoodH S) (i : Int) : U64 (S.ra i) := ra_u64 h _
theorem execF_good {S : HartS} (h : GoodH S) {d : Done} (hd : GoodD d) {a b i nx : Int} (ha : U64 a) (hb : U64 b) (hi : U64 i) (hx : U64 nx) : GoodH (execF S d a b i nx).1 := by
  unfold execF
  split
  · exact h
  · unfold loadS
    split
    · refine at_good (put_good h _ ?_) hx
      unfold widthV
      split
      · exact (extF_some _ _).2
      · exact loadF_u64 h.mem h.bytes _ _
    · exact h
  · unfold storeS
    split
    · have := storeF_good h.mem h.bytes (IntKind.u64.wrap (a + i)) (widthF d.op.name).1 b
      exact ⟨this.1, this.2, hx, h.regs, h.len, h.zero⟩
    · exact h
  · refine at_good h ?_
    split
    · exact wrap_range _
    · exact hx
  · exact at_good (put_good h _ (wrap_range _)) hx
  · exact at_good (put_good h _ (wrap_range _)) hx
  · exact at_good (put_good h _ hx) (wrap_range _)
  · exact at_good (put_good h _ hx) (bits_range _ _ _)
  · refine at_good (put_good h _ (reckF_some _ hd.by0 hd.by1 ha ?_).2) hx
    split
    · exact hi
    · exact hb
theorem stepF_good {S : HartS} (h : GoodH S) : GoodH (stepF S).1 := by
  unfold stepF
  split
  · rename_i hc
    exact execF_good h (nextF_good h hc) (regs_u64 h _) (regs_u64 h _) (wrap_range _) (wrap_range _)
  · exact h

/-! ### A run -/
def runF (stop : Int) : Nat → Nat → HartS → HartS × Nat × Int
  | 0, s, S => if S.pc = stop then (S, s, 0) else (S, s, 280)
  | k + 1, s, S => if S.pc = stop then (S, s, 0) else if (stepF S).2 = 0 then runF stop k (s + 1) (stepF S).1 else ((stepF S).1, s, (stepF S).2)
theorem runF_stop {stop : Int} {S : HartS} (h : S.pc = stop) (k s : Nat) : runF stop k s S = (S, s, 0) := by
  cases k <;> (rw [runF, if_pos h])
theorem runF_fuel {stop : Int} {S : HartS} (h : ¬ S.pc = stop) (s : Nat) : runF stop 0 s S = (S, s, 280) := by rw [runF, if_neg h]
theorem runF_step {stop : Int} {S : HartS} (h : ¬ S.pc = stop) (h0 : (stepF S).2 = 0) (k s : Nat) : runF stop (k + 1) s S = runF stop k (s + 1) (stepF S).1 := by rw [runF, if_neg h, if_pos h0]
theorem runF_err {stop : Int} {S : HartS} (h : ¬ S.pc = stop) (h0 : ¬ (stepF S).2 = 0) (k s : Nat) : runF stop (k + 1) s S = ((stepF S).1, s, (stepF S).2) := by rw [runF, if_neg h, if_neg h0]
set_option maxHeartbeats 8000000 in
set_option maxRecDepth 100000 in
theorem Run_calls {w : World} {p n : Nat} {B : HB} {S : HartS} (h : HartIs w p B n S) (hG : GoodH S) (stop fuel : Int) (hf : fuel < 1000000) (hn : n < 1000000) :
    Calls Tryz.prog 53 #[.pointer (some ⟨p, 0, none⟩), .int .u64 stop, .int .i64 fuel] w fun e w' => e = .returned (.tuple #[.int .i64 (runF stop fuel.toNat 0 S).2.1, .int .i64 (runF stop fuel.toNat 0 S).2.2]) ∧
      (∃ m, m ≤ n + fuel.toNat ∧ HartIs w' p B m (runF stop fuel.toNat 0 S).1) ∧ GoodH (runF stop fuel.toNat 0 S).1 ∧ Keep (HF p B) w w' := by
  obtain ⟨R, hR⟩ : ∃ R, runF stop fuel.toNat 0 S = R := ⟨_, rfl⟩
  rw [hR]
  have HR := Aside0.mk hR
  have H := Aside0.mk h
  have HG := Aside0.mk hG
  clear h hG hR
  go_enter Tryz.func53, Tryz.ntmps53
  go_wp2
  go_loopw [6, 7, 8] (fun v6 v7 _ wr => ∃ (k s m : Nat) (S1 : HartS), v6 = .int .i64 s ∧ v7 = .int .i64 0 ∧ s + k = fuel.toNat ∧ Aside0 (runF stop k s S1 = R ∧ m ≤ n + s ∧ HartIs wr p B m S1 ∧ GoodH S1 ∧ Keep (HF p B) w wr)) (fun v6 _ _ _ => fuel.toNat - (intOf v6).toNat)
  case atStart => exact ⟨fuel.toNat, 0, n, S, rfl, rfl, by omega, ⟨HR.out, by omega, H.out, HG.out, Keep.refl _ _⟩⟩
  case round =>
    obtain ⟨k, s, m, S1, rfl, rfl, hks, hx⟩ := hrel
    have c0 := hx.out.2.2.1.c0
    have c1 := hx.out.2.2.1.c1
    have zp := hx.out.2.2.1.lt
    obtain ⟨PC, hPC⟩ : ∃ PC, S1.pc = PC := ⟨_, rfl⟩
    rw [hPC] at c1
    by_cases hst : PC = stop
    · have hR : R = (S1, s, 0) := by rw [← hx.out.1]; exact runF_stop (hPC.trans hst) _ _
      subst hR
      have HKS := Aside0.mk hks
      clear hPC hks
      go_wp2
      exact bodyPost_ret (v := .tuple #[.int .i64 s, .int .i64 0]) (by simp [results, Tryz.results53, go_sem]) rfl ⟨rfl, ⟨m, by have := HKS.out; have := hx.out.2.1; omega, hx.out.2.2.1⟩, hx.out.2.2.2.1, hx.out.2.2.2.2⟩
    · have hst' : ¬ S1.pc = stop := by rw [hPC]; exact hst
      cases k with
      | zero =>
        have hR : R = (S1, s, 280) := by rw [← hx.out.1]; exact runF_fuel hst' _
        subst hR
        have hfs : fuel ≤ (s : Int) := by omega
        have HKS := Aside0.mk hks
        clear hPC hks hst'
        go_wp2
        exact bodyPost_ret (v := .tuple #[.int .i64 s, .int .i64 280]) (by simp [results, Tryz.results53, go_sem]) rfl ⟨rfl, ⟨m, by have := HKS.out; have := hx.out.2.1; omega, hx.out.2.2.1⟩, hx.out.2.2.2.1, hx.out.2.2.2.2⟩
      | succ k =>
        have hfs : (s : Int) < fuel := by omega
        have SC := Aside0.mk (Step_calls hx.out.2.2.1 hx.out.2.2.2.1 (show m < maxLen by have := hx.out.2.1; unfold maxLen; omega))
        have HST := Aside0.mk hst'
        clear hPC hst'
        go_wp2_with fail
        refine SC.out.mono ?_
        rintro e w2 ⟨rfl, ⟨m2, hm2, h2⟩, K2⟩
        have hG2 := stepF_good hx.out.2.2.2.1
        have HM2 := Aside0.mk hm2
        have H2 := Aside0.mk h2
        have HK2 := Aside0.mk (hx.out.2.2.2.2.trans K2)
        have HG2 := Aside0.mk hG2
        clear SC h2 K2 hG2 hm2 c0 c1 zp
        obtain ⟨E, hE⟩ : ∃ E, (stepF S1).2 = E := ⟨_, rfl⟩
        rw [hE]
        by_cases h0 : E = 0
        · subst h0
          have NX := Aside0.mk ((runF_step HST.out hE k s).symm.trans hx.out.1)
          clear hE
          go_wp2
          go_roundw
          case rel => exact ⟨k, s + 1, m2, (stepF S1).1, by go_num, rfl, by omega, ⟨NX.out, by have := hx.out.2.1; have := HM2.out; omega, H2.out, HG2.out, HK2.out⟩⟩
          case measure => simp [intOf]; omega
        · have hR : R = ((stepF S1).1, s, E) := by rw [← hx.out.1, runF_err HST.out (by rw [hE]; exact h0), hE]
          subst hR
          clear hE
          go_wp2
          exact bodyPost_ret (v := .tuple #[.int .i64 s, .int .i64 E]) (by simp [results, Tryz.results53, go_sem]) rfl ⟨rfl, ⟨m2, by have := hx.out.2.1; have := HM2.out; omega, H2.out⟩, HG2.out, HK2.out⟩
end Go.Proofs.YtpfcdhjknmijjaaGreat.Ht
end
