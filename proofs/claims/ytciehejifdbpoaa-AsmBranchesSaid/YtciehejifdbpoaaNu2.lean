import Derived.Test.YtciehejifdbpoaaNu1
set_option linter.unusedSimpArgs false
set_option linter.unusedVariables false
namespace Go.Proofs.Ytciehejifdbpoaa.Ht
open Go.RowKit Go.Maps Go.Proofs.Ytciehejifdbpoaa.Grow Go.Proofs.Ytciehejifdbpoaa.Rv Go.Proofs.Ytciehejifdbpoaa.As Go.Proofs.Ytciehejifdbpoaa.PHartQuotients
open Go.Proofs.YtciehejifdbpoaaW.PrintWords Go.Proofs.YtciehejifdbpoaaW.PrintLast Go.Proofs.YtciehejifdbpoaaW.PrintMore

set_option maxHeartbeats 8000000 in
set_option maxRecDepth 100000 in
theorem run45_calls {w : World} {b p : Nat} {A : AsmS} (h : AsmAt w b p A) (hG : As.Good A) (hb : b ≤ w.heap.size) {bs : List Int} (ht : textV (settleF A) = .tuple #[.string (strOf bs), .int .i64 0]) (hbl : bs.length < 100000) (fuel : Int) (hf : fuel < 1000000)
    {S : HartS} {n : Nat} (hrun : runF (4096 + (bs.length : Int)) fuel.toNat 0 (new0 (progM 4096 bs) 4096) = (S, n, 0)) :
    Calls Try.prog 45 #[.pointer (some ⟨p, 0, none⟩), .int .i64 fuel] w fun e w' => (∃ p' B m, e = .returned (.pointer (some ⟨p', 0, none⟩)) ∧ HartIs w' p' B m S) ∧ Below b w w' := by
  have TC := Text_calls h hG (As.good_settle hG)
  rw [ht] at TC
  have TC := Aside0.mk TC
  have HRUN := Aside0.mk hrun
  have HBB := Aside0.mk hb
  clear h hG ht hrun hb
  go_enter Try.func45, Try.ntmps45
  go_wp2_with fail
  refine TC.out.mono ?_
  rintro e w1 ⟨rfl, hA, hF⟩
  have B1 := Aside0.mk (hF.below HBB.out)
  have hss := strOf_size bs
  obtain ⟨BN, hBN⟩ : ∃ BN, bs.length = BN := ⟨_, rfl⟩
  rw [hBN] at hss hbl
  have hns : ¬ 9223372036854775807 < (strOf bs).size + 1 := by rw [hss]; omega
  have hok : RegsOk [regOf 4096 bs] := regOf_ok (by decide) (by decide) (by omega)
  have MG := Aside0.mk (memOf_good hok (by simp))
  have MC := Aside0.mk (MemNew_calls (w := w1.alloc (.cells #[.int .u64 4096, .string (strOf bs ++ ⟨#[0]⟩), .int .i64 4] 92)) (L := w1.heap.size) (off := 0) (cap := 1) [regOf 4096 bs] hok (by simp)
    (fun i h => by
      obtain rfl : i = 0 := by simpa using h
      have c := blk_cell (heap_alloc_last w1 (.cells #[.int .u64 4096, .string (strOf bs ++ ⟨#[0]⟩), .int .i64 4] 92))
      exact ⟨c 0, c 1, c 2⟩) (by simp))
  have HBN := Aside0.mk hBN
  clear hok hA hF TC hBN
  go_wp2_with fail
  refine MC.out.mono ?_
  rintro e w5 ⟨⟨mp, pv, gs, rfl, hmp, hS⟩, hb5⟩
  obtain ⟨q, hM, hq⟩ := hS.mem (by simp)
  have NC := Aside0.mk (New_calls hM hS.nd 4096)
  have hge := fun g hg => (hS.ge g hg).1
  have bz1 : b ≤ w1.heap.size := Nat.le_trans HBB.out B1.out.size
  have Ba := B1.out.trans ((below_alloc (Below.refl w1.heap.size w1) (.cells #[.int .u64 4096, .string (strOf bs ++ ⟨#[0]⟩), .int .i64 4] 92)).mono bz1)
  have bz : b ≤ (w1.alloc (.cells #[.int .u64 4096, .string (strOf bs ++ ⟨#[0]⟩), .int .i64 4] 92)).heap.size := Nat.le_trans HBB.out Ba.size
  have HB5 := Aside0.mk (Ba.trans (hb5.mono bz))
  have bz5 : b ≤ w5.heap.size := Nat.le_trans HBB.out HB5.out.size
  clear hS hM MC hb5 hns
  go_wp2_with fail
  refine NC.out.mono ?_
  rintro e w6 ⟨rfl, h6, hb6⟩
  have HFB : ∀ k, HF (w5.heap.size + 1) ⟨mp, q, w5.heap.size, gs⟩ k → b ≤ k := by
    rintro k (rfl | rfl | rfl | hk)
    · omega
    · exact bz5
    · exact Nat.le_trans bz hmp
    · exact Nat.le_trans bz (hge k hk)
  have HFB := Aside0.mk HFB
  have g6 : GoodH (new0 (memOf [regOf 4096 bs]) 4096) := new_good MG.out ⟨by decide, by decide⟩
  have B6 := Aside0.mk (HB5.out.trans (hb6.mono bz5))
  have bz6 : b ≤ w6.heap.size := Nat.le_trans HBB.out B6.out.size
  have u1 : IntKind.u64.wrap (4096 + (BN : Int)) = 4096 + (BN : Int) := by rw [IntKind.wrap_u64]; omega
  have RC := Run_calls h6 g6 (4096 + (bs.length : Int)) fuel hf (by decide)
  rw [show new0 (memOf [regOf 4096 bs]) 4096 = new0 (progM 4096 bs) 4096 from rfl, HRUN.out, HBN.out] at RC
  have RC := Aside0.mk RC
  have H6 := Aside0.mk bz6
  clear NC hge hb6 h6 g6 bz6
  go_wp2_with fail
  refine RC.out.mono ?_
  rintro e w9 ⟨rfl, ⟨m, hm, h9⟩, g9, k9⟩
  have B9 := Aside0.mk (B6.out.trans (k9.below H6.out HFB.out))
  have H9 := Aside0.mk h9
  clear RC h9 g9 k9 hm
  go_wp2
  exact bodyPost_ret (v := .pointer (some ⟨w5.heap.size + 1, 0, none⟩)) (by simp [results, Try.results45, go_sem]) rfl ⟨⟨_, _, m, rfl, H9.out⟩, B9.out⟩

theorem puts0_ops (l : List OpI) : (A0.puts l).ps.map Pc.op = l := by
  show ([] ++ l.map plainPc).map Pc.op = l
  rw [List.nil_append, List.map_map]
  conv => rhs; rw [← List.map_id l]
  rfl
theorem puts0_sort (l : List OpI) : ∀ x ∈ (A0.puts l).ps, x.sort = 0 := fun x hx => by
  have hx' : x ∈ l.map plainPc := by simpa [AsmS.puts, A0] using hx
  obtain ⟨y, _, rfl⟩ := List.mem_map.1 hx'
  rfl
theorem new_fit (M : MemS) (pc : Int) : Fit (new0 M pc) := ⟨new_len M pc, by simp [HartS.ra, new0]⟩
theorem num_run {rd n : Int} (hr : 0 < rd ∧ rd < 32) (hn : I64 n) : ∃ bs S k, encB (numL rd 4 n) = some bs ∧ bs.length < 100000 ∧ runF (4096 + (bs.length : Int)) 8 0 (new0 (progM 4096 bs) 4096) = (S, k, 0) ∧ S.reg rd = IntKind.u64.wrap n := by
  have hR := num_right hr 4 n
  obtain ⟨bs, he⟩ := encB_right _ hR
  have hl := numL_len rd 4 n
  have hbl := encB_len _ _ he
  have hx : ∀ x ∈ numL rd 4 n, Plain x := fun x hx => (hR x hx).2
  have h := run_line (base := 4096) he (by omega) (by decide) (by decide) (by decide) hx (numL rd 4 n).length 0 (new0 (progM 4096 bs) 4096) 8 (by omega) (by omega) rfl rfl
  have e : (4096 : Int) + (bs.length : Int) = 4096 + 4 * ((numL rd 4 n).length : Int) := by rw [hbl]; omega
  rw [List.drop_zero] at h
  obtain ⟨f1, f2⟩ := num_go hr 4 n (new0 (progM 4096 bs) 4096) (Nat.le_refl _) hn (new_fit _ _)
  exact ⟨bs, _, _, he, by omega, by rw [e]; exact h.1, by rw [reg_ra (by omega)]; exact f2⟩
theorem num_good {rd n : Int} : As.Good (A0.puts (numL rd 4 n)) := good_puts good_0 _ (by have := numL_len rd 4 n; show 0 + _ < _; omega)
set_option maxHeartbeats 8000000 in
set_option maxRecDepth 100000 in
theorem numbers_walk (r n : Int) (hn : I64 n) (w : World) : Calls Try.prog 13 #[.int .i64 r, .int .i64 n] w fun e w' => e = .returned (.bool true) ∧ Below w.heap.size w w' := by
  have HN := Aside0.mk hn
  clear hn
  go_enter Try.func13, Try.ntmps13
  go_wp2_with fail
  refine (works29_calls _).mono ?_
  rintro e w0 ⟨rfl, hb0⟩
  have B0 := Aside0.mk hb0
  clear hb0
  go_wp2_with fail
  refine (below_calls r 31 (by decide) (by decide) _).mono ?_
  rintro e w1 ⟨rfl, rfl⟩
  obtain ⟨m, hm⟩ : ∃ m : Nat, r % 31 = (m : Int) := ⟨(r % 31).toNat, by omega⟩
  have hm2 : m ≤ 30 := by omega
  rw [hm]
  clear hm
  go_wp2_with fail
  refine (new_calls _).mono ?_
  rintro e w2 ⟨p, rfl, hp, hA, hb⟩
  have A2 := Aside0.mk (show AsmAt w2 w1.heap.size p A0 from hA)
  have B2 := Aside0.mk hb
  clear hA hb hp
  have hr : 0 < 1 + (m : Int) ∧ 1 + (m : Int) < 32 := by omega
  have NC := Number_calls A2.out (by decide) (1 + (m : Int)) HN.out
  have hreg : regOk (1 + (m : Int)) = true := by unfold regOk; simp; omega
  rw [hreg] at NC
  have NC := Aside0.mk NC
  have HR := Aside0.mk hr
  clear hreg hr
  go_wp2_with fail
  refine NC.out.mono ?_
  rintro e w3 ⟨rfl, hA, hF⟩
  have A3 := Aside0.mk (show AsmAt w3 w1.heap.size p (A0.puts (numL (1 + (m : Int)) 4 n)) from hA)
  have B3 := Aside0.mk (B2.out.trans (below_fr hF (Nat.le_refl _) B2.out.size))
  clear hA hF NC
  obtain ⟨bs, S, k, he, hbl, hrun, hreg⟩ := num_run HR.out HN.out
  have RC := Aside0.mk (run45_calls A3.out num_good B3.out.size (text_plain (puts0_sort _) (by rw [puts0_ops]; exact he)) hbl 8 (by decide) hrun)
  have HREG := Aside0.mk hreg
  clear he hbl hrun hreg
  go_wp2_with fail
  refine RC.out.mono ?_
  rintro e w4 ⟨⟨p', B', m', rfl, hH⟩, hb4⟩
  have B4 := Aside0.mk (B3.out.trans hb4)
  have REG := Reg_calls hH (1 + (m : Int))
  rw [HREG.out] at REG
  have REG := Aside0.mk REG
  clear hH hb4 RC
  go_wp2_with fail
  refine REG.out.mono ?_
  rintro e w5 ⟨rfl, rfl⟩
  go_wp2
  go_ret
  exact ⟨by simp, B0.out.trans (B4.out.mono B0.out.size)⟩
end Go.Proofs.Ytciehejifdbpoaa.Ht
