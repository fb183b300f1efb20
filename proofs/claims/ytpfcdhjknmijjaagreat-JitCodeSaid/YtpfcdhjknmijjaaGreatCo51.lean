import Derived.Test.YtpfcdhjknmijjaaGreatCo50
section
set_option linter.unusedSimpArgs false
set_option linter.unusedVariables false
set_option maxRecDepth 100000
namespace Go.Proofs.YtpfcdhjknmijjaaGreat.Jd
open Go.RowKit Go.Maps Go.Proofs.YtpfcdhjknmijjaaGreat.Em Go.Proofs.YtpfcdhjknmijjaaGreat.Ve Go.Proofs.YtpfcdhjknmijjaaGreat.Grow Go.Proofs.YtpfcdhjknmijjaaGreat.Rv Go.Proofs.YtpfcdhjknmijjaaGreat.PEmitFinds Go.Proofs.YtpfcdhjknmijjaaGreat.Ht Go.Proofs.YtpfcdhjknmijjaaGreat.Ew
open Go.Proofs.YtpfcdhjknmijjaaGreatW.PrintWords Go.Proofs.YtpfcdhjknmijjaaGreatW.PrintLast Go.Proofs.YtpfcdhjknmijjaaGreatW.PrintMore
/-! ### The chapter's example -/
def chk3 (lo : Bool) (z : Int) : Bool := decide (3 < (O2 lo).1.mem.rs.length) && (slotsV 2 (As.strOf (workB (O2 lo) 3)) 2 == [0, z])
set_option maxHeartbeats 4000000 in
theorem run3a : chk3 false 1 = true := by decide +kernel
set_option maxHeartbeats 4000000 in
theorem run3b : chk3 true 2 = true := by decide +kernel
theorem same02 : burinbook_SameInts.f 10 [0, 2] [0, 2] = some true := by kernel_rfl
theorem same01 : burinbook_SameInts.f 10 [0, 1] [0, 1] = some true := by kernel_rfl
/-- A run of the second example. -/
theorem ex2_calls {w0 w : World} {J g : Nat} {out : List Int} (h : JitIs w0 w J g P2 5 2 out T2s) (lo : Bool) (z : Int) (h2 : chk2 lo z = true) (h3 : chk3 lo z = true) :
    Calls Tryz.prog 21 #[.pointer (some ⟨J, 0, none⟩), .agg #[.string ⟨#[97, 98]⟩, .int .i64 0, .bool false, .bool lo], .int .i64 100] w fun e w' => ∃ v n, 0 < n ∧ e = .returned (.tuple #[.agg #[.bool true, v], .int .i64 ((n : Nat) : Int), .int .i64 0]) ∧
      Kd.R (Kd.int .i64) 3 w' w.heap.size (fun _ => True) v [0, z] ∧ Below w.heap.size w w' := by
  unfold chk2 at h2
  unfold chk3 at h3
  simp only [Bool.and_eq_true, decide_eq_true_eq, beq_iff_eq] at h2 h3
  obtain ⟨⟨⟨⟨a1, a2⟩, a3⟩, a4⟩, _⟩ := h2
  obtain ⟨b1, b2⟩ := h3
  have hm : R2.length - 1 < (O2 lo).1.mem.rs.length := b1
  have hbs : ((O2 lo).1.mem.rs[R2.length - 1]'hm).bytes = workB (O2 lo) 3 := by
    show ((O2 lo).1.mem.rs[3]'b1).bytes = _
    unfold workB
    rw [List.getElem?_eq_getElem b1]; rfl
  have C := run_calls h valid2 ⟨#[97, 98]⟩ (by decide) 0 (by decide) (by decide) false lo 100 (wk := 344) (by rw [show P2.length = 6 from rfl]; decide) (by rw [show P2.length = 6 from rfl]; decide) work2 (by decide) (by decide) regs2 (R := R2) rfl (by decide) R2_ok same2 (F := 4608) fuel2 (by decide)
    (O := (O2 lo).1) (n := (O2 lo).2.1) (bs := workB (O2 lo) 3) (show O2 lo = _ by rw [← a1]) hm hbs (by rw [a4]; decide)
  refine C.mono ?_
  rintro e w' ⟨v, rfl, hR, hb⟩
  rw [a3] at hR ⊢
  rw [if_neg (by decide), b2] at hR
  exact ⟨v, _, a2, rfl, hR, hb⟩
set_option maxHeartbeats 8000000 in
theorem works31_calls (w : World) : Calls Tryz.prog 19 #[] w fun e w' => e = .returned (.bool true) ∧ Below w.heap.size w w' := by
  obtain ⟨wa, hwa⟩ : ∃ wa, (w.alloc (.cells (P2.flatMap c61).toArray 61)).alloc (.cells #[.slice (some ⟨w.heap.size, 0, none⟩) 6 6, .int .i64 5, .int .i64 2] 24) = wa := ⟨_, rfl⟩
  have h61 : wa.heap[w.heap.size]? = some (.cells (P2.flatMap c61).toArray 61 (0, 0)) := by rw [← hwa]; exact blk_alloc (heap_alloc_new _ _) _
  have B1 : Below w.heap.size w wa := by rw [← hwa]; exact below_alloc (below_alloc (Below.refl _ _) _) _
  have C1 := Aside0.mk (new_calls (w := wa) (A := some ⟨w.heap.size, 0, none⟩) (c := 6) (l := P2) 5 2 (own61 h61 (by decide)) (by decide))
  have BA := Aside0.mk B1
  have hP : wa.heap[w.heap.size + 1]? = some (.cells #[.slice (some ⟨w.heap.size, 0, none⟩) 6 6, .int .i64 5, .int .i64 2] 24 (0, 0)) := by rw [← hwa]; exact heap_alloc_at _ _ (by simp)
  rw [show P2.length = 6 from rfl] at C1
  rw [show (P2.flatMap c61).toArray = #[.int .i64 5, .int .i64 0, .int .i64 0, .int .i64 0, .int .i64 0, .int .i64 6, .int .i64 0, .int .i64 0, .int .i64 0, .int .i64 0, .int .i64 1, .int .i64 97, .int .i64 97, .int .i64 0, .int .i64 0, .int .i64 1, .int .i64 98, .int .i64 98, .int .i64 0, .int .i64 0, .int .i64 1, .int .i64 97, .int .i64 97, .int .i64 3, .int .i64 0, .int .i64 2, .int .i64 0, .int .i64 0, .int .i64 2, .int .i64 4] from rfl] at hwa
  clear h61 B1
  go_enter Tryz.func19, Tryz.ntmps19
  go_wp2_with (first | (refine wpList_load24 rfl _ rfl (w.heap.size + 1) _ _ _ rfl hP ?_))
  clear hwa hP
  refine C1.out.mono ?_
  rintro e w1 hn
  obtain ⟨g, w0, out, rfl, hv, ho, hI, hb0, hb1⟩ := hn.resolve_right (fun ⟨c, _, hbad, _⟩ => hbad.not ⟨valid2, order2⟩)
  have hI' : IsS63 w0 w1 g P2 ((5 : Nat) : Int) ((2 : Nat) : Int) out := hI
  have CJ := Aside0.mk (jnew_calls hI' hb1 valid2 code2)
  have B2 := Aside0.mk ((BA.out.trans (hb0.mono BA.out.size)).trans (hb1.mono (Nat.le_trans BA.out.size hb0.size)))
  clear hv ho hI hI' hb0 hb1 C1 BA
  go_wp2_with fail
  refine CJ.out.mono ?_
  rintro e w2 ⟨J, rfl, hJ, hb⟩
  have B3 := Aside0.mk (B2.out.trans (hb.mono B2.out.size))
  have J3 := Aside0.mk hJ
  have CA := Aside0.mk (ex2_calls hJ false 1 run2a run3a)
  clear hb hJ CJ B2
  go_wp2_with fail
  refine CA.out.mono ?_
  rintro e w3 ⟨v1, n1, hn1, rfl, hR, hb⟩
  obtain ⟨ga, ca, rfl, _, _, _⟩ := Kd.R_form hR (by decide)
  have hC := Kd.R_reads' hR
  rw [show ([0, 1] : List Int).length = 2 from rfl] at hC ⊢
  obtain ⟨xa, hxa⟩ : ∃ xa, w3.alloc (.cells #[.bool true, .slice (some ⟨ga, 0, none⟩) 2 ca] 40) = xa := ⟨_, rfl⟩
  have hba : Below w3.heap.size w3 xa := by rw [← hxa]; exact below_alloc (Below.refl _ _) _
  have hTa : xa.heap[w3.heap.size]? = some (.cells #[.bool true, .slice (some ⟨ga, 0, none⟩) 2 ca] 40 (0, 0)) := by rw [← hxa]; exact heap_alloc_new _ _
  obtain ⟨za, hza⟩ : ∃ za, w3.heap.size = za := ⟨_, rfl⟩
  have B4 := Aside0.mk ((B3.out.trans (hb.mono B3.out.size)).trans (hba.mono (by have := B3.out.size; have := hb.size; omega)))
  have TA := Aside0.mk (hza ▸ hTa)
  have KA := Aside0.mk (Kd.C_below hC.2.2 hba)
  have LA := Aside0.mk hC.2.1
  have J4 := Aside0.mk ((J3.out.below hb).below hba)
  have CB := Aside0.mk (ex2_calls J4.out true 2 run2b run3b)
  clear hR hC hb hba hTa B3 J3 CA
  go_wp2_with fail
  refine CB.out.mono ?_
  rintro e w4 ⟨v2, n2, hn2, rfl, hR, hb⟩
  obtain ⟨gb, cb, rfl, _, _, _⟩ := Kd.R_form hR (by decide)
  have hC := Kd.R_reads' hR
  rw [show ([0, 2] : List Int).length = 2 from rfl] at hC ⊢
  obtain ⟨xb, hxb⟩ : ∃ xb, w4.alloc (.cells #[.bool true, .slice (some ⟨gb, 0, none⟩) 2 cb] 40) = xb := ⟨_, rfl⟩
  have hba : Below w4.heap.size w4 xb := by rw [← hxb]; exact below_alloc (Below.refl _ _) _
  have hTa : xb.heap[w4.heap.size]? = some (.cells #[.bool true, .slice (some ⟨gb, 0, none⟩) 2 cb] 40 (0, 0)) := by rw [← hxb]; exact heap_alloc_new _ _
  obtain ⟨zb, hzb⟩ : ∃ zb, w4.heap.size = zb := ⟨_, rfl⟩
  have B5 := Aside0.mk ((B4.out.trans (hb.mono B4.out.size)).trans (hba.mono (by have := B4.out.size; have := hb.size; omega)))
  have TA5 := Aside0.mk (blk_below (blk_below TA.out hb) hba)
  have KA5 := Aside0.mk (Kd.C_below (Kd.C_below KA.out hb) hba)
  have TB := Aside0.mk (hzb ▸ hTa)
  have KB := Aside0.mk (Kd.C_below hC.2.2 hba)
  have LB := Aside0.mk hC.2.1
  have J5 := Aside0.mk ((J4.out.below hb).below hba)
  have CC := Aside0.mk (run_refuse J5.out valid2 ⟨#[97, 98]⟩ (by decide) 0 (by decide) (by decide) false false 17 (.inl (by rw [show P2.length = 6 from rfl]; decide)))
  clear hR hC hb hba hTa B4 J4 CB hn2 TA KA
  go_wp2_with fail
  refine CC.out.mono ?_
  rintro e w5 ⟨v3, rfl, hR, hb⟩
  obtain ⟨A3, c3, rfl⟩ := Kd.R_slice hR
  rw [show ([] : List Int).length = 0 from rfl]
  obtain ⟨xc, hxc⟩ : ∃ xc, w5.alloc (.cells #[.bool false, .slice A3 0 c3] 40) = xc := ⟨_, rfl⟩
  have hba : Below w5.heap.size w5 xc := by rw [← hxc]; exact below_alloc (Below.refl _ _) _
  have B6 := Aside0.mk ((B5.out.trans (hb.mono B5.out.size)).trans (hba.mono (by have := B5.out.size; have := hb.size; omega)))
  have TA6 := Aside0.mk (blk_below (blk_below TA5.out hb) hba)
  have KA6 := Aside0.mk (Kd.C_below (Kd.C_below KA5.out hb) hba)
  have TB6 := Aside0.mk (blk_below (blk_below TB.out hb) hba)
  have KB6 := Aside0.mk (Kd.C_below (Kd.C_below KB.out hb) hba)
  have J6 := Aside0.mk ((J5.out.below hb).below hba)
  have ea := blk_cell TA6.out 1
  have ez := blk_lt TA6.out
  have eb := blk_cell TB6.out 1
  have ey := blk_lt TB6.out
  clear hR hb hba B5 J5 CC TA5 KA5 TB KB
  go_wp2_with fail
  have C1 : Kd.C (Kd.int .i64) (xc.alloc (.cells #[.int .i64 0, .int .i64 1] 3)) (some ⟨ga, 0, none⟩) ([0, 1] : List Int).length [0, 1] := Kd.C_alloc KA6.out _
  have C2 : Kd.C (Kd.int .i64) (xc.alloc (.cells #[.int .i64 0, .int .i64 1] 3)) (some ⟨xc.heap.size, 0, none⟩) ([0, 1] : List Int).length [0, 1] := ints_C (heap_alloc_new _ _) (by decide)
  refine (burinbook_SameInts.calls 10 (some ⟨ga, 0, none⟩) ca [0, 1] (some ⟨xc.heap.size, 0, none⟩) 2 [0, 1] true _ C1 LA.out C2 (by decide) same01).mono ?_
  rintro e wd ⟨rfl, hd⟩
  have Bd := (below_alloc (Below.refl xc.heap.size xc) (.cells #[.int .i64 0, .int .i64 1] 3)).trans (hd.below.mono (below_alloc (Below.refl xc.heap.size xc) (.cells #[.int .i64 0, .int .i64 1] 3)).size)
  have B7 := Aside0.mk (B6.out.trans (Bd.mono B6.out.size))
  have KB7 := Aside0.mk (Kd.C_below KB6.out Bd)
  have J7 := Aside0.mk (J6.out.below Bd)
  have eb := blk_cell (blk_below TB6.out Bd) 1
  have ey := blk_lt (blk_below TB6.out Bd)
  clear hd Bd C1 C2 ea ez B6 TA6 KA6 TB6 KB6 J6 hxc
  go_wp2_with fail
  have C1 : Kd.C (Kd.int .i64) (wd.alloc (.cells #[.int .i64 0, .int .i64 2] 3)) (some ⟨gb, 0, none⟩) ([0, 2] : List Int).length [0, 2] := Kd.C_alloc KB7.out _
  have C2 : Kd.C (Kd.int .i64) (wd.alloc (.cells #[.int .i64 0, .int .i64 2] 3)) (some ⟨wd.heap.size, 0, none⟩) ([0, 2] : List Int).length [0, 2] := ints_C (heap_alloc_new _ _) (by decide)
  refine (burinbook_SameInts.calls 10 (some ⟨gb, 0, none⟩) cb [0, 2] (some ⟨wd.heap.size, 0, none⟩) 2 [0, 2] true _ C1 LB.out C2 (by decide) same02).mono ?_
  rintro e we ⟨rfl, hd⟩
  have Bd := (below_alloc (Below.refl wd.heap.size wd) (.cells #[.int .i64 0, .int .i64 2] 3)).trans (hd.below.mono (below_alloc (Below.refl wd.heap.size wd) (.cells #[.int .i64 0, .int .i64 2] 3)).size)
  have B8 := Aside0.mk (B7.out.trans (Bd.mono B7.out.size))
  have J8 := Aside0.mk (jtext_calls (J7.out.below Bd).obj)
  obtain ⟨t2, ht2⟩ : ∃ t, T2s = t := ⟨_, rfl⟩
  have hz2 : t2.size = 648 := by rw [← ht2]; exact size2
  rw [ht2] at J8
  clear hd Bd C1 C2 eb ey B7 KB7 J7 ht2
  go_wp2_with (first | (go_at_call 25; refine J8.out.mono ?_; rintro e wq ⟨rfl, rfl⟩))
  go_ret
  exact ⟨rfl, B8.out⟩
end Go.Proofs.YtpfcdhjknmijjaaGreat.Jd
end
