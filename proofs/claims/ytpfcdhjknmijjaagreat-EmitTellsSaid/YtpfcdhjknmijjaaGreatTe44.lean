import Derived.Test.YtpfcdhjknmijjaaGreatTe42
import Derived.Test.YtpfcdhjknmijjaaGreatTe43
section
set_option linter.unusedSimpArgs false
set_option linter.unusedVariables false
set_option maxRecDepth 100000
namespace Go.Proofs.YtpfcdhjknmijjaaGreat.Ew
open Go.RowKit Go.Maps Go.Proofs.YtpfcdhjknmijjaaGreat.Em Go.Proofs.YtpfcdhjknmijjaaGreat.Ve Go.Proofs.YtpfcdhjknmijjaaGreat.Grow Go.Proofs.YtpfcdhjknmijjaaGreat.Rv Go.Proofs.YtpfcdhjknmijjaaGreat.PEmitFinds Go.Proofs.YtpfcdhjknmijjaaGreat.Ht
open Go.Proofs.YtpfcdhjknmijjaaGreatW.PrintWords Go.Proofs.YtpfcdhjknmijjaaGreatW.PrintLast Go.Proofs.YtpfcdhjknmijjaaGreatW.PrintMore
def ba : ByteArray := ⟨#[98, 97]⟩
theorem ba_size : ((ba.size : Nat) : Int) = 2 := rfl
theorem H1_eq : setsF (new0 (memOf R1) 65536) (regL (ba.size : Int) 0 false false) 32 = H1 := by rw [ba_size]; rfl
theorem O1_eq : runF 32768 2304 0 H1 = O1 := rfl
theorem work_mem {O : HartS × Nat × Int} {i : Nat} (h : (workB O i).length = 200) : ∃ hi : i < O.1.mem.rs.length, O.1.mem.rs[i].bytes = workB O i := by
  by_cases hi : i < O.1.mem.rs.length
  · refine ⟨hi, ?_⟩
    unfold workB
    rw [List.getElem?_eq_getElem hi]; rfl
  · exfalso
    unfold workB at h
    rw [List.getElem?_eq_none (by omega)] at h
    cases h
theorem same1 : ∀ (i : Nat) (h : i < 4), (rd_T89 L1 i).f0 = (R1[i]'(by exact h)).base ∧ (rd_T89 L1 i).f1 = (R1[i]'(by exact h)).data ∧ (rd_T89 L1 i).f2 = (R1[i]'(by exact h)).rights
  | 0, _ => ⟨rfl, rfl, rfl⟩
  | 1, _ => ⟨rfl, rfl, rfl⟩
  | 2, _ => ⟨rfl, rfl, rfl⟩
  | 3, _ => ⟨rfl, rfl, rfl⟩
  | n + 4, h => absurd h (by omega)
theorem len1 : L1.length = 4 := rfl
theorem rlen1 : R1.length = 4 := rfl
theorem T1_ne : T1s.toList.isEmpty = false := by decide +kernel
theorem ba_ne : ba.toList.isEmpty = false := by decide +kernel
attribute [local irreducible] runF setsF H1 O1 workB burinref30_Regions.f burinref30_Told.f T1s L1 R1 codeT
theorem ex1 : ExP P1 2 2 T1s ba L1 R1 2304 O1.1 O1.2.1 (workB O1 3) [1, 2] := by
  obtain ⟨c1, c2, c3, c4⟩ := chk1_
  obtain ⟨hm, hb⟩ := work_mem c4
  refine { valid := valid1, code := code1, ne := T1_ne, nx := ba_ne, sz := by decide, regs := regions1, len := len1, rlen := rlen1, same := same1, ok := R1_ok, good := ?_, fuel := ?_, few := by decide, ran := ?_, big := c2, mem := hm, got := hb, work := ?_, ans := c3, told := told1, idx := ?_ }
  · rw [H1_eq]; exact H1_good
  · rw [ba_size]; exact fuel1
  · rw [H1_eq, show (2304 : Int).toNat = 2304 from rfl, O1_eq, ← c1]
  · rw [ba_size, c4]; exact work1
  · rw [ba_size]; exact fun w k hk => idx83 w k hk
end Go.Proofs.YtpfcdhjknmijjaaGreat.Ew
end
section
set_option linter.unusedSimpArgs false
set_option linter.unusedVariables false
set_option maxRecDepth 100000
namespace Go.Proofs.YtpfcdhjknmijjaaGreat.Ew
open Go.RowKit Go.Maps Go.Proofs.YtpfcdhjknmijjaaGreat.Em Go.Proofs.YtpfcdhjknmijjaaGreat.Ve Go.Proofs.YtpfcdhjknmijjaaGreat.Grow Go.Proofs.YtpfcdhjknmijjaaGreat.Rv Go.Proofs.YtpfcdhjknmijjaaGreat.PEmitFinds Go.Proofs.YtpfcdhjknmijjaaGreat.Ht
open Go.Proofs.YtpfcdhjknmijjaaGreatW.PrintWords Go.Proofs.YtpfcdhjknmijjaaGreatW.PrintLast Go.Proofs.YtpfcdhjknmijjaaGreatW.PrintMore
theorem own61 {w : World} {g : Nat} {l : List S61} (h : w.heap[g]? = some (.cells (l.flatMap c61).toArray 61 (0, 0))) (hp : l.length ≤ 1000000) : Kd.C k61 w (some ⟨g, 0, none⟩) l.length l :=
  (Kd.R_reads' (k61_of_row (base := 0) ⟨by rw [flat_len c61 5 c61_len], .inr ⟨g, l.length, _, rfl, Nat.zero_le _, h, Nat.le_refl _, by unfold maxLen; omega, by simp [flat_len c61 5 c61_len], by rw [List.take_of_length_le (by simp [flat_len c61 5 c61_len])]⟩⟩)).2.2
theorem same12 : burinbook_SameInts.f 10 [1, 2] [1, 2] = some true := by kernel_rfl
theorem ints_C {w : World} {g : Nat} {l : List Int} (h : w.heap[g]? = some (.cells (l.map (Value.int .i64)).toArray 3 (0, 0))) (hp : l.length ≤ 1000000) : Kd.C (Kd.int .i64) w (some ⟨g, 0, none⟩) l.length l :=
  (Kd.R_reads' (Kd.R_of_own (ok := fun _ => True) (base := 0) (e := 3) ⟨by simp [encs], .inr ⟨g, l.length, _, rfl, Nat.zero_le _, h, Nat.le_refl _, by unfold maxLen; omega, by simp, by rw [List.take_of_length_le (by simp [encs])]; rfl⟩⟩ (fun _ _ => trivial))).2.2
theorem tab_size : tabS.size = 256 := by decide +kernel
set_option maxHeartbeats 8000000 in
theorem works30_calls (w : World) : Calls Tryz.prog 8 #[] w fun e w' => e = .returned (.bool true) ∧ Below w.heap.size w w' := by
  obtain ⟨wa, hwa⟩ : ∃ wa, (w.alloc (.cells #[.int .i64 5, .int .i64 0, .int .i64 0, .int .i64 0, .int .i64 0, .int .i64 6, .int .i64 0, .int .i64 0, .int .i64 0, .int .i64 0, .int .i64 1, .int .i64 97, .int .i64 97, .int .i64 0, .int .i64 0] 61)).alloc (.cells #[.slice (some ⟨w.heap.size, 0, none⟩) 3 3, .int .i64 2, .int .i64 2] 24) = wa := ⟨_, rfl⟩
  have h61 : wa.heap[w.heap.size]? = some (.cells (P1.flatMap c61).toArray 61 (0, 0)) := by rw [← hwa]; exact blk_alloc (heap_alloc_new _ _) _
  have B1 : Below w.heap.size w wa := by rw [← hwa]; exact below_alloc (below_alloc (Below.refl _ _) _) _
  have C1 := Aside0.mk (new_calls (w := wa) (A := some ⟨w.heap.size, 0, none⟩) (c := 3) (l := P1) 2 2 (own61 h61 (by decide)) (by decide))
  have BA := Aside0.mk B1
  have hP : wa.heap[w.heap.size + 1]? = some (.cells #[.slice (some ⟨w.heap.size, 0, none⟩) 3 3, .int .i64 2, .int .i64 2] 24 (0, 0)) := by rw [← hwa]; exact heap_alloc_at _ _ (by simp)
  rw [show P1.length = 3 from rfl] at C1
  clear h61 B1
  go_enter Tryz.func8, Tryz.ntmps8
  go_wp2_with (first | (refine wpList_load24 rfl _ rfl (w.heap.size + 1) _ _ _ rfl hP ?_))
  clear hwa hP
  refine C1.out.mono ?_
  rintro e w1 hn
  obtain ⟨g, w0, out, rfl, hv, ho, hI, hb0, hb1⟩ := hn.resolve_right (fun ⟨c, _, hbad, _⟩ => hbad.not ⟨valid1, order1⟩)
  have hI' : IsS63 w0 w1 g P1 ((2 : Nat) : Int) ((2 : Nat) : Int) out := hI
  have C2 := Aside0.mk (called_calls hI' hb1 ex1)
  have B2 := Aside0.mk ((BA.out.trans (hb0.mono BA.out.size)).trans (hb1.mono (Nat.le_trans BA.out.size hb0.size)))
  have H2 := Aside0.mk hI'
  clear hv ho hI hI' hb0 hb1 C1 BA
  go_wp2_with fail
  refine C2.out.mono ?_
  rintro e w2 ⟨v, rfl, hR, hb⟩
  obtain ⟨gv, cv, rfl, hgv, hgv2, _⟩ := Kd.R_form hR (by decide)
  have hC := (Kd.R_reads' hR)
  have K3 := Aside0.mk hC
  have B3 := Aside0.mk (B2.out.trans (hb.mono B2.out.size))
  have H3 := Aside0.mk (H2.out.below hb)
  have hbig := chk1_.2.1
  obtain ⟨n, hn⟩ : ∃ n, O1.2.1 = n := ⟨_, rfl⟩
  rw [hn] at hbig ⊢
  clear hb hR hC hgv hgv2 C2 B2 H2
  rw [show ([1, 2] : List Int).length = 2 from rfl] at K3 ⊢
  obtain ⟨wb, hwb⟩ : ∃ wb, w2.alloc (.cells #[.bool true, .slice (some ⟨gv, 0, none⟩) 2 cv] 40) = wb := ⟨_, rfl⟩
  have hb : Below w2.heap.size w2 wb := by rw [← hwb]; exact below_alloc (Below.refl _ _) _
  have hT : wb.heap[w2.heap.size]? = some (.cells #[.bool true, .slice (some ⟨gv, 0, none⟩) 2 cv] 40 (0, 0)) := by rw [← hwb]; exact heap_alloc_new _ _
  have HT := Aside0.mk hT
  have B4 := Aside0.mk (B3.out.trans (hb.mono B3.out.size))
  have K4 := Aside0.mk (Kd.C_below K3.out.2.2 hb)
  have hK3 := Aside0.mk K3.out.2.1
  have CW := Aside0.mk (work_calls (H3.out.below hb) (by decide) (by decide) 2)
  have CF := Aside0.mk (fuel_calls (H3.out.below hb) (by decide) 2)
  rw [show workF P1.length ((2 : Nat) : Int) 2 = 200 from work1] at CW
  rw [show fuelF P1.length 2 = 2304 from fuel1] at CF
  obtain ⟨zt, hzt⟩ : ∃ zt, w2.heap.size = zt := ⟨_, rfl⟩
  rw [hzt] at HT
  clear hb hT B3 K3 H3
  go_wp2_with (first | (go_at_call 11; refine CW.out.mono ?_; rintro e wq ⟨rfl, rfl⟩) | (go_at_call 13; refine CF.out.mono ?_; rintro e wq ⟨rfl, rfl⟩))
  refine (table_calls _).mono ?_
  rintro e wc ⟨rfl, hb⟩
  have hts : (tabS.size : Int) = 256 := by rw [tab_size]; rfl
  obtain ⟨ts, hts2⟩ : ∃ ts, tabS = ts := ⟨_, rfl⟩
  rw [hts2] at hts ⊢
  have hT := blk_below HT.out hb
  have eT := blk_cell hT 1
  have zT := blk_lt hT
  have B5 := Aside0.mk (B4.out.trans (hb.mono B4.out.size))
  have K5 := Aside0.mk (Kd.C_below K4.out hb)
  clear hb hts2 CW CF B4 K4 hwb hT
  go_wp2_with fail
  have C1 : Kd.C (Kd.int .i64) (wc.alloc (.cells #[.int .i64 1, .int .i64 2] 3)) (some ⟨gv, 0, none⟩) ([1, 2] : List Int).length [1, 2] := Kd.C_alloc K5.out _
  have C2 : Kd.C (Kd.int .i64) (wc.alloc (.cells #[.int .i64 1, .int .i64 2] 3)) (some ⟨wc.heap.size, 0, none⟩) ([1, 2] : List Int).length [1, 2] := ints_C (heap_alloc_new _ _) (by decide)
  refine (burinbook_SameInts.calls 10 (some ⟨gv, 0, none⟩) cv [1, 2] (some ⟨wc.heap.size, 0, none⟩) 2 [1, 2] true _ C1 hK3.out C2 (by decide) same12).mono ?_
  rintro e wd ⟨rfl, hd⟩
  have B6 := Aside0.mk ((below_alloc B5.out (.cells #[.int .i64 1, .int .i64 2] 3)).trans (hd.below.mono (below_alloc B5.out (.cells #[.int .i64 1, .int .i64 2] 3)).size))
  clear hd C1 C2 eT zT K5 B5
  go_wp2_with fail
  go_ret
  exact ⟨rfl, B6.out⟩
end Go.Proofs.YtpfcdhjknmijjaaGreat.Ew
end
