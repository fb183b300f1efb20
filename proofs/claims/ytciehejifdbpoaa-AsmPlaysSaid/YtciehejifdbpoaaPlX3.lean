import Derived.Test.YtciehejifdbpoaaPlX2
import Derived.Laws.AppendOwnNone
section
set_option linter.unusedSimpArgs false
set_option linter.unusedVariables false
namespace Go.Proofs.Ytciehejifdbpoaa.Ap
open Go.RowKit Go.Maps Go.Proofs.Ytciehejifdbpoaa.Grow Go.Proofs.Ytciehejifdbpoaa.Rv Go.Proofs.Ytciehejifdbpoaa.As
open Go.Proofs.YtciehejifdbpoaaW.PrintWords Go.Proofs.YtciehejifdbpoaaW.PrintLast Go.Proofs.YtciehejifdbpoaaW.PrintMore

/-- A call of the law's. -/
structure ActI where
  kind : Int
  label : Int
  n : Int
  op : OpI
def ActI.val (x : ActI) : Value := .agg #[.int .i64 x.kind, .int .i64 x.label, .int .i64 x.n, .string x.op.name, .int .i64 x.op.rd, .int .i64 x.op.ra, .int .i64 x.op.rb, .int .i64 x.op.imm]
def DoPost (b p : Nat) (A : AsmS) (ms : List Int) (w : World) (e : Ending) (w' : World) : Prop :=
  ∃ lv' mv' A' ms', e = .returned (.tuple #[.agg #[lv', mv'], .bool true]) ∧ AsmAt w' b p A' ∧ CodeIs w' b lv' mv' A'.ps ms' ∧ Iv A' ms' ∧ FD b w w' ∧ A'.ps.length ≤ A.ps.length + 1200 ∧ ms'.length ≤ ms.length + 1 ∧ A'.nm ≤ A.nm + 1
structure DoPre (w : World) (b p : Nat) (A : AsmS) (lv mv : Value) (ms : List Int) : Prop where
  asm : AsmAt w b p A
  code : CodeIs w b lv mv A.ps ms
  iv : Iv A ms
  hb : b ≤ w.heap.size
  len : A.ps.length + 1200 < 90000
  few : ms.length + 1 < 1000
  nm : A.nm < 1000000
theorem boxes3 (w : World) (o1 o2 o3 : Obj) : ∀ W, ((w.alloc o1).alloc o2).alloc o3 = W → W.heap[w.heap.size]? = some o1 ∧ W.heap[w.heap.size + 1]? = some o2 ∧ W.heap[w.heap.size + 1 + 1]? = some o3 ∧ W.heap.size = w.heap.size + 3 ∧ Below w.heap.size w W := boxes w o1 o2 o3
theorem pushIf_nm (A : AsmS) (c : Int) (x : Pc) : (A.pushIf c x).nm = A.nm := by unfold AsmS.pushIf; split <;> rfl
theorem markIf_nm (A : AsmS) (c label : Int) : (A.markIf c label).nm ≤ A.nm + 1 := by
  unfold AsmS.markIf
  split
  · exact Nat.le_refl _
  · omega
theorem markP_len (ms : List Int) (c : Int) (k n : Nat) : (markP ms c k n).length = ms.length := by unfold markP; split <;> simp
theorem iv_putF {A : AsmS} {ms : List Int} (h : Iv A ms) {x : OpI} {a c : Int} (hE : encF x.name x.rd x.ra x.rb x.imm = (a, c)) (hm : A.ps.length + 1 < 90000) : Iv (A.putF x c) ms := by
  unfold AsmS.putF
  by_cases hc : c = 0
  · subst hc
    rw [pushIf_0]
    exact inv_put h (by unfold encOf; rw [hE]) hm
  · rw [pushIf_ne _ hc]; exact h
theorem asm_set4 {w w' : World} {b p k k2 : Nat} {A : AsmS} (h : AsmAt w b p A) {cs cs2 : Array Value} (hk : w.heap[k]? = some (.cells cs 53 (0, 0))) (hk2 : w.heap[k2]? = some (.cells cs2 53 (0, 0))) (hq : ∀ j, j ≠ k → j ≠ k2 → w'.heap[j]? = w.heap[j]?) : AsmAt w' b p A :=
  h.kept fun j _ ht => hq j (fun e => by
    subst e
    obtain ⟨c, f, e | e | ⟨es, n, e⟩⟩ := ht <;> rw [hk] at e <;> cases e) (fun e => by
    subst e
    obtain ⟨c, f, e | e | ⟨es, n, e⟩⟩ := ht <;> rw [hk2] at e <;> cases e)
theorem code_set4 {w w' : World} {b k k2 : Nat} {lv mv : Value} {ps : List Pc} {ms : List Int} (h : CodeIs w b lv mv ps ms) {cs cs2 : Array Value} (hk : w.heap[k]? = some (.cells cs 53 (0, 0))) (hk2 : w.heap[k2]? = some (.cells cs2 53 (0, 0))) (hq : ∀ j, j ≠ k → j ≠ k2 → w'.heap[j]? = w.heap[j]?) : CodeIs w' b lv mv ps ms :=
  h.kept fun j c t _ hj ht => hq j (fun e => by
    subst e
    rw [hk] at hj; cases hj; rcases ht with h | h <;> cases h) (fun e => by
    subst e
    rw [hk2] at hj; cases hj; rcases ht with h | h <;> cases h)
theorem set4 (w : World) (k1 k2 : Nat) (u v u2 v2 : Value) : (∀ k, k ≠ k1 → k ≠ k2 → ((((w.setCell ⟨k1, 0, none⟩ u).setCell ⟨k1, 1, none⟩ v).setCell ⟨k2, 0, none⟩ u2).setCell ⟨k2, 1, none⟩ v2).heap[k]? = w.heap[k]?) := fun k h1 h2 =>
  (heap_setCell_other _ _ k _ h2).trans ((heap_setCell_other _ _ k _ h2).trans ((heap_setCell_other _ _ k _ h1).trans (heap_setCell_other _ _ k _ h1)))
set_option maxHeartbeats 8000000 in
set_option maxRecDepth 100000 in
theorem do0 {w : World} {b p : Nat} {A : AsmS} {lv mv : Value} {ms : List Int} (h : DoPre w b p A lv mv ms) (x : ActI) (hk : x.kind = 0) :
    Calls Try.prog 30 #[.pointer (some ⟨p, 0, none⟩), .agg #[lv, mv], x.val] w fun e w' => DoPost b p A ms w e w' := by
  obtain ⟨o, c2, hmv⟩ := row_slice h.code.marks
  obtain ⟨o1, c1, hlv⟩ := row_slice h.code.row
  have H := Aside0.mk h
  clear h
  subst hmv
  subst hlv
  obtain ⟨kind, label, n, x⟩ := x
  obtain ⟨⟨a, c⟩, hE⟩ : ∃ r, encF x.name x.rd x.ra x.rb x.imm = r := ⟨_, rfl⟩
  have PC := Aside0.mk (fun (w1 : World) (hb : Below w.heap.size w w1) => put67_calls (H.out.asm.below hb) (H.out.code.below hb) (Nat.le_trans H.out.hb hb.size) (by have := H.out.len; omega) (by have := H.out.len; omega) x hE)
  have HE := Aside0.mk hE
  obtain ⟨nm, rd, ra, rb, imm⟩ := x
  unfold ActI.val
  simp only at hk ⊢
  subst hk
  clear hE
  go_enter Try.func30, Try.ntmps30
  go_wp2_with fail
  generalize hW : ((w.alloc _).alloc _).alloc _ = W
  obtain ⟨kA, kB, kC, hs, hbel⟩ := boxes3 _ _ _ _ _ hW
  clear hW
  refine (PC.out W hbel).mono ?_
  rintro e w1 ⟨lv', rfl, hA1, hC1, hF1⟩
  rw [← add_both] at hC1
  obtain ⟨o5, c5, rfl⟩ := row_slice hC1.row
  have kC1 := hF1.kept kC (by decide) (by decide) (by decide)
  have r3 := blk_cell kC1
  have f3 := fun o => frozen_of_row w1 (w.heap.size + 1 + 1) o _ 53 kC1
  have z3 := blk_lt kC1
  have z30 : ∀ j, w.heap.size + 1 + 1 < w1.heap.size + j := fun j => by omega
  have FIN := Aside0.mk (And.intro hA1 (And.intro hC1 (And.intro ((FD.of_below hbel).trans (hF1)) kC1)))
  clear hA1 hC1 hF1 kC1 kA kB kC hbel hs
  obtain ⟨N5, hN5⟩ : ∃ N5, (A.pushIf c (plainPc ⟨nm, rd, ra, rb, imm⟩)).ps.length = N5 := ⟨_, rfl⟩
  rw [hN5] at FIN ⊢
  have HN5 := Aside0.mk hN5
  clear hN5
  go_wp2
  refine bodyPost_ret (v := .tuple #[.agg #[.slice o5 N5 c5, .slice o ms.length c2], .bool true]) ?_ rfl ⟨_, _, A.putF ⟨nm, rd, ra, rb, imm⟩ c, ms, rfl, asm_set FIN.out.1 FIN.out.2.2.2 (set2 _ _ _ _), code_set FIN.out.2.1 FIN.out.2.2.2 (set2 _ _ _ _), ?_, (FIN.out.2.2.1.setNew (by omega) _).setNew (by omega) _, ?_, by omega, ?_⟩
  · simp only [results, Try.results30]
    go_simp
  · exact iv_putF H.out.iv HE.out (by have := H.out.len; omega)
  · have := pushIf_len A c (plainPc ⟨nm, rd, ra, rb, imm⟩); show (A.pushIf c (plainPc ⟨nm, rd, ra, rb, imm⟩)).ps.length ≤ _; omega
  · show (A.pushIf c (plainPc ⟨nm, rd, ra, rb, imm⟩)).nm ≤ _; rw [pushIf_nm]; omega

set_option maxHeartbeats 8000000 in
set_option maxRecDepth 100000 in
theorem do2 {w : World} {b p : Nat} {A : AsmS} {lv mv : Value} {ms : List Int} (h : DoPre w b p A lv mv ms) (x : ActI) (hk : x.kind = 2) (hI : I64 x.label) (hJ : I64 x.n) :
    Calls Try.prog 30 #[.pointer (some ⟨p, 0, none⟩), .agg #[lv, mv], x.val] w fun e w' => DoPost b p A ms w e w' := by
  obtain ⟨o, c2, hmv⟩ := row_slice h.code.marks
  obtain ⟨o1, c1, hlv⟩ := row_slice h.code.row
  have H := Aside0.mk h
  clear h
  subst hmv
  subst hlv
  obtain ⟨kind, label, n, nm, rd, ra, rb, imm⟩ := x
  unfold ActI.val
  simp only at hk hI hJ ⊢
  subst hk
  have HM := Aside0.mk (mark_both H.out.iv label)
  clear hJ
  go_enter Try.func30, Try.ntmps30
  go_wp2_with fail
  generalize hW : ((w.alloc _).alloc _).alloc _ = W
  obtain ⟨kA, kB, kC, hs, hbel⟩ := boxes3 _ _ _ _ _ hW
  clear hW
  refine (Mark_calls (H.out.asm.below hbel) (by have := H.out.len; omega) (by have := H.out.nm; omega) hI).mono ?_
  rintro e w1 ⟨rfl, hA1, hF1⟩
  have F1 := FD.trans (FD.of_below (b := b) hbel) (FD.of_fr hF1)
  have kA1 := (FD.of_fr hF1).kept kA (by decide) (by decide) (by decide)
  have kB1 := (FD.of_fr hF1).kept kB (by decide) (by decide) (by decide)
  have kC1 := (FD.of_fr hF1).kept kC (by decide) (by decide) (by decide)
  have C1 := Aside0.mk ((H.out.code.below hbel).fr hF1)
  have s1 : w.heap.size + 3 ≤ w1.heap.size := by have := hF1.size; omega
  have p1 := blk_cell kA1
  have p2 := blk_cell kB1
  have p3 := blk_cell kC1
  have z1 : ∀ j, w.heap.size < w1.heap.size + j := fun j => by omega
  have z2 : ∀ j, w.heap.size + 1 < w1.heap.size + j := fun j => by omega
  have z3 : ∀ j, w.heap.size + 1 + 1 < w1.heap.size + j := fun j => by omega
  have y1 : w.heap.size < w1.heap.size := by omega
  have y2 : w.heap.size + 1 < w1.heap.size := by omega
  have y3 : w.heap.size + 1 + 1 < w1.heap.size := by omega
  have S1 := Aside0.mk (And.intro hA1 (And.intro F1 (And.intro kA1 (And.intro kB1 kC1))))
  clear hA1 hF1 F1 kA1 kB1 kC1 kA kB kC hbel hs
  go_wp2_with fail
  refine (refMark_calls C1.out (by have := H.out.hb; omega) (by have := H.out.len; omega) (by have := H.out.few; omega) label).mono ?_
  rintro e w2 ⟨mv', rfl, hC2, hb2⟩
  have asm2 := S1.out.1.below hb2
  have hX2 := FD.of_below (b := b) hb2
  rw [← HM.out] at hC2 ⊢
  obtain ⟨C, hC⟩ : ∃ C, mkC A label = C := ⟨_, rfl⟩
  rw [hC] at hC2 asm2 ⊢
  have HC := Aside0.mk hC
  have hps : (A.markIf C label).ps = A.ps := by unfold AsmS.markIf; split <;> rfl
  have HPS := Aside0.mk hps
  clear hC hps
  obtain ⟨o5, c5, rfl⟩ := row_slice hC2.marks
  rw [markP_len] at hC2 ⊢
  have kA2 := hX2.kept S1.out.2.2.1 (by decide) (by decide) (by decide)
  have kC2 := hX2.kept S1.out.2.2.2.2 (by decide) (by decide) (by decide)
  have A2 := asm2
  have s2 : w.heap.size + 3 ≤ w2.heap.size := by have := hX2.size; omega
  clear p1 p2 p3 z1 z2 z3 y1 y2 y3
  have p1 := blk_cell kA2
  have p3 := blk_cell kC2
  have f1 := fun o => frozen_of_row w2 w.heap.size o _ 53 kA2
  have f3 := fun o => frozen_of_row w2 (w.heap.size + 1 + 1) o _ 53 kC2
  have z1 : ∀ j, w.heap.size < w2.heap.size + j := fun j => by omega
  have z3 : ∀ j, w.heap.size + 1 + 1 < w2.heap.size + j := fun j => by omega
  have y1 : w.heap.size < w2.heap.size := by omega
  have y3 : w.heap.size + 1 + 1 < w2.heap.size := by omega
  have S2 := Aside0.mk (And.intro A2 (And.intro hC2 (And.intro (S1.out.2.1.trans hX2) (And.intro kA2 kC2))))
  clear A2 asm2 hC2 hX2 kA2 kC2
  go_wp2
  have hq := set4 w2 w.heap.size (w.heap.size + 1 + 1)
  refine bodyPost_ret (v := .tuple #[.agg #[.slice o1 A.ps.length c1, .slice o5 ms.length c5], .bool true]) ?_ rfl ⟨_, _, A.markIf C label, markP ms C label.toNat A.ps.length, rfl, asm_set4 S2.out.1 S2.out.2.2.2.1 S2.out.2.2.2.2 (hq _ _ _ _), by rw [HPS.out]; exact code_set4 S2.out.2.1 S2.out.2.2.2.1 S2.out.2.2.2.2 (hq _ _ _ _), by rw [← HC.out]; exact inv_mark H.out.iv label, ((((S2.out.2.2.1.setNew (by omega) _).setNew (by omega) _).setNew (by omega) _).setNew (by omega) _), by rw [HPS.out]; omega, by rw [markP_len]; omega, markIf_nm _ _ _⟩
  simp only [results, Try.results30]
  go_simp


set_option maxHeartbeats 8000000 in
set_option maxRecDepth 100000 in
theorem do3 {w : World} {b p : Nat} {A : AsmS} {lv mv : Value} {ms : List Int} (h : DoPre w b p A lv mv ms) (x : ActI) (hk : x.kind = 3) (hI : I64 x.label) (hJ : I64 x.n) :
    Calls Try.prog 30 #[.pointer (some ⟨p, 0, none⟩), .agg #[lv, mv], x.val] w fun e w' => DoPost b p A ms w e w' := by
  obtain ⟨o, c2, hmv⟩ := row_slice h.code.marks
  obtain ⟨o1, c1, hlv⟩ := row_slice h.code.row
  have H := Aside0.mk h
  clear h
  subst hmv
  subst hlv
  obtain ⟨kind, label, n, nm, rd, ra, rb, imm⟩ := x
  unfold ActI.val
  simp only at hk hI hJ ⊢
  subst hk
  have HM := Aside0.mk (br_both H.out.iv nm ra rb label)
  clear hI hJ
  go_enter Try.func30, Try.ntmps30
  go_wp2_with fail
  generalize hW : ((w.alloc _).alloc _).alloc _ = W
  obtain ⟨kA, kB, kC, hs, hbel⟩ := boxes3 _ _ _ _ _ hW
  clear hW
  refine (Branch_calls (H.out.asm.below hbel) (by have := H.out.len; omega) nm ra rb label).mono ?_
  rintro e w1 ⟨rfl, hA1, hF1⟩
  have F1 := FD.trans (FD.of_below (b := b) hbel) (FD.of_fr hF1)
  have kA1 := (FD.of_fr hF1).kept kA (by decide) (by decide) (by decide)
  have kB1 := (FD.of_fr hF1).kept kB (by decide) (by decide) (by decide)
  have kC1 := (FD.of_fr hF1).kept kC (by decide) (by decide) (by decide)
  have C1 := Aside0.mk ((H.out.code.below hbel).fr hF1)
  have s1 : w.heap.size + 3 ≤ w1.heap.size := by have := hF1.size; omega
  have p1 := blk_cell kA1
  have p2 := blk_cell kB1
  have p3 := blk_cell kC1
  have z1 : ∀ j, w.heap.size < w1.heap.size + j := fun j => by omega
  have z2 : ∀ j, w.heap.size + 1 < w1.heap.size + j := fun j => by omega
  have z3 : ∀ j, w.heap.size + 1 + 1 < w1.heap.size + j := fun j => by omega
  have y1 : w.heap.size < w1.heap.size := by omega
  have y2 : w.heap.size + 1 < w1.heap.size := by omega
  have y3 : w.heap.size + 1 + 1 < w1.heap.size := by omega
  have S1 := Aside0.mk (And.intro hA1 (And.intro F1 (And.intro kA1 (And.intro kB1 kC1))))
  clear hA1 hF1 F1 kA1 kB1 kC1 kA kB kC hbel hs
  go_wp2_with fail
  refine (To_calls C1.out (by have := H.out.hb; omega) (by have := H.out.len; omega) 1 ⟨nm, 0, ra, rb, 0⟩ label).mono ?_
  rintro e w2 ⟨lv', rfl, hC2, hb2⟩
  have asm2 := asm_rf S1.out.1 hb2
  have hX2 := FD.of_rf hb2
  rw [← HM.out] at hC2 ⊢
  obtain ⟨C, hC⟩ : ∃ C, brC A nm ra rb label = C := ⟨_, rfl⟩
  rw [hC] at hC2 asm2 ⊢
  have HC := Aside0.mk hC
  rw [← add_both] at hC2
  clear hC
  obtain ⟨o5, c5, rfl⟩ := row_slice hC2.row
  obtain ⟨N5, hN5⟩ : ∃ N5, (A.pushIf C ⟨1, ⟨nm, 0, ra, rb, 0⟩, label, false⟩).ps.length = N5 := ⟨_, rfl⟩
  rw [hN5] at hC2 ⊢
  have HN5 := Aside0.mk hN5
  clear hN5
  have kA2 := hX2.kept S1.out.2.2.1 (by decide) (by decide) (by decide)
  have kC2 := hX2.kept S1.out.2.2.2.2 (by decide) (by decide) (by decide)
  have A2 := asm2
  have s2 : w.heap.size + 3 ≤ w2.heap.size := by have := hX2.size; omega
  clear p1 p2 p3 z1 z2 z3 y1 y2 y3
  have p1 := blk_cell kA2
  have p3 := blk_cell kC2
  have f1 := fun o => frozen_of_row w2 w.heap.size o _ 53 kA2
  have f3 := fun o => frozen_of_row w2 (w.heap.size + 1 + 1) o _ 53 kC2
  have z1 : ∀ j, w.heap.size < w2.heap.size + j := fun j => by omega
  have z3 : ∀ j, w.heap.size + 1 + 1 < w2.heap.size + j := fun j => by omega
  have y1 : w.heap.size < w2.heap.size := by omega
  have y3 : w.heap.size + 1 + 1 < w2.heap.size := by omega
  have S2 := Aside0.mk (And.intro A2 (And.intro hC2 (And.intro (S1.out.2.1.trans hX2) (And.intro kA2 kC2))))
  clear A2 asm2 hC2 hX2 kA2 kC2
  go_wp2
  have hq := set4 w2 w.heap.size (w.heap.size + 1 + 1)
  refine bodyPost_ret (v := .tuple #[.agg #[.slice o5 N5 c5, .slice o ms.length c2], .bool true]) ?_ rfl ⟨_, _, A.pushIf C ⟨1, ⟨nm, 0, ra, rb, 0⟩, label, false⟩, ms, rfl, asm_set4 S2.out.1 S2.out.2.2.2.1 S2.out.2.2.2.2 (hq _ _ _ _), code_set4 S2.out.2.1 S2.out.2.2.2.1 S2.out.2.2.2.2 (hq _ _ _ _), by rw [← HC.out]; exact inv_br H.out.iv nm ra rb label (by have := H.out.len; omega), ((((S2.out.2.2.1.setNew (by omega) _).setNew (by omega) _).setNew (by omega) _).setNew (by omega) _), by have := pushIf_len A C ⟨1, ⟨nm, 0, ra, rb, 0⟩, label, false⟩; omega, by omega, by rw [pushIf_nm]; omega⟩
  simp only [results, Try.results30]
  go_simp


set_option maxHeartbeats 8000000 in
set_option maxRecDepth 100000 in
theorem do4 {w : World} {b p : Nat} {A : AsmS} {lv mv : Value} {ms : List Int} (h : DoPre w b p A lv mv ms) (x : ActI) (hk : x.kind = 4) (hI : I64 x.label) (hJ : I64 x.n) :
    Calls Try.prog 30 #[.pointer (some ⟨p, 0, none⟩), .agg #[lv, mv], x.val] w fun e w' => DoPost b p A ms w e w' := by
  obtain ⟨o, c2, hmv⟩ := row_slice h.code.marks
  obtain ⟨o1, c1, hlv⟩ := row_slice h.code.row
  have H := Aside0.mk h
  clear h
  subst hmv
  subst hlv
  obtain ⟨kind, label, n, nm, rd, ra, rb, imm⟩ := x
  unfold ActI.val
  simp only at hk hI hJ ⊢
  subst hk
  have HM := Aside0.mk (to_both H.out.iv 2 (by decide) nJ rd label)
  clear hI hJ
  go_enter Try.func30, Try.ntmps30
  go_wp2_with fail
  generalize hW : ((w.alloc _).alloc _).alloc _ = W
  obtain ⟨kA, kB, kC, hs, hbel⟩ := boxes3 _ _ _ _ _ hW
  clear hW
  refine (Jump_calls (H.out.asm.below hbel) (by have := H.out.len; omega) rd label).mono ?_
  rintro e w1 ⟨rfl, hA1, hF1⟩
  have F1 := FD.trans (FD.of_below (b := b) hbel) (FD.of_fr hF1)
  have kA1 := (FD.of_fr hF1).kept kA (by decide) (by decide) (by decide)
  have kB1 := (FD.of_fr hF1).kept kB (by decide) (by decide) (by decide)
  have kC1 := (FD.of_fr hF1).kept kC (by decide) (by decide) (by decide)
  have C1 := Aside0.mk ((H.out.code.below hbel).fr hF1)
  have s1 : w.heap.size + 3 ≤ w1.heap.size := by have := hF1.size; omega
  have p1 := blk_cell kA1
  have p2 := blk_cell kB1
  have p3 := blk_cell kC1
  have z1 : ∀ j, w.heap.size < w1.heap.size + j := fun j => by omega
  have z2 : ∀ j, w.heap.size + 1 < w1.heap.size + j := fun j => by omega
  have z3 : ∀ j, w.heap.size + 1 + 1 < w1.heap.size + j := fun j => by omega
  have y1 : w.heap.size < w1.heap.size := by omega
  have y2 : w.heap.size + 1 < w1.heap.size := by omega
  have y3 : w.heap.size + 1 + 1 < w1.heap.size := by omega
  have S1 := Aside0.mk (And.intro hA1 (And.intro F1 (And.intro kA1 (And.intro kB1 kC1))))
  clear hA1 hF1 F1 kA1 kB1 kC1 kA kB kC hbel hs
  go_wp2_with fail
  refine (To_calls C1.out (by have := H.out.hb; omega) (by have := H.out.len; omega) 2 ⟨nJ, rd, 0, 0, 0⟩ label).mono ?_
  rintro e w2 ⟨lv', rfl, hC2, hb2⟩
  have asm2 := asm_rf S1.out.1 hb2
  have hX2 := FD.of_rf hb2
  rw [← HM.out] at hC2 ⊢
  obtain ⟨C, hC⟩ : ∃ C, toC A rd label = C := ⟨_, rfl⟩
  rw [hC] at hC2 asm2 ⊢
  have HC := Aside0.mk hC
  rw [← add_both] at hC2
  clear hC
  obtain ⟨o5, c5, rfl⟩ := row_slice hC2.row
  obtain ⟨N5, hN5⟩ : ∃ N5, (A.pushIf C ⟨2, ⟨nJ, rd, 0, 0, 0⟩, label, false⟩).ps.length = N5 := ⟨_, rfl⟩
  rw [hN5] at hC2 ⊢
  have HN5 := Aside0.mk hN5
  clear hN5
  have kA2 := hX2.kept S1.out.2.2.1 (by decide) (by decide) (by decide)
  have kC2 := hX2.kept S1.out.2.2.2.2 (by decide) (by decide) (by decide)
  have A2 := asm2
  have s2 : w.heap.size + 3 ≤ w2.heap.size := by have := hX2.size; omega
  clear p1 p2 p3 z1 z2 z3 y1 y2 y3
  have p1 := blk_cell kA2
  have p3 := blk_cell kC2
  have f1 := fun o => frozen_of_row w2 w.heap.size o _ 53 kA2
  have f3 := fun o => frozen_of_row w2 (w.heap.size + 1 + 1) o _ 53 kC2
  have z1 : ∀ j, w.heap.size < w2.heap.size + j := fun j => by omega
  have z3 : ∀ j, w.heap.size + 1 + 1 < w2.heap.size + j := fun j => by omega
  have y1 : w.heap.size < w2.heap.size := by omega
  have y3 : w.heap.size + 1 + 1 < w2.heap.size := by omega
  have S2 := Aside0.mk (And.intro A2 (And.intro hC2 (And.intro (S1.out.2.1.trans hX2) (And.intro kA2 kC2))))
  clear A2 asm2 hC2 hX2 kA2 kC2
  go_wp2
  have hq := set4 w2 w.heap.size (w.heap.size + 1 + 1)
  refine bodyPost_ret (v := .tuple #[.agg #[.slice o5 N5 c5, .slice o ms.length c2], .bool true]) ?_ rfl ⟨_, _, A.pushIf C ⟨2, ⟨nJ, rd, 0, 0, 0⟩, label, false⟩, ms, rfl, asm_set4 S2.out.1 S2.out.2.2.2.1 S2.out.2.2.2.2 (hq _ _ _ _), code_set4 S2.out.2.1 S2.out.2.2.2.1 S2.out.2.2.2.2 (hq _ _ _ _), by rw [← HC.out]; exact inv_to H.out.iv 2 nJ (.inl ⟨rfl, rfl⟩) rd label (by have := H.out.len; omega), ((((S2.out.2.2.1.setNew (by omega) _).setNew (by omega) _).setNew (by omega) _).setNew (by omega) _), by have := pushIf_len A C ⟨2, ⟨nJ, rd, 0, 0, 0⟩, label, false⟩; omega, by omega, by rw [pushIf_nm]; omega⟩
  simp only [results, Try.results30]
  go_simp


set_option maxHeartbeats 8000000 in
set_option maxRecDepth 100000 in
theorem do5 {w : World} {b p : Nat} {A : AsmS} {lv mv : Value} {ms : List Int} (h : DoPre w b p A lv mv ms) (x : ActI) (hk : x.kind = 5) (hI : I64 x.label) (hJ : I64 x.n) :
    Calls Try.prog 30 #[.pointer (some ⟨p, 0, none⟩), .agg #[lv, mv], x.val] w fun e w' => DoPost b p A ms w e w' := by
  obtain ⟨o, c2, hmv⟩ := row_slice h.code.marks
  obtain ⟨o1, c1, hlv⟩ := row_slice h.code.row
  have H := Aside0.mk h
  clear h
  subst hmv
  subst hlv
  obtain ⟨kind, label, n, nm, rd, ra, rb, imm⟩ := x
  unfold ActI.val
  simp only at hk hI hJ ⊢
  subst hk
  have HM := Aside0.mk (to_both H.out.iv 3 (by decide) nAu rd label)
  clear hI hJ
  go_enter Try.func30, Try.ntmps30
  go_wp2_with fail
  generalize hW : ((w.alloc _).alloc _).alloc _ = W
  obtain ⟨kA, kB, kC, hs, hbel⟩ := boxes3 _ _ _ _ _ hW
  clear hW
  refine (Address_calls (H.out.asm.below hbel) (by have := H.out.len; omega) rd label).mono ?_
  rintro e w1 ⟨rfl, hA1, hF1⟩
  have F1 := FD.trans (FD.of_below (b := b) hbel) (FD.of_fr hF1)
  have kA1 := (FD.of_fr hF1).kept kA (by decide) (by decide) (by decide)
  have kB1 := (FD.of_fr hF1).kept kB (by decide) (by decide) (by decide)
  have kC1 := (FD.of_fr hF1).kept kC (by decide) (by decide) (by decide)
  have C1 := Aside0.mk ((H.out.code.below hbel).fr hF1)
  have s1 : w.heap.size + 3 ≤ w1.heap.size := by have := hF1.size; omega
  have p1 := blk_cell kA1
  have p2 := blk_cell kB1
  have p3 := blk_cell kC1
  have z1 : ∀ j, w.heap.size < w1.heap.size + j := fun j => by omega
  have z2 : ∀ j, w.heap.size + 1 < w1.heap.size + j := fun j => by omega
  have z3 : ∀ j, w.heap.size + 1 + 1 < w1.heap.size + j := fun j => by omega
  have y1 : w.heap.size < w1.heap.size := by omega
  have y2 : w.heap.size + 1 < w1.heap.size := by omega
  have y3 : w.heap.size + 1 + 1 < w1.heap.size := by omega
  have S1 := Aside0.mk (And.intro hA1 (And.intro F1 (And.intro kA1 (And.intro kB1 kC1))))
  clear hA1 hF1 F1 kA1 kB1 kC1 kA kB kC hbel hs
  go_wp2_with fail
  refine (To_calls C1.out (by have := H.out.hb; omega) (by have := H.out.len; omega) 3 ⟨nAu, rd, 0, 0, 0⟩ label).mono ?_
  rintro e w2 ⟨lv', rfl, hC2, hb2⟩
  have asm2 := asm_rf S1.out.1 hb2
  have hX2 := FD.of_rf hb2
  rw [← HM.out] at hC2 ⊢
  obtain ⟨C, hC⟩ : ∃ C, toC A rd label = C := ⟨_, rfl⟩
  rw [hC] at hC2 asm2 ⊢
  have HC := Aside0.mk hC
  rw [← add_both] at hC2
  clear hC
  obtain ⟨o5, c5, rfl⟩ := row_slice hC2.row
  obtain ⟨N5, hN5⟩ : ∃ N5, (A.pushIf C ⟨3, ⟨nAu, rd, 0, 0, 0⟩, label, false⟩).ps.length = N5 := ⟨_, rfl⟩
  rw [hN5] at hC2 ⊢
  have HN5 := Aside0.mk hN5
  clear hN5
  have kA2 := hX2.kept S1.out.2.2.1 (by decide) (by decide) (by decide)
  have kC2 := hX2.kept S1.out.2.2.2.2 (by decide) (by decide) (by decide)
  have A2 := asm2
  have s2 : w.heap.size + 3 ≤ w2.heap.size := by have := hX2.size; omega
  clear p1 p2 p3 z1 z2 z3 y1 y2 y3
  have p1 := blk_cell kA2
  have p3 := blk_cell kC2
  have f1 := fun o => frozen_of_row w2 w.heap.size o _ 53 kA2
  have f3 := fun o => frozen_of_row w2 (w.heap.size + 1 + 1) o _ 53 kC2
  have z1 : ∀ j, w.heap.size < w2.heap.size + j := fun j => by omega
  have z3 : ∀ j, w.heap.size + 1 + 1 < w2.heap.size + j := fun j => by omega
  have y1 : w.heap.size < w2.heap.size := by omega
  have y3 : w.heap.size + 1 + 1 < w2.heap.size := by omega
  have S2 := Aside0.mk (And.intro A2 (And.intro hC2 (And.intro (S1.out.2.1.trans hX2) (And.intro kA2 kC2))))
  clear A2 asm2 hC2 hX2 kA2 kC2
  go_wp2
  have hq := set4 w2 w.heap.size (w.heap.size + 1 + 1)
  refine bodyPost_ret (v := .tuple #[.agg #[.slice o5 N5 c5, .slice o ms.length c2], .bool true]) ?_ rfl ⟨_, _, A.pushIf C ⟨3, ⟨nAu, rd, 0, 0, 0⟩, label, false⟩, ms, rfl, asm_set4 S2.out.1 S2.out.2.2.2.1 S2.out.2.2.2.2 (hq _ _ _ _), code_set4 S2.out.2.1 S2.out.2.2.2.1 S2.out.2.2.2.2 (hq _ _ _ _), by rw [← HC.out]; exact inv_to H.out.iv 3 nAu (.inr ⟨rfl, rfl⟩) rd label (by have := H.out.len; omega), ((((S2.out.2.2.1.setNew (by omega) _).setNew (by omega) _).setNew (by omega) _).setNew (by omega) _), by have := pushIf_len A C ⟨3, ⟨nAu, rd, 0, 0, 0⟩, label, false⟩; omega, by omega, by rw [pushIf_nm]; omega⟩
  simp only [results, Try.results30]
  go_simp

end Go.Proofs.Ytciehejifdbpoaa.Ap
end
section
set_option linter.unusedSimpArgs false
set_option linter.unusedVariables false
namespace Go.Proofs.Ytciehejifdbpoaa.Ap
open Go.RowKit Go.Maps Go.Proofs.Ytciehejifdbpoaa.Grow Go.Proofs.Ytciehejifdbpoaa.Rv Go.Proofs.Ytciehejifdbpoaa.As
open Go.Proofs.YtciehejifdbpoaaW.PrintWords Go.Proofs.YtciehejifdbpoaaW.PrintLast Go.Proofs.YtciehejifdbpoaaW.PrintMore

/-- 'append(v, mv...)' of two rows, nil or not. -/
theorem wpList_append_row {P : Program} {w : World} {ops : Array Oper} {rest : List Oper} {o : Oper} {a : Act} {Q : Exit → Act → World → Prop} (hgd : o.guard = none) (s x : Operand) (t : TypeId)
    (ho : o.op = .call { callee := .builtin .append, args := #[s, x], argTypes := #[t, t] })
    (base : Nat) (e : TypeId) (i : TypeInfo) (z : Value) (size bytes : Nat) (ht : P.underlying t = some (.slice e)) (hi : P.info? e = some i) (hz : i.zero = some z)
    (hsize : i.size = size) (hby : i.bytes = bytes) (hzs : z.cells.size = size) (hsz : 0 < size)
    (v : Value) (n : Nat) (xs : List Value) (hs : a.eval s = v) (hown : w.ownsRow base e size v n xs)
    (b2 : Nat) (mv : Value) (m : Nat) (news : List Value) (hx : a.eval x = mv) (hrow : w.ownsRow b2 e size mv m news) (h1 : ∀ u ∈ news, u.oneCell' = true)
    (h63 : n + m ≤ maxLen) (hbytes : (n + m) * bytes ≤ 140737488355328) (hbase : base ≤ w.heap.size)
    (h : ∀ v' w', w'.ownsRow base e size v' (n + m) (xs ++ news) → w.grownBy w' v.ownBlock → wpList P ops Q rest (a.put o.dst v') w') : wpList P ops Q (o :: rest) a w := by
  obtain ⟨hl, ⟨rfl, hm⟩ | ⟨g, cap, cur, rfl, hg, hh, hc, hn, hs2, ht2⟩⟩ := hrow
  · subst hm
    have hnews : news = [] := List.eq_nil_of_length_eq_zero (by omega)
    subst hnews
    exact wpList_append_own_none hgd s x t ho base e i size ht hi v n xs hs hown hx (h v w (by simpa using hown) ⟨rfl, rfl, rfl, Nat.le_refl _, fun _ _ _ => rfl⟩)
  · refine wpList_append_own w hgd s x t ho base e i z size bytes ht hi hz hsize hby hzs hsz v n xs hs hown ⟨g, 0, none⟩ m cap news hx hl (fun j u hu => ?_) h1 h63 hbytes hbase fun v' w' h2 h3 _ => h v' w' h2 h3
    rw [Addr.add_mid, Nat.zero_add, cell_of_row w g _ cur e (0, 0) hh]
    rw [← ht2, List.getElem?_take] at hu
    split at hu
    · simpa using hu
    · cases hu
set_option maxHeartbeats 8000000 in
set_option maxRecDepth 100000 in
theorem do1 {w : World} {b p : Nat} {A : AsmS} {lv mv : Value} {ms : List Int} (h : DoPre w b p A lv mv ms) (x : ActI) (hk : x.kind = 1) (hI : I64 x.label) (hJ : I64 x.n) :
    Calls Try.prog 30 #[.pointer (some ⟨p, 0, none⟩), .agg #[lv, mv], x.val] w fun e w' => DoPost b p A ms w e w' := by
  obtain ⟨o, c2, hmv⟩ := row_slice h.code.marks
  obtain ⟨o1, c1, hlv⟩ := row_slice h.code.row
  have H := Aside0.mk h
  clear h
  subst hmv
  subst hlv
  obtain ⟨kind, label, n, nm, rd, ra, rb, imm⟩ := x
  unfold ActI.val
  simp only at hk hI hJ ⊢
  subst hk
  clear hI hJ
  have hlab := H.out.iv.tie.labels
  go_enter Try.func30, Try.ntmps30
  go_wp2_with fail
  generalize hW : ((w.alloc _).alloc _).alloc _ = W
  obtain ⟨kA, kB, kC, hs, hbel⟩ := boxes3 _ _ _ _ _ hW
  clear hW
  refine (label_calls (H.out.asm.below hbel) (by rw [H.out.iv.tie.labels]; omega) (by rw [H.out.iv.tie.labels]; have := H.out.few; omega)).mono ?_
  rintro e w1 ⟨rfl, hA1, hF1⟩
  have F1 := FD.trans (FD.of_below (b := b) hbel) (FD.of_fr hF1)
  have kA1 := (FD.of_fr hF1).kept kA (by decide) (by decide) (by decide)
  have kB1 := (FD.of_fr hF1).kept kB (by decide) (by decide) (by decide)
  have kC1 := (FD.of_fr hF1).kept kC (by decide) (by decide) (by decide)
  have C1 := Aside0.mk ((H.out.code.below hbel).fr hF1)
  have s1 : w.heap.size + 3 ≤ w1.heap.size := by have := hF1.size; omega
  have p1 := blk_cell kA1
  have p2 := blk_cell kB1
  have p3 := blk_cell kC1
  have z1 : ∀ j, w.heap.size < w1.heap.size + j := fun j => by omega
  have z2 : ∀ j, w.heap.size + 1 < w1.heap.size + j := fun j => by omega
  have z3 : ∀ j, w.heap.size + 1 + 1 < w1.heap.size + j := fun j => by omega
  have y1 : w.heap.size < w1.heap.size := by omega
  have y2 : w.heap.size + 1 < w1.heap.size := by omega
  have y3 : w.heap.size + 1 + 1 < w1.heap.size := by omega
  have S1 := Aside0.mk (And.intro hA1 (And.intro F1 (And.intro kA1 (And.intro kB1 kC1))))
  clear hA1 hF1 F1 kA1 kB1 kC1 kA kB kC hbel hs
  have HI := Aside0.mk (info_parts info3)
  go_wp2_with (first | (at_builtin; refine Aside0.out ?_))
  refine Aside0.mk ?_
  obtain ⟨i0, hi, hz0, hz1, hz2⟩ := HI.out
  have HZ := Aside0.mk (And.intro hi (And.intro hz0 (And.intro hz1 hz2)))
  have hfew := H.out.few
  have O0 : (w1.alloc (.cells #[] 3)).ownsRow w1.heap.size 3 1 (.slice (some ⟨w1.heap.size, 0, none⟩) 0 0) 0 [] := ⟨rfl, .inr ⟨w1.heap.size, 0, #[], rfl, Nat.le_refl _, heap_alloc_last _ _, Nat.le_refl _, Nat.zero_le _, rfl, rfl⟩⟩
  have B0 := below_alloc (Below.refl w1.heap.size w1) (.cells #[] 3)
  have R0 := (C1.out.below B0).marks
  refine wpList_append_row rfl (.tmp 53) (.tmp 55) 51 rfl w1.heap.size 3 i0 _ 1 8 under51 hi hz0 hz1 hz2 rfl (by decide) _ 0 [] rfl O0 b _ ms.length (ms.map (Value.int .i64)) rfl R0 (ints_one ms) (by unfold maxLen; omega) (by omega) B0.size ?_
  intro v' w5 hown' hgrow
  obtain ⟨o5, c5, rfl⟩ := row_slice hown'
  have B5 := Aside0.mk (grown_below B0 (Nat.le_refl _) hgrow (fun k hk => (row_block O0 k hk).1))
  rw [List.nil_append] at hown'
  simp only [Nat.zero_add] at hown' ⊢
  have O5 := Aside0.mk hown'
  clear hown' hgrow O0 B0 R0 hi hz0 hz1 hz2
  clear p1 p2 p3 z1 z2 z3 y1 y2 y3
  have O6 := Aside0.mk (row_kept (w' := w5.alloc (.cells #[.int .i64 (-1)] 3)) O5.out fun k hk => Below.heap_alloc _ _ _ (row_block O5.out k hk).2.1)
  have NW := Aside0.mk (World.news_of_block (w := w5.alloc (.cells #[.int .i64 (-1)] 3)) (B := w5.heap.size) (cs := #[.int .i64 (-1)]) (t := 3) (fr := (0, 0)) (heap_alloc_last _ _))
  have kA5 := blk_below S1.out.2.2.1 B5.out
  have p1 := blk_cell kA5
  have y1 := blk_lt kA5
  have z1 : ∀ j, w.heap.size < w5.heap.size + j := fun j => by omega
  clear kA5
  go_wp2_with (first | (at_builtin; refine Aside0.out ?_))
  refine Aside0.mk ?_
  refine wpList_append_own _ rfl (.tmp 56) (.tmp 57) 51 rfl w1.heap.size 3 i0 _ 1 8 under51 HZ.out.1 HZ.out.2.1 HZ.out.2.2.1 HZ.out.2.2.2 rfl (by decide) _ ms.length _ rfl O6.out ⟨w5.heap.size, 0, none⟩ 1 1 [.int .i64 (-1)] rfl rfl NW.out (by intro u hu; rw [List.mem_singleton.1 hu]; rfl) (by unfold maxLen; omega) (by omega) (by have := B5.out.size; simp; omega) ?_
  intro v' w7 hown' hgrow _
  obtain ⟨o7, c7, rfl⟩ := row_slice hown'
  have B7 := Aside0.mk (grown_below (below_alloc B5.out (.cells #[.int .i64 (-1)] 3)) (Nat.le_refl _) hgrow (fun k hk => (row_block O6.out k hk).1))
  rw [show ms.map (Value.int .i64) ++ [.int .i64 (-1)] = (ms ++ [-1]).map (Value.int .i64) by simp] at hown'
  have O7 := Aside0.mk hown'
  clear hown' hgrow p1 y1 z1
  have kA7 := blk_below S1.out.2.2.1 B7.out
  have kC7 := blk_below S1.out.2.2.2.2 B7.out
  have p1 := blk_cell kA7
  have y1 := blk_lt kA7
  have f1 := fun o => frozen_of_row w7 w.heap.size o _ 53 kA7
  have z1 : ∀ j, w.heap.size < w7.heap.size + j := fun j => by omega
  have K7 := Aside0.mk (And.intro kA7 kC7)
  clear kA7 kC7
  go_wp2_with fail
  have kA8 := heap_setCell_same w7 w.heap.size 1 _ 53 (.slice o7 (ms.length + 1) c7) K7.out.1
  have kC8 := (heap_setCell_other w7 ⟨w.heap.size, 1, none⟩ (w.heap.size + 1 + 1) (.slice o7 (ms.length + 1) c7) (by show w.heap.size + 1 + 1 ≠ w.heap.size; omega)).trans K7.out.2
  have B8 := Aside0.mk (show FD b w (w7.setCell ⟨w.heap.size, 1, none⟩ (.slice o7 (ms.length + 1) c7)) from (S1.out.2.1.trans (FD.of_below B7.out)).setNew (Nat.le_refl _) _)
  have hset : ∀ j, j ≠ w.heap.size → (w7.setCell ⟨w.heap.size, 1, none⟩ (.slice o7 (ms.length + 1) c7)).heap[j]? = w7.heap[j]? := fun j hj => heap_setCell_other w7 ⟨w.heap.size, 1, none⟩ j _ hj
  have A8 := Aside0.mk (asm_set (S1.out.1.below B7.out) K7.out.1 hset)
  have hml : (ms ++ [(-1 : Int)]).length = ms.length + 1 := by simp
  have c7i : CodeIs w7 b (.slice o1 A.ps.length c1) (.slice o7 (ms.length + 1) c7) A.ps (ms ++ [-1]) :=
    ⟨(C1.out.below B7.out).row, by rw [hml]; exact row_mono O7.out (by have := S1.out.2.1.size; have := H.out.hb; omega)⟩
  have C8 := Aside0.mk (code_set c7i K7.out.1 hset)
  clear c7i hml
  clear hset p1 y1 f1 z1
  generalize w7.setCell ⟨w.heap.size, 1, none⟩ (.slice o7 (ms.length + 1) c7) = w8 at *
  have p1 := blk_cell kA8
  have p3 := blk_cell kC8
  have f3 := fun o => frozen_of_row w8 (w.heap.size + 1 + 1) o _ 53 kC8
  have y1 := blk_lt kA8
  have y3 := blk_lt kC8
  have K8 := Aside0.mk kC8
  have e1 : IntKind.i64.wrap ((ms.length : Int) + 1 - 1) = (ms.length : Int) := by rw [IntKind.wrap_i64]; omega
  clear kA8 kC8
  go_region
  go_wp2
  refine bodyPost_ret (v := .tuple #[.agg #[.slice o1 A.ps.length c1, .slice o7 (ms.length + 1) c7], .bool true]) ?_ rfl ⟨_, _, { A with labels := A.labels + 1 }, ms ++ [-1], rfl, asm_set A8.out K8.out (set2 w8 (w.heap.size + 1 + 1) _ _), code_set C8.out K8.out (set2 w8 (w.heap.size + 1 + 1) _ _), inv_label H.out.iv H.out.few, ((B8.out.setNew (by omega) _).setNew (by omega) _).drew, Nat.le_add_right _ _, by simp, Nat.le_add_right _ _⟩
  simp only [results, Try.results30]
  go_simp

end Go.Proofs.Ytciehejifdbpoaa.Ap
end
section
set_option linter.unusedSimpArgs false
set_option linter.unusedVariables false
namespace Go.Proofs.Ytciehejifdbpoaa.Ap
open Go.RowKit Go.Maps Go.Proofs.Ytciehejifdbpoaa.Grow Go.Proofs.Ytciehejifdbpoaa.Rv Go.Proofs.Ytciehejifdbpoaa.As
open Go.Proofs.YtciehejifdbpoaaW.PrintWords Go.Proofs.YtciehejifdbpoaaW.PrintLast Go.Proofs.YtciehejifdbpoaaW.PrintMore

/-- What the loop over a number's instructions keeps. -/
structure NumI (w : World) (b p : Nat) (A : AsmS) (ps : List Pc) (mv : Value) (ms : List Int) (B0 : Nat) (rv : Value) (wr : World) (k : Nat) (l : List OpI) : Prop where
  asm : AsmAt wr b p A
  fd : FD b w wr
  row : wr.ownsRow B0 24 5 rv l.length (l.flatMap opCs)
  box : wr.heap[w.heap.size + 1 + 1]? = some (.cells #[.slice none 0 0, .slice none 0 0] 53 (0, 0))
  code : ∃ lvk, wr.heap[w.heap.size]? = some (.cells #[lvk, mv] 53 (0, 0)) ∧ CodeIs wr b lvk mv (ps ++ (l.take k).map plainPc) ms
set_option maxHeartbeats 8000000 in
set_option maxRecDepth 100000 in
theorem do6 {w : World} {b p : Nat} {A : AsmS} {lv mv : Value} {ms : List Int} (h : DoPre w b p A lv mv ms) (x : ActI) (hk : x.kind = 6) (hI : I64 x.label) (hJ : I64 x.n) :
    Calls Try.prog 30 #[.pointer (some ⟨p, 0, none⟩), .agg #[lv, mv], x.val] w fun e w' => DoPost b p A ms w e w' := by
  obtain ⟨o, c2, hmv⟩ := row_slice h.code.marks
  obtain ⟨o1, c1, hlv⟩ := row_slice h.code.row
  have H := Aside0.mk h
  clear h
  subst hmv
  subst hlv
  obtain ⟨kind, label, n, nm, rd, ra, rb, imm⟩ := x
  unfold ActI.val
  simp only at hk hI hJ ⊢
  subst hk
  clear hI
  go_enter Try.func30, Try.ntmps30
  go_wp2_with fail
  generalize hW : ((w.alloc _).alloc _).alloc _ = W
  obtain ⟨kA, kB, kC, hs, hbel⟩ := boxes3 _ _ _ _ _ hW
  clear hW
  refine (Number_calls (H.out.asm.below hbel) (by have := H.out.len; omega) rd hJ).mono ?_
  rintro e w1 ⟨rfl, hA1, hF1⟩
  have F1 := FD.trans (FD.of_below (b := b) hbel) (FD.of_fr hF1)
  have kA1 := (FD.of_fr hF1).kept kA (by decide) (by decide) (by decide)
  have kB1 := (FD.of_fr hF1).kept kB (by decide) (by decide) (by decide)
  have kC1 := (FD.of_fr hF1).kept kC (by decide) (by decide) (by decide)
  have C1 := Aside0.mk ((H.out.code.below hbel).fr hF1)
  have s1 : w.heap.size + 3 ≤ w1.heap.size := by have := hF1.size; omega
  have p1 := blk_cell kA1
  have p2 := blk_cell kB1
  have p3 := blk_cell kC1
  have z1 : ∀ j, w.heap.size < w1.heap.size + j := fun j => by omega
  have z2 : ∀ j, w.heap.size + 1 < w1.heap.size + j := fun j => by omega
  have z3 : ∀ j, w.heap.size + 1 + 1 < w1.heap.size + j := fun j => by omega
  have y1 : w.heap.size < w1.heap.size := by omega
  have y2 : w.heap.size + 1 < w1.heap.size := by omega
  have y3 : w.heap.size + 1 + 1 < w1.heap.size := by omega
  have S1 := Aside0.mk (And.intro hA1 (And.intro F1 (And.intro kA1 (And.intro kB1 kC1))))
  clear hA1 hF1 F1 kA1 kB1 kC1 kA kB kC hbel hs
  cases hr : regOk rd
  · rw [hr] at S1
    have hA0 : A.puts (numIf rd n false) = A := by unfold numIf; exact puts_nil A
    rw [hA0] at S1
    have f3 := fun o => frozen_of_row w1 (w.heap.size + 1 + 1) o _ 53 S1.out.2.2.2.2
    have hrd : rd < 0 ∨ ¬ rd < 0 ∧ 31 < rd := by
      unfold regOk at hr
      simp only [Bool.and_eq_false_iff, decide_eq_false_iff_not] at hr
      omega
    have e0 : regC false = 260 := rfl
    rw [e0]
    clear hA0 hr e0
    rcases hrd with hr1 | ⟨hr1, hr2⟩
    all_goals
      go_wp2
      refine bodyPost_ret (v := .tuple #[.agg #[.slice o1 A.ps.length c1, .slice o ms.length c2], .bool true]) ?_ rfl ⟨_, _, A, ms, rfl, asm_set S1.out.1 S1.out.2.2.2.2 (set2 w1 (w.heap.size + 1 + 1) _ _), code_set C1.out S1.out.2.2.2.2 (set2 w1 (w.heap.size + 1 + 1) _ _), H.out.iv, ((S1.out.2.1.setNew (by omega) _).setNew (by omega) _), Nat.le_add_right _ _, Nat.le_add_right _ _, Nat.le_add_right _ _⟩
      simp only [results, Try.results30]
      go_simp
  · rw [hr] at S1
    have hreg := reg_both hr
    have hr1 : ¬ rd < 0 := by omega
    have hr2 : ¬ 31 < rd := by omega
    have e0 : regC true = 0 := rfl
    rw [e0]
    have NC := Aside0.mk (Num_calls rd n hJ)
    have FN := Aside0.mk (fit_num hreg 4 n)
    have NL := Aside0.mk (numL_len rd 4 n)
    have hA0 : A.puts (numIf rd n true) = A.puts (numL rd 4 n) := rfl
    rw [hA0] at S1
    obtain ⟨l, hl⟩ : ∃ l, numL rd 4 n = l := ⟨_, rfl⟩
    rw [hl] at NC FN NL S1
    clear hA0 e0 hr hreg hl
    go_wp2_with fail
    refine (NC.out w1).mono ?_
    rintro e w2 ⟨v, rfl, hown, hb2⟩
    obtain ⟨o5, c5, rfl⟩ := row_slice hown
    obtain ⟨L, hL⟩ : ∃ L, l.length = L := ⟨_, rfl⟩
    rw [hL] at hown ⊢
    have HLL := Aside0.mk hL
    have hL8 : L ≤ 8 := by have := NL.out; omega
    have OW2 := Aside0.mk hown
    have I2 := Aside0.mk (show NumI w b p (A.puts l) A.ps (.slice o ms.length c2) ms w1.heap.size (.slice o5 L c5) w2 0 l from ⟨S1.out.1.below hb2, S1.out.2.1.trans (FD.of_below hb2), by rw [HLL.out]; exact hown, blk_below S1.out.2.2.2.2 hb2, ⟨_, blk_below S1.out.2.2.1 hb2, by simpa using C1.out.below hb2⟩⟩)
    clear hL hown
    clear p1 p2 p3 z1 z2 z3 y1 y2 y3
    go_wp2_with fail
    go_loopw [181] (fun v181 wr => ∃ k : Nat, k ≤ L ∧ v181 = .int .i64 k ∧ Aside0 (NumI w b p (A.puts l) A.ps (.slice o ms.length c2) ms w1.heap.size (.slice o5 L c5) wr k l)) (fun v181 _ => L - (intOf v181).toNat)
    case atStart => exact ⟨0, by omega, rfl, I2⟩
    case round =>
      obtain ⟨k, hkL, rfl, hx⟩ := hrel
      obtain ⟨lvk, kA, hcode⟩ := hx.out.code
      obtain ⟨o7, c7, rfl⟩ := row_slice hcode.row
      obtain ⟨N7, hN7⟩ : ∃ N7, (A.ps ++ (l.take k).map plainPc).length = N7 := ⟨_, rfl⟩
      have hN8 : N7 = A.ps.length + k := by rw [← hN7]; simp [HLL.out]; omega
      have HN8 := Aside0.mk hN8
      have HN7 := Aside0.mk hN7
      have CK := Aside0.mk hcode
      rw [hN7] at CK kA
      clear hN8 hN7
      have KA := Aside0.mk kA
      have q1 := blk_cell kA
      have y1 := blk_lt kA
      have kC := hx.out.box
      have ws := Nat.le_trans (Nat.le_add_right _ 3) (show w.heap.size + 3 ≤ wr.heap.size by have := blk_lt kC; omega)
      by_cases hlt : k < L
      · have hkl : k < l.length := by rw [HLL.out]; exact hlt
        have hown := hx.out.row
        obtain ⟨g, cp, e1, hg, hcg⟩ := op_cells hown (by omega)
        rw [HLL.out] at e1
        obtain ⟨rfl, rfl⟩ : o5 = some ⟨g, 0, none⟩ ∧ c5 = cp := by simpa using e1
        obtain ⟨d0, d1, d2, d3, d4⟩ := hcg k hkl
        obtain ⟨x, hxx⟩ : ∃ x, l[k] = x := ⟨_, rfl⟩
        rw [hxx] at d0 d1 d2 d3 d4
        have HXX := Aside0.mk hxx
        have r0 := d0
        have r1 := d1
        have r2 := d2
        have r3 := d3
        have r4 := d4
        have zg := hg
        have a1 : (k : Int) < (L : Int) := by omega
        have a2 : (0 : Int) ≤ (k : Int) := by omega
        obtain ⟨nm', rd', ra', rb', imm'⟩ := x
        simp only at r0 r1 r2 r3 r4
        have HX := Aside0.mk hx.out
        obtain ⟨i0, hi, hz0, hz1, hz2⟩ := info_parts info138
        have HZ := Aside0.mk (And.intro hi (And.intro hz0 (And.intro hz1 hz2)))
        have bp : ∀ w, (Instr.build 138 #[(1, .agg #[.string nm', .int .i64 rd', .int .i64 ra', .int .i64 rb', .int .i64 imm'])]).run Try.prog w = .ok (.agg #[.int .i64 0, .string nm', .int .i64 rd', .int .i64 ra', .int .i64 rb', .int .i64 imm', .int .i64 0]) w := fun w => bld138p ⟨nm', rd', ra', rb', imm'⟩ w
        clear hi hz0 hz1 hz2 hg d0 d1 d2 d3 d4 hcg hown e1 hx hxx hcode kC kA
        go_wp2_with (first | (at_builtin; refine Aside0.out ?_))
        refine Aside0.mk ?_
        have OP := opC ⟨nm', rd', ra', rb', imm'⟩
        have hfew := H.out.len
        have B0 := below_alloc (below_alloc (Below.refl wr.heap.size wr) (opC ⟨nm', rd', ra', rb', imm'⟩)) (.cells #[.int .i64 0, .string nm', .int .i64 rd', .int .i64 ra', .int .i64 rb', .int .i64 imm', .int .i64 0] 138)
        have OWA := Aside0.mk ((CK.out.below B0).row)
        rw [HN7.out] at OWA
        have NW := World.news_of_block (w := (wr.alloc (opC ⟨nm', rd', ra', rb', imm'⟩)).alloc (.cells #[.int .i64 0, .string nm', .int .i64 rd', .int .i64 ra', .int .i64 rb', .int .i64 imm', .int .i64 0] 138)) (B := wr.heap.size + 1) (cs := #[.int .i64 0, .string nm', .int .i64 rd', .int .i64 ra', .int .i64 rb', .int .i64 imm', .int .i64 0]) (t := 138) (fr := (0, 0)) (heap_alloc_at _ _ (by simp))
        refine wpList_append_own _ rfl (.tmp 186) (.tmp 189) 50 rfl b 138 i0 _ 7 64 under50 HZ.out.1 HZ.out.2.1 HZ.out.2.2.1 HZ.out.2.2.2 rfl (by decide) _ N7 _ rfl OWA.out ⟨wr.heap.size + 1, 0, none⟩ 1 1 (refC (plainPc ⟨nm', rd', ra', rb', imm'⟩)) rfl rfl NW (one_ref _) (by have := HN8.out; unfold maxLen; omega) (by have := HN8.out; omega) (by have := H.out.hb; simp; omega) ?_
        intro v' w6 hown' hgrow _
        obtain ⟨o8, c8, rfl⟩ := row_slice hown'
        have hbs := (show b ≤ wr.heap.size by have := H.out.hb; omega)
        have RFg : RF b ((wr.alloc (opC ⟨nm', rd', ra', rb', imm'⟩)).alloc (.cells #[.int .i64 0, .string nm', .int .i64 rd', .int .i64 ra', .int .i64 rb', .int .i64 imm', .int .i64 0] 138)) w6 := RF.grown hgrow fun k hk _ => by
          obtain ⟨h1, _, c, h3⟩ := row_block OWA.out k hk
          exact ⟨h1, c, _, h3⟩
        have FDg := (FD.of_below (b := b) B0).trans (FD.of_rf RFg)
        have kA6 := FDg.kept KA.out (by decide) (by decide) (by decide)
        have kC6 := FDg.kept HX.out.box (by decide) (by decide) (by decide)
        have asm6 := asm_rf (HX.out.asm.below B0) RFg
        have marks6 : w6.ownsRow b 3 1 (.slice o ms.length c2) ms.length (ms.map (Value.int .i64)) := row_kept (CK.out.below B0).marks fun k hk => by
          obtain ⟨_, h2, c, h3⟩ := row_block (CK.out.below B0).marks k hk
          exact hgrow.block k h2 (Ne.symm (row_ne OWA.out h3 (by decide)))
        rw [flat_ref] at hown'
        have hps : A.ps ++ (l.take k).map plainPc ++ [plainPc ⟨nm', rd', ra', rb', imm'⟩] = A.ps ++ (l.take (k + 1)).map plainPc := by
          rw [List.take_succ_eq_append_getElem hkl, HXX.out, List.map_append, List.append_assoc]
          rfl
        rw [hps] at hown'
        have hN9 : (A.ps ++ (l.take (k + 1)).map plainPc).length = N7 + 1 := by rw [← hps, List.length_append, HN7.out]; rfl
        have code6 : CodeIs w6 b (.slice o8 (N7 + 1) c8) (.slice o ms.length c2) (A.ps ++ (l.take (k + 1)).map plainPc) ms := ⟨by rw [hN9]; exact hown', marks6⟩
        have G6 := Aside0.mk (And.intro FDg (And.intro kA6 (And.intro kC6 (And.intro asm6 code6))))
        clear hown' hgrow RFg FDg kC6 asm6 marks6 hps hN9 code6 NW q1 y1 r0 r1 r2 r3 r4 zg B0 hbs
        have q1 := blk_cell kA6
        have f1 := fun o => frozen_of_row w6 w.heap.size o _ 53 kA6
        have y1 := blk_lt kA6
        clear kA6
        go_wp2
        have hset : ∀ j, j ≠ w.heap.size → (w6.setCell ⟨w.heap.size, 0, none⟩ (.slice o8 (N7 + 1) c8)).heap[j]? = w6.heap[j]? := fun j hj => heap_setCell_other w6 ⟨w.heap.size, 0, none⟩ j _ hj
        refine ⟨⟨k + 1, by omega, by simp, ⟨asm_set G6.out.2.2.2.1 G6.out.2.1 hset, (HX.out.fd.trans G6.out.1).setNew (Nat.le_refl _) _, row_kept HX.out.row (fun i hi => ?_), (hset _ (by omega)).trans G6.out.2.2.1, ⟨_, heap_setCell_same w6 w.heap.size 0 _ 53 _ G6.out.2.1, code_set G6.out.2.2.2.2 G6.out.2.1 hset⟩⟩⟩, by simp [intOf]; omega⟩
        obtain ⟨_, _, c, hc⟩ := row_block HX.out.row i hi
        refine (hset i (fun e => ?_)).trans (G6.out.1.block i c 24 _ hc (by decide) (by decide) (by decide))
        subst e
        rw [KA.out] at hc
        cases hc
      · obtain rfl : k = L := by omega
        have a1 : ¬ (k : Int) < (k : Int) := by omega
        have HX := Aside0.mk hx.out
        have p3 := blk_cell kC
        have f3 := fun o => frozen_of_row wr (w.heap.size + 1 + 1) o _ 53 kC
        have y3 := blk_lt kC
        have hAll : A.ps ++ (l.take k).map plainPc = (A.puts l).ps := by rw [← HLL.out, List.take_length]; rfl
        have CE := CK
        rw [hAll] at CE
        have HAll := Aside0.mk hAll
        have hKC := Aside0.mk kC
        clear hcode kA kC hx hAll
        go_wp2_with fail
        refine bodyPost_ret (v := .tuple #[.agg #[.slice o7 N7 c7, .slice o ms.length c2], .bool true]) ?_ rfl ⟨_, _, A.puts l, ms, rfl, asm_set HX.out.asm hKC.out (set2 wr (w.heap.size + 1 + 1) _ _), code_set CE.out hKC.out (set2 wr (w.heap.size + 1 + 1) _ _), inv_puts H.out.iv l FN.out (by have := H.out.len; have := HLL.out; omega), ((HX.out.fd.setNew (by omega) _).setNew (by omega) _), ?_, Nat.le_add_right _ _, Nat.le_add_right _ _⟩
        · simp only [results, Try.results30]
          go_simp
        · have := HLL.out; rw [puts_len]; omega

end Go.Proofs.Ytciehejifdbpoaa.Ap
end
section
set_option linter.unusedSimpArgs false
set_option linter.unusedVariables false
namespace Go.Proofs.Ytciehejifdbpoaa.Ap
open Go.RowKit Go.Maps Go.Proofs.Ytciehejifdbpoaa.Grow Go.Proofs.Ytciehejifdbpoaa.Rv Go.Proofs.Ytciehejifdbpoaa.As
open Go.Proofs.YtciehejifdbpoaaW.PrintWords Go.Proofs.YtciehejifdbpoaaW.PrintLast Go.Proofs.YtciehejifdbpoaaW.PrintMore

/-- What the loop over equal instructions keeps. -/
def LoopI (w : World) (b p : Nat) (A : AsmS) (mv : Value) (ms : List Int) (act : Obj) (wr : World) (k : Nat) : Prop :=
  ∃ A' lvk, AsmAt wr b p A' ∧ CodeIs wr b lvk mv A'.ps ms ∧ Iv A' ms ∧ A'.ps.length ≤ A.ps.length + k ∧ A'.nm ≤ A.nm ∧ FD b w wr ∧
    wr.heap[w.heap.size]? = some (.cells #[lvk, mv] 53 (0, 0)) ∧ wr.heap[w.heap.size + 1]? = some act ∧ wr.heap[w.heap.size + 1 + 1]? = some (.cells #[.slice none 0 0, .slice none 0 0] 53 (0, 0))
set_option maxHeartbeats 8000000 in
set_option maxRecDepth 100000 in
theorem do7 {w : World} {b p : Nat} {A : AsmS} {lv mv : Value} {ms : List Int} (h : DoPre w b p A lv mv ms) (x : ActI) (hk : ¬ (0 ≤ x.kind ∧ x.kind ≤ 6)) (hI : I64 x.label) (hJ : I64 x.n) :
    Calls Try.prog 30 #[.pointer (some ⟨p, 0, none⟩), .agg #[lv, mv], x.val] w fun e w' => DoPost b p A ms w e w' := by
  obtain ⟨o, c2, hmv⟩ := row_slice h.code.marks
  obtain ⟨o1, c1, hlv⟩ := row_slice h.code.row
  have H := Aside0.mk h
  clear h
  subst hmv
  subst hlv
  obtain ⟨kind, label, n, nm, rd, ra, rb, imm⟩ := x
  unfold ActI.val
  simp only at hk hI hJ ⊢
  clear hI hJ
  obtain ⟨⟨a, c⟩, hE⟩ : ∃ r, encF nm rd ra rb imm = r := ⟨_, rfl⟩
  have HE := Aside0.mk hE
  have k0 : (kind == 0) = false := beq_eq_false_iff_ne.2 (by omega)
  have k1 : (kind == 1) = false := beq_eq_false_iff_ne.2 (by omega)
  have k2 : (kind == 2) = false := beq_eq_false_iff_ne.2 (by omega)
  have k3 : (kind == 3) = false := beq_eq_false_iff_ne.2 (by omega)
  have k4 : (kind == 4) = false := beq_eq_false_iff_ne.2 (by omega)
  have k5 : (kind == 5) = false := beq_eq_false_iff_ne.2 (by omega)
  have k6 : (kind == 6) = false := beq_eq_false_iff_ne.2 (by omega)
  clear hE hk
  go_enter Try.func30, Try.ntmps30
  go_wp2_with fail
  generalize hW : ((w.alloc _).alloc _).alloc _ = W
  obtain ⟨kA, kB, kC, hs, hbel⟩ := boxes3 _ _ _ _ _ hW
  clear hW
  have hfb : b ≤ w.heap.size := H.out.hb
  have I0 := Aside0.mk (show LoopI w b p A (.slice o ms.length c2) ms (.cells #[.int .i64 kind, .int .i64 label, .int .i64 n, .string nm, .int .i64 rd, .int .i64 ra, .int .i64 rb, .int .i64 imm] 55) W 0 from
    ⟨A, _, H.out.asm.below hbel, H.out.code.below hbel, H.out.iv, by omega, Nat.le_refl _, FD.of_below hbel, kA, kB, kC⟩)
  clear kA kB kC hbel hs
  go_wp2_with fail
  go_loopw [13] (fun v13 wr => ∃ k : Nat, k ≤ 1200 ∧ v13 = .int .i64 k ∧ Aside0 (LoopI w b p A (.slice o ms.length c2) ms (.cells #[.int .i64 kind, .int .i64 label, .int .i64 n, .string nm, .int .i64 rd, .int .i64 ra, .int .i64 rb, .int .i64 imm] 55) wr k)) (fun v13 _ => 1200 - (intOf v13).toNat)
  case atStart => exact ⟨0, by omega, rfl, I0⟩
  case round =>
    obtain ⟨k, hkL, rfl, hx⟩ := hrel
    obtain ⟨A', lvk, hA, hC, hiv, hlen, hnm, hfd, kA, kB, kC⟩ := hx.out
    obtain ⟨o7, c7, rfl⟩ := row_slice hC.row
    have hsz := hfd.size
    have q1 := blk_cell kA
    have q2 := blk_cell kB
    have q3 := blk_cell kC
    have y1 := blk_lt kA
    have y2 := blk_lt kB
    have y3 := blk_lt kC
    have f1 := fun o => frozen_of_row wr w.heap.size o _ 53 kA
    have f3 := fun o => frozen_of_row wr (w.heap.size + 1 + 1) o _ 53 kC
    have z1 : ∀ j, w.heap.size < wr.heap.size + j := fun j => by omega
    have z2 : ∀ j, w.heap.size + 1 < wr.heap.size + j := fun j => by omega
    have z3 : ∀ j, w.heap.size + 1 + 1 < wr.heap.size + j := fun j => by omega
    have hk0 : (0 : Int) ≤ (k : Int) := by omega
    have PC := Aside0.mk (put67_calls hA hC (by omega) (by have := H.out.len; omega) (by have := H.out.len; omega) ⟨nm, rd, ra, rb, imm⟩ HE.out)
    have HX := Aside0.mk (And.intro hA (And.intro hC (And.intro hiv (And.intro hlen (And.intro hnm hfd)))))
    have KX := Aside0.mk (And.intro kA (And.intro kB kC))
    clear hA hC hiv hlen hnm hfd kA kB kC hx hsz
    by_cases h1 : (k : Int) < n
    · by_cases h2 : k < 1200
      · have h2' : (k : Int) < 1200 := by omega
        go_wp2_with fail
        refine PC.out.mono ?_
        rintro e w1 ⟨lv', rfl, hA1, hC1, hF1⟩
        rw [← add_both] at hC1
        obtain ⟨o5, c5, rfl⟩ := row_slice hC1.row
        have kA1 := hF1.kept KX.out.1 (by decide) (by decide) (by decide)
        have kB1 := hF1.kept KX.out.2.1 (by decide) (by decide) (by decide)
        have kC1 := hF1.kept KX.out.2.2 (by decide) (by decide) (by decide)
        obtain ⟨N5, hN5⟩ : ∃ N5, (A'.pushIf c (plainPc ⟨nm, rd, ra, rb, imm⟩)).ps.length = N5 := ⟨_, rfl⟩
        have F1 := Aside0.mk (And.intro hA1 (And.intro hC1 (And.intro (HX.out.2.2.2.2.2.trans hF1) (And.intro kA1 (And.intro kB1 kC1)))))
        rw [hN5] at F1 ⊢
        have HN5 := Aside0.mk hN5
        clear q1 q2 q3 y1 y2 y3 f1 f3 z1 z2 z3
        have q1 := blk_cell kA1
        have y1 := blk_lt kA1
        have f1 := fun o => frozen_of_row w1 w.heap.size o _ 53 kA1
        have z1 : ∀ j, w.heap.size < w1.heap.size + j := fun j => by omega
        clear hA1 hC1 hF1 kA1 kB1 kC1 hN5
        go_wp2_with fail
        have hq := set2 w1 w.heap.size (.slice o5 N5 c5) (.slice o ms.length c2)
        have hal := below_alloc (Below.refl ((w1.setCell ⟨w.heap.size, 0, none⟩ (.slice o5 N5 c5)).setCell ⟨w.heap.size, 1, none⟩ (.slice o ms.length c2)).heap.size ((w1.setCell ⟨w.heap.size, 0, none⟩ (.slice o5 N5 c5)).setCell ⟨w.heap.size, 1, none⟩ (.slice o ms.length c2))) (.cells #[.slice o5 N5 c5, .slice o ms.length c2] 53)
        have kA2 := heap_setCell_same _ w.heap.size 1 _ 53 (.slice o ms.length c2) (heap_setCell_same w1 w.heap.size 0 _ 53 (.slice o5 N5 c5) F1.out.2.2.2.1)
        have kB2 := (hq (w.heap.size + 1) (by omega)).trans F1.out.2.2.2.2.1
        have kC2 := (hq (w.heap.size + 1 + 1) (by omega)).trans F1.out.2.2.2.2.2
        refine ⟨⟨k + 1, by omega, by simp, ⟨A'.putF ⟨nm, rd, ra, rb, imm⟩ c, _, (asm_set F1.out.1 F1.out.2.2.2.1 hq).below hal, (code_set F1.out.2.1 F1.out.2.2.2.1 hq).below hal, iv_putF HX.out.2.2.1 HE.out (by have := H.out.len; have := HX.out.2.2.2.1; omega), ?_, ?_, ((F1.out.2.2.1.setNew (Nat.le_refl _) _).setNew (Nat.le_refl _) _).trans (FD.of_below hal), blk_below kA2 hal, blk_below kB2 hal, blk_below kC2 hal⟩⟩, by simp [intOf]; omega⟩
        · have := pushIf_len A' c (plainPc ⟨nm, rd, ra, rb, imm⟩)
          have := HX.out.2.2.2.1
          show (A'.pushIf c (plainPc ⟨nm, rd, ra, rb, imm⟩)).ps.length ≤ _
          omega
        · show (A'.pushIf c (plainPc ⟨nm, rd, ra, rb, imm⟩)).nm ≤ _
          rw [pushIf_nm]; exact HX.out.2.2.2.2.1
      · obtain rfl : k = 1200 := by omega
        have h2' : ¬ ((1200 : Nat) : Int) < 1200 := by omega
        go_wp2
        refine bodyPost_ret (v := .tuple #[.agg #[.slice o7 A'.ps.length c7, .slice o ms.length c2], .bool true]) ?_ rfl ⟨_, _, A', ms, rfl, asm_set HX.out.1 KX.out.2.2 (set2 wr (w.heap.size + 1 + 1) _ _), code_set HX.out.2.1 KX.out.2.2 (set2 wr (w.heap.size + 1 + 1) _ _), HX.out.2.2.1, ((HX.out.2.2.2.2.2.setNew (by omega) _).setNew (by omega) _), HX.out.2.2.2.1, Nat.le_add_right _ _, Nat.le_trans HX.out.2.2.2.2.1 (Nat.le_add_right _ _)⟩
        simp only [results, Try.results30]
        go_simp
    · go_wp2
      refine bodyPost_ret (v := .tuple #[.agg #[.slice o7 A'.ps.length c7, .slice o ms.length c2], .bool true]) ?_ rfl ⟨_, _, A', ms, rfl, asm_set HX.out.1 KX.out.2.2 (set2 wr (w.heap.size + 1 + 1) _ _), code_set HX.out.2.1 KX.out.2.2 (set2 wr (w.heap.size + 1 + 1) _ _), HX.out.2.2.1, ((HX.out.2.2.2.2.2.setNew (by omega) _).setNew (by omega) _), Nat.le_trans HX.out.2.2.2.1 (by omega), Nat.le_add_right _ _, Nat.le_trans HX.out.2.2.2.2.1 (Nat.le_add_right _ _)⟩
      simp only [results, Try.results30]
      go_simp

theorem do_calls {w : World} {b p : Nat} {A : AsmS} {lv mv : Value} {ms : List Int} (h : DoPre w b p A lv mv ms) (x : ActI) (hI : I64 x.label) (hJ : I64 x.n) :
    Calls Try.prog 30 #[.pointer (some ⟨p, 0, none⟩), .agg #[lv, mv], x.val] w fun e w' => DoPost b p A ms w e w' := by
  by_cases hk : 0 ≤ x.kind ∧ x.kind ≤ 6
  · rcases (show x.kind = 0 ∨ x.kind = 1 ∨ x.kind = 2 ∨ x.kind = 3 ∨ x.kind = 4 ∨ x.kind = 5 ∨ x.kind = 6 by omega) with h0 | h0 | h0 | h0 | h0 | h0 | h0
    · exact do0 h x h0
    · exact do1 h x h0 hI hJ
    · exact do2 h x h0 hI hJ
    · exact do3 h x h0 hI hJ
    · exact do4 h x h0 hI hJ
    · exact do5 h x h0 hI hJ
    · exact do6 h x h0 hI hJ
  · exact do7 h x hk hI hJ
end Go.Proofs.Ytciehejifdbpoaa.Ap
end
