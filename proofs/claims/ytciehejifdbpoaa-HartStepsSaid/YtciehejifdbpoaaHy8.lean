import Derived.Test.YtciehejifdbpoaaHy7
import Derived.Test.YtciehejifdbpoaaProg
import Derived.Below
import Derived.Deep.Draws
import Derived.Deep.AppendLies
import Derived.Maps.AppendAt
import Derived.OwnWalk
import Derived.Laws.BytesArg
import Derived.Laws.MakeOwn
import Derived.Laws.OwnMore
import Derived.Deep.OwnRows
import Derived.Tactics
import Derived.Lib.ConvBytes
import Derived.Laws.Slices
import Derived.WalkKit
import Derived.KernelRfl
import Derived.RowKit3
import Derived.Deep.LoopGhost
import Derived.Deep.QuietTactic
import Derived.BigQuiet
import Derived.WideLaws
import Derived.Deep.DeepCutAuto
import Derived.Deep.CutBlock
import Derived.Deep.RegionHeld3
import Derived.Laws.Rows
import Derived.Lib.AppendStr
import Derived.ArgAppend
import Derived.Laws.IdiomCopy
import Derived.OrdersHeld
import Derived.Laws.BitsLemmas
import Derived.RowKit
import Derived.Test.YtciehejifdbpoaaHy0
section
set_option linter.unusedSimpArgs false
set_option linter.unusedVariables false
namespace Go.Proofs.Ytciehejifdbpoaa.Hl
open Go.RowKit Go.Maps Go.Proofs.Ytciehejifdbpoaa.Grow Go.Proofs.Ytciehejifdbpoaa.Rv Go.Proofs.Ytciehejifdbpoaa.As Go.Proofs.Ytciehejifdbpoaa.Ht Go.Proofs.Ytciehejifdbpoaa.PHartQuotients
open Go.Proofs.YtciehejifdbpoaaW.PrintWords Go.Proofs.YtciehejifdbpoaaW.PrintLast Go.Proofs.YtciehejifdbpoaaW.PrintMore

/-! ### A state of the document's machine -/
theorem stC_one' {mv : Value} (hm : mv.oneCell' = true) (pc : Int) (regs : List Int) : (stC mv pc regs).all (·.oneCell') = true := by
  rw [Array.all_eq_true_iff_forall_mem]
  intro v hv
  simp only [stC, List.mem_toArray, List.mem_cons, List.mem_map] at hv
  rcases hv with rfl | rfl | ⟨x, _, rfl⟩
  · exact hm
  · rfl
  · rfl
theorem stC_pc (mv : Value) (pc : Int) (regs : List Int) (x : Int) : (stC mv pc regs).setIfInBounds 1 (.int .u64 x) = stC mv x regs := rfl
theorem wpList_load80 {w : World} {ops : Array Oper} {rest : List Oper} {o : Oper} {a : Act} {Q : Exit → Act → World → Prop} (hgd : o.guard = none) (x : Operand) (ho : o.op = .load 80 x)
    (g : Nat) (cs : Array Value) (hx : a.eval x = .pointer (some ⟨g, 0, none⟩)) (hg : w.heap[g]? = some (.cells cs 80 (0, 0))) (hc : cs.size = 34)
    (h : wpList Try.prog ops Q rest (a.put o.dst (.agg cs)) w) : wpList Try.prog ops Q (o :: rest) a w := by
  obtain ⟨fs, hu⟩ := under80
  exact wpList_load_row hgd 80 x ho g hx 80 cs (0, 0) _ hg hu rfl (by rw [info80, hc]) h
def putV (regs : List Int) (r : Nat) (v : Int) : List Int := if 0 < r then regs.set r v else regs
theorem putV_len (regs : List Int) (r : Nat) (v : Int) : (putV regs r v).length = regs.length := by unfold putV; split <;> simp
theorem res87 {tmps : Array Value} {w : World} {g : Nat} {cs : Array Value} (h4 : tmps.getD 8 undef = .pointer (some ⟨g, 0, none⟩)) (hg : w.heap[g]? = some (.cells cs 80 (0, 0))) (hs : cs.size = 34) :
    (results Try.f87 tmps).run Try.prog w = .ok (.agg cs) w := by
  obtain ⟨fs, hu⟩ := under80
  have h4' : tmps[8]?.getD undef = .pointer (some ⟨g, 0, none⟩) := by simpa using h4
  have hl := run_loadVar_row (P := Try.prog) w g 80 80 cs (0, 0) _ hg hu rfl (by rw [info80, hs])
  simp [results, Try.results87, h4', asAddr, hl]
set_option maxHeartbeats 8000000 in
set_option maxRecDepth 100000 in
theorem put_calls (w : World) (mv : Value) (hm : mv.oneCell' = true) (pc : Int) (regs : List Int) (hr : regs.length = 32) (r : Nat) (r32 : r < 32) (v nx : Int) :
    Calls Try.prog 87 #[.agg (stC mv pc regs), .int .i64 r, .int .u64 v, .int .u64 nx] w fun e w' => e = .returned (.agg (stC mv nx (putV regs r v))) ∧ Below w.heap.size w w' := by
  have zs : zC.size = 34 := stC_size _ _ (by simp)
  have zo : zC.all (·.oneCell') = true := by kernel_rfl
  have hsz := stC_size mv pc hr
  obtain ⟨X, hX⟩ : ∃ X, stC mv pc regs = X := ⟨_, rfl⟩
  rw [hX] at hsz ⊢
  have x1 : ∃ y, X[1]? = some y := ⟨_, Array.getElem?_eq_getElem (by omega)⟩
  have x2 : ∃ y, X[2 + r]? = some y := ⟨_, Array.getElem?_eq_getElem (by omega)⟩
  obtain ⟨y1, x1⟩ := x1
  obtain ⟨y2, x2⟩ := x2
  have x3 : ∃ y, (X.setIfInBounds (2 + r) (.int .u64 v))[1]? = some y := ⟨_, Array.getElem?_eq_getElem (by rw [Array.size_setIfInBounds]; omega)⟩
  obtain ⟨y3, x3⟩ := x3
  rcases Nat.eq_zero_or_pos r with r0 | r0
  · obtain ⟨C, hC⟩ : ∃ C, X.setIfInBounds 1 (.int .u64 nx) = C := ⟨_, rfl⟩
    have hCe : C = stC mv nx (putV regs r v) := by rw [← hC, ← hX, stC_pc]; unfold putV; rw [if_neg (by omega)]
    have hCs : C.size = 34 := by rw [hCe]; exact stC_size _ _ (by rw [putV_len]; exact hr)
    have hCo : C.all (·.oneCell') = true := by rw [hCe]; exact stC_one' hm _ _
    have h1 := blk_alloc (heap_alloc_last w (.cells C 80)) (.cells zC 80)
    have h2 := heap_alloc_at (w.alloc (.cells C 80)) (.cells zC 80) (n := w.heap.size + 1) (by simp)
    have B2 := below_alloc (below_alloc (Below.refl w.heap.size w) (.cells C 80)) (.cells zC 80)
    rw [← hCe]
    clear hCe x2 x3 hX
    subst r0
    go_enter Try.func87, Try.ntmps87
    go_wp2_with (first | (refine wpList_alloc80 rfl rfl ?_) | (refine wpList_load80 rfl _ rfl w.heap.size C rfl h1 hCs ?_) | (refine wpList_store80 rfl _ _ rfl (w.heap.size + 1) C zC rfl rfl h2 hCs zs hCo ?_))
    have hW := setRow_heap _ (w.heap.size + 1) zC C 80 (0, 0) h2
    refine bodyPost_ret (v := .agg C) (res87 (g := w.heap.size + 1) rfl hW hCs) rfl ⟨rfl, below_setRow B2 (by omega) _⟩
  · obtain ⟨C, hC⟩ : ∃ C, (X.setIfInBounds (2 + r) (.int .u64 v)).setIfInBounds 1 (.int .u64 nx) = C := ⟨_, rfl⟩
    have hCe : C = stC mv nx (putV regs r v) := by rw [← hC, ← hX, stC_set, stC_pc]; unfold putV; rw [if_pos r0]
    have hCs : C.size = 34 := by rw [hCe]; exact stC_size _ _ (by rw [putV_len]; exact hr)
    have hCo : C.all (·.oneCell') = true := by rw [hCe]; exact stC_one' hm _ _
    have h1 := blk_alloc (heap_alloc_last w (.cells C 80)) (.cells zC 80)
    have h2 := heap_alloc_at (w.alloc (.cells C 80)) (.cells zC 80) (n := w.heap.size + 1) (by simp)
    have B2 := below_alloc (below_alloc (Below.refl w.heap.size w) (.cells C 80)) (.cells zC 80)
    have i0 : (0 : Int) ≤ (r : Int) := by omega
    have i1 : (r : Int) < 32 := by omega
    rw [← hCe]
    clear hCe hX
    go_enter Try.func87, Try.ntmps87
    go_wp2_with (first | (refine wpList_alloc80 rfl rfl ?_) | (refine wpList_load80 rfl _ rfl w.heap.size C rfl h1 hCs ?_) | (refine wpList_store80 rfl _ _ rfl (w.heap.size + 1) C zC rfl rfl h2 hCs zs hCo ?_))
    have hW := setRow_heap _ (w.heap.size + 1) zC C 80 (0, 0) h2
    refine bodyPost_ret (v := .agg C) (res87 (g := w.heap.size + 1) rfl hW hCs) rfl ⟨rfl, below_setRow B2 (by omega) _⟩
end Go.Proofs.Ytciehejifdbpoaa.Hl
end
section
set_option linter.unusedSimpArgs false
set_option linter.unusedVariables false
namespace Go.Proofs.Ytciehejifdbpoaa.Hl
open Go.RowKit Go.Maps Go.Proofs.Ytciehejifdbpoaa.Grow Go.Proofs.Ytciehejifdbpoaa.Rv Go.Proofs.Ytciehejifdbpoaa.As Go.Proofs.Ytciehejifdbpoaa.Ht Go.Proofs.Ytciehejifdbpoaa.PHartQuotients
open Go.Proofs.YtciehejifdbpoaaW.PrintWords Go.Proofs.YtciehejifdbpoaaW.PrintLast Go.Proofs.YtciehejifdbpoaaW.PrintMore

/-! ### A region of the machine's memory, given back -/
theorem blk_string {w : World} {g : Nat} {bs : List Int} (cap : Nat) (h : w.heap[g]? = some (.cells (bs.map (Value.int .u8)).toArray 5 (0, 0))) : (convert 130 9 (.slice (some ⟨g, 0, none⟩) bs.length cap)).run Try.prog w = .ok (.string (strOf bs)) w := by
  rw [run_convert_bytes_string w 130 9 5 _ _ _ Ht.under130 und5 und9]
  refine run_bytesToString w _ bs.length cap bs ?_
  have hl : (loadCells ⟨g, 0, none⟩ (bs.map (Value.int .u8)).length).run Try.prog w = .ok (bs.map (Value.int .u8)).toArray w :=
    run_loadCells_list (P := Try.prog) w ⟨g, 0, none⟩ _ (fun j u hu => by
      rw [Addr.add_mid, Nat.zero_add, cell_of_row w g _ _ 5 (0, 0) h]
      simpa using hu)
  rw [List.length_map] at hl
  exact hl
theorem within_ok (a b c : Int) : mem_within_int.f a b c = some (decide (b ≤ a) && decide (a ≤ c)) := by
  unfold mem_within_int.f
  by_cases h : a ≥ b
  · rw [if_pos h, decide_eq_true (show b ≤ a from h), Bool.true_and]
  · rw [if_neg h, decide_eq_false (show ¬ b ≤ a from h), Bool.false_and]
set_option maxHeartbeats 8000000 in
set_option maxRecDepth 100000 in
theorem region_calls {w : World} {mp q : Nat} {gs : List Nat} {S : MemS} (h : MemIs w mp q gs S) {i : Nat} (hi : i < S.rs.length) (hl : S.rs.length < 1000000000) :
    Calls Try.prog 43 #[.pointer (some ⟨mp, 0, none⟩), .int .i64 i] w fun e w' => e = .returned (.tuple #[.agg #[.int .u64 S.rs[i].base, .string (strOf S.rs[i].bytes), .int .i64 S.rs[i].rights], .int .i64 0]) ∧ Below w.heap.size w w' := by
  have H := Aside0.mk h
  obtain ⟨R, hR⟩ : ∃ R, S.rs[i] = R := ⟨_, rfl⟩
  rw [hR]
  have HR := Aside0.mk hR
  clear hR
  obtain ⟨L, hL⟩ : ∃ L, S.rs.length = L := ⟨_, rfl⟩
  obtain ⟨cap, h1⟩ := h.head
  have c1 : w.cell? ⟨mp, 0, none⟩ = some (.slice (some ⟨q, 0, none⟩) S.rs.length cap) := blk_cell h1 0
  have z1 := blk_lt h1
  have HL := Aside0.mk hL
  have w1 : wrap64 ((L : Int) - 1) = (L : Int) - 1 := by unfold wrap64; omega
  have WC := Aside0.mk (fun w9 => mem_within_int.calls (i : Int) 0 ((L : Int) - 1) true w9 (by rw [within_ok]; simp; omega))
  have hi' : i < L := by omega
  rw [hL] at c1
  have hi2 := Aside0.mk hi
  clear h h1 hL
  go_enter Try.func43, Try.ntmps43
  go_wp2_with fail
  have BA := below_alloc (Below.refl w.heap.size w) (.cells #[.int .u64 0, .string ⟨#[]⟩, .int .i64 0] 92)
  have hz := heap_alloc_last w (.cells #[.int .u64 0, .string ⟨#[]⟩, .int .i64 0] 92)
  generalize w.alloc (.cells #[.int .u64 0, .string ⟨#[]⟩, .int .i64 0] 92) = wa at *
  refine (WC.out wa).mono ?_
  rintro e w2 ⟨rfl, hd⟩
  have hzz := blk_below hz hd.below
  have zz := blk_lt hzz
  have B2 := BA.trans (hd.below.mono BA.size)
  have h2 := H.out.below B2
  obtain ⟨cap2, g1⟩ := h2.head
  obtain ⟨cur, g2, g3⟩ := h2.row
  have hg : i < gs.length := by rw [h2.len]; exact hi2.out
  obtain ⟨d0, d1, d2⟩ := g3 i hi2.out hg
  have hb := h2.bytes i hi2.out hg
  have hR := HR.out
  rw [hR] at d0 d1 d2 hb
  have e1 : w2.cell? ⟨mp, 0, none⟩ = some (.slice (some ⟨q, 0, none⟩) S.rs.length cap2) := blk_cell g1 0
  rw [HL.out] at e1
  have y1 := blk_lt g1
  have y2 := blk_lt g2
  have f0 := (blk_cell g2 (i * 3)).trans d0
  have f1 := (blk_cell g2 (i * 3 + 1)).trans d1
  have f2 := (blk_cell g2 (i * 3 + 2)).trans d2
  have hcv := fun (w9 : World) (hb9 : Below w2.heap.size w2 w9) => blk_string R.bytes.length (blk_below hb hb9)
  have hcv := hcv _ (below_alloc (Below.refl w2.heap.size w2) (.cells #[.int .u64 R.base, .slice (some ⟨gs[i], 0, none⟩) R.bytes.length R.bytes.length, .int .i64 R.rights] 171))
  have q0 : w2.cell? ⟨w.heap.size, 0, none⟩ = some (.int .u64 0) := blk_cell hzz 0
  have q1 : w2.cell? ⟨w.heap.size, 1, none⟩ = some (.string ⟨#[]⟩) := blk_cell hzz 1
  have q2 : w2.cell? ⟨w.heap.size, 2, none⟩ = some (.int .i64 0) := blk_cell hzz 2
  have k0 := frozen_of_row w2 w.heap.size 0 _ 92 hzz
  have k1 := frozen_of_row w2 w.heap.size 1 _ 92 hzz
  have k2 := frozen_of_row w2 w.heap.size 2 _ 92 hzz
  have z9 := Aside0.mk zz
  have i0 : (0 : Int) ≤ (i : Int) := by omega
  have i1 : (i : Int) < (L : Int) := by omega
  have BB := Aside0.mk B2
  clear hR hz BA hd h2 g1 g2 g3 d0 d1 d2 hb WC c1 z1
  go_wp2_with fail
  have s1 := heap_setCell_same w2 w.heap.size 0 _ 92 (.int .u64 R.base) hzz
  have s2 := heap_setCell_same _ w.heap.size 1 _ 92 (.string (strOf R.bytes)) s1
  have s3 := heap_setCell_same _ w.heap.size 2 _ 92 (.int .i64 R.rights) s2
  have s4 := blk_alloc s3 (.cells #[.int .u64 R.base, .slice (some ⟨gs[i], 0, none⟩) R.bytes.length R.bytes.length, .int .i64 R.rights] 171)
  have b1 : Below w.heap.size w (w2.setCell ⟨w.heap.size, 0, none⟩ (.int .u64 R.base)) := BB.out.setCell (p := ⟨w.heap.size, 0, none⟩) (Nat.le_refl _) _
  have b2 : Below w.heap.size w ((w2.setCell ⟨w.heap.size, 0, none⟩ (.int .u64 R.base)).setCell ⟨w.heap.size, 1, none⟩ (.string (strOf R.bytes))) := b1.setCell (p := ⟨w.heap.size, 1, none⟩) (Nat.le_refl _) _
  have b3 : Below w.heap.size w (((w2.setCell ⟨w.heap.size, 0, none⟩ (.int .u64 R.base)).setCell ⟨w.heap.size, 1, none⟩ (.string (strOf R.bytes))).setCell ⟨w.heap.size, 2, none⟩ (.int .i64 R.rights)) := b2.setCell (p := ⟨w.heap.size, 2, none⟩) (Nat.le_refl _) _
  have b4 := below_alloc b3 (.cells #[.int .u64 R.base, .slice (some ⟨gs[i], 0, none⟩) R.bytes.length R.bytes.length, .int .i64 R.rights] 171)
  have r0 := blk_cell s4 0
  have r1 := blk_cell s4 1
  have r2 := blk_cell s4 2
  clear s1 s2 s3 s4 b1 b2 b3
  generalize (((w2.setCell ⟨w.heap.size, 0, none⟩ (.int .u64 R.base)).setCell ⟨w.heap.size, 1, none⟩ (.string (strOf R.bytes))).setCell ⟨w.heap.size, 2, none⟩ (.int .i64 R.rights)).alloc (.cells #[.int .u64 R.base, .slice (some ⟨gs[i], 0, none⟩) R.bytes.length R.bytes.length, .int .i64 R.rights] 171) = wz at *
  have r0 : wz.cell? ⟨w.heap.size, 0, none⟩ = some (.int .u64 R.base) := r0.trans rfl
  have r1 : wz.cell? ⟨w.heap.size, 1, none⟩ = some (.string (strOf R.bytes)) := r1.trans rfl
  have r2 : wz.cell? ⟨w.heap.size, 2, none⟩ = some (.int .i64 R.rights) := r2.trans rfl
  refine bodyPost_ret (v := .tuple #[.agg #[.int .u64 R.base, .string (strOf R.bytes), .int .i64 R.rights], .int .i64 0]) (by simp [results, Try.results43, go_sem, r0, r1, r2]) rfl ⟨rfl, b4⟩
end Go.Proofs.Ytciehejifdbpoaa.Hl
end
section
namespace Go.Proofs.Ytciehejifdbpoaa.PHartSteps
open Go.RowKit Go.Proofs.YtciehejifdbpoaaW.PrintWords Go.Proofs.YtciehejifdbpoaaW.PrintLast Go.Proofs.YtciehejifdbpoaaW.PrintMore
attribute [local go_sem] max2_int min2_int max_two min_two max_three min_three max_four min_four   -- for this text's walks alone
set_option linter.unusedVariables false
set_option linter.unusedSimpArgs false



def errW : Option Int → Value
  | none => .nilIface
  | some c => .iface 0 (.int .i64 c)
theorem errW_none : errW none = .nilIface := rfl
theorem errW_some (c : Int) : errW (some c) = .iface 0 (.int .i64 c) := rfl

-- the values' own types
/-! #### struct type 24 -/
structure S24 where
  f0 : ByteArray
  f1 : Int
  f2 : Int
  f3 : Int
  f4 : Int
/-! #### struct type 92 -/
structure S92 where
  f0 : Int
  f1 : ByteArray
  f2 : Int
def z92 : S92 := ⟨(0 : Int), (⟨#[]⟩ : ByteArray), (0 : Int)⟩
def k92 : Kd S92 := Kd.iso (Kd.pair (Kd.int .u64) (Kd.pair Kd.string (Kd.int .i64))) (fun x : S92 => (x.f0, x.f1, x.f2))
theorem k92_open {w : World} {x : S92} {cs : List Value} (h : k92.K w x cs) : cs = [.int .u64 x.f0, .string x.f1, .int .i64 x.f2] := by
  obtain ⟨_, _, rfl, rfl, ⟨_, _, rfl, rfl, rfl⟩⟩ := h
  exact rfl
theorem k92_mk (w : World) (x : S92)  : k92.K w x [.int .u64 x.f0, .string x.f1, .int .i64 x.f2] := ⟨[.int .u64 x.f0], [.string x.f1, .int .i64 x.f2], rfl, rfl, ⟨[.string x.f1], [.int .i64 x.f2], rfl, rfl, rfl⟩⟩
def rd_T92 (xs : List S92) (i : Int) : S92 := xs.getD i.toNat z92
theorem at_T92 {w : World} {A : Option Addr} {n : Nat} {xs : List S92} (h : Kd.C k92 w A n xs) (i : Int) (h0 : 0 ≤ i) (h1 : i < n) : ∃ ad , A = some ad ∧ w.cell? (ad.add (i.toNat * 3)) = some (.int .u64 (rd_T92 xs i).f0) ∧ w.cell? ⟨(ad.add (i.toNat * 3)).block, (ad.add (i.toNat * 3)).off + 1, none⟩ = some (.string (rd_T92 xs i).f1) ∧ w.cell? ⟨(ad.add (i.toNat * 3)).block, (ad.add (i.toNat * 3)).off + 2, none⟩ = some (.int .i64 (rd_T92 xs i).f2) := by
  obtain ⟨ad, c, e, _, hK, hc0⟩ := Kd.C_get h z92 i h0 h1
  have hc : ∀ j u, c[j]? = some u → w.cell? (ad.add (i.toNat * 3 + j)) = some u := hc0
  obtain rfl := k92_open hK
  exact ⟨ad, e, hc 0 _ rfl, by rw [← add_field _ _ 1 (by omega)]; exact hc 1 _ rfl, by rw [← add_field _ _ 2 (by omega)]; exact hc 2 _ rfl⟩

/-! #### struct type 171 -/
structure S171 where
  f0 : Int
  f1 : (List Int)
  f2 : Int
end Go.Proofs.Ytciehejifdbpoaa.PHartSteps
end
section
namespace Go.Proofs.Ytciehejifdbpoaa.PHartSteps
open Go.RowKit Go.Proofs.YtciehejifdbpoaaW.PrintWords Go.Proofs.YtciehejifdbpoaaW.PrintLast Go.Proofs.YtciehejifdbpoaaW.PrintMore
attribute [local go_sem] max2_int min2_int max_two min_two max_three min_three max_four min_four   -- for this text's walks alone
set_option linter.unusedVariables false
set_option linter.unusedSimpArgs false

/-! ### burinref26_Bits: function 95 -/
def burinref26_Bits.f (a0 : Int) (a1 : Int) (a2 : Int) : Option (Int) := if 0 ≤ (IntKind.u64.wrap (a1)) then (if 0 ≤ (IntKind.u64.wrap (a2)) then (some (Go.bits .and .i64 (shr .i64 a0 (IntKind.u64.wrap (a1))) (wrap64 ((shl .i64 1 (IntKind.u64.wrap (a2))) - 1)))) else (none)) else (none)
set_option maxHeartbeats 8000000 in
set_option maxRecDepth 100000 in
theorem burinref26_Bits.calls (a0 : Int) (a1 : Int) (a2 : Int) (r : Int) (w : World) (h : burinref26_Bits.f a0 a1 a2 = some r) :
    Calls Try.prog 95 #[.int .i64 a0, .int .i64 a1, .int .i64 a2] w fun e w' => e = .returned (.int .i64 r) ∧ Drawn0 w w' := by
  have H : (if 0 ≤ (IntKind.u64.wrap (a1)) then (if 0 ≤ (IntKind.u64.wrap (a2)) then (some (Go.bits .and .i64 (shr .i64 a0 (IntKind.u64.wrap (a1))) (wrap64 ((shl .i64 1 (IntKind.u64.wrap (a2))) - 1)))) else (none)) else (none)) = some r := h
  clear h
  obtain ⟨ji4, hji4⟩ : ∃ j_ : Int, (IntKind.u64.wrap (a1)) = j_ := ⟨_, rfl⟩
  replace H : (if 0 ≤ (ji4) then (if 0 ≤ (IntKind.u64.wrap (a2)) then (some (Go.bits .and .i64 (shr .i64 a0 (ji4)) (wrap64 ((shl .i64 1 (IntKind.u64.wrap (a2))) - 1)))) else (none)) else (none)) = some r := by first | (rw [hji4] at H; exact H) | (simp only [hji4] at H ⊢; exact H)
  by_cases c5 : 0 ≤ (ji4)
  · rw [if_pos c5] at H
    have c5b0 := eq_true c5
    have c5b1 : decide (0 ≤ (ji4)) = true := decide_eq_true c5
    clear c5
    obtain ⟨ji6, hji6⟩ : ∃ j_ : Int, (shr .i64 a0 (ji4)) = j_ := ⟨_, rfl⟩
    replace H : (if 0 ≤ (IntKind.u64.wrap (a2)) then (some (Go.bits .and .i64 (ji6) (wrap64 ((shl .i64 1 (IntKind.u64.wrap (a2))) - 1)))) else (none)) = some r := by first | (rw [hji6] at H; exact H) | (simp only [hji6] at H ⊢; exact H)
    have hji6_ : (a0 / 2 ^ min (ji4).toNat 64) = ji6 := hji6
    have hji6z : (ji4) ≤ 64 → (a0 / 2 ^ (ji4).toNat) = ji6 := shr_small hji6
    obtain ⟨ji7, hji7⟩ : ∃ j_ : Int, (IntKind.u64.wrap (a2)) = j_ := ⟨_, rfl⟩
    replace H : (if 0 ≤ (ji7) then (some (Go.bits .and .i64 (ji6) (wrap64 ((shl .i64 1 (ji7)) - 1)))) else (none)) = some r := by first | (rw [hji7] at H; exact H) | (simp only [hji7] at H ⊢; exact H)
    by_cases c8 : 0 ≤ (ji7)
    · rw [if_pos c8] at H
      have c8b0 := eq_true c8
      have c8b1 : decide (0 ≤ (ji7)) = true := decide_eq_true c8
      clear c8
      obtain ⟨ji9, hji9⟩ : ∃ j_ : Int, (shl .i64 1 (ji7)) = j_ := ⟨_, rfl⟩
      replace H : (some (Go.bits .and .i64 (ji6) (wrap64 ((ji9) - 1)))) = some r := by first | (rw [hji9] at H; exact H) | (simp only [hji9] at H ⊢; exact H)
      have hji9_ : (IntKind.i64.wrap (1 * 2 ^ min (ji7).toNat 64)) = ji9 := hji9
      have hji9z : (ji7) ≤ 64 → (IntKind.i64.wrap (1 * 2 ^ (ji7).toNat)) = ji9 := shl_small hji9
      have hji9u : (IntKind.i64.wrap (2 ^ min (ji7).toNat 64)) = ji9 := by have h_ := hji9_; rw [Int.one_mul] at h_; exact h_
      have hji9v : (ji7) ≤ 64 → (IntKind.i64.wrap (2 ^ (ji7).toNat)) = ji9 := fun hle_ => by have h_ := hji9z hle_; rw [Int.one_mul] at h_; exact h_
      have hji9y : (wrap64 (1 * 2 ^ min (ji7).toNat 64)) = ji9 := (i64_w _).symm.trans hji9_
      have hji9x : (ji7) ≤ 64 → (wrap64 (1 * 2 ^ (ji7).toNat)) = ji9 := fun h_ => (i64_w _).symm.trans (hji9z h_)
      obtain rfl := Option.some.inj H
      go_enter Try.func95, Try.ntmps95
      go_wp2
      go_ret
      exact ⟨by first | rfl | (simp; done) | (simp only [← hji4, ← hji6, ← hji7, ← hji9] <;> (first | rfl | simp)) | (simp [*]; done), by repeat (first | exact Drawn0.refl _ | apply Drawn0.step)⟩
    · rw [if_neg c8] at H
      exact absurd H (by simp)
  · rw [if_neg c5] at H
    exact absurd H (by simp)

/-! ### burinref26_opR: function 96 -/
mutual
def burinref26_opR.j0 : Nat → Int → Int → Int → ByteArray → Option (ByteArray)
  | 0, _, _, _, _ => none
  | k + 1, x0, x1, x2, x9 => if x0 = 59 then (burinref26_opR.j1 k x1 x2 x9 (x9.toList == ([] : List UInt8))) else (burinref26_opR.j1 k x1 x2 x9 true)
def burinref26_opR.j1 : Nat → Int → Int → ByteArray → Bool → Option (ByteArray)
  | 0, _, _, _, _ => none
  | k + 1, x1, x2, x9, x36 => if x36 = true then (some x9) else (if x2 = 0 then (if x1 = 2 then (some (⟨#[]⟩ : ByteArray)) else (if x1 = 3 then (some (⟨#[]⟩ : ByteArray)) else (if x1 = 4 then (some (⟨#[]⟩ : ByteArray)) else (if x1 = 6 then (some (⟨#[]⟩ : ByteArray)) else (if x1 = 7 then (some (⟨#[]⟩ : ByteArray)) else (if x2 = 1 then (if x1 ≥ 1 then (if x1 ≤ 3 then (some (⟨#[]⟩ : ByteArray)) else (if x9.size + 1 ≤ 9223372036854775807 then (some (x9 ++ (⟨#[119]⟩ : ByteArray))) else (none))) else (if x9.size + 1 ≤ 9223372036854775807 then (some (x9 ++ (⟨#[119]⟩ : ByteArray))) else (none))) else (if x9.size + 1 ≤ 9223372036854775807 then (some (x9 ++ (⟨#[119]⟩ : ByteArray))) else (none)))))))) else (if x2 = 1 then (if x1 ≥ 1 then (if x1 ≤ 3 then (some (⟨#[]⟩ : ByteArray)) else (if x9.size + 1 ≤ 9223372036854775807 then (some (x9 ++ (⟨#[119]⟩ : ByteArray))) else (none))) else (if x9.size + 1 ≤ 9223372036854775807 then (some (x9 ++ (⟨#[119]⟩ : ByteArray))) else (none))) else (if x9.size + 1 ≤ 9223372036854775807 then (some (x9 ++ (⟨#[119]⟩ : ByteArray))) else (none))))
end
def burinref26_opR.f (k : Nat) (a0 : Int) (a1 : Int) (a2 : Int) : Option (ByteArray) := (some (([(⟨#[97, 100, 100]⟩ : ByteArray), (⟨#[115, 108, 108]⟩ : ByteArray), (⟨#[115, 108, 116]⟩ : ByteArray), (⟨#[115, 108, 116, 117]⟩ : ByteArray), (⟨#[120, 111, 114]⟩ : ByteArray), (⟨#[115, 114, 108]⟩ : ByteArray), (⟨#[111, 114]⟩ : ByteArray), (⟨#[97, 110, 100]⟩ : ByteArray)] : List ByteArray) : List ByteArray)).bind fun y145 => ((some (([(⟨#[109, 117, 108]⟩ : ByteArray), (⟨#[109, 117, 108, 104]⟩ : ByteArray), (⟨#[109, 117, 108, 104, 115, 117]⟩ : ByteArray), (⟨#[109, 117, 108, 104, 117]⟩ : ByteArray), (⟨#[100, 105, 118]⟩ : ByteArray), (⟨#[100, 105, 118, 117]⟩ : ByteArray), (⟨#[114, 101, 109]⟩ : ByteArray), (⟨#[114, 101, 109, 117]⟩ : ByteArray)] : List ByteArray) : List ByteArray)).bind fun y148 => (if a2 = 0 then (if 0 ≤ a1 then (if a1 < (y145.length : Int) then (burinref26_opR.j0 k a0 a1 a2 (rdOf ByteArray.empty y145 a1)) else (none)) else (none)) else (if a2 = 32 then (if a1 = 0 then (if a1 = 5 then (burinref26_opR.j0 k a0 a1 a2 (⟨#[115, 114, 97]⟩ : ByteArray)) else (burinref26_opR.j0 k a0 a1 a2 (⟨#[115, 117, 98]⟩ : ByteArray))) else (if a1 = 5 then (burinref26_opR.j0 k a0 a1 a2 (⟨#[115, 114, 97]⟩ : ByteArray)) else (burinref26_opR.j0 k a0 a1 a2 (⟨#[]⟩ : ByteArray)))) else (if a2 = 1 then (if 0 ≤ a1 then (if a1 < (y148.length : Int) then (burinref26_opR.j0 k a0 a1 a2 (rdOf ByteArray.empty y148 a1)) else (none)) else (none)) else (burinref26_opR.j0 k a0 a1 a2 (⟨#[]⟩ : ByteArray))))))
set_option maxHeartbeats 8000000 in
set_option maxRecDepth 100000 in
theorem burinref26_opR.calls (k : Nat) (a0 : Int) (a1 : Int) (a2 : Int) (r : ByteArray) (w : World) (h : burinref26_opR.f k a0 a1 a2 = some r) :
    Calls Try.prog 96 #[.int .i64 a0, .int .i64 a1, .int .i64 a2] w fun e w' => e = .returned (.string r) ∧ Below w.heap.size w w' := by
  have HB := Aside0.mk (Below.refl w.heap.size w)
  have H : ((some (([(⟨#[97, 100, 100]⟩ : ByteArray), (⟨#[115, 108, 108]⟩ : ByteArray), (⟨#[115, 108, 116]⟩ : ByteArray), (⟨#[115, 108, 116, 117]⟩ : ByteArray), (⟨#[120, 111, 114]⟩ : ByteArray), (⟨#[115, 114, 108]⟩ : ByteArray), (⟨#[111, 114]⟩ : ByteArray), (⟨#[97, 110, 100]⟩ : ByteArray)] : List ByteArray) : List ByteArray)).bind fun y145 => ((some (([(⟨#[109, 117, 108]⟩ : ByteArray), (⟨#[109, 117, 108, 104]⟩ : ByteArray), (⟨#[109, 117, 108, 104, 115, 117]⟩ : ByteArray), (⟨#[109, 117, 108, 104, 117]⟩ : ByteArray), (⟨#[100, 105, 118]⟩ : ByteArray), (⟨#[100, 105, 118, 117]⟩ : ByteArray), (⟨#[114, 101, 109]⟩ : ByteArray), (⟨#[114, 101, 109, 117]⟩ : ByteArray)] : List ByteArray) : List ByteArray)).bind fun y148 => (if a2 = 0 then (if 0 ≤ a1 then (if a1 < (y145.length : Int) then (burinref26_opR.j0 k a0 a1 a2 (rdOf ByteArray.empty y145 a1)) else (none)) else (none)) else (if a2 = 32 then (if a1 = 0 then (if a1 = 5 then (burinref26_opR.j0 k a0 a1 a2 (⟨#[115, 114, 97]⟩ : ByteArray)) else (burinref26_opR.j0 k a0 a1 a2 (⟨#[115, 117, 98]⟩ : ByteArray))) else (if a1 = 5 then (burinref26_opR.j0 k a0 a1 a2 (⟨#[115, 114, 97]⟩ : ByteArray)) else (burinref26_opR.j0 k a0 a1 a2 (⟨#[]⟩ : ByteArray)))) else (if a2 = 1 then (if 0 ≤ a1 then (if a1 < (y148.length : Int) then (burinref26_opR.j0 k a0 a1 a2 (rdOf ByteArray.empty y148 a1)) else (none)) else (none)) else (burinref26_opR.j0 k a0 a1 a2 (⟨#[]⟩ : ByteArray))))))) = some r := h
  clear h
  obtain ⟨y145, hy145⟩ : ∃ y_ : List ByteArray, y_ = (([(⟨#[97, 100, 100]⟩ : ByteArray), (⟨#[115, 108, 108]⟩ : ByteArray), (⟨#[115, 108, 116]⟩ : ByteArray), (⟨#[115, 108, 116, 117]⟩ : ByteArray), (⟨#[120, 111, 114]⟩ : ByteArray), (⟨#[115, 114, 108]⟩ : ByteArray), (⟨#[111, 114]⟩ : ByteArray), (⟨#[97, 110, 100]⟩ : ByteArray)] : List ByteArray)) := ⟨_, rfl⟩
  replace H : ((some (([(⟨#[109, 117, 108]⟩ : ByteArray), (⟨#[109, 117, 108, 104]⟩ : ByteArray), (⟨#[109, 117, 108, 104, 115, 117]⟩ : ByteArray), (⟨#[109, 117, 108, 104, 117]⟩ : ByteArray), (⟨#[100, 105, 118]⟩ : ByteArray), (⟨#[100, 105, 118, 117]⟩ : ByteArray), (⟨#[114, 101, 109]⟩ : ByteArray), (⟨#[114, 101, 109, 117]⟩ : ByteArray)] : List ByteArray) : List ByteArray)).bind fun y148 => (if a2 = 0 then (if 0 ≤ a1 then (if a1 < (y145.length : Int) then (burinref26_opR.j0 k a0 a1 a2 (rdOf ByteArray.empty y145 a1)) else (none)) else (none)) else (if a2 = 32 then (if a1 = 0 then (if a1 = 5 then (burinref26_opR.j0 k a0 a1 a2 (⟨#[115, 114, 97]⟩ : ByteArray)) else (burinref26_opR.j0 k a0 a1 a2 (⟨#[115, 117, 98]⟩ : ByteArray))) else (if a1 = 5 then (burinref26_opR.j0 k a0 a1 a2 (⟨#[115, 114, 97]⟩ : ByteArray)) else (burinref26_opR.j0 k a0 a1 a2 (⟨#[]⟩ : ByteArray)))) else (if a2 = 1 then (if 0 ≤ a1 then (if a1 < (y148.length : Int) then (burinref26_opR.j0 k a0 a1 a2 (rdOf ByteArray.empty y148 a1)) else (none)) else (none)) else (burinref26_opR.j0 k a0 a1 a2 (⟨#[]⟩ : ByteArray)))))) = some r := by first | (rw [hy145]; with_reducible exact H) | (have H2_ := (Option.bind_some _ _).symm.trans H; rw [hy145]; with_reducible exact H2_) | (have H2_ := (Option.bind_some _ _).symm.trans H; with_reducible exact H2_) | with_reducible exact H | (rw [hy145]; exact H) | exact H
  have Ny145 := Aside0.mk hy145
  clear hy145
  obtain ⟨y148, hy148⟩ : ∃ y_ : List ByteArray, y_ = (([(⟨#[109, 117, 108]⟩ : ByteArray), (⟨#[109, 117, 108, 104]⟩ : ByteArray), (⟨#[109, 117, 108, 104, 115, 117]⟩ : ByteArray), (⟨#[109, 117, 108, 104, 117]⟩ : ByteArray), (⟨#[100, 105, 118]⟩ : ByteArray), (⟨#[100, 105, 118, 117]⟩ : ByteArray), (⟨#[114, 101, 109]⟩ : ByteArray), (⟨#[114, 101, 109, 117]⟩ : ByteArray)] : List ByteArray)) := ⟨_, rfl⟩
  replace H : (if a2 = 0 then (if 0 ≤ a1 then (if a1 < (y145.length : Int) then (burinref26_opR.j0 k a0 a1 a2 (rdOf ByteArray.empty y145 a1)) else (none)) else (none)) else (if a2 = 32 then (if a1 = 0 then (if a1 = 5 then (burinref26_opR.j0 k a0 a1 a2 (⟨#[115, 114, 97]⟩ : ByteArray)) else (burinref26_opR.j0 k a0 a1 a2 (⟨#[115, 117, 98]⟩ : ByteArray))) else (if a1 = 5 then (burinref26_opR.j0 k a0 a1 a2 (⟨#[115, 114, 97]⟩ : ByteArray)) else (burinref26_opR.j0 k a0 a1 a2 (⟨#[]⟩ : ByteArray)))) else (if a2 = 1 then (if 0 ≤ a1 then (if a1 < (y148.length : Int) then (burinref26_opR.j0 k a0 a1 a2 (rdOf ByteArray.empty y148 a1)) else (none)) else (none)) else (burinref26_opR.j0 k a0 a1 a2 (⟨#[]⟩ : ByteArray))))) = some r := by first | (rw [hy148]; with_reducible exact H) | (have H2_ := (Option.bind_some _ _).symm.trans H; rw [hy148]; with_reducible exact H2_) | (have H2_ := (Option.bind_some _ _).symm.trans H; with_reducible exact H2_) | with_reducible exact H | (rw [hy148]; exact H) | exact H
  have Ny148 := Aside0.mk hy148
  clear hy148
  have HC4 := Aside0.mk H
  clear H
  go_enter Try.func96, Try.ntmps96
  go_upto_block 0 with (first | ((with_reducible refine gate_dst (N := 10) rfl ?_); refine Kd.R_lit Kd.string _ 9 ?hg (N := 10) ?hd (xs := ([(⟨#[97, 100, 100]⟩ : ByteArray), (⟨#[115, 108, 108]⟩ : ByteArray), (⟨#[115, 108, 116]⟩ : ByteArray), (⟨#[115, 108, 116, 117]⟩ : ByteArray), (⟨#[120, 111, 114]⟩ : ByteArray), (⟨#[115, 114, 108]⟩ : ByteArray), (⟨#[111, 114]⟩ : ByteArray), (⟨#[97, 110, 100]⟩ : ByteArray)] : List ByteArray)) (inner := [.string (⟨#[97, 100, 100]⟩ : ByteArray), .string (⟨#[115, 108, 108]⟩ : ByteArray), .string (⟨#[115, 108, 116]⟩ : ByteArray), .string (⟨#[115, 108, 116, 117]⟩ : ByteArray), .string (⟨#[120, 111, 114]⟩ : ByteArray), .string (⟨#[115, 114, 108]⟩ : ByteArray), .string (⟨#[111, 114]⟩ : ByteArray), .string (⟨#[97, 110, 100]⟩ : ByteArray)]) (ok := fun _ => True) (okp := fun _ => True) ?hr ?hp (fun _ hk => hk) trivial (Below.refl _ _) (Nat.le_refl _) (by simp) ?_; (case hd => rfl); (case hg => rfl); (case hr => first | (go_simp; done) | (go_simp; rfl)); (case hp => exact (Reps.one (show Kd.M Kd.string _ _ _ (⟨#[97, 100, 100]⟩ : ByteArray) [.string (⟨#[97, 100, 100]⟩ : ByteArray)] from rfl) (Reps.one (show Kd.M Kd.string _ _ _ (⟨#[115, 108, 108]⟩ : ByteArray) [.string (⟨#[115, 108, 108]⟩ : ByteArray)] from rfl) (Reps.one (show Kd.M Kd.string _ _ _ (⟨#[115, 108, 116]⟩ : ByteArray) [.string (⟨#[115, 108, 116]⟩ : ByteArray)] from rfl) (Reps.one (show Kd.M Kd.string _ _ _ (⟨#[115, 108, 116, 117]⟩ : ByteArray) [.string (⟨#[115, 108, 116, 117]⟩ : ByteArray)] from rfl) (Reps.one (show Kd.M Kd.string _ _ _ (⟨#[120, 111, 114]⟩ : ByteArray) [.string (⟨#[120, 111, 114]⟩ : ByteArray)] from rfl) (Reps.one (show Kd.M Kd.string _ _ _ (⟨#[115, 114, 108]⟩ : ByteArray) [.string (⟨#[115, 114, 108]⟩ : ByteArray)] from rfl) (Reps.one (show Kd.M Kd.string _ _ _ (⟨#[111, 114]⟩ : ByteArray) [.string (⟨#[111, 114]⟩ : ByteArray)] from rfl) (Reps.one (show Kd.M Kd.string _ _ _ (⟨#[97, 110, 100]⟩ : ByteArray) [.string (⟨#[97, 110, 100]⟩ : ByteArray)] from rfl) (Reps.none _ _)))))))))); intro v146 w5 ho6 hb hg_ hnew_; clear hg_ hnew_; (first | rw [← Ny145.out] at ho6 | (simp only [Int.reduceToNat] at ho6; rw [← Ny145.out] at ho6)); have n0_ := Aside0.mk (Kd.R_lower ho6 (below_size (by repeat (first | (with_reducible first | exact HB.out | apply below_alloc | apply pw_below_drewN | apply below_drew1) | exact HB.out)))); have n1_ := Aside0.mk (below_step (by repeat (first | (with_reducible first | exact HB.out | apply below_alloc | apply pw_below_drewN | apply below_drew1) | exact HB.out)) hb); clear HB; have HO147 := n0_; have HB := n1_; clear n0_ n1_; clear hb ho6) | ((with_reducible refine gate_dst (N := 11) rfl ?_); refine Kd.R_lit Kd.string _ 9 ?hg (N := 11) ?hd (xs := ([(⟨#[109, 117, 108]⟩ : ByteArray), (⟨#[109, 117, 108, 104]⟩ : ByteArray), (⟨#[109, 117, 108, 104, 115, 117]⟩ : ByteArray), (⟨#[109, 117, 108, 104, 117]⟩ : ByteArray), (⟨#[100, 105, 118]⟩ : ByteArray), (⟨#[100, 105, 118, 117]⟩ : ByteArray), (⟨#[114, 101, 109]⟩ : ByteArray), (⟨#[114, 101, 109, 117]⟩ : ByteArray)] : List ByteArray)) (inner := [.string (⟨#[109, 117, 108]⟩ : ByteArray), .string (⟨#[109, 117, 108, 104]⟩ : ByteArray), .string (⟨#[109, 117, 108, 104, 115, 117]⟩ : ByteArray), .string (⟨#[109, 117, 108, 104, 117]⟩ : ByteArray), .string (⟨#[100, 105, 118]⟩ : ByteArray), .string (⟨#[100, 105, 118, 117]⟩ : ByteArray), .string (⟨#[114, 101, 109]⟩ : ByteArray), .string (⟨#[114, 101, 109, 117]⟩ : ByteArray)]) (ok := fun _ => True) (okp := fun _ => True) ?hr ?hp (fun _ hk => hk) trivial (Below.refl _ _) (Nat.le_refl _) (by simp) ?_; (case hd => rfl); (case hg => rfl); (case hr => first | (go_simp; done) | (go_simp; rfl)); (case hp => exact (Reps.one (show Kd.M Kd.string _ _ _ (⟨#[109, 117, 108]⟩ : ByteArray) [.string (⟨#[109, 117, 108]⟩ : ByteArray)] from rfl) (Reps.one (show Kd.M Kd.string _ _ _ (⟨#[109, 117, 108, 104]⟩ : ByteArray) [.string (⟨#[109, 117, 108, 104]⟩ : ByteArray)] from rfl) (Reps.one (show Kd.M Kd.string _ _ _ (⟨#[109, 117, 108, 104, 115, 117]⟩ : ByteArray) [.string (⟨#[109, 117, 108, 104, 115, 117]⟩ : ByteArray)] from rfl) (Reps.one (show Kd.M Kd.string _ _ _ (⟨#[109, 117, 108, 104, 117]⟩ : ByteArray) [.string (⟨#[109, 117, 108, 104, 117]⟩ : ByteArray)] from rfl) (Reps.one (show Kd.M Kd.string _ _ _ (⟨#[100, 105, 118]⟩ : ByteArray) [.string (⟨#[100, 105, 118]⟩ : ByteArray)] from rfl) (Reps.one (show Kd.M Kd.string _ _ _ (⟨#[100, 105, 118, 117]⟩ : ByteArray) [.string (⟨#[100, 105, 118, 117]⟩ : ByteArray)] from rfl) (Reps.one (show Kd.M Kd.string _ _ _ (⟨#[114, 101, 109]⟩ : ByteArray) [.string (⟨#[114, 101, 109]⟩ : ByteArray)] from rfl) (Reps.one (show Kd.M Kd.string _ _ _ (⟨#[114, 101, 109, 117]⟩ : ByteArray) [.string (⟨#[114, 101, 109, 117]⟩ : ByteArray)] from rfl) (Reps.none _ _)))))))))); intro v149 w7 ho8 hb hg_ hnew_; clear hg_ hnew_; (first | rw [← Ny148.out] at ho8 | (simp only [Int.reduceToNat] at ho8; rw [← Ny148.out] at ho8)); have n0_ := Aside0.mk (Kd.R_elder' (by (with_reducible repeat (first | apply Kd.R_alloc | apply Kd.R_drewN | apply Kd.R_drew)); exact HO147.out) (Kd.R_base ho8) hb); have n1_ := Aside0.mk (Kd.R_lower (Kd.R_new' ho8 (Kd.R_lt (by (with_reducible repeat (first | apply Kd.R_alloc | apply Kd.R_drewN | apply Kd.R_drew)); exact HO147.out))) (below_size (by repeat (first | (with_reducible first | exact HB.out | apply below_alloc | apply pw_below_drewN | apply below_drew1) | exact HB.out)))); have n2_ := Aside0.mk (below_step (by repeat (first | (with_reducible first | exact HB.out | apply below_alloc | apply pw_below_drewN | apply below_drew1) | exact HB.out)) hb); clear HO147; clear HB; have HO147 := n0_; have HO150 := n1_; have HB := n2_; clear n0_ n1_ n2_; clear hb ho8))
  (try simp only [Act.put, List.setIfInBounds_toArray, List.set_cons_zero, List.set_cons_succ])
  go_cut [9] (fun v9 wc => ∃ (kq : Nat) (x9_3 : ByteArray), v9 = .string x9_3 ∧ Aside0 (burinref26_opR.j0 kq a0 a1 a2 x9_3 = some r) ∧ Aside0 (kq ≤ k) ∧ Aside0 (Below w.heap.size w wc))
  case first =>
    have H := HC4.out
    clear HC4
    by_cases c9 : a2 = 0
    · rw [if_pos c9] at H
      have c9b0 : (a2 == 0) = true := beq_iff_eq.mpr c9
      have c9b1 : (a2 != 0) = false := bne_eq_false_iff_eq.mpr c9
      clear c9
      (first | rw [c9b0] | (simp only [i64_w, i32_w]; rw [c9b0]) | skip)
      by_cases c10 : 0 ≤ a1
      · rw [if_pos c10] at H
        have c10b0 : decide (0 ≤ a1) = true := decide_eq_true c10
        clear c10
        by_cases c11 : a1 < (y145.length : Int)
        · rw [if_pos c11] at H
          have c11b0 : decide (a1 < (y145.length : Int)) = true := decide_eq_true c11
          clear c11
          have H' := Aside0.mk H
          clear H
          obtain ⟨Ao12, co12, eo12⟩ := Kd.R_slice HO147.out
          subst eo12
          have p151 : 0 ≤ (a1 : Int) := of_decide_eq_true (by first | (with_reducible assumption) | assumption)
          have q151 : a1 < (y145.length : Int) := of_decide_eq_true (by first | (with_reducible assumption) | assumption)
          obtain ⟨ad151, e151, hx151_0⟩ := Kd.at_string (Kd.R_reads' HO147.out).2.2 a1 p151 q151
          cases e151
          replace p151 := eq_true p151
          replace q151 := eq_true q151
          go_wp2
          go_meet
          case rel => exact ⟨_, (rdOf ByteArray.empty y145 a1), (by first | rfl | (simp; done) | (simp [*]; done)), H', ⟨by first | omega | exact Nat.le_refl _⟩, ⟨by repeat (first | (with_reducible first | exact HB.out | apply below_alloc | apply pw_below_drewN | apply below_drew1) | exact HB.out)⟩⟩
        · rw [if_neg c11] at H
          exact absurd H (by simp)
      · rw [if_neg c10] at H
        exact absurd H (by simp)
    · rw [if_neg c9] at H
      have c9b0 : (a2 == 0) = false := beq_eq_false_iff_ne.mpr c9
      have c9b1 : (a2 != 0) = true := bne_iff_ne.mpr c9
      (first | rw [c9b0] | (simp only [i64_w, i32_w]; rw [c9b0]) | skip)
      by_cases c13 : a2 = 32
      · rw [if_pos c13] at H
        have c13b0 : (a2 == 32) = true := beq_iff_eq.mpr c13
        have c13b1 : (a2 != 32) = false := bne_eq_false_iff_eq.mpr c13
        clear c13
        by_cases c14 : a1 = 0
        · rw [if_pos c14] at H
          have c14b0 : (a1 == 0) = true := beq_iff_eq.mpr c14
          have c14b1 : (a1 != 0) = false := bne_eq_false_iff_eq.mpr c14
          clear c14
          by_cases c15 : a1 = 5
          · rw [if_pos c15] at H
            have c15b0 : (a1 == 5) = true := beq_iff_eq.mpr c15
            have c15b1 : (a1 != 5) = false := bne_eq_false_iff_eq.mpr c15
            clear c15
            have H' := Aside0.mk H
            clear H
            go_wp2
            go_meet
            case rel => exact ⟨_, ((⟨#[115, 114, 97]⟩ : ByteArray)), (by first | rfl | (simp; done) | (simp [*]; done)), H', ⟨by first | omega | exact Nat.le_refl _⟩, ⟨by repeat (first | (with_reducible first | exact HB.out | apply below_alloc | apply pw_below_drewN | apply below_drew1) | exact HB.out)⟩⟩
          · rw [if_neg c15] at H
            have c15b0 : (a1 == 5) = false := beq_eq_false_iff_ne.mpr c15
            have c15b1 : (a1 != 5) = true := bne_iff_ne.mpr c15
            have H' := Aside0.mk H
            clear H
            go_wp2
            go_meet
            case rel => exact ⟨_, ((⟨#[115, 117, 98]⟩ : ByteArray)), (by first | rfl | (simp; done) | (simp [*]; done)), H', ⟨by first | omega | exact Nat.le_refl _⟩, ⟨by repeat (first | (with_reducible first | exact HB.out | apply below_alloc | apply pw_below_drewN | apply below_drew1) | exact HB.out)⟩⟩
        · rw [if_neg c14] at H
          have c14b0 : (a1 == 0) = false := beq_eq_false_iff_ne.mpr c14
          have c14b1 : (a1 != 0) = true := bne_iff_ne.mpr c14
          by_cases c16 : a1 = 5
          · rw [if_pos c16] at H
            have c16b0 : (a1 == 5) = true := beq_iff_eq.mpr c16
            have c16b1 : (a1 != 5) = false := bne_eq_false_iff_eq.mpr c16
            clear c16
            have H' := Aside0.mk H
            clear H
            go_wp2
            go_meet
            case rel => exact ⟨_, ((⟨#[115, 114, 97]⟩ : ByteArray)), (by first | rfl | (simp; done) | (simp [*]; done)), H', ⟨by first | omega | exact Nat.le_refl _⟩, ⟨by repeat (first | (with_reducible first | exact HB.out | apply below_alloc | apply pw_below_drewN | apply below_drew1) | exact HB.out)⟩⟩
          · rw [if_neg c16] at H
            have c16b0 : (a1 == 5) = false := beq_eq_false_iff_ne.mpr c16
            have c16b1 : (a1 != 5) = true := bne_iff_ne.mpr c16
            have H' := Aside0.mk H
            clear H
            go_wp2
            go_meet
            case rel => exact ⟨_, ((⟨#[]⟩ : ByteArray)), (by first | rfl | (simp; done) | (simp [*]; done)), H', ⟨by first | omega | exact Nat.le_refl _⟩, ⟨by repeat (first | (with_reducible first | exact HB.out | apply below_alloc | apply pw_below_drewN | apply below_drew1) | exact HB.out)⟩⟩
      · rw [if_neg c13] at H
        have c13b0 : (a2 == 32) = false := beq_eq_false_iff_ne.mpr c13
        have c13b1 : (a2 != 32) = true := bne_iff_ne.mpr c13
        by_cases c17 : a2 = 1
        · rw [if_pos c17] at H
          have c17b0 : (a2 == 1) = true := beq_iff_eq.mpr c17
          have c17b1 : (a2 != 1) = false := bne_eq_false_iff_eq.mpr c17
          clear c17
          by_cases c18 : 0 ≤ a1
          · rw [if_pos c18] at H
            have c18b0 : decide (0 ≤ a1) = true := decide_eq_true c18
            clear c18
            by_cases c19 : a1 < (y148.length : Int)
            · rw [if_pos c19] at H
              have c19b0 : decide (a1 < (y148.length : Int)) = true := decide_eq_true c19
              clear c19
              have H' := Aside0.mk H
              clear H
              obtain ⟨Ao20, co20, eo20⟩ := Kd.R_slice HO150.out
              subst eo20
              have p152 : 0 ≤ (a1 : Int) := of_decide_eq_true (by first | (with_reducible assumption) | assumption)
              have q152 : a1 < (y148.length : Int) := of_decide_eq_true (by first | (with_reducible assumption) | assumption)
              obtain ⟨ad152, e152, hx152_0⟩ := Kd.at_string (Kd.R_reads' HO150.out).2.2 a1 p152 q152
              cases e152
              replace p152 := eq_true p152
              replace q152 := eq_true q152
              go_wp2
              go_meet
              case rel => exact ⟨_, (rdOf ByteArray.empty y148 a1), (by first | rfl | (simp; done) | (simp [*]; done)), H', ⟨by first | omega | exact Nat.le_refl _⟩, ⟨by repeat (first | (with_reducible first | exact HB.out | apply below_alloc | apply pw_below_drewN | apply below_drew1) | exact HB.out)⟩⟩
            · rw [if_neg c19] at H
              exact absurd H (by simp)
          · rw [if_neg c18] at H
            exact absurd H (by simp)
        · rw [if_neg c17] at H
          have c17b0 : (a2 == 1) = false := beq_eq_false_iff_ne.mpr c17
          have c17b1 : (a2 != 1) = true := bne_iff_ne.mpr c17
          have H' := Aside0.mk H
          clear H
          go_wp2
          go_meet
          case rel => exact ⟨_, ((⟨#[]⟩ : ByteArray)), (by first | rfl | (simp; done) | (simp [*]; done)), H', ⟨by first | omega | exact Nat.le_refl _⟩, ⟨by repeat (first | (with_reducible first | exact HB.out | apply below_alloc | apply pw_below_drewN | apply below_drew1) | exact HB.out)⟩⟩
  case rest =>
    clear HC4
    try clear c1
    try clear p1
    try clear q1
    try clear hx1
    try clear p2
    try clear c9
    try clear c9b0
    try clear c9b1
    try clear c10
    try clear c10b0
    try clear c11
    try clear c11b0
    try clear c13
    try clear c13b0
    try clear c13b1
    try clear c14
    try clear c14b0
    try clear c14b1
    try clear c15
    try clear c15b0
    try clear c15b1
    try clear p15
    try clear q15
    try clear hx15
    try clear c16
    try clear c16b0
    try clear c16b1
    try clear c17
    try clear c17b0
    try clear c17b1
    try clear c18
    try clear c18b0
    try clear c19
    try clear c19b0
    try clear hx151_0
    try clear hx152_0
    try clear p151
    try clear p152
    try clear q151
    try clear q152
    obtain ⟨kq, x9_3, rfl, HA, HJ3, HB⟩ := hcut
    cases kq with
    | zero => exact absurd HA.out (by simp [burinref26_opR.j0])
    | succ kj3 =>
      have H := HA.out
      clear HA
      simp only [burinref26_opR.j0] at H
      have HC21 := Aside0.mk H
      clear H
      go_upto_region 14 with (fail)
      go_cut [36] (fun v36 wc => ∃ (kq : Nat) (x36_20 : Bool), v36 = .bool x36_20 ∧ Aside0 (burinref26_opR.j1 kq a1 a2 x9_3 x36_20 = some r) ∧ Aside0 (kq ≤ kj3) ∧ Aside0 (Below w.heap.size w wc))
      case first =>
        have H := HC21.out
        clear HC21
        by_cases c22 : a0 = 59
        · rw [if_pos c22] at H
          have c22b0 : (a0 == 59) = true := beq_iff_eq.mpr c22
          have c22b1 : (a0 != 59) = false := bne_eq_false_iff_eq.mpr c22
          clear c22
          (first | rw [c22b0] | (simp only [i64_w, i32_w]; rw [c22b0]) | skip)
          have H' := Aside0.mk H
          clear H
          go_wp2
          go_meet
          case rel => exact ⟨_, ((x9_3.toList == ([] : List UInt8))), (by first | rfl | (simp; done) | (simp [*]; done)), H', ⟨by have := HJ3.out; first | omega | exact Nat.le_refl _⟩, ⟨by repeat (first | (with_reducible first | exact HB.out | apply below_alloc | apply pw_below_drewN | apply below_drew1) | exact HB.out)⟩⟩
        · rw [if_neg c22] at H
          have c22b0 : (a0 == 59) = false := beq_eq_false_iff_ne.mpr c22
          have c22b1 : (a0 != 59) = true := bne_iff_ne.mpr c22
          (first | rw [c22b0] | (simp only [i64_w, i32_w]; rw [c22b0]) | skip)
          have H' := Aside0.mk H
          clear H
          go_wp2
          go_meet
          case rel => exact ⟨_, (true), (by first | rfl | (simp; done) | (simp [*]; done)), H', ⟨by have := HJ3.out; first | omega | exact Nat.le_refl _⟩, ⟨by repeat (first | (with_reducible first | exact HB.out | apply below_alloc | apply pw_below_drewN | apply below_drew1) | exact HB.out)⟩⟩
      case rest =>
        clear HC21
        try clear c1
        try clear p1
        try clear q1
        try clear hx1
        try clear c2
        try clear p2
        try clear c9
        try clear c9b0
        try clear c9b1
        try clear c10
        try clear c10b0
        try clear c11
        try clear c11b0
        try clear c13
        try clear c13b0
        try clear c13b1
        try clear c14
        try clear c14b0
        try clear c14b1
        try clear c15
        try clear c15b0
        try clear c15b1
        try clear p15
        try clear q15
        try clear hx15
        try clear c16
        try clear c16b0
        try clear c16b1
        try clear c17
        try clear c17b0
        try clear c17b1
        try clear c18
        try clear c18b0
        try clear c19
        try clear c19b0
        try clear c22
        try clear c22b0
        try clear c22b1
        try clear hx151_0
        try clear hx152_0
        try clear p1
        try clear p15
        try clear p151
        try clear p152
        try clear p2
        try clear q1
        try clear q15
        try clear q151
        try clear q152
        obtain ⟨kq, x36_20, rfl, HA, HJ20, HB⟩ := hcut
        cases kq with
        | zero => exact absurd HA.out (by simp [burinref26_opR.j1])
        | succ kj20 =>
          have H := HA.out
          clear HA
          simp only [burinref26_opR.j1] at H
          by_cases c23 : x36_20 = true
          · subst c23
            have H1 : (some x9_3) = some r := by rw [if_pos rfl] at H; exact H
            clear H
            have H := H1
            clear H1
            obtain rfl := Option.some.inj H
            go_wp2
            go_ret
            exact ⟨by first | rfl | (simp [errW_none, errW_some] <;> rfl) | (simp [*, errW_none, errW_some] <;> rfl), by repeat (first | (with_reducible first | exact HB.out | apply below_alloc | apply pw_below_drewN | apply below_drew1) | exact HB.out)⟩
          · replace c23 := Bool.eq_false_iff.mpr c23
            subst c23
            have H1 : (if a2 = 0 then (if a1 = 2 then (some (⟨#[]⟩ : ByteArray)) else (if a1 = 3 then (some (⟨#[]⟩ : ByteArray)) else (if a1 = 4 then (some (⟨#[]⟩ : ByteArray)) else (if a1 = 6 then (some (⟨#[]⟩ : ByteArray)) else (if a1 = 7 then (some (⟨#[]⟩ : ByteArray)) else (if a2 = 1 then (if a1 ≥ 1 then (if a1 ≤ 3 then (some (⟨#[]⟩ : ByteArray)) else (if x9_3.size + 1 ≤ 9223372036854775807 then (some (x9_3 ++ (⟨#[119]⟩ : ByteArray))) else (none))) else (if x9_3.size + 1 ≤ 9223372036854775807 then (some (x9_3 ++ (⟨#[119]⟩ : ByteArray))) else (none))) else (if x9_3.size + 1 ≤ 9223372036854775807 then (some (x9_3 ++ (⟨#[119]⟩ : ByteArray))) else (none)))))))) else (if a2 = 1 then (if a1 ≥ 1 then (if a1 ≤ 3 then (some (⟨#[]⟩ : ByteArray)) else (if x9_3.size + 1 ≤ 9223372036854775807 then (some (x9_3 ++ (⟨#[119]⟩ : ByteArray))) else (none))) else (if x9_3.size + 1 ≤ 9223372036854775807 then (some (x9_3 ++ (⟨#[119]⟩ : ByteArray))) else (none))) else (if x9_3.size + 1 ≤ 9223372036854775807 then (some (x9_3 ++ (⟨#[119]⟩ : ByteArray))) else (none)))) = some r := by rw [if_neg (show ¬ (false = true) by decide)] at H; exact H
            clear H
            have H := H1
            clear H1
            by_cases c24 : a2 = 0
            · rw [if_pos c24] at H
              have c24b0 : (a2 == 0) = true := beq_iff_eq.mpr c24
              have c24b1 : (a2 != 0) = false := bne_eq_false_iff_eq.mpr c24
              clear c24
              by_cases c25 : a1 = 2
              · rw [if_pos c25] at H
                have c25b0 : (a1 == 2) = true := beq_iff_eq.mpr c25
                have c25b1 : (a1 != 2) = false := bne_eq_false_iff_eq.mpr c25
                clear c25
                obtain rfl := Option.some.inj H
                go_wp2
                go_ret
                exact ⟨by first | rfl | (simp [errW_none, errW_some] <;> rfl) | (simp [*, errW_none, errW_some] <;> rfl), by repeat (first | (with_reducible first | exact HB.out | apply below_alloc | apply pw_below_drewN | apply below_drew1) | exact HB.out)⟩
              · rw [if_neg c25] at H
                have c25b0 : (a1 == 2) = false := beq_eq_false_iff_ne.mpr c25
                have c25b1 : (a1 != 2) = true := bne_iff_ne.mpr c25
                by_cases c26 : a1 = 3
                · rw [if_pos c26] at H
                  have c26b0 : (a1 == 3) = true := beq_iff_eq.mpr c26
                  have c26b1 : (a1 != 3) = false := bne_eq_false_iff_eq.mpr c26
                  clear c26
                  obtain rfl := Option.some.inj H
                  go_wp2
                  go_ret
                  exact ⟨by first | rfl | (simp [errW_none, errW_some] <;> rfl) | (simp [*, errW_none, errW_some] <;> rfl), by repeat (first | (with_reducible first | exact HB.out | apply below_alloc | apply pw_below_drewN | apply below_drew1) | exact HB.out)⟩
                · rw [if_neg c26] at H
                  have c26b0 : (a1 == 3) = false := beq_eq_false_iff_ne.mpr c26
                  have c26b1 : (a1 != 3) = true := bne_iff_ne.mpr c26
                  by_cases c27 : a1 = 4
                  · rw [if_pos c27] at H
                    have c27b0 : (a1 == 4) = true := beq_iff_eq.mpr c27
                    have c27b1 : (a1 != 4) = false := bne_eq_false_iff_eq.mpr c27
                    clear c27
                    obtain rfl := Option.some.inj H
                    go_wp2
                    go_ret
                    exact ⟨by first | rfl | (simp [errW_none, errW_some] <;> rfl) | (simp [*, errW_none, errW_some] <;> rfl), by repeat (first | (with_reducible first | exact HB.out | apply below_alloc | apply pw_below_drewN | apply below_drew1) | exact HB.out)⟩
                  · rw [if_neg c27] at H
                    have c27b0 : (a1 == 4) = false := beq_eq_false_iff_ne.mpr c27
                    have c27b1 : (a1 != 4) = true := bne_iff_ne.mpr c27
                    by_cases c28 : a1 = 6
                    · rw [if_pos c28] at H
                      have c28b0 : (a1 == 6) = true := beq_iff_eq.mpr c28
                      have c28b1 : (a1 != 6) = false := bne_eq_false_iff_eq.mpr c28
                      clear c28
                      obtain rfl := Option.some.inj H
                      go_wp2
                      go_ret
                      exact ⟨by first | rfl | (simp [errW_none, errW_some] <;> rfl) | (simp [*, errW_none, errW_some] <;> rfl), by repeat (first | (with_reducible first | exact HB.out | apply below_alloc | apply pw_below_drewN | apply below_drew1) | exact HB.out)⟩
                    · rw [if_neg c28] at H
                      have c28b0 : (a1 == 6) = false := beq_eq_false_iff_ne.mpr c28
                      have c28b1 : (a1 != 6) = true := bne_iff_ne.mpr c28
                      by_cases c29 : a1 = 7
                      · rw [if_pos c29] at H
                        have c29b0 : (a1 == 7) = true := beq_iff_eq.mpr c29
                        have c29b1 : (a1 != 7) = false := bne_eq_false_iff_eq.mpr c29
                        clear c29
                        obtain rfl := Option.some.inj H
                        go_wp2
                        go_ret
                        exact ⟨by first | rfl | (simp [errW_none, errW_some] <;> rfl) | (simp [*, errW_none, errW_some] <;> rfl), by repeat (first | (with_reducible first | exact HB.out | apply below_alloc | apply pw_below_drewN | apply below_drew1) | exact HB.out)⟩
                      · rw [if_neg c29] at H
                        have c29b0 : (a1 == 7) = false := beq_eq_false_iff_ne.mpr c29
                        have c29b1 : (a1 != 7) = true := bne_iff_ne.mpr c29
                        by_cases c30 : a2 = 1
                        · rw [if_pos c30] at H
                          have c30b0 : (a2 == 1) = true := beq_iff_eq.mpr c30
                          have c30b1 : (a2 != 1) = false := bne_eq_false_iff_eq.mpr c30
                          clear c30
                          by_cases c31 : a1 ≥ 1
                          · rw [if_pos c31] at H
                            have c31b0 : decide (1 ≤ a1) = true := decide_eq_true c31
                            clear c31
                            by_cases c32 : a1 ≤ 3
                            · rw [if_pos c32] at H
                              have c32b0 : decide (a1 ≤ 3) = true := decide_eq_true c32
                              clear c32
                              obtain rfl := Option.some.inj H
                              go_wp2
                              go_ret
                              exact ⟨by first | rfl | (simp [errW_none, errW_some] <;> rfl) | (simp [*, errW_none, errW_some] <;> rfl), by repeat (first | (with_reducible first | exact HB.out | apply below_alloc | apply pw_below_drewN | apply below_drew1) | exact HB.out)⟩
                            · rw [if_neg c32] at H
                              have c32b0 : decide (a1 ≤ 3) = false := decide_eq_false c32
                              clear c32
                              by_cases c33 : x9_3.size + 1 ≤ 9223372036854775807
                              · rw [if_pos c33] at H
                                have c33b0 := eq_true c33
                                have c33b1 : decide (x9_3.size + 1 ≤ 9223372036854775807) = true := decide_eq_true c33
                                try have c33b2 : (9223372036854775807 < x9_3.size + 1) = False := eq_false (Nat.not_lt.2 c33)
                                obtain rfl := Option.some.inj H
                                go_wp2
                                go_ret
                                exact ⟨by first | rfl | (simp [errW_none, errW_some] <;> rfl) | (simp [*, errW_none, errW_some] <;> rfl), by repeat (first | (with_reducible first | exact HB.out | apply below_alloc | apply pw_below_drewN | apply below_drew1) | exact HB.out)⟩
                              · rw [if_neg c33] at H
                                exact absurd H (by simp)
                          · rw [if_neg c31] at H
                            have c31b0 : decide (1 ≤ a1) = false := decide_eq_false c31
                            clear c31
                            by_cases c34 : x9_3.size + 1 ≤ 9223372036854775807
                            · rw [if_pos c34] at H
                              have c34b0 := eq_true c34
                              have c34b1 : decide (x9_3.size + 1 ≤ 9223372036854775807) = true := decide_eq_true c34
                              try have c34b2 : (9223372036854775807 < x9_3.size + 1) = False := eq_false (Nat.not_lt.2 c34)
                              obtain rfl := Option.some.inj H
                              go_wp2
                              go_ret
                              exact ⟨by first | rfl | (simp [errW_none, errW_some] <;> rfl) | (simp [*, errW_none, errW_some] <;> rfl), by repeat (first | (with_reducible first | exact HB.out | apply below_alloc | apply pw_below_drewN | apply below_drew1) | exact HB.out)⟩
                            · rw [if_neg c34] at H
                              exact absurd H (by simp)
                        · rw [if_neg c30] at H
                          have c30b0 : (a2 == 1) = false := beq_eq_false_iff_ne.mpr c30
                          have c30b1 : (a2 != 1) = true := bne_iff_ne.mpr c30
                          by_cases c35 : x9_3.size + 1 ≤ 9223372036854775807
                          · rw [if_pos c35] at H
                            have c35b0 := eq_true c35
                            have c35b1 : decide (x9_3.size + 1 ≤ 9223372036854775807) = true := decide_eq_true c35
                            try have c35b2 : (9223372036854775807 < x9_3.size + 1) = False := eq_false (Nat.not_lt.2 c35)
                            obtain rfl := Option.some.inj H
                            go_wp2
                            go_ret
                            exact ⟨by first | rfl | (simp [errW_none, errW_some] <;> rfl) | (simp [*, errW_none, errW_some] <;> rfl), by repeat (first | (with_reducible first | exact HB.out | apply below_alloc | apply pw_below_drewN | apply below_drew1) | exact HB.out)⟩
                          · rw [if_neg c35] at H
                            exact absurd H (by simp)
            · rw [if_neg c24] at H
              have c24b0 : (a2 == 0) = false := beq_eq_false_iff_ne.mpr c24
              have c24b1 : (a2 != 0) = true := bne_iff_ne.mpr c24
              by_cases c36 : a2 = 1
              · rw [if_pos c36] at H
                have c36b0 : (a2 == 1) = true := beq_iff_eq.mpr c36
                have c36b1 : (a2 != 1) = false := bne_eq_false_iff_eq.mpr c36
                clear c36
                by_cases c37 : a1 ≥ 1
                · rw [if_pos c37] at H
                  have c37b0 : decide (1 ≤ a1) = true := decide_eq_true c37
                  clear c37
                  by_cases c38 : a1 ≤ 3
                  · rw [if_pos c38] at H
                    have c38b0 : decide (a1 ≤ 3) = true := decide_eq_true c38
                    clear c38
                    obtain rfl := Option.some.inj H
                    go_wp2
                    go_ret
                    exact ⟨by first | rfl | (simp [errW_none, errW_some] <;> rfl) | (simp [*, errW_none, errW_some] <;> rfl), by repeat (first | (with_reducible first | exact HB.out | apply below_alloc | apply pw_below_drewN | apply below_drew1) | exact HB.out)⟩
                  · rw [if_neg c38] at H
                    have c38b0 : decide (a1 ≤ 3) = false := decide_eq_false c38
                    clear c38
                    by_cases c39 : x9_3.size + 1 ≤ 9223372036854775807
                    · rw [if_pos c39] at H
                      have c39b0 := eq_true c39
                      have c39b1 : decide (x9_3.size + 1 ≤ 9223372036854775807) = true := decide_eq_true c39
                      try have c39b2 : (9223372036854775807 < x9_3.size + 1) = False := eq_false (Nat.not_lt.2 c39)
                      obtain rfl := Option.some.inj H
                      go_wp2
                      go_ret
                      exact ⟨by first | rfl | (simp [errW_none, errW_some] <;> rfl) | (simp [*, errW_none, errW_some] <;> rfl), by repeat (first | (with_reducible first | exact HB.out | apply below_alloc | apply pw_below_drewN | apply below_drew1) | exact HB.out)⟩
                    · rw [if_neg c39] at H
                      exact absurd H (by simp)
                · rw [if_neg c37] at H
                  have c37b0 : decide (1 ≤ a1) = false := decide_eq_false c37
                  clear c37
                  by_cases c40 : x9_3.size + 1 ≤ 9223372036854775807
                  · rw [if_pos c40] at H
                    have c40b0 := eq_true c40
                    have c40b1 : decide (x9_3.size + 1 ≤ 9223372036854775807) = true := decide_eq_true c40
                    try have c40b2 : (9223372036854775807 < x9_3.size + 1) = False := eq_false (Nat.not_lt.2 c40)
                    obtain rfl := Option.some.inj H
                    go_wp2
                    go_ret
                    exact ⟨by first | rfl | (simp [errW_none, errW_some] <;> rfl) | (simp [*, errW_none, errW_some] <;> rfl), by repeat (first | (with_reducible first | exact HB.out | apply below_alloc | apply pw_below_drewN | apply below_drew1) | exact HB.out)⟩
                  · rw [if_neg c40] at H
                    exact absurd H (by simp)
              · rw [if_neg c36] at H
                have c36b0 : (a2 == 1) = false := beq_eq_false_iff_ne.mpr c36
                have c36b1 : (a2 != 1) = true := bne_iff_ne.mpr c36
                by_cases c41 : x9_3.size + 1 ≤ 9223372036854775807
                · rw [if_pos c41] at H
                  have c41b0 := eq_true c41
                  have c41b1 : decide (x9_3.size + 1 ≤ 9223372036854775807) = true := decide_eq_true c41
                  try have c41b2 : (9223372036854775807 < x9_3.size + 1) = False := eq_false (Nat.not_lt.2 c41)
                  obtain rfl := Option.some.inj H
                  go_wp2
                  go_ret
                  exact ⟨by first | rfl | (simp [errW_none, errW_some] <;> rfl) | (simp [*, errW_none, errW_some] <;> rfl), by repeat (first | (with_reducible first | exact HB.out | apply below_alloc | apply pw_below_drewN | apply below_drew1) | exact HB.out)⟩
                · rw [if_neg c41] at H
                  exact absurd H (by simp)

end Go.Proofs.Ytciehejifdbpoaa.PHartSteps
end
