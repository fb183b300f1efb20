import Derived.Test.YtciehejifdbpoaaHy6
import Derived.Laws.CopyOwn
import Derived.Laws.MakeOwn
import Derived.OwnWalk
import Derived.Test.YtciehejifdbpoaaHy4
import Derived.WalkKit
import Derived.ProofKit
import Derived.OpenShut
import Derived.ShutString
import Derived.ChangeOld
import Derived.Below
section
set_option linter.unusedSimpArgs false
set_option linter.unusedVariables false
namespace Go.Proofs.Ytciehejifdbpoaa.Ht
open Go.RowKit Go.Maps Go.Proofs.Ytciehejifdbpoaa.Grow Go.Proofs.Ytciehejifdbpoaa.Rv Go.Proofs.Ytciehejifdbpoaa.As Go.Proofs.Ytciehejifdbpoaa.PHartQuotients
open Go.Proofs.YtciehejifdbpoaaW.PrintWords Go.Proofs.YtciehejifdbpoaaW.PrintLast Go.Proofs.YtciehejifdbpoaaW.PrintMore

/-! ### A memory out of regions -/
structure RegIn where
  base : Int
  data : ByteArray
  rights : Int
def dataB (s : ByteArray) : List Int := s.data.toList.map fun b => (b.toNat : Int)
theorem dataB_len (s : ByteArray) : (dataB s).length = s.size := by simp [dataB]
def memOf (l : List RegIn) : MemS := ⟨l.map fun r => ⟨r.base, dataB r.data, r.rights⟩, 0⟩
def endF (l : List RegIn) : Nat → Int
  | 0 => 0
  | k + 1 => ((l[k]?).map fun r => r.base + (r.data.size : Int)).getD 0
structure RegOk (e : Int) (r : RegIn) : Prop where
  pos : 0 < r.data.size
  few : r.data.size < 1000000000
  rights0 : 0 ≤ r.rights
  rights7 : r.rights ≤ 7
  base0 : 0 ≤ r.base
  base : e ≤ r.base
  top : r.base + (r.data.size : Int) ≤ 9223372036854775808
def RegsOk (l : List RegIn) : Prop := ∀ k (h : k < l.length), RegOk (endF l k) l[k]
def pcCells (x : RegIn × Nat) : List Value := [.int .u64 x.1.base, .slice (some ⟨x.2, 0, none⟩) x.1.data.size x.1.data.size, .int .i64 x.1.rights]
structure NewS (b : Nat) (w : World) (mp : Nat) (l : List RegIn) (k : Nat) (pv : Value) (gs : List Nat) : Prop where
  head : w.heap[mp]? = some (.cells #[pv, .int .u64 0] 169 (0, 0))
  row : w.ownsRow b 171 3 pv k (((l.take k).zip gs).flatMap pcCells)
  len : gs.length = k
  nd : gs.Nodup
  ge : ∀ g ∈ gs, b ≤ g ∧ g < w.heap.size
  bytes : ∀ i (h : i < l.length) (h' : i < gs.length), w.heap[gs[i]]? = some (.cells ((dataB l[i].data).map (Value.int .u8)).toArray 5 (0, 0))
theorem info5 : (Try.prog.info? 5).map (fun i => (i.zero, i.size, i.bytes)) = some (some (.int .u8 0), 1, 1) := by kernel_rfl
theorem under130 : Try.prog.underlying 130 = some (.slice 5) := by kernel_rfl
theorem info171 : (Try.prog.info? 171).map (fun i => (i.zero, i.size, i.bytes)) = some (some (.agg #[.int .u64 0, .slice none 0 0, .int .i64 0]), 3, 40) := by kernel_rfl
theorem under167 : Try.prog.underlying 167 = some (.slice 171) := by kernel_rfl
theorem ownsRow_below2 {w W : World} {B e size n : Nat} {v : Value} {xs : List Value} (h : w.ownsRow B e size v n xs) (hb : Below w.heap.size w W) : W.ownsRow B e size v n xs := by
  obtain ⟨h1, h2⟩ := h
  refine ⟨h1, ?_⟩
  rcases h2 with h2 | ⟨g, cap, cur, hv, hg, hh, r⟩
  · exact .inl h2
  · exact .inr ⟨g, cap, cur, hv, hg, (hb.block g (blk_lt hh)).trans hh, r⟩
theorem _root_.Go.World.ownsRow.below {w w' : World} {b e z n : Nat} {v : Value} {xs : List Value} (h : w.ownsRow b e z v n xs) (hb : Below w.heap.size w w') : w'.ownsRow b e z v n xs := ownsRow_below2 h hb
/-- 'copy(dst, s)', dst a row of as many bytes as the string s has. -/
theorem run_copy_str (w : World) (ty : TypeId) (g n : Nat) (cap : Nat) (s : ByteArray) (cur : Array Value) (hn : s.size = n) (hg : w.heap[g]? = some (.cells cur 5 (0, 0))) (hc : cur.size = n) :
    (Builtin.copy_ #[130, 9] ty #[.slice (some ⟨g, 0, none⟩) n cap, .string s]).run Try.prog w = .ok (goInt n) (w.setRow g ((dataB s).map (Value.int .u8)).toArray) := by
  obtain ⟨i, hi, hz, hs, hb⟩ := info_parts info5
  have hst := run_storeCells_at Try.prog g 0 5 ((dataB s).map (Value.int .u8)) 0 cur w hg (by rw [List.length_map, dataB_len, hn, hc]; omega) (by intro v hv; obtain ⟨x, _, rfl⟩ := List.mem_map.1 hv; rfl)
  have e2 : (cur.toList.take (0 + 0) ++ (dataB s).map (Value.int .u8) ++ cur.toList.drop (0 + 0 + ((dataB s).map (Value.int .u8)).length)).toArray = ((dataB s).map (Value.int .u8)).toArray := by
    have : cur.toList.drop (0 + 0 + ((dataB s).map (Value.int .u8)).length) = [] := by
      apply List.drop_eq_nil_of_le
      rw [List.length_map, dataB_len, hn, Array.length_toList, hc]; omega
    rw [this]; simp
  rw [e2] at hst
  have hmin : Nat.min n n = n := Nat.min_self n
  have e3 : List.take n (List.map (fun b : UInt8 => Value.int .u8 (b.toNat : Int)) s.data.toList) = (dataB s).map (Value.int .u8) := by
    rw [List.take_of_length_le (by rw [List.length_map, Array.length_toList, ← hn]; exact Nat.le_refl _)]
    simp [dataB]
  simp [Builtin.copy_, run_underlying under130, Builtin.lenOf, Builtin.firstCells, sizeOf, typeInfo, hi, hn, hmin, e3, hst]
theorem alloc_get (w : World) (o : Obj) (h : w.heap.size < (w.alloc o).heap.size) : (w.alloc o).heap[w.heap.size]'h = o :=
  Option.some.inj ((Array.getElem?_eq_getElem h).symm.trans (heap_alloc_last w o))
theorem bld171 (B R : Int) (g n : Nat) (w : World) : (Instr.build 171 #[(0, .int .u64 B), (1, .slice (some ⟨g, 0, none⟩) n n), (2, .int .i64 R)]).run Try.prog w = .ok (.agg #[.int .u64 B, .slice (some ⟨g, 0, none⟩) n n, .int .i64 R]) w := by kernel_rfl
theorem one_pcs (x : RegIn × Nat) : ∀ u ∈ pcCells x, u.oneCell' = true := by
  intro u hu
  simp [pcCells] at hu
  rcases hu with rfl | rfl | rfl <;> rfl
theorem NewS.below {b : Nat} {w w' : World} {mp : Nat} {l : List RegIn} {k : Nat} {pv : Value} {gs : List Nat} (h : NewS b w mp l k pv gs) (hb : Below w.heap.size w w') : NewS b w' mp l k pv gs :=
  ⟨blk_below h.head hb, ownsRow_below2 h.row hb, h.len, h.nd, fun g hg => ⟨(h.ge g hg).1, Nat.lt_of_lt_of_le (h.ge g hg).2 hb.size⟩, fun i h1 h2 => blk_below (h.bytes i h1 h2) hb⟩
theorem NewS.ne {b : Nat} {w : World} {mp : Nat} {l : List RegIn} {k : Nat} {pv : Value} {gs : List Nat} (h : NewS b w mp l k pv gs) : pv.ownBlock ≠ some mp ∧ (∀ j, pv.ownBlock = some j → j < w.heap.size ∧ ∃ cs, w.heap[j]? = some (.cells cs 171 (0, 0))) := by
  refine ⟨fun e => ?_, fun j e => ?_⟩
  all_goals
    rcases h.row.2 with ⟨rfl, _⟩ | ⟨g, cap, cur, rfl, hg, hh, _⟩
    · cases e
    · simp only [Value.ownBlock, Option.some.injEq] at e
      subst e
      first
        | exact ⟨blk_lt hh, _, hh⟩
        | (have := h.head; rw [hh] at this; simp at this)
theorem NewS.push {b : Nat} {w w1 : World} {mp : Nat} {l : List RegIn} {k : Nat} {pv : Value} {gs : List Nat} {g gg cap : Nat} (h : NewS b w mp l k pv gs) (hk : k < l.length) (hg : w.drew.grownBy w1 pv.ownBlock)
    (hown : w1.ownsRow b 171 3 (.slice (some ⟨gg, 0, none⟩) (k + 1) cap) (k + 1) (((l.take k).zip gs).flatMap pcCells ++ pcCells (l[k], g)))
    (hgb : w.heap[g]? = some (.cells ((dataB l[k].data).map (Value.int .u8)).toArray 5 (0, 0))) (hbg : b ≤ g) (hnew : g ∉ gs) (hbm : b ≤ mp) :
    NewS b (w1.setCell ⟨mp, 0, none⟩ (.slice (some ⟨gg, 0, none⟩) (k + 1) cap)) mp l (k + 1) (.slice (some ⟨gg, 0, none⟩) (k + 1) cap) (gs ++ [g]) ∧ Below b w (w1.setCell ⟨mp, 0, none⟩ (.slice (some ⟨gg, 0, none⟩) (k + 1) cap)) := by
  obtain ⟨n1, n2⟩ := h.ne
  have hmp := (hg.block mp (blk_lt h.head) (Ne.symm n1)).trans h.head
  have hne : gg ≠ mp := by
    rintro rfl
    rcases hown.2 with ⟨e, _⟩ | ⟨g', cap', cur, e, _, hh, _⟩
    · cases e
    · simp only [Value.slice.injEq, Option.some.injEq, Addr.mk.injEq] at e
      obtain ⟨⟨rfl, _⟩, _⟩ := e
      rw [hh] at hmp; simp at hmp
  have far : ∀ (j : Nat) (cs : Array Value), w.heap[j]? = some (Obj.cells cs 5 (0, 0)) → (w1.setCell ⟨mp, 0, none⟩ (.slice (some ⟨gg, 0, none⟩) (k + 1) cap)).heap[j]? = some (Obj.cells cs 5 (0, 0)) := fun j cs hj => by
    have j1 : j ≠ mp := by rintro rfl; have := h.head; rw [hj] at this; simp at this
    have j2 : some j ≠ pv.ownBlock := fun e => by
      obtain ⟨_, cs', hc'⟩ := n2 j e.symm
      rw [hj] at hc'; simp at hc'
    exact (heap_setCell_other _ _ _ _ j1).trans ((hg.block j (blk_lt hj) j2).trans hj)
  refine ⟨⟨?_, ?_, by simp [h.len], ?_, ?_, ?_⟩, ?_⟩
  · rw [heap_setCell_same w1 mp 0 _ 169 _ hmp]; rfl
  · have e : ((l.take (k + 1)).zip (gs ++ [g])).flatMap pcCells = ((l.take k).zip gs).flatMap pcCells ++ pcCells (l[k], g) := by
      rw [List.take_succ_eq_append_getElem hk, List.zip_append (by rw [List.length_take, h.len]; omega), List.flatMap_append]
      simp
    rw [e]
    refine ⟨hown.1, ?_⟩
    rcases hown.2 with ⟨e, _⟩ | ⟨g', cap', cur, e, r1, hh, r2⟩
    · cases e
    · refine .inr ⟨g', cap', cur, e, r1, ?_, r2⟩
      have : g' ≠ mp := by
        simp only [Value.slice.injEq, Option.some.injEq, Addr.mk.injEq] at e
        rw [← e.1.1]; exact hne
      exact (heap_setCell_other _ _ _ _ this).trans hh
  · rw [List.nodup_append]
    exact ⟨h.nd, by simp, fun a ha b' hb' => by simp at hb'; rintro rfl; subst hb'; exact hnew ha⟩
  · intro x hx
    have hsz : w.heap.size ≤ (w1.setCell ⟨mp, 0, none⟩ (.slice (some ⟨gg, 0, none⟩) (k + 1) cap)).heap.size := by simpa [World.setCell] using hg.size
    rcases List.mem_append.1 hx with hx | hx
    · exact ⟨(h.ge x hx).1, Nat.lt_of_lt_of_le (h.ge x hx).2 hsz⟩
    · simp at hx; subst hx
      exact ⟨hbg, Nat.lt_of_lt_of_le (blk_lt hgb) hsz⟩
  · intro i h1 h2
    by_cases hi : i < gs.length
    · rw [List.getElem_append_left hi]
      exact far _ _ (h.bytes i h1 hi)
    · have e : i = k := by simp at h2; have := h.len; omega
      subst e
      rw [List.getElem_append_right (by omega)]
      simp only [h.len, Nat.sub_self, List.getElem_singleton]
      exact far _ _ hgb
  · have b1 : Below b w w1 := ⟨hg.os, hg.tape, hg.output, hg.size, fun j hj => hg.block j (by have := blk_lt h.head; show j < w.heap.size; omega) fun e => by
      obtain ⟨_, _⟩ := n2 j e.symm
      rcases h.row.2 with ⟨rfl, _⟩ | ⟨g', cap', cur, rfl, hg', hh, _⟩
      · cases e
      · simp only [Value.ownBlock, Option.some.injEq] at e
        omega⟩
    exact b1.setCell (p := ⟨mp, 0, none⟩) hbm _
theorem mk_bytes (n : Nat) (hn : n < 1000000000) (w : World) : (Instr.makeSlice 130 (.int .i64 (n : Int)) (.int .i64 (n : Int))).run Try.prog w = .ok (.slice (some ⟨w.heap.size, 0, none⟩) n n) (w.alloc (.cells (madeCells (Value.cells (.int .u8 0)) n) 5)) := by
  obtain ⟨i, hi, hz, hs, hb⟩ := info_parts info5
  have h := run_make (P := Try.prog) w 130 5 i (.int .u8 0) under130 hi hz .i64 .i64 (n : Int) (n : Int) (by omega) (Int.le_refl _) (by rw [hb]; omega) (by omega)
  rw [hs, Nat.mul_one, Int.toNat_natCast] at h
  exact h

set_option maxHeartbeats 8000000 in
set_option maxRecDepth 100000 in
theorem MemNew_calls {w : World} {L off cap : Nat} (l : List RegIn) (hok : RegsOk l) (hl : l.length < 1000000)
    (hc : ∀ i (h : i < l.length), w.cell? ⟨L, off + i * 3, none⟩ = some (.int .u64 l[i].base) ∧ w.cell? ⟨L, off + i * 3 + 1, none⟩ = some (.string l[i].data) ∧ w.cell? ⟨L, off + i * 3 + 2, none⟩ = some (.int .i64 l[i].rights)) (hL : L < w.heap.size) :
    Calls Try.prog 48 #[.slice (some ⟨L, off, none⟩) l.length cap] w fun e w' => (∃ mp pv gs, e = .returned (.tuple #[.pointer (some ⟨mp, 0, none⟩), .int .i64 0]) ∧ w.heap.size ≤ mp ∧ NewS w.heap.size w' mp l l.length pv gs) ∧ Below w.heap.size w w' := by
  have HC := Aside0.mk hc
  have HO := Aside0.mk hok
  clear hc hok
  go_enter Try.func48, Try.ntmps48
  go_wp2
  go_loopw [5, 7, 8, 9, 14] (fun v5 _ _ _ v14 wr => ∃ k : Nat, k ≤ l.length ∧ v5 = .int .u64 (endF l k) ∧ v14 = .int .i64 k ∧ Aside0 (Below w.heap.size w wr ∧ ∃ pv gs, NewS w.heap.size wr w.heap.size l k pv gs)) (fun _ _ _ _ v14 _ => l.length - (intOf v14).toNat)
  case atStart =>
    refine ⟨0, by omega, rfl, rfl, ⟨below_alloc (Below.refl _ _) _, .slice none 0 0, [], ⟨heap_alloc_last _ _, ⟨rfl, .inl ⟨rfl, rfl⟩⟩, rfl, List.nodup_nil, (fun g hg => by cases hg), fun i h h' => by cases h'⟩⟩⟩
  case round =>
    obtain ⟨k, hk, rfl, rfl, hx⟩ := hrel
    by_cases hlt : k < l.length
    · obtain ⟨hb, pv, gs, hS⟩ := hx.out
      obtain ⟨o1, o2, o3, o4, o5, o6, o7⟩ := HO.out k hlt
      obtain ⟨c0, c1, c2⟩ := HC.out k hlt
      rw [← hb.cell hL] at c0 c1 c2
      obtain ⟨⟨B, D, R⟩, hr⟩ : ∃ r, l[k] = r := ⟨_, rfl⟩
      rw [hr] at c0 c1 c2 o1 o2 o3 o4 o5 o6 o7
      simp only at c0 c1 c2 o1 o2 o3 o4 o5 o6 o7
      obtain ⟨E, hE⟩ : ∃ E, endF l k = E := ⟨_, rfl⟩
      rw [hE] at o6 ⊢
      obtain ⟨n, hn⟩ : ∃ n, D.size = n := ⟨_, rfl⟩
      rw [hn] at o1 o2 o7
      have u1 : IntKind.u64.wrap (n : Int) = (n : Int) := u64_nat (by omega)
      have u2 : IntKind.u64.wrap ((n : Int) - 1) = (n : Int) - 1 := by rw [IntKind.wrap_u64]; omega
      have u3 : IntKind.u64.wrap (9223372036854775807 - B) = 9223372036854775807 - B := by rw [IntKind.wrap_u64]; omega
      have u4 : IntKind.u64.wrap (B + (n : Int)) = B + (n : Int) := by rw [IntKind.wrap_u64]; omega
      have hzL := Nat.lt_of_lt_of_le hL hb.size
      have HB := Aside0.mk hb
      have HS := Aside0.mk hS
      have HX := Aside0.mk hx
      have HR := Aside0.mk hr
      have HE2 := Aside0.mk (show endF l (k + 1) = B + (n : Int) by show ((l[k]?).map fun r => r.base + (r.data.size : Int)).getD 0 = _; rw [List.getElem?_eq_getElem hlt, hr, ← hn]; rfl)
      have HE := Aside0.mk hE
      clear hb hS hx hr hE
      go_wp2_with fail
      refine (mem_within_int.calls R 0 7 true _ (by unfold mem_within_int.f; rw [if_pos o3, decide_eq_true o4])).mono ?_
      rintro e w2 ⟨rfl, hd2⟩
      have hb2 := (below_alloc (Below.refl wr.heap.size wr) (.cells #[.int .u64 B, .string D, .int .i64 R] 92)).trans (hd2.below.mono (below_alloc (Below.refl wr.heap.size wr) _).size)
      have h7 := blk_below (heap_alloc_last wr (.cells #[.int .u64 B, .string D, .int .i64 R] 92)) hd2.below
      obtain ⟨b7, hb7⟩ : ∃ b7, wr.heap.size = b7 := ⟨_, rfl⟩
      rw [hb7] at h7 ⊢
      have HB2 := Aside0.mk hb2
      have H7 := Aside0.mk h7
      have HB7 := Aside0.mk hb7
      have z7 := blk_lt h7
      have c7 := blk_cell h7
      clear hd2 hb2 h7 hb7 c0 c1 c2
      have e7 : ((n : Int) == 0) = false := by simp; omega
      go_wp2_with fail
      have hmk := mk_bytes n o2
      refine wp_region_grow2 [53, 54, 55, 56, 57, 58, 59, 60, 61, 9] (fun j v w1 => match j with
        | 0 => v = .pointer (some ⟨b7, 0, none⟩)
        | 1 => v = .int .u64 B
        | 2 => v = .pointer (some ⟨b7, 1, none⟩)
        | 3 => v = .string D
        | 4 => v = .int .i64 n
        | 5 => ∃ g, v = .slice (some ⟨g, 0, none⟩) n n ∧ w2.heap.size ≤ g ∧ w1.heap[g]? = some (.cells (madeCells (Value.cells (.int .u8 0)) n) 5)
        | 6 => v = .pointer (some ⟨b7, 2, none⟩)
        | 7 => v = .int .i64 R
        | 8 => ∃ g, v = .agg #[.int .u64 B, .slice (some ⟨g, 0, none⟩) n n, .int .i64 R] ∧ w2.heap.size ≤ g ∧ w1.heap[g]? = some (.cells (madeCells (Value.cells (.int .u8 0)) n) 5)
        | 9 => ∃ g, v = .pointer (some ⟨g, 0, none⟩) ∧ w2.heap.size ≤ g ∧ w1.heap[g]? = some (.cells #[.int .u64 0, .slice none 0 0, .int .i64 0] 171)
        | _ => True) (by kernel_rfl) (by kernel_rfl) ?_ ?_ ?_
      · intro j v w1 w2 hv hb
        rcases j with _ | _ | _ | _ | _ | _ | _ | _ | _ | _ | j <;> first | exact hv | trivial | (obtain ⟨g, rfl, h1, h2⟩ := hv; exact ⟨g, rfl, h1, blk_below h2 hb⟩)
      · refine ⟨?_, ?_, ?_, ?_, ?_, ?_, ?_, ?_, ?_, ?_, trivial⟩
        all_goals
          intro a w5 hB hoth hdep
          have h5 := blk_below H7.out hB
          have c7 := blk_cell h5
          have z7 := blk_lt h5
          have q7 := hoth 7 (by decide)
          have hm5 := hmk w5
          have hsz5 := hB.size
          clear hoth hB hmk HB HS HX HR HE HB2 H7 HB7 h5 e7 u1 u2 u3 u4 o1 o3 o4 o5 o6 o7
          simp [bd1, bd2, bd3, bd5, bd6] at hdep q7
          simp only [StepTo, Oper.grows]
          first
            | (obtain ⟨d1, ⟨g, d5, d5a, d5b⟩, d7⟩ := hdep
               have hbd := bld171 B R g n w5
               go_simp
               first
                | exact Below.refl _ _
                | exact ⟨Below.refl _ _, g, rfl, d5a, d5b⟩
                | (refine ⟨Below.refl _ _, d5a, ?_⟩; simpa using d5b))
            | (go_simp
               first
                | exact Below.refl _ _
                | exact ⟨Below.refl _ _, rfl⟩
                | exact ⟨below_alloc (Below.refl _ _) _, w5.heap.size, rfl, hsz5, heap_alloc_last _ _⟩
                | exact ⟨below_alloc (Below.refl _ _) _, alloc_get _ _ _⟩)
      · intro v w5 hB hv
        obtain ⟨g, q8, g1, g2⟩ := hv 8 (by decide)
        obtain ⟨b9, q9, b1, b2⟩ := hv 9 (by decide)
        simp only [fillF, q8, q9, Act.put, List.setIfInBounds_toArray, List.set_cons_zero, List.set_cons_succ, List.length_cons, List.length_nil, Nat.reduceAdd, List.drop_succ_cons, List.drop_zero]
        have h7 := blk_below H7.out hB
        have c7 := blk_cell h7
        have z7 := blk_lt h7
        have c9 := blk_cell b2
        have z9 := blk_lt b2
        have f9 := fun o => frozen_of_row w5 b9 o _ 171 b2
        have g9 : g ≠ b9 := by rintro rfl; rw [g2] at b2; simp at b2
        have b79 : b7 ≠ b9 := by rintro rfl; rw [h7] at b2; simp at b2
        have HBB := Aside0.mk hB
        clear hv hB q8 q9 hmk e7
        go_wp2_with fail
        have g2' : (((w5.setCell ⟨b9, 0, none⟩ (.int .u64 B)).setCell ⟨b9, 1, none⟩ (.slice (some ⟨g, 0, none⟩) n n)).setCell ⟨b9, 2, none⟩ (.int .i64 R)).heap[g]? = some (.cells (madeCells (Value.cells (.int .u8 0)) n) 5) :=
          (heap_setCell_other _ ⟨b9, 2, none⟩ g _ g9).trans ((heap_setCell_other _ ⟨b9, 1, none⟩ g _ g9).trans ((heap_setCell_other _ ⟨b9, 0, none⟩ g _ g9).trans g2))
        rw [run_copy_str _ 3 g n n D _ hn g2' (size_madeCells _ _)]
        simp only [Result.andThen]
        go_wp2_with fail
        have hsz2 := HB2.out.size
        have BW : Below wr.heap.size wr ((((w5.setCell ⟨b9, 0, none⟩ (.int .u64 B)).setCell ⟨b9, 1, none⟩ (.slice (some ⟨g, 0, none⟩) n n)).setCell ⟨b9, 2, none⟩ (.int .i64 R)).setRow g ((dataB D).map (Value.int .u8)).toArray) :=
          below_setRow ((((HB2.out.trans (HBB.out.mono hsz2)).setCell (p := ⟨b9, 0, none⟩) (Nat.le_trans hsz2 b1) _).setCell (p := ⟨b9, 1, none⟩) (Nat.le_trans hsz2 b1) _).setCell (p := ⟨b9, 2, none⟩) (Nat.le_trans hsz2 b1) _) (Nat.le_trans hsz2 g1) _
        have gR := setRow_heap _ g _ ((dataB D).map (Value.int .u8)).toArray 5 (0, 0) g2'
        have g9R := (setRow_other (((w5.setCell ⟨b9, 0, none⟩ (.int .u64 B)).setCell ⟨b9, 1, none⟩ (.slice (some ⟨g, 0, none⟩) n n)).setCell ⟨b9, 2, none⟩ (.int .i64 R)) g b9 ((dataB D).map (Value.int .u8)).toArray (Ne.symm g9)).trans (heap_setCell_same _ b9 2 _ 171 (.int .i64 R) (heap_setCell_same _ b9 1 _ 171 (.slice (some ⟨g, 0, none⟩) n n) (heap_setCell_same _ b9 0 _ 171 (.int .u64 B) b2)))
        simp only [List.setIfInBounds_toArray, List.set_cons_zero, List.set_cons_succ] at g9R
        clear c7 z7 c9 z9 f9 g2' g2 b2 h7
        generalize (((w5.setCell ⟨b9, 0, none⟩ (.int .u64 B)).setCell ⟨b9, 1, none⟩ (.slice (some ⟨g, 0, none⟩) n n)).setCell ⟨b9, 2, none⟩ (.int .i64 R)).setRow g ((dataB D).map (Value.int .u8)).toArray = w6 at *
        have S6 := HS.out.below BW
        have hsw := HB.out.size
        have hgn : g ∉ gs := fun hg' => by have := (HS.out.ge g hg').2; omega
        have hown := S6.row
        obtain ⟨r1, r2⟩ := S6.ne
        have hmp := blk_lt S6.head
        have hr2 : pv.ownBlock ≠ some w6.heap.size := fun e => by have := (r2 _ e).1; omega
        have cm := blk_cell S6.head
        have c9 := blk_cell g9R
        have z9 := blk_lt g9R
        obtain ⟨i0, hi, hz0, hz1, hz2⟩ := info_parts info171
        have BS := Aside0.mk BW
        have SS := Aside0.mk S6
        have GB := Aside0.mk gR
        have HPC := Aside0.mk (show ([.int .u64 B, .slice (some ⟨g, 0, none⟩) n n, .int .i64 R] : List Value) = pcCells (⟨B, D, R⟩, g) by unfold pcCells; rw [hn])
        have ONE := Aside0.mk (show ∀ u ∈ ([.int .u64 B, .slice (some ⟨g, 0, none⟩) n n, .int .i64 R] : List Value), u.oneCell' = true by rw [HPC.out]; exact one_pcs _)
        have hwb : w.heap.size ≤ w6.heap.size := Nat.le_of_lt hmp
        clear BW S6 gR g9R r2
        go_region_law
          (first | (refine step_append_lies _ (by rfl) _ _ _ (by rfl) w.heap.size 171 i0 _ 3 40 under167 hi hz0 hz1 hz2 rfl (by omega) pv k (((l.take k).zip gs).flatMap pcCells) (by rfl) ((hown.alloc _).drew) ⟨w6.heap.size, 0, none⟩ 1 1 ([.int .u64 B, .slice (some ⟨g, 0, none⟩) n n, .int .i64 R]) (by rfl) (by rfl) (World.news_of_block (cs := ([.int .u64 B, .slice (some ⟨g, 0, none⟩) n n, .int .i64 R] : List Value).toArray) (t := 171) (fr := (0, 0)) (heap_alloc_last w6 (.cells #[.int .u64 B, .slice (some ⟨g, 0, none⟩) n n, .int .i64 R] 171))) ONE.out (by omega) (by unfold maxLen; omega) (by omega) (by simp; omega) (w6.heap.size + 1) (by simp) ?_; intro gg cap2 w7 hown1 hgrow hat hlt2; have hP1 := (hgrow.block w.heap.size (by simp; omega) (Ne.symm r1)).trans (blk_alloc SS.out.head _); have e1 := blk_cell hP1; have e2 := frozen_of_row w7 w.heap.size 0 _ 169 hP1))
        all_goals
          rw [HPC.out, ← HR.out] at hown1
          have S := Aside0.mk ((SS.out.below (below_alloc (Below.refl _ _) _)).push hlt hgrow hown1 (by rw [HR.out]; exact blk_alloc GB.out _) (by omega) hgn (Nat.le_refl _))
          have BB := Aside0.mk ((HB.out.trans (BS.out.mono hsw)).trans ((below_alloc (Below.refl _ _) (.cells #[.int .u64 B, .slice (some ⟨g, 0, none⟩) n n, .int .i64 R] 171)).mono hwb))
          clear hown1 hgrow hat hP1 e1 e2 cm c9 z9 hmp hown
          go_wp2
          go_roundw
          case rel => exact ⟨k + 1, by omega, by rw [HE2.out], by go_num, ⟨BB.out.trans S.out.2, _, _, S.out.1⟩⟩
          case measure => simp [intOf]; omega
    · obtain rfl : k = l.length := by omega
      obtain ⟨hb, pv, gs, hS⟩ := hx.out
      have HB := Aside0.mk hb
      have HS := Aside0.mk hS
      clear hx hb hS
      go_wp2
      exact bodyPost_ret (v := .tuple #[.pointer (some ⟨w.heap.size, 0, none⟩), .int .i64 0]) (by simp [results, Try.results48, go_sem]) rfl ⟨⟨w.heap.size, pv, gs, rfl, Nat.le_refl _, HS.out⟩, HB.out⟩
end Go.Proofs.Ytciehejifdbpoaa.Ht

namespace Go.Proofs.Ytciehejifdbpoaa.Ht
open Go.RowKit Go.Maps Go.Proofs.Ytciehejifdbpoaa.Grow Go.Proofs.Ytciehejifdbpoaa.Rv Go.Proofs.Ytciehejifdbpoaa.As Go.Proofs.Ytciehejifdbpoaa.PHartQuotients
open Go.Proofs.YtciehejifdbpoaaW.PrintWords Go.Proofs.YtciehejifdbpoaaW.PrintLast Go.Proofs.YtciehejifdbpoaaW.PrintMore

/-! ### The memory that New makes -/
theorem pcs_len (x : RegIn × Nat) : (pcCells x).length = 3 := rfl
theorem flat_pcs {l : List (RegIn × Nat)} {k : Nat} (h : k < l.length) {j : Nat} (hj : j < 3) : (l.flatMap pcCells)[k * 3 + j]? = (pcCells l[k])[j]? := by
  induction l generalizing k with
  | nil => simp at h
  | cons x xs ih =>
    rw [List.flatMap_cons]
    cases k with
    | zero => rw [List.getElem?_append_left (by rw [pcs_len]; omega)]; simp
    | succ k =>
      rw [List.getElem?_append_right (by rw [pcs_len]; omega), pcs_len]
      have := ih (k := k) (by simpa using h)
      rw [show (k + 1) * 3 + j - 3 = k * 3 + j by omega, this]
      simp
theorem NewS.mem {b : Nat} {w : World} {mp : Nat} {l : List RegIn} {pv : Value} {gs : List Nat} (h : NewS b w mp l l.length pv gs) (hl : 0 < l.length) : ∃ q, MemIs w mp q gs (memOf l) ∧ b ≤ q := by
  rcases h.row with ⟨hx, ⟨rfl, h0⟩ | ⟨q, cap, cur, rfl, hb, hh, hn, hc, hs, ht⟩⟩
  · omega
  · refine ⟨q, ⟨⟨cap, ?_⟩, ⟨cur, hh, fun i hi hi' => ?_⟩, ?_, fun i hi hi' => ?_⟩, hb⟩
    · have := h.head
      rw [show (memOf l).rs.length = l.length by simp [memOf]]
      exact this
    · have hil : i < l.length := by simpa [memOf] using hi
      have hz : i < (l.zip gs).length := by rw [List.length_zip]; omega
      have e : ∀ j, j < 3 → cur[i * 3 + j]? = (pcCells ((l.zip gs)[i]))[j]? := fun j hj => by
        rw [← flat_pcs hz hj]
        have ht' : cur.toList.take (l.length * 3) = (l.zip gs).flatMap pcCells := by rw [ht, List.take_length]
        rw [← ht', List.getElem?_take_of_lt (by omega)]
        simp
      have eb : (memOf l).rs[i] = ⟨l[i].base, dataB l[i].data, l[i].rights⟩ := by simp [memOf]
      have e0 := e 0 (by decide)
      have e1 := e 1 (by decide)
      have e2 := e 2 (by decide)
      rw [eb]
      simp only [dataB_len]
      rw [List.getElem_zip] at e0 e1 e2
      exact ⟨e0, e1, e2⟩
    · rw [h.len]; simp [memOf]
    · have hil : i < l.length := by simpa [memOf] using hi
      have eb : (memOf l).rs[i].bytes = dataB l[i].data := by simp [memOf]
      rw [eb]
      exact h.bytes i hil hi'
theorem end_mono {l : List RegIn} (h : RegsOk l) : ∀ (j i : Nat) (hj : j < l.length) (hi : i ≤ j), (l[i]'(by omega)).base ≤ l[j].base
  | 0, i, hj, hi => by
    have : i = 0 := by omega
    subst this; exact Int.le_refl _
  | j + 1, i, hj, hi => by
    by_cases e : i = j + 1
    · subst e; exact Int.le_refl _
    · have h1 := end_mono h j i (by omega) (by omega)
      have h2 := (h (j + 1) hj).base
      have h3 : endF l (j + 1) = (l[j]'(by omega)).base + ((l[j]'(by omega)).data.size : Int) := by
        show ((l[j]?).map fun r => r.base + (r.data.size : Int)).getD 0 = _
        rw [List.getElem?_eq_getElem (by omega)]; rfl
      rw [h3] at h2
      omega
theorem memOf_good {l : List RegIn} (h : RegsOk l) (hl : l.length < 1000000) : GoodM (memOf l) ∧ GoodB (memOf l) := by
  have hr : ∀ r ∈ (memOf l).rs, ∃ i, ∃ hi : i < l.length, r = ⟨l[i].base, dataB l[i].data, l[i].rights⟩ := fun r hr => by
    obtain ⟨x, hx, rfl⟩ := List.mem_map.1 hr
    obtain ⟨i, hi, rfl⟩ := List.mem_iff_getElem.1 hx
    exact ⟨i, hi, rfl⟩
  refine ⟨⟨fun i j hj hi => ?_, by simpa [memOf] using hl, fun r hx => ?_, fun r hx => ?_⟩, fun r hx => ?_⟩
  · have hj' : j < l.length := by simpa [memOf] using hj
    simp only [memOf, List.getElem_map]
    exact end_mono h j i hj' hi
  · obtain ⟨i, hi, rfl⟩ := hr r hx
    have hq := h i hi
    have h1 := hq.top
    have h2 := hq.pos
    exact ⟨hq.base0, show l[i].base < 9223372036854775808 by omega⟩
  · obtain ⟨i, hi, rfl⟩ := hr r hx
    show (dataB l[i].data).length < _
    rw [dataB_len]; exact (h i hi).few
  · obtain ⟨i, hi, rfl⟩ := hr r hx
    intro b hb
    obtain ⟨x, _, rfl⟩ := List.mem_map.1 (show b ∈ dataB l[i].data from hb)
    have := x.toNat_lt
    omega
theorem new_good {S : MemS} (h : GoodM S ∧ GoodB S) {pc : Int} (hp : U64 pc) : GoodH (new0 S pc) :=
  ⟨h.1, h.2, hp, fun x hx => by rw [List.eq_of_mem_replicate hx]; decide, by simp [new0], by simp [new0]⟩

/-! ### What a register has behind instructions -/
theorem strOf_go (bs : List Int) : ∀ acc : ByteArray, (bs.foldl (fun r n => r.push (UInt8.ofNat n.toNat)) acc).data.toList = acc.data.toList ++ bs.map fun n => UInt8.ofNat n.toNat := by
  induction bs with
  | nil => intro acc; simp
  | cons b bs ih =>
    intro acc
    rw [List.foldl_cons, ih]
    simp
theorem strOf_data (bs : List Int) : (strOf bs).data.toList = bs.map fun n => UInt8.ofNat n.toNat := by
  have := strOf_go bs ByteArray.empty
  simpa [strOf] using this
theorem dataB_append (a b : ByteArray) : dataB (a ++ b) = dataB a ++ dataB b := by simp [dataB]
theorem dataB_str {bs : List Int} (h : Bytes bs) : dataB (strOf bs) = bs := by
  unfold dataB
  rw [strOf_data, List.map_map]
  conv => rhs; rw [← List.map_id bs]
  refine List.map_congr_left fun b hb => ?_
  obtain ⟨h0, h1⟩ := h b hb
  obtain ⟨n, rfl⟩ := Int.eq_ofNat_of_zero_le h0
  show ((UInt8.ofNat (n : Int).toNat).toNat : Int) = (n : Int)
  rw [Int.toNat_natCast, UInt8.toNat_ofNat']
  omega
theorem strOf_size (bs : List Int) : (strOf bs).size = bs.length := by
  have : (strOf bs).data.toList.length = bs.length := by rw [strOf_data, List.length_map]
  simpa using this
theorem wordB_bytes (a : Int) : Bytes (encB.wordB a) := by
  intro b hb
  simp only [encB.wordB, List.mem_cons, List.not_mem_nil, or_false] at hb
  rcases hb with rfl | rfl | rfl | rfl <;> exact ⟨Int.emod_nonneg _ (by decide), Int.emod_lt_of_pos _ (by decide)⟩
theorem encB_bytes : ∀ (l : List OpI) (bs : List Int), encB l = some bs → Bytes bs
  | [], bs, h => by simp [encB] at h; subst h; intro b hb; cases hb
  | x :: l, bs, h => by
    unfold encB at h
    split at h
    · obtain ⟨cs, hcs, rfl⟩ := Option.map_eq_some_iff.1 h
      intro b hb
      rcases List.mem_append.1 hb with hb | hb
      · exact wordB_bytes _ b hb
      · exact encB_bytes l cs hcs b hb
    · cases h
/-- The region of a program: its words, and one byte behind them. -/
def regOf (base : Int) (bs : List Int) : RegIn := ⟨base, strOf bs ++ ⟨#[0]⟩, 4⟩
theorem regOf_size (base : Int) (bs : List Int) : (regOf base bs).data.size = bs.length + 1 := by
  show (strOf bs ++ ⟨#[0]⟩ : ByteArray).size = _
  rw [ByteArray.size_append, strOf_size]; rfl
theorem regOf_ok {base : Int} {bs : List Int} (h0 : 0 ≤ base) (h1 : base < 1000000) (hl : bs.length < 1000000) : RegsOk [regOf base bs] := by
  intro k hk
  have : k = 0 := by simpa using hk
  subst this
  refine ⟨?_, ?_, ?_, ?_, h0, h0, ?_⟩
  · show 0 < (regOf base bs).data.size; rw [regOf_size]; omega
  · show (regOf base bs).data.size < _; rw [regOf_size]; omega
  · show (0 : Int) ≤ 4; decide
  · show (4 : Int) ≤ 7; decide
  · show base + ((regOf base bs).data.size : Int) ≤ _; rw [regOf_size]; omega
def progM (base : Int) (bs : List Int) : MemS := memOf [regOf base bs]
def ranH (bs : List Int) (a b : Int) : HartS := ((new0 (progM 0 bs) 0).put 1 a).put 2 b
theorem op_agg {w : World} {g : Nat} {l : List OpI} (h : w.heap[g]? = some (.cells (l.flatMap OpI.cells).toArray 24 (0, 0))) {k : Nat} (hk : k < l.length) {y : OpI} (hy : l[k] = y) :
    w.cell? ⟨g, k * 5, none⟩ = some (.string y.name) ∧ w.cell? ⟨g, k * 5 + 1, none⟩ = some (.int .i64 y.rd) ∧ w.cell? ⟨g, k * 5 + 2, none⟩ = some (.int .i64 y.ra) ∧
    w.cell? ⟨g, k * 5 + 3, none⟩ = some (.int .i64 y.rb) ∧ w.cell? ⟨g, k * 5 + 4, none⟩ = some (.int .i64 y.imm) := by subst hy; exact op_cells h hk
theorem encB_at {l : List OpI} {bs : List Int} (h : encB l = some bs) {k : Nat} (hk : k < l.length) : (encF l[k].name l[k].rd l[k].ra l[k].rb l[k].imm).2 = 0 := by
  refine Classical.byContradiction fun hn => ?_
  rw [encB_none hk hn] at h; cases h
set_option maxHeartbeats 8000000 in
set_option maxRecDepth 100000 in
theorem ran_calls {w : World} {L cap : Nat} (l : List OpI) (hL : w.heap[L]? = some (.cells (l.flatMap OpI.cells).toArray 24 (0, 0))) (hl0 : 0 < l.length) (hl : l.length < 1000) {bs : List Int} (he : encB l = some bs) {a b : Int} (ha : U64 a) (hb : U64 b) (reg : Int)
    {S : HartS} (hrun : runF (4 * (l.length : Int)) l.length 0 (ranH bs a b) = (S, l.length, 0)) (hpc : S.pc = 4 * (l.length : Int)) :
    Calls Try.prog 36 #[.slice (some ⟨L, 0, none⟩) l.length cap, .int .u64 a, .int .u64 b, .int .i64 reg] w fun e w' => e = .returned (.tuple #[.int .u64 (S.reg reg), .bool true]) ∧ Below w.heap.size w w' := by
  have HL := Aside0.mk hL
  have HE := Aside0.mk he
  have HRUN := Aside0.mk hrun
  have HPC := Aside0.mk hpc
  have HUA := Aside0.mk ha
  have HUB := Aside0.mk hb
  obtain ⟨i0, hi, hz0, hz1, hz2⟩ := info_parts Ht.info5
  have hbl := encB_len _ _ he
  clear hL he hrun hpc ha hb
  go_enter Try.func36, Try.ntmps36
  go_wp2
  go_loopw [10, 12, 13, 14, 22] (fun v10 _ _ _ v22 wr => ∃ k : Nat, k ≤ l.length ∧ v22 = .int .i64 k ∧ (∃ cs, encB (l.take k) = some cs ∧ cs.length = 4 * k ∧ wr.ownsRow w.heap.size 5 1 v10 cs.length (cs.map (Value.int .u8))) ∧ Below w.heap.size w wr) (fun _ _ _ _ v22 _ => l.length - (intOf v22).toNat)
  case atStart => exact ⟨0, by omega, rfl, ⟨[], rfl, rfl, rfl, .inl ⟨rfl, rfl⟩⟩, Below.refl _ _⟩
  case round =>
    obtain ⟨k, hk, rfl, ⟨cs, hcs, hcl, hown⟩, hb⟩ := hrel
    by_cases hlt : k < l.length
    · obtain ⟨y, hy⟩ : ∃ y, l[k] = y := ⟨_, rfl⟩
      have hg := blk_below HL.out hb
      obtain ⟨d0, d1, d2, d3, d4⟩ := op_agg hg hlt hy
      have zg := blk_lt hg
      have hc0 := encB_at HE.out hlt
      obtain ⟨⟨wd, c⟩, hE⟩ : ∃ r, encF y.name y.rd y.ra y.rb y.imm = r := ⟨_, rfl⟩
      rw [hy, hE] at hc0
      simp only at hc0
      subst hc0
      have TK := Aside0.mk (encB_take hlt hcs (by rw [hy, hE]))
      rw [hy, hE] at TK
      have HENC := Aside0.mk hE
      have OWN3 := Aside0.mk hown
      have B3 := Aside0.mk hb
      have ne3 := row_ne hown
      have HCL := Aside0.mk hcl
      clear hE hy hcs hg hown hb hcl
      go_wp2_with fail
      refine (encode_at HENC.out _).mono ?_
      rintro e w4 ⟨rfl, hb4⟩
      have B4 := Aside0.mk ((below_alloc B3.out _).trans (hb4.mono (below_alloc B3.out _).size))
      have OWN4 := Aside0.mk ((OWN3.out.below (below_alloc (Below.refl _ _) _)).below hb4)
      clear d0 d1 d2 d3 d4 hb4 ne3
      have bz := B4.out.size
      have cl2 : cs.length ≤ 4000 := by have := HCL.out; omega
      go_wp2_with (first | (at_builtin; refine wpList_append_own _ rfl (.tmp 33) (.tmp 45) 130 rfl w.heap.size 5 i0 (.int .u8 0) 1 1 Ht.under130 hi hz0 hz1 hz2 rfl (by decide) _ cs.length _ rfl (OWN4.out.alloc _) ⟨w4.heap.size, 0, none⟩ 4 4 [.int .u8 (wd % 256), .int .u8 (wd / 256 % 256), .int .u8 (wd / 65536 % 256), .int .u8 (wd / 16777216 % 256)] rfl rfl (World.news_of_block (cs := #[.int .u8 (wd % 256), .int .u8 (wd / 256 % 256), .int .u8 (wd / 65536 % 256), .int .u8 (wd / 16777216 % 256)]) (t := 5) (fr := (0, 0)) (heap_alloc_last w4 _)) four_one (by unfold maxLen; omega) (by omega) (by simp; omega) ?_; intro v' w5 hown' hgrow _; have OWN5 := Aside0.mk (text_row (bs := []) (n := 0) (m := cs.length) (by simpa using hown')); have B5 := Aside0.mk ((below_alloc B4.out _).grown hgrow (by simp; omega) (own_ge OWN4.out)); clear hown' hgrow))
      go_roundw
      case rel => exact ⟨k + 1, by omega, by go_num, ⟨cs ++ encB.wordB wd, TK.out, by have := HCL.out; simp [encB.wordB]; omega, by simpa using OWN5.out⟩, B5.out⟩
      case measure => simp [intOf]; omega
    · obtain rfl : k = l.length := by omega
      have hcb : cs = bs := by
        have := HE.out
        rw [List.take_length] at hcs
        rw [hcs] at this
        exact Option.some.inj this
      subst hcb
      have hcv := own_string hown rfl
      have B3 := Aside0.mk hb
      clear hown hcs hcl hb
      have hns : ¬ 9223372036854775807 < (strOf cs).size + 1 := by rw [strOf_size]; omega
      have hok : RegsOk [regOf 0 cs] := regOf_ok (by decide) (by decide) (by omega)
      have MG := Aside0.mk (memOf_good hok (by simp))
      have MC := Aside0.mk (MemNew_calls (w := wr.alloc (.cells #[.int .u64 0, .string (strOf cs ++ ⟨#[0]⟩), .int .i64 4] 92)) (L := wr.heap.size) (off := 0) (cap := 1) [regOf 0 cs] hok (by simp)
        (fun i h => by
          obtain rfl : i = 0 := by simpa using h
          have c := blk_cell (heap_alloc_last wr (.cells #[.int .u64 0, .string (strOf cs ++ ⟨#[0]⟩), .int .i64 4] 92))
          exact ⟨c 0, c 1, c 2⟩) (by simp))
      clear hok
      go_wp2_with fail
      refine MC.out.mono ?_
      rintro e w5 ⟨⟨mp, pv, gs, rfl, hmp, hS⟩, hb5⟩
      obtain ⟨q, hM, hq⟩ := hS.mem (by simp)
      have NC := Aside0.mk (New_calls hM hS.nd 0)
      have hge := fun g hg => (hS.ge g hg).1
      have B5 := (below_alloc B3.out (.cells #[.int .u64 0, .string (strOf cs ++ ⟨#[0]⟩), .int .i64 4] 92)).trans (hb5.mono (below_alloc B3.out _).size)
      have bz := (below_alloc B3.out (.cells #[.int .u64 0, .string (strOf cs ++ ⟨#[0]⟩), .int .i64 4] 92)).size
      have HB5 := Aside0.mk B5
      have bz5 := B5.size
      clear hS hM MC hb5 B5 hns hcv
      go_wp2_with fail
      refine NC.out.mono ?_
      rintro e w6 ⟨rfl, h6, hb6⟩
      have HFB : ∀ k, HF (w5.heap.size + 1) ⟨mp, q, w5.heap.size, gs⟩ k → w.heap.size ≤ k := by
        rintro k (rfl | rfl | rfl | hk)
        · omega
        · exact bz5
        · exact Nat.le_trans bz hmp
        · exact Nat.le_trans bz (hge k hk)
      have HFB := Aside0.mk HFB
      have g6 : GoodH (new0 (progM 0 cs) 0) := new_good MG.out ⟨by decide, by decide⟩
      have G7 := put_good g6 1 HUA.out
      have G8 := Aside0.mk (put_good G7 2 HUB.out)
      have SC1 := Aside0.mk (Set_calls h6 1 a)
      have B6 := Aside0.mk (HB5.out.trans (hb6.mono bz5))
      clear NC hge hb6 h6 g6 G7
      go_wp2_with fail
      refine SC1.out.mono ?_
      rintro e w7 ⟨rfl, h7, k7⟩
      have SC2 := Aside0.mk (Set_calls h7 2 b)
      have B7 := Aside0.mk (B6.out.trans (k7.below B6.out.size HFB.out))
      clear SC1 h7 k7
      go_wp2_with fail
      refine SC2.out.mono ?_
      rintro e w8 ⟨rfl, h8, k8⟩
      have u1 : IntKind.u64.wrap (4 * (l.length : Int)) = 4 * (l.length : Int) := by rw [IntKind.wrap_u64]; omega
      have RC := Run_calls h8 G8.out (4 * (l.length : Int)) (l.length : Int) (by omega) (by decide)
      rw [Int.toNat_natCast, show (((new0 (memOf [regOf 0 cs]) 0).put 1 a).put 2 b) = ranH cs a b from rfl, HRUN.out] at RC
      have RC := Aside0.mk RC
      have B8 := Aside0.mk (B7.out.trans (k8.below B7.out.size HFB.out))
      clear SC2 h8 k8
      go_wp2_with fail
      refine RC.out.mono ?_
      rintro e w9 ⟨rfl, ⟨m, hm, h9⟩, g9, k9⟩
      have REG := Aside0.mk (Reg_calls h9 reg)
      have PCC := PC_calls h9
      rw [HPC.out] at PCC
      have PCC := Aside0.mk PCC
      have B9 := Aside0.mk (B8.out.trans (k9.below B8.out.size HFB.out))
      clear RC h9 g9 k9 hm
      go_wp2_with fail
      refine REG.out.mono ?_
      rintro e w10 ⟨rfl, rfl⟩
      go_wp2_with fail
      refine PCC.out.mono ?_
      rintro e w11 ⟨rfl, rfl⟩
      go_wp2
      exact bodyPost_ret (v := .tuple #[.int .u64 (S.reg reg), .bool true]) (by simp [results, Try.results36, go_sem]) rfl ⟨rfl, B9.out⟩
end Go.Proofs.Ytciehejifdbpoaa.Ht

namespace Go.Proofs.Ytciehejifdbpoaa.Ht
open Go.RowKit Go.Maps Go.Proofs.Ytciehejifdbpoaa.Grow Go.Proofs.Ytciehejifdbpoaa.Rv Go.Proofs.Ytciehejifdbpoaa.As Go.Proofs.Ytciehejifdbpoaa.PHartQuotients
open Go.Proofs.YtciehejifdbpoaaW.PrintWords Go.Proofs.YtciehejifdbpoaaW.PrintLast Go.Proofs.YtciehejifdbpoaaW.PrintMore

/-! ### Instructions in a row -/
theorem progM_eq {base : Int} {bs : List Int} (h : Bytes bs) : progM base bs = ⟨[⟨base, bs ++ [0], 4⟩], 0⟩ := by
  unfold progM memOf regOf
  simp only [List.map_cons, List.map_nil, dataB_append, dataB_str h]
  rfl
theorem find_prog {base : Int} {bs : List Int} (h : Bytes bs) (hl : bs.length < 1000000) {f : Nat} (hf : f + 4 ≤ bs.length) : findF (progM base bs) (base + (f : Int)) 4 4 = some (0, f) := by
  have h1 : firstF (progM base bs) (base + (f : Int)) = 1 := by
    rw [progM_eq h]
    unfold firstF
    rw [List.findIdx_cons, decide_eq_false (by show ¬ base + (f : Int) < base; omega)]
    rfl
  unfold findF
  rw [dif_pos (by rw [h1, progM_eq h]; exact ⟨by decide, by simp⟩)]
  simp only [h1, Nat.sub_self]
  have e : (progM base bs).rs[0]'(by rw [progM_eq h]; simp) = ⟨base, bs ++ [0], 4⟩ := by simp only [progM_eq h, List.getElem_cons_zero]
  rw [e]
  have e2 : base + (f : Int) - base = (f : Int) := by omega
  simp only [e2]
  have hm : mayF ⟨base, bs ++ [0], 4⟩ (f : Int) 4 4 = true := by
    unfold mayF
    have a1 : (Go.bits .and .i64 4 4 == 0) = false := by decide +kernel
    simp only [List.length_append, List.length_singleton]
    rw [a1, decide_eq_false (by omega), decide_eq_false (by rw [IntKind.wrap_u64]; omega)]
    rfl
  rw [if_pos hm, Int.toNat_natCast]
theorem encB_seg : ∀ (l : List OpI) (bs : List Int), encB l = some bs → ∀ k (hk : k < l.length), (bs.drop (4 * k)).take 4 = encB.wordB (encF l[k].name l[k].rd l[k].ra l[k].rb l[k].imm).1
  | [], _, _, k, hk => by cases hk
  | x :: l, bs, h, k, hk => by
    unfold encB at h
    split at h
    · obtain ⟨cs, hcs, rfl⟩ := Option.map_eq_some_iff.1 h
      cases k with
      | zero => rfl
      | succ k =>
        have e : (encB.wordB (encF x.name x.rd x.ra x.rb x.imm).1 ++ cs).drop (4 * (k + 1)) = cs.drop (4 * k) := by
          rw [List.drop_append]
          rw [List.drop_eq_nil_of_le (by simp [encB.wordB]; omega)]
          simp only [List.nil_append]
          congr 1
        rw [e]
        exact encB_seg l cs hcs k (by simpa using hk)
    · cases h
theorem num_word {a : Int} (h : U32 a) : numF (encB.wordB a) = a := by
  obtain ⟨h0, h1⟩ := h
  simp only [encB.wordB, numF]
  omega
theorem fetch_prog {base : Int} {l : List OpI} {bs : List Int} (he : encB l = some bs) (hl : l.length < 100000) (hb : base % 4 = 0) {k : Nat} (hk : k < l.length) :
    fetchF (progM base bs) (base + 4 * (k : Int)) = ((encF l[k].name l[k].rd l[k].ra l[k].rb l[k].imm).1, 0) := by
  have hbl := encB_len _ _ he
  have hby := encB_bytes _ _ he
  have h0 := encB_at he hk
  have hu : U32 (encF l[k].name l[k].rd l[k].ra l[k].rb l[k].imm).1 := by
    obtain ⟨⟨a, c⟩, hE⟩ : ∃ r, encF l[k].name l[k].rd l[k].ra l[k].rb l[k].imm = r := ⟨_, rfl⟩
    rw [hE] at h0 ⊢
    have := enc_dec l[k].name l[k].rd l[k].ra l[k].rb l[k].imm
    rw [hE] at this
    exact ⟨(this h0).1, (this h0).2.1⟩
  have e1 : base + 4 * (k : Int) = base + ((4 * k : Nat) : Int) := by omega
  unfold fetchF
  rw [if_pos (by omega), e1, find_prog hby (by omega) (by omega)]
  simp only
  have e2 : bytesAt (progM base bs) 0 (4 * k) 4 = encB.wordB (encF l[k].name l[k].rd l[k].ra l[k].rb l[k].imm).1 := by
    unfold bytesAt
    rw [progM_eq hby]
    simp only [List.getElem?_cons_zero, Option.map_some, Option.getD_some]
    rw [List.drop_append_of_le_length (by omega), List.take_append_of_le_length (by rw [List.length_drop]; omega)]
    exact encB_seg l bs he k hk
  rw [e2, num_word hu]
theorem next_prog {base : Int} {l : List OpI} {bs : List Int} (he : encB l = some bs) (hl : l.length < 100000) (hb : base % 4 = 0) {k : Nat} (hk : k < l.length) {S : HartS} (hm : S.mem = progM base bs) (hp : S.pc = base + 4 * (k : Int)) :
    nextF S = (mkDone l[k], 0) := by
  have hf := fetch_prog he hl hb hk
  refine nextF_ok (W := (encF l[k].name l[k].rd l[k].ra l[k].rb l[k].imm).1) (by rw [hm, hp, hf]) (by rw [hm, hp, hf]) ?_
  have h0 := encB_at he hk
  obtain ⟨⟨a, c⟩, hE⟩ : ∃ r, encF l[k].name l[k].rd l[k].ra l[k].rb l[k].imm = r := ⟨_, rfl⟩
  rw [hE] at h0 ⊢
  have := enc_dec l[k].name l[k].rd l[k].ra l[k].rb l[k].imm
  rw [hE] at this
  have hd := (this h0).2.2
  unfold doneF
  rw [hd, if_pos rfl]
def lineOp (S : HartS) (x : OpI) : HartS := (execF S (mkDone x) (S.ra x.ra) (S.ra x.rb) (IntKind.u64.wrap x.imm) (IntKind.u64.wrap (S.pc + 4))).1
def lineF (l : List OpI) (S : HartS) : HartS := l.foldl lineOp S
theorem mkDone_op (x : OpI) : (mkDone x).op = x := by unfold mkDone; split <;> rfl
theorem put_mem (S : HartS) (i x : Int) : (S.put i x).mem = S.mem := by unfold HartS.put; split <;> rfl
/-- It puts something into a register, and goes on behind. -/
def Plain (x : OpI) : Prop := clsF x.name = 4 ∨ clsF x.name = 8
theorem exec_plain {x : OpI} (h : Plain x) (S : HartS) (a b i nx : Int) : ∃ v, execF S (mkDone x) a b i nx = ((S.put x.rd v).at_ nx, 0) := by
  unfold execF
  rw [mkDone_op]
  rcases h with h | h <;> rw [h] <;> exact ⟨_, rfl⟩
theorem line_mem {x : OpI} (h : Plain x) (S : HartS) : (lineOp S x).mem = S.mem := by
  obtain ⟨v, hv⟩ := exec_plain h S (S.ra x.ra) (S.ra x.rb) (IntKind.u64.wrap x.imm) (IntKind.u64.wrap (S.pc + 4))
  unfold lineOp
  rw [hv]
  exact put_mem _ _ _
theorem line_pc {x : OpI} (h : Plain x) (S : HartS) : (lineOp S x).pc = IntKind.u64.wrap (S.pc + 4) := by
  obtain ⟨v, hv⟩ := exec_plain h S (S.ra x.ra) (S.ra x.rb) (IntKind.u64.wrap x.imm) (IntKind.u64.wrap (S.pc + 4))
  unfold lineOp
  rw [hv]
  rfl
theorem step_line {base : Int} {l : List OpI} {bs : List Int} (he : encB l = some bs) (hl : l.length < 100000) (hb : base % 4 = 0) {k : Nat} (hk : k < l.length) {S : HartS} (hm : S.mem = progM base bs) (hp : S.pc = base + 4 * (k : Int)) (hx : Plain l[k]) :
    stepF S = (lineOp S l[k], 0) := by
  have hn := next_prog he hl hb hk hm hp
  obtain ⟨v, hv⟩ := exec_plain hx S (S.ra l[k].ra) (S.ra l[k].rb) (IntKind.u64.wrap l[k].imm) (IntKind.u64.wrap (S.pc + 4))
  unfold stepF
  rw [hn, if_pos rfl]
  simp only [mkDone_op]
  unfold lineOp
  rw [hv]
theorem run_line {base : Int} {l : List OpI} {bs : List Int} (he : encB l = some bs) (hl : l.length < 100000) (hb : base % 4 = 0) (hb0 : 0 ≤ base) (hb1 : base < 1000000) (hx : ∀ x ∈ l, Plain x) :
    ∀ (d k : Nat) (S : HartS) (fuel : Nat), l.length = k + d → d ≤ fuel → S.mem = progM base bs → S.pc = base + 4 * (k : Int) →
      runF (base + 4 * (l.length : Int)) fuel k S = (lineF (l.drop k) S, l.length, 0) ∧ (lineF (l.drop k) S).pc = base + 4 * (l.length : Int)
  | 0, k, S, fuel, hd, _, hm, hp => by
    have hk : k = l.length := by omega
    subst hk
    rw [List.drop_length]
    exact ⟨by rw [runF_stop hp]; rfl, hp⟩
  | d + 1, k, S, fuel, hd, hf, hm, hp => by
    have hk : k < l.length := by omega
    obtain ⟨fu, rfl⟩ : ∃ fu, fuel = fu + 1 := ⟨fuel - 1, by omega⟩
    have hpl := hx _ (List.getElem_mem hk)
    have hs := step_line he hl hb hk hm hp hpl
    have hne : ¬ S.pc = base + 4 * (l.length : Int) := by omega
    have hpc : (lineOp S l[k]).pc = base + 4 * ((k + 1 : Nat) : Int) := by rw [line_pc hpl, hp, IntKind.wrap_u64]; omega
    have ih := run_line he hl hb hb0 hb1 hx d (k + 1) (lineOp S l[k]) fu (by omega) (by omega) (by rw [line_mem hpl]; exact hm) hpc
    rw [runF_step hne (by rw [hs]), hs]
    rw [List.drop_eq_getElem_cons hk]
    exact ih
end Go.Proofs.Ytciehejifdbpoaa.Ht

namespace Go.Proofs.Ytciehejifdbpoaa.Ht
open Go.RowKit Go.Maps Go.Proofs.Ytciehejifdbpoaa.Grow Go.Proofs.Ytciehejifdbpoaa.Rv Go.Proofs.Ytciehejifdbpoaa.As Go.Proofs.Ytciehejifdbpoaa.PHartQuotients
open Go.Proofs.YtciehejifdbpoaaW.PrintWords Go.Proofs.YtciehejifdbpoaaW.PrintLast Go.Proofs.YtciehejifdbpoaaW.PrintMore

/-! ### Names, and what they reckon -/
abbrev nDiv : ByteArray := ⟨#[100, 105, 118]⟩
abbrev nRem : ByteArray := ⟨#[114, 101, 109]⟩
abbrev nDivu : ByteArray := ⟨#[100, 105, 118, 117]⟩
abbrev nRemu : ByteArray := ⟨#[114, 101, 109, 117]⟩
abbrev nAdd : ByteArray := ⟨#[97, 100, 100]⟩
abbrev nDivw : ByteArray := ⟨#[100, 105, 118, 119]⟩
abbrev nRemw : ByteArray := ⟨#[114, 101, 109, 119]⟩
abbrev nDivuw : ByteArray := ⟨#[100, 105, 118, 117, 119]⟩
abbrev nRemuw : ByteArray := ⟨#[114, 101, 109, 117, 119]⟩
abbrev nMulhu : ByteArray := ⟨#[109, 117, 108, 104, 117]⟩
abbrev nMulh : ByteArray := ⟨#[109, 117, 108, 104]⟩
abbrev nMulhsu : ByteArray := ⟨#[109, 117, 108, 104, 115, 117]⟩
def divS (a b : Int) : Int := if b = 0 then 18446744073709551615 else if a = 9223372036854775808 ∧ b = 18446744073709551615 then a else IntKind.u64.wrap (wrap64 (Int.tdiv (wrap64 a) (wrap64 b)))
def remS (a b : Int) : Int := if b = 0 then a else if a = 9223372036854775808 ∧ b = 18446744073709551615 then 0 else IntKind.u64.wrap (Int.tmod (wrap64 a) (wrap64 b))
def divU (a b : Int) : Int := if b = 0 then 18446744073709551615 else IntKind.u64.wrap (Int.tdiv a b)
def remU (a b : Int) : Int := if b = 0 then a else Int.tmod a b
theorem bind_id (o : Option Int) : (o.bind fun t => some t) = o := by cases o <;> rfl
theorem q_div (k : Nat) {a b : Int} (hb : U64 b) : hart_quotient.f (k + 3) nDiv a b = some (divS a b) := by
  have e : hart_quotient.f (k + 3) nDiv a b = hart_quotient.j0 (k + 3) nDiv a b 9223372036854775808 false := by kernel_rfl
  rw [e, hart_quotient.j0]
  unfold divS
  by_cases h0 : b = 0
  · rw [if_pos h0, if_pos h0, hart_quotient.j1, if_neg (by decide), if_pos h0]
  · have hw := wrap64_zero hb h0
    rw [if_neg h0, if_neg h0, hart_quotient.j1, if_neg (by decide), if_neg h0, if_neg (by decide +kernel), if_neg (by decide +kernel)]
    by_cases ha : a = 9223372036854775808
    · rw [if_pos ha]
      by_cases hm : b = 18446744073709551615
      · rw [if_pos ⟨ha, hm⟩, hart_quotient.j2, if_pos (by simpa using hm), if_neg (by decide)]
      · rw [if_neg (fun h => hm h.2), hart_quotient.j2, if_neg (by simpa using hm), if_neg (by decide), if_neg hw]
    · rw [if_neg ha, if_neg (fun h => ha h.1), hart_quotient.j2, if_neg (by decide), if_neg (by decide), if_neg hw]
theorem q_rem (k : Nat) {a b : Int} (hb : U64 b) : hart_quotient.f (k + 3) nRem a b = some (remS a b) := by
  have e : hart_quotient.f (k + 3) nRem a b = hart_quotient.j0 (k + 3) nRem a b 9223372036854775808 true := by kernel_rfl
  rw [e, hart_quotient.j0]
  unfold remS
  by_cases h0 : b = 0
  · rw [if_pos h0, if_pos h0, hart_quotient.j1, if_pos rfl]
  · have hw := wrap64_zero hb h0
    rw [if_neg h0, if_neg h0, hart_quotient.j1, if_neg (by decide), if_neg h0, if_neg (by decide +kernel), if_neg (by decide +kernel)]
    by_cases ha : a = 9223372036854775808
    · rw [if_pos ha]
      by_cases hm : b = 18446744073709551615
      · rw [if_pos ⟨ha, hm⟩, hart_quotient.j2, if_pos (by simpa using hm), if_pos rfl]
      · rw [if_neg (fun h => hm h.2), hart_quotient.j2, if_neg (by simpa using hm), if_pos rfl, if_neg hw]
    · rw [if_neg ha, if_neg (fun h => ha h.1), hart_quotient.j2, if_neg (by decide), if_pos rfl, if_neg hw]
theorem q_divu (k : Nat) (a b : Int) : hart_quotient.f (k + 3) nDivu a b = some (divU a b) := by
  have e : hart_quotient.f (k + 3) nDivu a b = hart_quotient.j0 (k + 3) nDivu a b 9223372036854775808 false := by kernel_rfl
  rw [e, hart_quotient.j0]
  unfold divU
  by_cases h0 : b = 0
  · rw [if_pos h0, if_pos h0, hart_quotient.j1, if_neg (by decide), if_pos h0]
  · rw [if_neg h0, if_neg h0, hart_quotient.j1, if_neg (by decide), if_neg h0, if_pos (by decide +kernel)]
theorem q_remu (k : Nat) (a b : Int) : hart_quotient.f (k + 3) nRemu a b = some (remU a b) := by
  have e : hart_quotient.f (k + 3) nRemu a b = hart_quotient.j0 (k + 3) nRemu a b 9223372036854775808 true := by kernel_rfl
  rw [e, hart_quotient.j0]
  unfold remU
  by_cases h0 : b = 0
  · rw [if_pos h0, if_pos h0, hart_quotient.j1, if_pos rfl]
  · rw [if_neg h0, if_neg h0, hart_quotient.j1, if_neg (by decide), if_neg h0, if_neg (by decide +kernel), if_pos (by decide +kernel)]
theorem reck_of {nm : ByteArray} {a b r : Int} (h : hart_reckon.f 20 nm a b = some r) : reckF nm a b = r := by unfold reckF; rw [h]; rfl
theorem r_div {a b : Int} (hb : U64 b) : reckF nDiv a b = divS a b := by
  refine reck_of ?_
  have e : hart_reckon.f 20 nDiv a b = ((hart_quotient.f 19 nDiv a b).bind fun t131 => some t131).bind fun t => some t := by kernel_rfl
  rw [e, bind_id, bind_id]; exact q_div 16 hb
theorem r_rem {a b : Int} (hb : U64 b) : reckF nRem a b = remS a b := by
  refine reck_of ?_
  have e : hart_reckon.f 20 nRem a b = ((hart_quotient.f 19 nRem a b).bind fun t131 => some t131).bind fun t => some t := by kernel_rfl
  rw [e, bind_id, bind_id]; exact q_rem 16 hb
theorem r_divu (a b : Int) : reckF nDivu a b = divU a b := by
  refine reck_of ?_
  have e : hart_reckon.f 20 nDivu a b = ((hart_quotient.f 19 nDivu a b).bind fun t131 => some t131).bind fun t => some t := by kernel_rfl
  rw [e, bind_id, bind_id]; exact q_divu 16 a b
theorem r_remu (a b : Int) : reckF nRemu a b = remU a b := by
  refine reck_of ?_
  have e : hart_reckon.f 20 nRemu a b = ((hart_quotient.f 19 nRemu a b).bind fun t131 => some t131).bind fun t => some t := by kernel_rfl
  rw [e, bind_id, bind_id]; exact q_remu 16 a b
theorem r_add (a b : Int) : reckF nAdd a b = IntKind.u64.wrap (a + b) := by
  refine reck_of ?_
  have e : hart_reckon.f 20 nAdd a b = (some (IntKind.u64.wrap (a + b))).bind fun t => some t := by kernel_rfl
  rw [e]; rfl
/-! The lower 32 bits. -/
theorem ext_bind {o : Option Int} {r : Int} (h : o = some r) : ((o.bind fun t137 => (hart_extend.f t137 32).bind fun t138 => some t138) : Option Int) = some (extF r 32) := by
  rw [h]
  show ((hart_extend.f r 32).bind fun t138 => some t138) = _
  rw [bind_id, (extF_some r 32).1]
theorem ext2 {a b r : Int} {nm : ByteArray} (h : hart_quotient.f 19 nm (extF a 32) (extF b 32) = some r) : ((hart_extend.f a 32).bind fun t132 => (hart_extend.f b 32).bind fun t133 => (hart_quotient.f 19 nm t132 t133).bind fun t134 => some t134) = some r := by
  rw [(extF_some a 32).1, Option.bind_some, (extF_some b 32).1, Option.bind_some, h]; rfl
theorem r_divw (a b : Int) : reckF nDivw a b = extF (divS (extF a 32) (extF b 32)) 32 := by
  refine reck_of ?_
  have e : hart_reckon.f 20 nDivw a b = (hart_word.f 20 nDiv a b).bind fun t137 => (hart_extend.f t137 32).bind fun t138 => some t138 := by kernel_rfl
  rw [e]
  refine ext_bind ?_
  have e2 : hart_word.f 20 nDiv a b = (hart_extend.f a 32).bind fun t132 => (hart_extend.f b 32).bind fun t133 => (hart_quotient.f 19 nDiv t132 t133).bind fun t134 => some t134 := by kernel_rfl
  rw [e2]
  exact ext2 (q_div 16 (extF_some b 32).2)
theorem r_remw (a b : Int) : reckF nRemw a b = extF (remS (extF a 32) (extF b 32)) 32 := by
  refine reck_of ?_
  have e : hart_reckon.f 20 nRemw a b = (hart_word.f 20 nRem a b).bind fun t137 => (hart_extend.f t137 32).bind fun t138 => some t138 := by kernel_rfl
  rw [e]
  refine ext_bind ?_
  have e2 : hart_word.f 20 nRem a b = (hart_extend.f a 32).bind fun t132 => (hart_extend.f b 32).bind fun t133 => (hart_quotient.f 19 nRem t132 t133).bind fun t134 => some t134 := by kernel_rfl
  rw [e2]
  exact ext2 (q_rem 16 (extF_some b 32).2)
def lowF (x : Int) : Int := Go.bits .and .u64 x 4294967295
theorem r_divuw (a b : Int) : reckF nDivuw a b = extF (divU (lowF a) (lowF b)) 32 := by
  refine reck_of ?_
  have e : hart_reckon.f 20 nDivuw a b = (hart_word.f 20 nDivu a b).bind fun t137 => (hart_extend.f t137 32).bind fun t138 => some t138 := by kernel_rfl
  rw [e]
  refine ext_bind ?_
  have e2 : hart_word.f 20 nDivu a b = (hart_quotient.f 18 nDivu (Go.bits .and .u64 a 4294967295) (Go.bits .and .u64 b 4294967295)).bind fun t135 => some t135 := by kernel_rfl
  rw [e2, bind_id]
  exact q_divu 15 _ _
theorem r_remuw (a b : Int) : reckF nRemuw a b = extF (remU (lowF a) (lowF b)) 32 := by
  refine reck_of ?_
  have e : hart_reckon.f 20 nRemuw a b = (hart_word.f 20 nRemu a b).bind fun t137 => (hart_extend.f t137 32).bind fun t138 => some t138 := by kernel_rfl
  rw [e]
  refine ext_bind ?_
  have e2 : hart_word.f 20 nRemu a b = (hart_quotient.f 18 nRemu (Go.bits .and .u64 a 4294967295) (Go.bits .and .u64 b 4294967295)).bind fun t135 => some t135 := by kernel_rfl
  rw [e2, bind_id]
  exact q_remu 15 _ _
/-! Upper halves. -/
def hiF (a b : Int) : Int := ((bits_Mul64.f a b).getD (0, 0)).1
theorem r_mulhu (a b : Int) : reckF nMulhu a b = hiF a b := by
  refine reck_of ?_
  have e : hart_reckon.f 20 nMulhu a b = ((hart_upper.f nMulhu a b).bind fun t130 => some t130).bind fun t => some t := by kernel_rfl
  have e2 : hart_upper.f nMulhu a b = some (hiF a b) := by kernel_rfl
  rw [e, bind_id, bind_id, e2]
theorem r_mulhsu (a b : Int) : reckF nMulhsu a b = if wrap64 a < 0 then IntKind.u64.wrap (hiF a b - b) else hiF a b := by
  refine reck_of ?_
  have e : hart_reckon.f 20 nMulhsu a b = ((hart_upper.f nMulhsu a b).bind fun t130 => some t130).bind fun t => some t := by kernel_rfl
  rw [e, bind_id, bind_id]
  have e2 : hart_upper.f nMulhsu a b = if wrap64 a < 0 then some (IntKind.u64.wrap (hiF a b - b)) else some (hiF a b) := by kernel_rfl
  rw [e2]
  split <;> rfl
theorem r_mulh (a b : Int) : reckF nMulh a b = if wrap64 b < 0 then (if wrap64 a < 0 then IntKind.u64.wrap (IntKind.u64.wrap (hiF a b - a) - b) else IntKind.u64.wrap (hiF a b - a)) else (if wrap64 a < 0 then IntKind.u64.wrap (hiF a b - b) else hiF a b) := by
  refine reck_of ?_
  have e : hart_reckon.f 20 nMulh a b = ((hart_upper.f nMulh a b).bind fun t130 => some t130).bind fun t => some t := by kernel_rfl
  rw [e, bind_id, bind_id]
  have e2 : hart_upper.f nMulh a b = if wrap64 b < 0 then (if wrap64 a < 0 then some (IntKind.u64.wrap (IntKind.u64.wrap (hiF a b - a) - b)) else some (IntKind.u64.wrap (hiF a b - a))) else (if wrap64 a < 0 then some (IntKind.u64.wrap (hiF a b - b)) else some (hiF a b)) := by kernel_rfl
  rw [e2]
  split <;> split <;> rfl
end Go.Proofs.Ytciehejifdbpoaa.Ht

namespace Go.Proofs.Ytciehejifdbpoaa.Ht
open Go.RowKit Go.Maps Go.Proofs.Ytciehejifdbpoaa.Grow Go.Proofs.Ytciehejifdbpoaa.Rv Go.Proofs.Ytciehejifdbpoaa.As Go.Proofs.Ytciehejifdbpoaa.PHartQuotients
open Go.Proofs.YtciehejifdbpoaaW.PrintWords Go.Proofs.YtciehejifdbpoaaW.PrintLast Go.Proofs.YtciehejifdbpoaaW.PrintMore

/-! ### The laws' arithmetic -/
def sx (x : Int) : Int := (x + 2147483648) % 4294967296 - 2147483648
def eF (x : Int) : Int := sx x % 18446744073709551616
theorem ext_val (x : Int) : extF x 32 = eF x := by
  have e : hart_extend.f x 32 = some (IntKind.u64.wrap (wrap64 (IntKind.u64.wrap (x * 4294967296)) / 4294967296)) := by kernel_rfl
  unfold extF
  rw [e]
  show IntKind.u64.wrap (wrap64 (IntKind.u64.wrap (x * 4294967296)) / 4294967296) = eF x
  rw [IntKind.wrap_u64, IntKind.wrap_u64]
  unfold wrap64 eF sx
  omega
theorem eF_of {x y : Int} (h : x % 4294967296 = y % 4294967296) : eF x = eF y := by unfold eF sx; omega
theorem eF_u64 (x : Int) : U64 (eF x) := by unfold eF; exact ⟨Int.emod_nonneg _ (by decide), Int.emod_lt_of_pos _ (by decide)⟩
theorem low_val {x : Int} (hx : U64 x) : lowF x = x % 4294967296 := by
  obtain ⟨n, rfl⟩ := Int.eq_ofNat_of_zero_le hx.1
  unfold lowF
  have := (bits_nat .u64 64 (by decide) wraps_u64 n 4294967295 (by have := hx.2; omega) (by decide)).1
  rw [show (4294967295 : Int) = ((4294967295 : Nat) : Int) by rfl, this]
  have e : n &&& 4294967295 = n % 4294967296 := Nat.and_two_pow_sub_one_eq_mod n 32
  rw [e]
  omega
theorem hi_val {a b : Int} (ha : U64 a) (hb : U64 b) : hiF a b = a * b / 18446744073709551616 := by
  have e : hiF a b = IntKind.u64.wrap ((IntKind.u64.wrap ((IntKind.u64.wrap ((a / 4294967296) * (b / 4294967296))) + ((IntKind.u64.wrap ((IntKind.u64.wrap ((a / 4294967296) * lowF b)) + ((IntKind.u64.wrap (lowF a * lowF b)) / 4294967296))) / 4294967296))) + ((IntKind.u64.wrap ((lowF (IntKind.u64.wrap ((IntKind.u64.wrap ((a / 4294967296) * lowF b)) + ((IntKind.u64.wrap (lowF a * lowF b)) / 4294967296)))) + (IntKind.u64.wrap (lowF a * (b / 4294967296))))) / 4294967296)) := by kernel_rfl
  rw [e, low_val (wrap_range _), low_val ha, low_val hb]
  obtain ⟨a1, ha1⟩ : ∃ a1, a / 4294967296 = a1 := ⟨_, rfl⟩
  obtain ⟨a0, ha0⟩ : ∃ a0, a % 4294967296 = a0 := ⟨_, rfl⟩
  obtain ⟨b1, hb1⟩ : ∃ b1, b / 4294967296 = b1 := ⟨_, rfl⟩
  obtain ⟨b0, hb0⟩ : ∃ b0, b % 4294967296 = b0 := ⟨_, rfl⟩
  have hae : a = a1 * 4294967296 + a0 := by omega
  have hbe : b = b1 * 4294967296 + b0 := by omega
  have a1r : 0 ≤ a1 ∧ a1 ≤ 4294967295 := by have := ha.1; have := ha.2; omega
  have a0r : 0 ≤ a0 ∧ a0 ≤ 4294967295 := by omega
  have b1r : 0 ≤ b1 ∧ b1 ≤ 4294967295 := by have := hb.1; have := hb.2; omega
  have b0r : 0 ≤ b0 ∧ b0 ≤ 4294967295 := by omega
  have hab : a * b = a1 * b1 * 18446744073709551616 + (a1 * b0 + a0 * b1) * 4294967296 + a0 * b0 := by
    rw [hae, hbe]
    simp only [Int.add_mul, Int.mul_add]
    have e1 : a1 * 4294967296 * (b1 * 4294967296) = a1 * b1 * 18446744073709551616 := by
      rw [Int.mul_assoc, Int.mul_left_comm 4294967296 b1 4294967296, ← Int.mul_assoc]; rfl
    have e2 : a1 * 4294967296 * b0 = a1 * b0 * 4294967296 := by rw [Int.mul_right_comm]
    have e3 : a0 * (b1 * 4294967296) = a0 * b1 * 4294967296 := by rw [Int.mul_assoc]
    rw [e1, e2, e3]
    omega
  rw [ha1, ha0, hb1, hb0, hab]
  have pr : ∀ x y : Int, 0 ≤ x ∧ x ≤ 4294967295 → 0 ≤ y ∧ y ≤ 4294967295 → 0 ≤ x * y ∧ x * y ≤ 18446744065119617025 := fun x y hx hy =>
    ⟨Int.mul_nonneg hx.1 hy.1, Int.le_trans (Int.mul_le_mul hx.2 hy.2 hy.1 (by decide)) (by decide)⟩
  have p1 := pr _ _ a1r b1r
  have p2 := pr _ _ a1r b0r
  have p3 := pr _ _ a0r b1r
  have p4 := pr _ _ a0r b0r
  clear hae hbe hab ha hb e ha1 ha0 hb1 hb0 a1r a0r b1r b0r pr
  generalize a1 * b1 = p at *
  generalize a1 * b0 = q at *
  generalize a0 * b1 = r at *
  generalize a0 * b0 = s at *
  simp only [IntKind.wrap_u64]
  omega

/-! ### What the laws' programs leave in a register -/
theorem ran_line {w : World} {L cap n : Nat} (l : List OpI) (hL : w.heap[L]? = some (.cells (l.flatMap OpI.cells).toArray 24 (0, 0))) (hl0 : 0 < l.length) (hl : l.length < 1000) {bs : List Int} (he : encB l = some bs) (hx : ∀ x ∈ l, Plain x) {a b : Int} (ha : U64 a) (hb : U64 b) (reg : Int) (hn : l.length = n) :
    Calls Try.prog 36 #[.slice (some ⟨L, 0, none⟩) n cap, .int .u64 a, .int .u64 b, .int .i64 reg] w fun e w' => e = .returned (.tuple #[.int .u64 ((lineF l (ranH bs a b)).reg reg), .bool true]) ∧ Below w.heap.size w w' := by
  subst hn
  have hm : (ranH bs a b).mem = progM 0 bs := by unfold ranH; rw [put_mem, put_mem]; rfl
  have hp : (ranH bs a b).pc = 0 + 4 * ((0 : Nat) : Int) := by unfold ranH; rw [put_pc, put_pc]; rfl
  have h := run_line he (by omega) (by decide) (by decide) (by decide) hx l.length 0 (ranH bs a b) l.length (by omega) (Nat.le_refl _) hm hp
  rw [Int.zero_add, List.drop_zero] at h
  exact ran_calls l hL hl0 hl he ha hb reg h.1 h.2
end Go.Proofs.Ytciehejifdbpoaa.Ht
end
section
set_option linter.unusedSimpArgs false
set_option linter.unusedVariables false
namespace Go.Proofs.Ytciehejifdbpoaa.Ht
open Go.RowKit Go.Maps Go.Proofs.Ytciehejifdbpoaa.Grow Go.Proofs.Ytciehejifdbpoaa.Rv Go.Proofs.Ytciehejifdbpoaa.As Go.Proofs.Ytciehejifdbpoaa.PHartQuotients
open Go.Proofs.YtciehejifdbpoaaW.PrintWords Go.Proofs.YtciehejifdbpoaaW.PrintLast Go.Proofs.YtciehejifdbpoaaW.PrintMore

def wkL : List OpI := [⟨⟨#[97, 100, 100, 105]⟩, 1, 0, 0, -1⟩, ⟨⟨#[115, 114, 108, 105]⟩, 1, 1, 0, 60⟩]
theorem wk_enc : encB wkL = some [147, 0, 240, 255, 147, 208, 192, 3] := by kernel_rfl
theorem wk_reg : (lineF wkL (ranH [147, 0, 240, 255, 147, 208, 192, 3] 0 0)).reg 1 = 15 := by kernel_rfl
theorem wk_plain : ∀ x ∈ wkL, Plain x := by
  intro x hx
  simp only [wkL, List.mem_cons, List.not_mem_nil, or_false] at hx
  rcases hx with rfl | rfl <;> exact .inr (by kernel_rfl)
set_option maxHeartbeats 8000000 in
set_option maxRecDepth 100000 in
theorem hworks_calls (w : World) : Calls Try.prog 35 #[] w fun e w' => e = .returned (.bool true) ∧ Below w.heap.size w w' := by
  go_enter Try.func35, Try.ntmps35
  go_wp2_with fail
  have RC := ran_line (w := w.alloc (.cells (wkL.flatMap OpI.cells).toArray 24)) (L := w.heap.size) (cap := 2) wkL (heap_alloc_last _ _) (by decide) (by decide) wk_enc wk_plain (a := 0) (b := 0) ⟨by decide, by decide⟩ ⟨by decide, by decide⟩ 1 rfl
  rw [wk_reg] at RC
  refine RC.mono ?_
  rintro e w1 ⟨rfl, hb1⟩
  have B1 := Aside0.mk ((below_alloc (Below.refl w.heap.size w) (.cells (wkL.flatMap OpI.cells).toArray 24)).trans (hb1.mono (below_alloc (Below.refl w.heap.size w) _).size))
  clear RC hb1
  go_wp2
  go_ret
  exact ⟨by simp, B1.out⟩

end Go.Proofs.Ytciehejifdbpoaa.Ht
end
section
set_option linter.unusedSimpArgs false
set_option linter.unusedVariables false
namespace Go.Proofs.Ytciehejifdbpoaa.Ht
open Go.RowKit Go.Maps Go.Proofs.Ytciehejifdbpoaa.Grow Go.Proofs.Ytciehejifdbpoaa.Rv Go.Proofs.Ytciehejifdbpoaa.As Go.Proofs.Ytciehejifdbpoaa.PHartQuotients
open Go.Proofs.YtciehejifdbpoaaW.PrintWords Go.Proofs.YtciehejifdbpoaaW.PrintLast Go.Proofs.YtciehejifdbpoaaW.PrintMore

/-! ### A machine as the law says it -/
structure HowS where
  ws : List Int
  data : ByteArray
  regs : List Int
def howC (wv : Value) (H : HowS) : Array Value := (wv :: .string H.data :: H.regs.map (Value.int .u64)).toArray
/-- The words lie there. -/
structure WordsAt (w : World) (wv : Value) (ws : List Int) : Prop where
  form : ∃ a cap, wv = .slice a ws.length cap
  cells : 0 < ws.length → ∀ a cap, wv = .slice (some a) ws.length cap → a.spot = none ∧ a.block < w.heap.size ∧ ∀ i, i < ws.length → w.cell? ⟨a.block, a.off + i, none⟩ = some (.int .u32 (ws.getD i 0))
  some_ : 0 < ws.length → ∃ a cap, wv = .slice (some a) ws.length cap
  u32 : ∀ x ∈ ws, U32 x
theorem WordsAt.below {w w' : World} {wv : Value} {ws : List Int} (h : WordsAt w wv ws) (hb : Below w.heap.size w w') : WordsAt w' wv ws :=
  ⟨h.form, fun hp a cap e => by
    obtain ⟨h1, h2, h3⟩ := h.cells hp a cap e
    exact ⟨h1, Nat.lt_of_lt_of_le h2 hb.size, fun i hi => (hb.cell (show (⟨a.block, a.off + i, none⟩ : Addr).block < _ from h2)).trans (h3 i hi)⟩, h.some_, h.u32⟩
/-- The bytes of words. -/
def wordsB (ws : List Int) : List Int := ws.flatMap encB.wordB
theorem wordsB_len (ws : List Int) : (wordsB ws).length = 4 * ws.length := by
  induction ws with
  | nil => rfl
  | cons x xs ih => show (encB.wordB x ++ wordsB xs).length = _; rw [List.length_append, ih]; simp [encB.wordB]; omega
theorem wordsB_take {ws : List Int} {k : Nat} (hk : k < ws.length) : wordsB (ws.take (k + 1)) = wordsB (ws.take k) ++ encB.wordB (ws.getD k 0) := by
  unfold wordsB
  rw [List.take_succ_eq_append_getElem hk, List.flatMap_append, List.getD_eq_getElem?_getD, List.getElem?_eq_getElem hk]
  simp
def regV (base : Int) (s : ByteArray) (rights : Int) : List Value := [.int .u64 base, .string s, .int .i64 rights]
theorem row_tag5 {w : World} {B n g : Nat} {v : Value} {xs : List Value} {c : Array Value} (h : w.ownsRow B 5 1 v n xs) (hg : w.heap[g]? = some (.cells c 75 (0, 0))) : some g ≠ v.ownBlock := by
  intro e
  rcases h.2 with ⟨rfl, _⟩ | ⟨q, cap, cur, rfl, _, hh, _⟩
  · cases e
  · cases e
    rw [hg] at hh; cases hh
set_option maxHeartbeats 8000000 in
set_option maxRecDepth 100000 in
theorem regions_calls {w : World} {wv : Value} {H : HowS} (hw : WordsAt w wv H.ws) (h0 : 0 < H.ws.length) (h1 : H.ws.length ≤ 100) :
    Calls Try.prog 75 #[.agg (howC wv H)] w fun e w' => ∃ g, e = .returned (.slice (some ⟨g, 0, none⟩) 2 2) ∧ w.heap.size ≤ g ∧ w'.heap[g]? = some (.cells (regV 4096 (strOf (wordsB H.ws)) 4 ++ regV 8192 H.data 3).toArray 92 (0, 0)) ∧ Below w.heap.size w w' := by
  obtain ⟨⟨wb, wo, ws⟩, cap, rfl⟩ := hw.some_ h0
  obtain ⟨rfl, hlt, hcell⟩ := hw.cells h0 _ _ rfl
  obtain ⟨hc, hhc⟩ : ∃ hc, howC (.slice (some ⟨wb, wo, none⟩) H.ws.length cap) H = hc := ⟨_, rfl⟩
  have a0 : hc[0]? = some (.slice (some ⟨wb, wo, none⟩) H.ws.length cap) := by rw [← hhc]; rfl
  have a1 : hc[1]? = some (.string H.data) := by rw [← hhc]; rfl
  rw [hhc]
  obtain ⟨n, hn⟩ : ∃ n, H.ws.length = n := ⟨_, rfl⟩
  rw [hn] at a0 h0 h1 hcell
  obtain ⟨D, hD⟩ : ∃ D, H.data = D := ⟨_, rfl⟩
  rw [hD] at a1 ⊢
  obtain ⟨i0, hi, hz0, hz1, hz2⟩ := info_parts Ht.info5
  have hbx := heap_alloc_last w (.cells hc 75)
  have bx := blk_cell hbx
  have b0 := (bx 0).trans a0
  have b1 := (bx 1).trans a1
  have HB0 := below_alloc (Below.refl w.heap.size w) (.cells hc 75)
  have HC := Aside0.mk hcell
  have HW0 := Aside0.mk hw.u32
  clear hhc hw bx
  obtain ⟨w2, hrun, hown, hgr⟩ := run_make_own (P := Try.prog) (w.alloc (.cells hc 75)) w.heap.size 130 5 i0 (.int .u8 0) 1 Ht.under130 hi hz0 hz1 .i64 .i64 (4 * n) (by rw [hz2]; omega) (by unfold maxLen; omega) (by simp)
  rw [show ((4 * n : Nat) : Int) = 4 * (n : Int) by omega] at hrun
  have hb2 : Below w.heap.size w w2 := HB0.trans ⟨hgr.os, hgr.tape, hgr.output, hgr.size, fun k hk => hgr.block k (by simp; omega) (by simp)⟩
  have h2x := (hgr.block w.heap.size (by simp) (by simp)).trans hbx
  have hz1' := blk_lt h2x
  have bx2 := blk_cell h2x
  have e0 := (bx2 0).trans a0
  have e1 := (bx2 1).trans a1
  have OWN := Aside0.mk (show w2.ownsRow w.heap.size 5 1 (.slice (some ⟨w.heap.size + 1, 0, none⟩) 0 (4 * n)) 0 [] by simpa using hown)
  have HB2 := Aside0.mk hb2
  have HX2 := Aside0.mk h2x
  have A1 := Aside0.mk a1
  have HLT := Aside0.mk hlt
  clear hown hgr hb2 h2x HB0 bx2 hbx a0 a1
  go_enter Try.func75, Try.ntmps75
  go_wp2_with fail
  go_loopw [3, 5, 14] (fun v3 _ v14 wr => ∃ k : Nat, k ≤ n ∧ v14 = .int .i64 k ∧ Aside0 (wr.ownsRow w.heap.size 5 1 v3 (4 * k) ((wordsB (H.ws.take k)).map (Value.int .u8)) ∧ Below w.heap.size w wr ∧ wr.heap[w.heap.size]? = some (.cells hc 75 (0, 0)))) (fun _ _ v14 _ => n - (intOf v14).toNat)
  case atStart => exact ⟨0, by omega, rfl, ⟨OWN.out, HB2.out, HX2.out⟩⟩
  case round =>
    obtain ⟨k, hk, rfl, hx⟩ := hrel
    clear b0 b1 e0 e1 hrun
    by_cases hlt2 : k < n
    · obtain ⟨ho, hbw, hxw⟩ := hx.out
      have c := (hbw.cell (show (⟨wb, wo + k, none⟩ : Addr).block < _ from HLT.out)).trans (HC.out k hlt2)
      have zc := Nat.lt_of_lt_of_le HLT.out hbw.size
      have hu : U32 (H.ws.getD k 0) := by
        rw [List.getD_eq_getElem?_getD, List.getElem?_eq_getElem (by omega)]
        exact HW0.out _ (List.getElem_mem _)
      have TK := Aside0.mk (wordsB_take (ws := H.ws) (k := k) (by omega))
      obtain ⟨W, hW⟩ : ∃ W, H.ws.getD k 0 = W := ⟨_, rfl⟩
      rw [hW] at c hu TK
      have ne3 := row_ne ho
      have OWN3 := Aside0.mk ho
      have B3 := Aside0.mk hbw
      have X3 := Aside0.mk hxw
      have hbs := hbw.size
      have k0 : (0 : Int) ≤ (k : Int) := by omega
      clear hW ho hbw hxw
      have lk := wordsB_len (H.ws.take k)
      go_wp2_with (first | (at_builtin; refine wpList_append_own _ rfl (.tmp 18) (.tmp 30) 130 rfl w.heap.size 5 i0 (.int .u8 0) 1 1 Ht.under130 hi hz0 hz1 hz2 rfl (by decide) _ (4 * k) _ rfl (OWN3.out.alloc _) ⟨wr.heap.size, 0, none⟩ 4 4 [.int .u8 (W % 256), .int .u8 (W / 256 % 256), .int .u8 (W / 65536 % 256), .int .u8 (W / 16777216 % 256)] rfl rfl (World.news_of_block (cs := #[.int .u8 (W % 256), .int .u8 (W / 256 % 256), .int .u8 (W / 65536 % 256), .int .u8 (W / 16777216 % 256)]) (t := 5) (fr := (0, 0)) (heap_alloc_last wr _)) four_one (by unfold maxLen; omega) (by omega) (by simp; omega) ?_; intro v' w5 hown' hgrow _; have OWN5 := Aside0.mk hown'; have X5 := Aside0.mk ((hgrow.block w.heap.size (by have := blk_lt X3.out; simp; omega) (row_tag5 OWN3.out X3.out)).trans (blk_alloc X3.out _)); have B5 := Aside0.mk ((below_alloc B3.out _).grown hgrow (by simp; omega) (own_ge OWN3.out)); clear hown' hgrow))
      go_roundw
      case rel => exact ⟨k + 1, by omega, by go_num, ⟨by rw [TK.out, List.map_append]; exact OWN5.out, B5.out, X5.out⟩⟩
      case measure => simp [intOf]; omega
    · obtain rfl : k = n := by omega
      obtain ⟨ho, hbw, hxw⟩ := hx.out
      have htk : H.ws.take k = H.ws := List.take_of_length_le (by omega)
      rw [htk] at ho
      have lk := wordsB_len H.ws
      have hcv := own_string ho (by rw [lk, hn])
      have B3 := Aside0.mk hbw
      have b1 := (blk_cell hxw 1).trans A1.out
      have zx := blk_lt hxw
      have hbs := hbw.size
      clear ho hxw hx hbw
      go_wp2
      refine bodyPost_ret (v := .slice (some ⟨wr.heap.size, 0, none⟩) 2 2) (by simp [results, Try.results75, go_sem]) rfl ⟨_, rfl, hbs, ?_, below_alloc B3.out _⟩
      exact heap_alloc_last _ _
end Go.Proofs.Ytciehejifdbpoaa.Ht

set_option linter.unusedSimpArgs false
set_option linter.unusedVariables false
namespace Go.Proofs.Ytciehejifdbpoaa.Ht
open Go.RowKit Go.Maps Go.Proofs.Ytciehejifdbpoaa.Grow Go.Proofs.Ytciehejifdbpoaa.Rv Go.Proofs.Ytciehejifdbpoaa.As Go.Proofs.Ytciehejifdbpoaa.PHartQuotients
open Go.Proofs.YtciehejifdbpoaaW.PrintWords Go.Proofs.YtciehejifdbpoaaW.PrintLast Go.Proofs.YtciehejifdbpoaaW.PrintMore

def stC (mv : Value) (pc : Int) (regs : List Int) : Array Value := (mv :: .int .u64 pc :: regs.map (Value.int .u64)).toArray
theorem stC_size (mv : Value) (pc : Int) {regs : List Int} (h : regs.length = 32) : (stC mv pc regs).size = 34 := by simp [stC, h]
abbrev zC : Array Value := stC (.slice none 0 0) 0 (List.replicate 32 0)
theorem info80 : (Try.prog.info? 80).map (·.size) = some 34 := by kernel_rfl
theorem info75 : (Try.prog.info? 75).map (·.size) = some 34 := by kernel_rfl
theorem al80 (w : World) : (Instr.alloc 80 true (.tuple #[])).run Try.prog w = .ok (.pointer (some ⟨w.heap.size, 0, none⟩)) (w.alloc (.cells zC 80)) := by kernel_rfl
theorem wpList_alloc80 {w : World} {ops : Array Oper} {rest : List Oper} {o : Oper} {a : Act} {Q : Exit → Act → World → Prop} (hgd : o.guard = none) (ho : o.op = .alloc 80)
    (h : wpList Try.prog ops Q rest (a.put o.dst (.pointer (some ⟨w.heap.size, 0, none⟩))) (w.alloc (.cells zC 80))) : wpList Try.prog ops Q (o :: rest) a w := by
  refine wpList_plain hgd fun K hK => ?_
  unfold Oper.wp execOp
  simp only [ho, Sem.run_bind, al80, Sem.run_pure, Result.andThen_ok]
  exact hK _ _ h
theorem wpList_store80 {w : World} {ops : Array Oper} {rest : List Oper} {o : Oper} {a : Act} {Q : Exit → Act → World → Prop} (hgd : o.guard = none) (x y : Operand) (ho : o.op = .store 80 x y)
    (g : Nat) (cells old : Array Value) (hx : a.eval x = .pointer (some ⟨g, 0, none⟩)) (hy : a.eval y = .agg cells) (hg : w.heap[g]? = some (.cells old 80 (0, 0))) (hc : cells.size = 34) (hold : old.size = 34) (h1 : cells.all (·.oneCell') = true)
    (h : wpList Try.prog ops Q rest (a.put o.dst undef) (w.setRow g cells)) : wpList Try.prog ops Q (o :: rest) a w :=
  wpList_store_row hgd 80 x y ho g cells hx hy 80 old hg (by rw [info80, hc]) (by rw [hold, hc]) h1 h
theorem wpList_build80 {w : World} {ops : Array Oper} {rest : List Oper} {o : Oper} {a : Act} {Q : Exit → Act → World → Prop} (hgd : o.guard = none) (ho : o.op = .build 80 #[])
    (h : wpList Try.prog ops Q rest (a.put o.dst (.agg zC)) w) : wpList Try.prog ops Q (o :: rest) a w := by
  refine wpList_plain hgd fun K hK => ?_
  have hb : ∀ w, (Instr.build 80 (Array.map (fun (x : Nat × Operand) => (x.1, a.eval x.2)) #[])).run Try.prog w = .ok (.agg zC) w := fun w => by kernel_rfl
  unfold Oper.wp execOp
  simp only [ho, Sem.run_bind, hb, Sem.run_pure, Result.andThen_ok]
  exact hK _ _ h
theorem under80 : ∃ fs, Try.prog.underlying 80 = some (.struct fs) := ⟨_, Try.underlying80⟩
theorem under75 : ∃ fs, Try.prog.underlying 75 = some (.struct fs) := ⟨_, Try.underlying75⟩
theorem res37 {tmps : Array Value} {w : World} {g : Nat} {cs : Array Value} {v2 v3 : Value} (h2 : tmps.getD 2 undef = v2) (h3 : tmps.getD 3 undef = v3) (h4 : tmps.getD 4 undef = .pointer (some ⟨g, 0, none⟩)) (hg : w.heap[g]? = some (.cells cs 80 (0, 0))) (hs : cs.size = 34) :
    (results Try.f37 tmps).run Try.prog w = .ok (.tuple #[v2, v3, .agg cs]) w := by
  obtain ⟨fs, hu⟩ := under80
  have h2' : tmps[2]?.getD undef = v2 := by simpa using h2
  have h3' : tmps[3]?.getD undef = v3 := by simpa using h3
  have h4' : tmps[4]?.getD undef = .pointer (some ⟨g, 0, none⟩) := by simpa using h4
  have hl := run_loadVar_row (P := Try.prog) w g 80 80 cs (0, 0) _ hg hu rfl (by rw [info80, hs])
  simp [results, Try.results37, h2', h3', h4', asAddr, hl]
set_option maxHeartbeats 8000000 in
set_option maxRecDepth 100000 in
theorem made_bad {w : World} {wv : Value} {H : HowS} (hw : WordsAt w wv H.ws) (hbad : H.ws.length = 0 ∨ 100 < H.ws.length ∨ H.data.size = 0 ∨ 500 < H.data.size) :
    Calls Try.prog 37 #[.agg (howC wv H)] w fun e w' => e = .returned (.tuple #[.pointer none, .pointer none, .agg (stC (.slice none 0 0) 0 (List.replicate 32 0))]) ∧ Below w.heap.size w w' := by
  obtain ⟨wa, cap, rfl⟩ := hw.form
  obtain ⟨hc, hhc⟩ : ∃ hc, howC (.slice wa H.ws.length cap) H = hc := ⟨_, rfl⟩
  have a0 : hc[0]? = some (.slice wa H.ws.length cap) := by rw [← hhc]; rfl
  have a1 : hc[1]? = some (.string H.data) := by rw [← hhc]; rfl
  rw [hhc]
  have hbx := heap_alloc_last w (.cells hc 75)
  have b0 : ∀ o, ((w.alloc (.cells hc 75)).alloc o).cell? ⟨w.heap.size, 0, none⟩ = some (.slice wa H.ws.length cap) := fun o => (blk_cell (blk_alloc hbx o) 0).trans a0
  have b1 : ∀ o, ((w.alloc (.cells hc 75)).alloc o).cell? ⟨w.heap.size, 1, none⟩ = some (.string H.data) := fun o => (blk_cell (blk_alloc hbx o) 1).trans a1
  obtain ⟨N, hN⟩ : ∃ N, H.ws.length = N := ⟨_, rfl⟩
  obtain ⟨M, hM⟩ : ∃ M, H.data.size = M := ⟨_, rfl⟩
  rw [hN] at b0 hbad
  rw [hM] at hbad
  have hcs : N = 0 ∨ (0 < N ∧ 100 < N) ∨ (0 < N ∧ N ≤ 100 ∧ M = 0) ∨ (0 < N ∧ N ≤ 100 ∧ 0 < M ∧ 500 < M) := by omega
  have zx : w.heap.size < (w.alloc (.cells hc 75)).heap.size := blk_lt hbx
  clear hhc hw a0 a1 hbx
  have zs : zC.size = 34 := stC_size _ _ (by simp)
  have zo : zC.all (·.oneCell') = true := by kernel_rfl
  have hz80 := heap_alloc_at (w.alloc (.cells hc 75)) (.cells zC 80) (n := w.heap.size + 1) (by simp)
  clear hbad hN
  go_enter Try.func37, Try.ntmps37
  rcases hcs with rfl | ⟨q1, q2⟩ | ⟨q1, q2, rfl⟩ | ⟨q1, q2, q3, q4⟩
  all_goals
    go_wp2_with (first | (refine wpList_alloc80 rfl rfl ?_) | (refine wpList_build80 rfl rfl ?_) | (refine wpList_store80 rfl _ _ rfl (w.heap.size + 1) zC zC rfl rfl hz80 zs zs zo ?_))
    have hW := setRow_heap _ (w.heap.size + 1) _ zC 80 (0, 0) hz80
    have BW : Below w.heap.size w (((w.alloc (.cells hc 75)).alloc (.cells zC 80)).setRow (w.heap.size + 1) zC) := below_setRow (below_alloc (below_alloc (Below.refl _ _) _) _) (by omega) _
    refine bodyPost_ret (v := .tuple #[.pointer none, .pointer none, .agg zC]) (res37 (g := w.heap.size + 1) rfl rfl rfl hW zs) rfl ⟨rfl, BW⟩
end Go.Proofs.Ytciehejifdbpoaa.Ht

set_option linter.unusedSimpArgs false
set_option linter.unusedVariables false
namespace Go.Proofs.Ytciehejifdbpoaa.Ht
open Go.RowKit Go.Maps Go.Proofs.Ytciehejifdbpoaa.Grow Go.Proofs.Ytciehejifdbpoaa.Rv Go.Proofs.Ytciehejifdbpoaa.As Go.Proofs.Ytciehejifdbpoaa.PHartQuotients
open Go.Proofs.YtciehejifdbpoaaW.PrintWords Go.Proofs.YtciehejifdbpoaaW.PrintLast Go.Proofs.YtciehejifdbpoaaW.PrintMore

theorem wpList_load75 {w : World} {ops : Array Oper} {rest : List Oper} {o : Oper} {a : Act} {Q : Exit → Act → World → Prop} (hgd : o.guard = none) (x : Operand) (ho : o.op = .load 75 x)
    (g : Nat) (cs : Array Value) (hx : a.eval x = .pointer (some ⟨g, 0, none⟩)) (hg : w.heap[g]? = some (.cells cs 75 (0, 0))) (hc : cs.size = 34)
    (h : wpList Try.prog ops Q rest (a.put o.dst (.agg cs)) w) : wpList Try.prog ops Q (o :: rest) a w := by
  obtain ⟨fs, hu⟩ := under75
  exact wpList_load_row hgd 75 x ho g hx 75 cs (0, 0) _ hg hu rfl (by rw [info75, hc]) h
theorem wpList_build80b {w : World} {ops : Array Oper} {rest : List Oper} {o : Oper} {a : Act} {Q : Exit → Act → World → Prop} (hgd : o.guard = none) (x : Operand) (pc : Operand) (ho : o.op = .build 80 #[(0, x), (1, pc)]) (g : Nat) (R : List Int) (hR : R = List.replicate 32 0)
    (hx : a.eval x = .slice (some ⟨g, 0, none⟩) 2 2) (hp : a.eval pc = .int .u64 4096)
    (h : wpList Try.prog ops Q rest (a.put o.dst (.agg (stC (.slice (some ⟨g, 0, none⟩) 2 2) 4096 R))) w) : wpList Try.prog ops Q (o :: rest) a w := by
  subst hR
  refine wpList_plain hgd fun K hK => ?_
  have hb : ∀ w, (Instr.build 80 #[(0, .slice (some ⟨g, 0, none⟩) 2 2), (1, .int .u64 4096)]).run Try.prog w = .ok (.agg (stC (.slice (some ⟨g, 0, none⟩) 2 2) 4096 (List.replicate 32 0))) w := fun w => by kernel_rfl
  unfold Oper.wp execOp
  simp only [ho, List.map_toArray, List.map_cons, List.map_nil, hx, hp, Sem.run_bind, hb, Sem.run_pure, Result.andThen_ok]
  exact hK _ _ h
/-- The registers that are set, up to one. -/
def partR (regs : List Int) (i : Nat) : List Int := (List.range 32).map fun j => if 1 ≤ j ∧ j < i then regs.getD j 0 else 0
theorem partR_len (regs : List Int) (i : Nat) : (partR regs i).length = 32 := by simp [partR]
theorem partR_1 (regs : List Int) : partR regs 1 = List.replicate 32 0 := by
  apply List.ext_getElem
  · simp [partR]
  · intro j h1 h2
    simp only [partR, List.getElem_map, List.getElem_range, List.getElem_replicate]
    rw [if_neg (by omega)]
theorem partR_set (regs : List Int) (i : Nat) (h1 : 1 ≤ i) (h2 : i < 32) : (partR regs i).set i (regs.getD i 0) = partR regs (i + 1) := by
  apply List.ext_getElem
  · simp [partR]
  · intro j h3 h4
    rw [List.getElem_set]
    simp only [partR, List.getElem_map, List.getElem_range]
    by_cases e : i = j
    · subst e; rw [if_pos rfl, if_pos (by omega)]
    · rw [if_neg e]
      by_cases hj : 1 ≤ j ∧ j < i
      · rw [if_pos hj, if_pos (by omega)]
      · rw [if_neg hj, if_neg (by omega)]
def regsL (H : HowS) : List RegIn := [⟨4096, strOf (wordsB H.ws), 4⟩, ⟨8192, H.data, 3⟩]
def madeS (H : HowS) (i : Nat) : HartS := ⟨memOf (regsL H), 4096, partR H.regs i⟩
structure HowOk (H : HowS) : Prop where
  w0 : 0 < H.ws.length
  w1 : H.ws.length ≤ 100
  d0 : 0 < H.data.size
  d1 : H.data.size ≤ 500
theorem regsL_ok {H : HowS} (h : HowOk H) : RegsOk (regsL H) := by
  have hl : (strOf (wordsB H.ws)).size = 4 * H.ws.length := by rw [strOf_size, wordsB_len]
  obtain ⟨h1, h2, h3, h4⟩ := h
  intro k hk
  have : k = 0 ∨ k = 1 := by simp [regsL] at hk; omega
  rcases this with rfl | rfl
  · refine ⟨?_, ?_, by show (0 : Int) ≤ 4; decide, by show (4 : Int) ≤ 7; decide, by show (0 : Int) ≤ 4096; decide, by show (0 : Int) ≤ 4096; decide, ?_⟩
    · show 0 < (strOf (wordsB H.ws)).size; omega
    · show (strOf (wordsB H.ws)).size < _; omega
    · show (4096 : Int) + ((strOf (wordsB H.ws)).size : Int) ≤ _; omega
  · refine ⟨h3, ?_, by show (0 : Int) ≤ 3; decide, by show (3 : Int) ≤ 7; decide, by show (0 : Int) ≤ 8192; decide, ?_, ?_⟩
    · show H.data.size < _; omega
    · show (4096 : Int) + ((strOf (wordsB H.ws)).size : Int) ≤ 8192; omega
    · show (8192 : Int) + (H.data.size : Int) ≤ _; omega
theorem madeS_put (H : HowS) (i : Nat) (h1 : 1 ≤ i) (h2 : i < 32) : (madeS H i).put (i : Int) (H.regs.getD i 0) = madeS H (i + 1) := by
  unfold HartS.put
  rw [if_pos (by omega)]
  unfold madeS
  simp only [Int.toNat_natCast, partR_set H.regs i h1 h2]
theorem howC_size (wv : Value) {H : HowS} (h : H.regs.length = 32) : (howC wv H).size = 34 := by simp [howC, h]
theorem stC_one (g : Nat) (pc : Int) (regs : List Int) : (stC (.slice (some ⟨g, 0, none⟩) 2 2) pc regs).all (·.oneCell') = true := by
  rw [Array.all_eq_true_iff_forall_mem]
  intro v hv
  simp only [stC, List.mem_toArray, List.mem_cons, List.mem_map] at hv
  rcases hv with rfl | rfl | ⟨x, _, rfl⟩ <;> rfl
theorem HartIs.types {w : World} {p n : Nat} {B : HB} {S : HartS} (h : HartIs w p B n S) {k : Nat} {cs : Array Value} {t : TypeId} (hk : w.heap[k]? = some (.cells cs t (0, 0))) (h1 : t ≠ 146) (h2 : t ≠ 169) (h3 : t ≠ 5) (h4 : t ≠ 171) :
    k ≠ p ∧ k ≠ B.M ∧ k ≠ B.mp ∧ k ≠ B.q ∧ k ∉ B.gs := by
  obtain ⟨cap, m1⟩ := h.mem.head
  obtain ⟨cur, m2, _⟩ := h.mem.row
  obtain ⟨f, s1, s2⟩ := h.seen
  obtain ⟨es, c, sb⟩ := s1.block
  have hh := h.head
  refine ⟨?_, ?_, ?_, ?_, ?_⟩
  · rintro rfl; rw [hk] at hh; simp at hh; exact h1 hh.2
  · rintro rfl; rw [hk] at sb; simp at sb
  · rintro rfl; rw [hk] at m1; simp at m1; exact h2 m1.2
  · rintro rfl; rw [hk] at m2; simp at m2; exact h4 m2.2
  · intro hg
    obtain ⟨i, hi, rfl⟩ := List.mem_iff_getElem.1 hg
    have mb := h.mem.bytes i (by rw [← h.mem.len]; exact hi) hi
    rw [hk] at mb; simp at mb; exact h3 mb.2
theorem HartIs.notF {w : World} {p n : Nat} {B : HB} {S : HartS} (h : HartIs w p B n S) {k : Nat} {cs : Array Value} {t : TypeId} (hk : w.heap[k]? = some (.cells cs t (0, 0))) (h1 : t ≠ 146) (h2 : t ≠ 169) (h3 : t ≠ 5) (h4 : t ≠ 171) : ¬ HF p B k := by
  obtain ⟨a, b, c, d, e⟩ := h.types hk h1 h2 h3 h4
  rintro (rfl | rfl | rfl | hg)
  · exact a rfl
  · exact b rfl
  · exact c rfl
  · exact e hg
theorem HartIs.setOther {w : World} {p n : Nat} {B : HB} {S : HartS} (h : HartIs w p B n S) {k : Nat} {cs : Array Value} {t : TypeId} (hk : w.heap[k]? = some (.cells cs t (0, 0))) (h1 : t ≠ 146) (h2 : t ≠ 169) (h3 : t ≠ 5) (h4 : t ≠ 171) (o : Nat) (v : Value) : HartIs (w.setCell ⟨k, o, none⟩ v) p B n S := by
  obtain ⟨a, b, c, d, e⟩ := h.types hk h1 h2 h3 h4
  obtain ⟨cap, m1⟩ := h.mem.head
  obtain ⟨cur, m2, m3⟩ := h.mem.row
  obtain ⟨f, s1, s2⟩ := h.seen
  have nb : ∀ j, j ≠ k → (w.setCell ⟨k, o, none⟩ v).heap[j]? = w.heap[j]? := fun j hj => heap_setCell_other _ _ _ _ hj
  refine ⟨(nb _ (Ne.symm a)).trans h.head, h.len, ⟨⟨cap, (nb _ (Ne.symm c)).trans m1⟩, ⟨cur, (nb _ (Ne.symm d)).trans m2, m3⟩, h.mem.len, fun j hj hj' => (nb _ fun e' => e ?_).trans (h.mem.bytes j hj hj')⟩, h.nd, f, s1.kept (nb _ (Ne.symm b)), s2⟩
  rw [← e']; exact List.getElem_mem hj'
theorem HartIs.setRowOther {w : World} {p n : Nat} {B : HB} {S : HartS} (h : HartIs w p B n S) {k : Nat} {cs : Array Value} {t : TypeId} (hk : w.heap[k]? = some (.cells cs t (0, 0))) (h1 : t ≠ 146) (h2 : t ≠ 169) (h3 : t ≠ 5) (h4 : t ≠ 171) (new : Array Value) : HartIs (w.setRow k new) p B n S := by
  obtain ⟨a, b, c, d, e⟩ := h.types hk h1 h2 h3 h4
  obtain ⟨cap, m1⟩ := h.mem.head
  obtain ⟨cur, m2, m3⟩ := h.mem.row
  obtain ⟨f, s1, s2⟩ := h.seen
  have nb : ∀ j, j ≠ k → (w.setRow k new).heap[j]? = w.heap[j]? := fun j hj => setRow_other w k j new hj
  refine ⟨(nb _ (Ne.symm a)).trans h.head, h.len, ⟨⟨cap, (nb _ (Ne.symm c)).trans m1⟩, ⟨cur, (nb _ (Ne.symm d)).trans m2, m3⟩, h.mem.len, fun j hj hj' => (nb _ fun e' => e ?_).trans (h.mem.bytes j hj hj')⟩, h.nd, f, s1.kept (nb _ (Ne.symm b)), s2⟩
  rw [← e']; exact List.getElem_mem hj'
theorem load80 (w : World) (g : Nat) (cs : Array Value) (hg : w.heap[g]? = some (.cells cs 80 (0, 0))) (hs : cs.size = 34) : (Instr.loadAt 80 (.pointer (some ⟨g, 0, none⟩))).run Try.prog w = .ok (.agg cs) w := by
  obtain ⟨fs, hu⟩ := under80
  have hl := run_loadVar_row (P := Try.prog) w g 80 80 cs (0, 0) _ hg hu rfl (by rw [info80, hs])
  simp only [Instr.loadAt, Instr.sureAddr, Sem.run_bind, Sem.run_pure, Result.andThen_ok, hl]
theorem stC_set (mv : Value) (pc : Int) (regs : List Int) (i : Nat) (x : Int) : (stC mv pc regs).setIfInBounds (2 + i) (.int .u64 x) = stC mv pc (regs.set i x) := by
  unfold stC
  rw [Nat.add_comm 2 i]
  simp only [List.setIfInBounds_toArray, List.set_cons_succ, List.map_set]
theorem Keep.at_ {F : Nat → Prop} {w w' : World} (h : Keep F w w') {k : Nat} {o : Obj} (hk : w.heap[k]? = some o) (hF : ¬ F k) : w'.heap[k]? = some o := (h.block k (blk_lt hk) hF).trans hk
set_option maxHeartbeats 8000000 in
set_option maxRecDepth 100000 in
theorem made_good {w : World} {wv : Value} {H : HowS} (hw : WordsAt w wv H.ws) (hok : HowOk H) (hr : H.regs.length = 32) :
    Calls Try.prog 37 #[.agg (howC wv H)] w fun e w' => ∃ p B g, e = .returned (.tuple #[.pointer (some ⟨p, 0, none⟩), .pointer (some ⟨B.mp, 0, none⟩), .agg (stC (.slice (some ⟨g, 0, none⟩) 2 2) 4096 (madeS H 32).regs)]) ∧
      HartIs w' p B 0 (madeS H 32) ∧ (∀ k, HF p B k → w.heap.size ≤ k) ∧ w.heap.size ≤ g ∧ w'.heap[g]? = some (.cells (regV 4096 (strOf (wordsB H.ws)) 4 ++ regV 8192 H.data 3).toArray 92 (0, 0)) ∧ Below w.heap.size w w' := by
  obtain ⟨wa, cap, rfl⟩ := hw.form
  have HW := Aside0.mk hw
  have HOK := Aside0.mk hok
  have h34 := howC_size (.slice wa H.ws.length cap) hr
  obtain ⟨hc, hhc⟩ : ∃ hc, howC (.slice wa H.ws.length cap) H = hc := ⟨_, rfl⟩
  have a0 : hc[0]? = some (.slice wa H.ws.length cap) := by rw [← hhc]; rfl
  have a1 : hc[1]? = some (.string H.data) := by rw [← hhc]; rfl
  have ar : ∀ i, i < 32 → hc[2 + i]? = some (.int .u64 (H.regs.getD i 0)) := fun i hi => by
    rw [← hhc]
    simp [howC, List.getD_eq_getElem?_getD, Nat.add_comm 2 i, List.getElem?_eq_getElem (show i < H.regs.length by omega)]
  have RC0 := Aside0.mk (fun (w9 : World) (hb9 : Below w.heap.size w w9) => regions_calls (hw.below hb9) hok.w0 hok.w1)
  rw [hhc] at h34 RC0
  rw [hhc]
  have hbx := heap_alloc_last w (.cells hc 75)
  have b0 : ∀ o, ((w.alloc (.cells hc 75)).alloc o).cell? ⟨w.heap.size, 0, none⟩ = some (.slice wa H.ws.length cap) := fun o => (blk_cell (blk_alloc hbx o) 0).trans a0
  have b1 : ∀ o, ((w.alloc (.cells hc 75)).alloc o).cell? ⟨w.heap.size, 1, none⟩ = some (.string H.data) := fun o => (blk_cell (blk_alloc hbx o) 1).trans a1
  obtain ⟨w0, w1, d0, d1⟩ := hok
  obtain ⟨N, hN⟩ : ∃ N, H.ws.length = N := ⟨_, rfl⟩
  obtain ⟨M, hM⟩ : ∃ M, H.data.size = M := ⟨_, rfl⟩
  rw [hN] at b0 w0 w1
  rw [hM] at d0 d1
  have zx : w.heap.size < (w.alloc (.cells hc 75)).heap.size := blk_lt hbx
  have zs : zC.size = 34 := stC_size _ _ (by simp)
  have zo : zC.all (·.oneCell') = true := by kernel_rfl
  have hz80 := heap_alloc_at (w.alloc (.cells hc 75)) (.cells zC 80) (n := w.heap.size + 1) (by simp)
  have hx2 := blk_alloc hbx (.cells zC 80)
  have AR := Aside0.mk ar
  clear hhc hw a0 a1 hN ar
  have e1 : ((N : Int) == 0) = false := beq_eq_false_iff_ne.2 (by omega)
  have e2 : ¬ (100 < (N : Int)) := by omega
  have e3 : ((M : Int) == 0) = false := beq_eq_false_iff_ne.2 (by omega)
  have e4 : ¬ (500 < (M : Int)) := by omega
  have e5 : (N == 0) = false := beq_eq_false_iff_ne.2 (by omega)
  have e6 : (M == 0) = false := beq_eq_false_iff_ne.2 (by omega)
  go_enter Try.func37, Try.ntmps37
  go_wp2_with (first | (refine wpList_alloc80 rfl rfl ?_) | (refine wpList_load75 rfl _ rfl w.heap.size hc rfl hx2 h34 ?_))
  have B2 := below_alloc (below_alloc (Below.refl w.heap.size w) (.cells hc 75)) (.cells zC 80)
  generalize (w.alloc (.cells hc 75)).alloc (.cells zC 80) = w2 at *
  refine (RC0.out w2 B2).mono ?_
  rintro e w3 ⟨g, rfl, hg0, hgc, hb3⟩
  have B3 := Aside0.mk (B2.trans (hb3.mono B2.size))
  have hxx := blk_below hx2 hb3
  have hzz := blk_below hz80 hb3
  have HXX := Aside0.mk hxx
  have HZZ := Aside0.mk hzz
  have hzg := blk_lt hgc
  have RO := Aside0.mk (regsL_ok HOK.out)
  have MC := Aside0.mk (MemNew_calls (w := w3) (L := g) (off := 0) (cap := 2) (regsL H) RO.out (by simp [regsL])
    (fun i h => by
      have hi : i = 0 ∨ i = 1 := by simp [regsL] at h; omega
      have c := blk_cell hgc
      rcases hi with rfl | rfl
      · exact ⟨c 0, c 1, c 2⟩
      · exact ⟨c 3, c 4, c 5⟩) hzg)
  clear hb3 hgc hxx hzz hx2 hz80 b0 b1 zx hbx
  go_wp2_with fail
  refine MC.out.mono ?_
  rintro e w4 ⟨⟨mp, pv, gs, rfl, hmp, hS⟩, hb4⟩
  obtain ⟨q, hM2, hq⟩ := hS.mem (by simp [regsL])
  have NC := Aside0.mk (New_calls hM2 hS.nd 4096)
  have hge := fun g hg => (hS.ge g hg).1
  have b3s := B3.out.size
  have B4 := Aside0.mk (B3.out.trans (hb4.mono b3s))
  have b4s := B4.out.size
  have HX4 := Aside0.mk (blk_below HXX.out hb4)
  have HZ4 := Aside0.mk (blk_below HZZ.out hb4)
  clear hS hM2 MC hb4 HXX HZZ
  go_wp2_with fail
  refine NC.out.mono ?_
  rintro e w5 ⟨rfl, h5, hb5⟩
  have HFB : ∀ k, HF (w4.heap.size + 1) ⟨mp, q, w4.heap.size, gs⟩ k → w.heap.size ≤ k := by
    rintro k (rfl | rfl | rfl | hk)
    · omega
    · exact b4s
    · exact Nat.le_trans b3s hmp
    · exact Nat.le_trans b3s (hge k hk)
  have HFB := Aside0.mk HFB
  have B5 := Aside0.mk (B4.out.trans (hb5.mono b4s))
  have b5s := B5.out.size
  have hx5 := blk_below HX4.out hb5
  have hz5 := blk_below HZ4.out hb5
  have H5 := Aside0.mk (show HartIs w5 (w4.heap.size + 1) ⟨mp, q, w4.heap.size, gs⟩ 0 (madeS H 1) by unfold madeS; rw [partR_1]; exact h5)
  clear NC hge hb5 h5 HX4 HZ4
  go_wp2_with (first | (refine wpList_load75 rfl _ rfl w.heap.size hc rfl hx5 h34 ?_))
  refine (RC0.out w5 B5.out).mono ?_
  rintro e w6 ⟨g6, rfl, hg6, hgc6, hb6⟩
  have b6s := Nat.le_trans b5s hb6.size
  have B6 := Aside0.mk (B5.out.trans (hb6.mono b5s))
  have hx6 := blk_below hx5 hb6
  have hz6 := blk_below hz5 hb6
  have H6 := Aside0.mk (H5.out.below hb6)
  have hal := heap_alloc_last w6 (.cells zC 80)
  obtain ⟨R1, hR1⟩ : ∃ R1, partR H.regs 1 = R1 := ⟨_, rfl⟩
  have hR2 : R1 = List.replicate 32 0 := by rw [← hR1, partR_1]
  have so := stC_one g6 4096 R1
  have ss := stC_size (.slice (some ⟨g6, 0, none⟩) 2 2) 4096 (regs := R1) (by rw [hR2]; simp)
  have HR1 := Aside0.mk hR1
  have HR2 := Aside0.mk hR2
  clear hR1 hR2
  have HX6 := Aside0.mk hx6
  have HZ6 := Aside0.mk hz6
  have HG6 := Aside0.mk hgc6
  clear hb6 hx5 hz5 H5 hx6 hz6 hgc6
  go_wp2_with (first | (refine wpList_build80b rfl _ _ rfl g6 R1 HR2.out rfl rfl ?_) | (refine wpList_alloc80 rfl rfl ?_) | (refine wpList_store80 rfl _ _ rfl w6.heap.size (stC (.slice (some ⟨g6, 0, none⟩) 2 2) 4096 R1) zC rfl rfl hal ss zs so ?_))
  have h7s := setRow_heap _ w6.heap.size zC (stC (.slice (some ⟨g6, 0, none⟩) 2 2) 4096 R1) 80 (0, 0) hal
  have b7 : Below w6.heap.size w6 ((w6.alloc (.cells zC 80)).setRow w6.heap.size (stC (.slice (some ⟨g6, 0, none⟩) 2 2) 4096 R1)) := below_setRow (below_alloc (Below.refl _ _) _) (Nat.le_refl _) _
  have z8a := Aside0.mk (blk_lt HZ6.out)
  have HX7 := Aside0.mk (blk_below HX6.out b7)
  have HZ7 := Aside0.mk (blk_below HZ6.out b7)
  have HG7 := Aside0.mk (blk_below HG6.out b7)
  have H7 := Aside0.mk (H6.out.below b7)
  have B7 := Aside0.mk (B6.out.trans (b7.mono b6s))
  have S7 := Aside0.mk h7s
  clear so ss h7s b7 hal HX6 HZ6 HG6 H6
  generalize (w6.alloc (.cells zC 80)).setRow w6.heap.size (stC (.slice (some ⟨g6, 0, none⟩) 2 2) 4096 R1) = w7 at *
  obtain ⟨s8, hs8⟩ : ∃ s8, w6.heap.size = s8 := ⟨_, rfl⟩
  rw [hs8] at S7 z8a ⊢
  rw [← HR1.out] at S7
  clear hs8
  go_loopw [9] (fun v9 wr => ∃ i : Nat, 1 ≤ i ∧ i ≤ 32 ∧ v9 = .int .i64 i ∧ Aside0 (HartIs wr (w4.heap.size + 1) ⟨mp, q, w4.heap.size, gs⟩ 0 (madeS H i) ∧ wr.heap[s8]? = some (.cells (stC (.slice (some ⟨g6, 0, none⟩) 2 2) 4096 (partR H.regs i)) 80 (0, 0)) ∧ wr.heap[w.heap.size]? = some (.cells hc 75 (0, 0)) ∧ wr.heap[w.heap.size + 1]? = some (.cells zC 80 (0, 0)) ∧ wr.heap[g6]? = some (.cells (regV 4096 (strOf (wordsB H.ws)) 4 ++ regV 8192 H.data 3).toArray 92 (0, 0)) ∧ Below w.heap.size w wr)) (fun v9 _ => 32 - (intOf v9).toNat)
  case atStart => exact ⟨1, by omega, by omega, rfl, ⟨H7.out, S7.out, HX7.out, HZ7.out, HG7.out, B7.out⟩⟩
  case round =>
    obtain ⟨i, hi1, hi2, rfl, hx⟩ := hrel
    by_cases hlt : i < 32
    · obtain ⟨r1, r2, r3, r4, r5, r6⟩ := hx.out
      have c := (blk_cell r3 (2 + i)).trans (AR.out i hlt)
      have zc := blk_lt r3
      have c8 : ∃ y, wr.cell? ⟨s8, 2 + i, none⟩ = some y := ⟨_, (blk_cell r2 (2 + i)).trans (Array.getElem?_eq_getElem (by rw [stC_size _ _ (partR_len _ _)]; omega))⟩
      obtain ⟨y, c8⟩ := c8
      have z8 := blk_lt r2
      have f8 := frozen_of_row wr s8 (2 + i) _ 80 r2
      have SET := Aside0.mk (madeS_put H i hi1 hlt)
      have PRT := Aside0.mk (partR_set H.regs i hi1 hlt)
      obtain ⟨V, hV⟩ : ∃ V, H.regs.getD i 0 = V := ⟨_, rfl⟩
      rw [hV] at c SET PRT
      have i0 : (0 : Int) ≤ (i : Int) := by omega
      have i1 : (i : Int) < 32 := by omega
      have hq1 := heap_setCell_same wr s8 (2 + i) _ 80 (.int .u64 V) r2
      rw [stC_set, PRT.out] at hq1
      have n1 : w.heap.size ≠ s8 := by rintro e; rw [← e, r3] at r2; simp at r2
      have n2 : w.heap.size + 1 ≠ s8 := Nat.ne_of_lt z8a.out
      have n3 : g6 ≠ s8 := by rintro rfl; rw [r5] at r2; simp at r2
      have q3 := (heap_setCell_other wr ⟨s8, 2 + i, none⟩ w.heap.size (.int .u64 V) n1).trans r3
      have q4 := (heap_setCell_other wr ⟨s8, 2 + i, none⟩ (w.heap.size + 1) (.int .u64 V) n2).trans r4
      have q5 := (heap_setCell_other wr ⟨s8, 2 + i, none⟩ g6 (.int .u64 V) n3).trans r5
      have qh := r1.setOther r2 (by decide) (by decide) (by decide) (by decide) (2 + i) (.int .u64 V)
      have qb : Below w.heap.size w (wr.setCell ⟨s8, 2 + i, none⟩ (.int .u64 V)) := r6.setCell (p := ⟨s8, 2 + i, none⟩) (by have := z8a.out; show w.heap.size ≤ s8; omega) _
      have Q := Aside0.mk (And.intro qh (And.intro hq1 (And.intro q3 (And.intro q4 (And.intro q5 qb)))))
      have SC := Aside0.mk (Set_calls qh (i : Int) V)
      have cq := (blk_cell q3 (2 + i)).trans (by rw [AR.out i hlt, hV])
      have zq := blk_lt q3
      clear hV r1 r2 r3 r4 r5 r6 hq1 q3 q4 q5 qh qb n1 n2 n3
      go_wp2_with fail
      refine SC.out.mono ?_
      rintro e w9 ⟨rfl, h9, k9⟩
      rw [SET.out] at h9
      obtain ⟨u1, u2, u3, u4, u5, u6⟩ := Q.out
      have v2 := k9.at_ u2 (u1.notF u2 (by decide) (by decide) (by decide) (by decide))
      have v3 := k9.at_ u3 (u1.notF u3 (by decide) (by decide) (by decide) (by decide))
      have v4 := k9.at_ u4 (u1.notF u4 (by decide) (by decide) (by decide) (by decide))
      have v5 := k9.at_ u5 (u1.notF u5 (by decide) (by decide) (by decide) (by decide))
      have HV := Aside0.mk (And.intro h9 (And.intro v2 (And.intro v3 (And.intro v4 (And.intro v5 (u6.trans (k9.below u6.size HFB.out)))))))
      clear u1 u2 u3 u4 u5 u6 v2 v3 v4 v5 h9 k9 SC Q c zc c8 z8 f8 cq zq
      go_wp2
      go_roundw
      case rel => exact ⟨i + 1, by omega, by omega, by go_num, ⟨HV.out⟩⟩
      case measure => simp [intOf]; omega
    · obtain rfl : i = 32 := by omega
      obtain ⟨r1, r2, r3, r4, r5, r6⟩ := hx.out
      have e50 : (madeS H 32).put 0 5 = madeS H 32 := if_neg (by decide)
      have e532 : (madeS H 32).put 32 5 = madeS H 32 := if_neg (by decide)
      have SC0 := Set_calls r1 0 5
      rw [e50] at SC0
      have SC0 := Aside0.mk SC0
      have Q := Aside0.mk hx.out
      have E2 := Aside0.mk e532
      clear r1 r2 r3 r4 r5 r6 e50 e532
      rw [show ((32 : Nat) : Int) = 32 from rfl]
      go_wp2_with fail
      refine SC0.out.mono ?_
      rintro e w8 ⟨rfl, h8, k8⟩
      obtain ⟨u1, u2, u3, u4, u5, u6⟩ := Q.out
      have v2 := k8.at_ u2 (u1.notF u2 (by decide) (by decide) (by decide) (by decide))
      have v4 := k8.at_ u4 (u1.notF u4 (by decide) (by decide) (by decide) (by decide))
      have v5 := k8.at_ u5 (u1.notF u5 (by decide) (by decide) (by decide) (by decide))
      have B8 := u6.trans (k8.below u6.size HFB.out)
      have SC1 := Set_calls h8 32 5
      rw [E2.out] at SC1
      have SC1 := Aside0.mk SC1
      have Q8 := Aside0.mk (And.intro h8 (And.intro v2 (And.intro v4 (And.intro v5 B8))))
      clear u1 u2 u3 u4 u5 u6 v2 v4 v5 h8 k8 B8 SC0 Q hx
      go_wp2_with fail
      refine SC1.out.mono ?_
      rintro e w9 ⟨rfl, h9, k9⟩
      obtain ⟨u1, u2, u4, u5, u6⟩ := Q8.out
      have v2 := k9.at_ u2 (u1.notF u2 (by decide) (by decide) (by decide) (by decide))
      have v4 := k9.at_ u4 (u1.notF u4 (by decide) (by decide) (by decide) (by decide))
      have v5 := k9.at_ u5 (u1.notF u5 (by decide) (by decide) (by decide) (by decide))
      have B9 := u6.trans (k9.below u6.size HFB.out)
      have V2 := Aside0.mk v2
      have Q9 := Aside0.mk (And.intro h9 (And.intro v4 (And.intro v5 B9)))
      clear u1 u2 u4 u5 u6 v2 v4 v5 h9 k9 B9 SC1 Q8
      go_wp2_with fail
      obtain ⟨RG, hRG⟩ : ∃ RG, stC (.slice (some ⟨g6, 0, none⟩) 2 2) 4096 (partR H.regs 32) = RG := ⟨_, rfl⟩
      have rs : RG.size = 34 := by rw [← hRG]; exact stC_size _ _ (partR_len _ _)
      have ro : RG.all (·.oneCell') = true := by rw [← hRG]; exact stC_one _ _ _
      rw [hRG] at V2
      refine wp_region_grow2 [73, 74, 75, 2, 3] (fun j v w1 => match j with
        | 0 => v = .pointer (some ⟨w4.heap.size + 1, 0, none⟩)
        | 1 => v = .pointer (some ⟨mp, 0, none⟩)
        | 2 => v = .agg RG
        | 3 => v = .pointer (some ⟨w4.heap.size + 1, 0, none⟩)
        | 4 => v = .pointer (some ⟨mp, 0, none⟩)
        | _ => True) (by kernel_rfl) (by kernel_rfl) ?_ ?_ ?_
      · intro j v w1 w2 hv hb
        rcases j with _ | _ | _ | _ | _ | j <;> first | exact hv | trivial
      · refine ⟨?_, ?_, ?_, ?_, ?_, trivial⟩
        all_goals
          intro a w5 hB hoth hdep
          have q7 := hoth 7 (by decide)
          have q5 := hoth 5 (by decide)
          have q8 := hoth 8 (by decide)
          have q8' := q8
          have hv2 := blk_below V2.out hB
          have hl := load80 w5 s8 RG hv2 rs
          clear hoth hB V2 Q9 HFB RO HX7 HZ7 HG7 H7 B7 S7 RC0 B2 B3 HW HOK AR hv2
          simp [bd1, bd2, bd3, bd5, bd6] at hdep q5 q7 q8
          simp only [StepTo, Oper.grows]
          first
            | (have hx : a.eval (.tmp 8) = .pointer (some ⟨s8, 0, none⟩) := q8'
               unfold execOp
               simp only [hx, Sem.run_bind, hl, Sem.run_pure, Result.andThen_ok]
               exact ⟨Below.refl _ _, trivial⟩)
            | (go_simp; all_goals first | exact Below.refl _ _ | exact ⟨Below.refl _ _, rfl⟩ | exact ⟨Below.refl _ _, hdep.1⟩)
      · intro v w5 hB hv
        have q2 : v 2 = _ := hv 2 (by decide)
        have q3 : v 3 = _ := hv 3 (by decide)
        have q4 : v 4 = _ := hv 4 (by decide)
        simp only [fillF, q2, q3, q4, Act.put, List.setIfInBounds_toArray, List.set_cons_zero, List.set_cons_succ, List.length_cons, List.length_nil, Nat.reduceAdd, List.drop_succ_cons, List.drop_zero]
        obtain ⟨u1, u4, u5, u6⟩ := Q9.out
        have h4 := blk_below u4 hB
        have h5 := blk_below u5 hB
        have h1 := u1.below hB
        have b6 := u6.trans (hB.mono u6.size)
        refine wpList_store80 rfl _ _ rfl (w.heap.size + 1) RG zC rfl rfl h4 rs zs ro ?_
        have hR := setRow_heap _ (w.heap.size + 1) zC RG 80 (0, 0) h4
        have hgk : g6 ≠ w.heap.size + 1 := by rintro rfl; rw [h5] at h4; simp at h4
        have hG5 := (setRow_other w5 (w.heap.size + 1) g6 RG hgk).trans h5
        have hH5 := h1.setRowOther h4 (by decide) (by decide) (by decide) (by decide) RG
        have hB5 := below_setRow b6 (show w.heap.size ≤ w.heap.size + 1 by omega) RG
        clear u1 u4 u5 u6 h4 h5 h1 b6 hv hB q2 q3 q4
        generalize w5.setRow (w.heap.size + 1) RG = wz at *
        go_wp2
        refine bodyPost_ret (v := .tuple #[.pointer (some ⟨w4.heap.size + 1, 0, none⟩), .pointer (some ⟨mp, 0, none⟩), .agg RG]) (res37 (g := w.heap.size + 1) rfl rfl rfl hR rs) rfl ⟨w4.heap.size + 1, ⟨mp, q, w4.heap.size, gs⟩, g6, ?_, hH5, HFB.out, ?_, hG5, hB5⟩
        · rw [← hRG]; rfl
        · exact Nat.le_trans b5s hg6
end Go.Proofs.Ytciehejifdbpoaa.Ht

set_option linter.unusedSimpArgs false
set_option linter.unusedVariables false
namespace Go.Proofs.Ytciehejifdbpoaa.Ht
open Go.RowKit Go.Maps Go.Proofs.Ytciehejifdbpoaa.Grow Go.Proofs.Ytciehejifdbpoaa.Rv Go.Proofs.Ytciehejifdbpoaa.As Go.Proofs.Ytciehejifdbpoaa.PHartQuotients
open Go.Proofs.YtciehejifdbpoaaW.PrintWords Go.Proofs.YtciehejifdbpoaaW.PrintLast Go.Proofs.YtciehejifdbpoaaW.PrintMore

/-! ### Two machines beside each other -/
/-! ### Runs that go on -/
theorem madeS_good {H : HowS} (h : HowOk H) (hr : ∀ x ∈ H.regs, U64 x) : GoodH (madeS H 32) := by
  have hm := memOf_good (regsL_ok h) (by simp [regsL])
  refine ⟨hm.1, hm.2, ⟨by show (0 : Int) ≤ 4096; decide, by show (4096 : Int) < 18446744073709551616; decide⟩, fun x hx => ?_, partR_len _ _, ?_⟩
  · obtain ⟨j, _, rfl⟩ := List.mem_map.1 (show x ∈ (List.range 32).map fun j => if 1 ≤ j ∧ j < 32 then H.regs.getD j 0 else 0 from hx)
    split
    · rw [List.getD_eq_getElem?_getD]
      by_cases hj : j < H.regs.length
      · rw [List.getElem?_eq_getElem hj]; exact hr _ (List.getElem_mem hj)
      · rw [List.getElem?_eq_none (by omega)]; exact ⟨by decide, by decide⟩
    · exact ⟨by decide, by decide⟩
  · show (partR H.regs 32).getD 0 0 = 0
    simp [partR]
end Go.Proofs.Ytciehejifdbpoaa.Ht

set_option linter.unusedSimpArgs false
set_option linter.unusedVariables false
namespace Go.Proofs.Ytciehejifdbpoaa.Ht
open Go.RowKit Go.Maps Go.Proofs.Ytciehejifdbpoaa.Grow Go.Proofs.Ytciehejifdbpoaa.Rv Go.Proofs.Ytciehejifdbpoaa.As Go.Proofs.Ytciehejifdbpoaa.PHartQuotients
open Go.Proofs.YtciehejifdbpoaaW.PrintWords Go.Proofs.YtciehejifdbpoaaW.PrintLast Go.Proofs.YtciehejifdbpoaaW.PrintMore

theorem made_bad' {w : World} {wv : Value} {H : HowS} (hw : WordsAt w wv H.ws) (hbad : H.ws.length = 0 ∨ 100 < H.ws.length ∨ H.data.size = 0 ∨ 500 < H.data.size) {hc : Array Value} (hhc : howC wv H = hc) :
    Calls Try.prog 37 #[.agg hc] w fun e w' => ∃ RG : Array Value, RG.size = 34 ∧ RG.all (·.oneCell') = true ∧ e = .returned (.tuple #[.pointer none, .pointer none, .agg RG]) ∧ Below w.heap.size w w' := by
  subst hhc
  exact (made_bad hw hbad).mono fun e w' h => ⟨_, stC_size _ _ (by simp), by kernel_rfl, h.1, h.2⟩
end Go.Proofs.Ytciehejifdbpoaa.Ht

namespace Go.Proofs.Ytciehejifdbpoaa.Ht
open Go.ChangeShapes Go.WideShapes Go.ChangeAt Go.RowKit

theorem ints_of : ∀ l : List Value, (∀ i, i < l.length → ∃ z, l[i]? = some (.int .u64 z) ∧ U64 z) → ∃ zs : List Int, l = zs.map (Value.int .u64) ∧ ∀ z ∈ zs, U64 z
  | [], _ => ⟨[], rfl, fun z h => by cases h⟩
  | v :: l, h => by
    obtain ⟨z, hz, hu⟩ := h 0 (by simp)
    have hv : v = .int .u64 z := by simpa using hz
    obtain ⟨zs, rfl, hzs⟩ := ints_of l fun i hi => by
      obtain ⟨y, hy, hyu⟩ := h (i + 1) (by simpa using hi)
      exact ⟨y, by simpa using hy, hyu⟩
    exact ⟨z :: zs, by rw [hv]; rfl, fun y hy => by
      rcases List.mem_cons.1 hy with rfl | hy
      · exact hu
      · exact hzs y hy⟩
theorem u64_wf {a : Int} (h : (Lit.int .u64 a).wf = true) : U64 a := by
  have e1 : IntKind.u64.min = 0 := rfl
  have e2 : IntKind.u64.max = 18446744073709551615 := rfl
  simp only [Lit.wf, Bool.and_eq_true, decide_eq_true_eq] at h
  exact ⟨by omega, by omega⟩
theorem u32_wf {a : Int} (h : (Lit.int .u32 a).wf = true) : U32 a := by
  have e1 : IntKind.u32.min = 0 := rfl
  have e2 : IntKind.u32.max = 4294967295 := rfl
  simp only [Lit.wf, Bool.and_eq_true, decide_eq_true_eq] at h
  exact ⟨by omega, by omega⟩
theorem cell_block_lt {w : World} {a : Addr} {v : Value} (h : w.cell? a = some v) : a.block < w.heap.size := by
  unfold World.cell? at h
  by_cases hlt : a.block < w.heap.size
  · exact hlt
  · rw [Array.getElem?_eq_none (by omega)] at h
    simp at h
set_option maxRecDepth 100000 in
/-- A machine that came in, by its cells. -/
theorem open75 {H : Type} {enc : TypeId × Value → H} {w : World} {base b0 : Nat} {spare : Nat → Bool} {held : Bool} {r : Reach} {v : Value} {d : DataW H} {p : List MemPlace}
    (hv : Value.okWide Try.prog w r b0 75 v) (h : DataW.Trod enc Try.prog w base spare held 75 v d p) :
    ∃ (wv : Value) (X : HowS), v = .agg (howC wv X) ∧ WordsAt w wv X.ws ∧ X.regs.length = 32 ∧ ∀ x ∈ X.regs, U64 x := by
  obtain ⟨⟨l⟩, rfl, hsz⟩ := okWide_struct Try.underlying75 hv
  have c75 : Try.prog.cellsOf 75 = 34 := by kernel_rfl
  have c72 : Try.prog.cellsOf 72 = 1 := by kernel_rfl
  have c9 : Try.prog.cellsOf 9 = 1 := by kernel_rfl
  have c73 : Try.prog.cellsOf 73 = 32 := by kernel_rfl
  have c22 : Try.prog.cellsOf 22 = 1 := by kernel_rfl
  have c65 : Try.prog.cellsOf 65 = 1 := by kernel_rfl
  have hl : l.length = 34 := by simpa using hsz.trans c75
  obtain ⟨fuel, hf⟩ := h
  obtain ⟨xs, n, _, _, _, hxl, hg⟩ := DataW.trod_struct Try.underlying75 hf
  have q : ∀ j, j < 3 → ∃ x, xs[j]? = some x := fun j hj => ⟨xs[j]'(by rw [hxl]; exact hj), by simp⟩
  obtain ⟨x0, e0⟩ := q 0 (by decide)
  obtain ⟨x1, e1⟩ := q 1 (by decide)
  obtain ⟨x2, e2⟩ := q 2 (by decide)
  have g0 := (hg 0 _ rfl).trans e0
  have g1 := (hg 1 _ rfl).trans e1
  have g2 := (hg 2 _ rfl).trans e2
  obtain ⟨s, z1, _, _⟩ := DataW.trod_string (by kernel_rfl) g1
  obtain ⟨ys, m, _, _, _, hyl, hy⟩ := DataW.trod_array (n := 32) (e := 65) (by kernel_rfl) g2
  match l, hl with
  | v0 :: v1 :: rs, hl =>
    have hrs : rs.length = 32 := by simpa using hl
    simp [Value.cells, c9] at z1
    obtain ⟨zs, hzs, hzu⟩ := ints_of rs fun i hi => by
      obtain ⟨y, ey⟩ : ∃ y, ys[i]? = some y := ⟨ys[i]'(by rw [hyl]; omega), by simp⟩
      have gi := (hy i (by omega)).trans ey
      obtain ⟨z, hz, _, hw⟩ := DataW.trod_int (k := .u64) (by kernel_rfl) gi
      simp [Value.cells, c73, c65] at hz
      refine ⟨z, ?_, u64_wf hw⟩
      have h0 := congrArg (fun k => k[0]?) hz
      simpa [List.getElem?_take, hi, show i < 32 by omega] using h0
    subst hzs
    have hzl : zs.length = 32 := by simpa using hrs
    subst z1
    have g0' := g0
    simp [Value.cells, c72] at g0'
    rcases Go.ChangeShapes.open_ints (k := .u32) (e := 22) (by kernel_rfl) (by kernel_rfl) c22 g0' with ⟨hcs, _⟩ | ⟨a, len, cap, ws, hcs, _, hle, hmax, hall, _, cell, wf⟩
    · have hv0 : v0 = .slice none 0 0 := by simpa using hcs
      subst hv0
      exact ⟨_, ⟨[], s, zs⟩, rfl, ⟨⟨none, 0, rfl⟩, fun h => absurd h (by simp), fun h => absurd h (by simp), fun x h => by cases h⟩, hzl, hzu⟩
    · have hv0 : v0 = .slice (some a) len cap := by simpa using hcs
      subst hv0
      have hlen : len ≤ ws.length := by rw [hall]; split <;> omega
      have htl : (ws.take len).length = len := by rw [List.length_take]; omega
      refine ⟨_, ⟨ws.take len, s, zs⟩, rfl, ⟨⟨some a, cap, by simp only [htl]⟩, fun h0 b c e => ?_, fun _ => ⟨a, cap, by simp only [htl]⟩, fun x hx => u32_wf (wf x (List.mem_of_mem_take hx))⟩, hzl, hzu⟩
      simp only [htl] at h0 e ⊢
      have e' : a = b := by
        simp only [Value.slice.injEq, Option.some.injEq] at e
        exact e.1
      subst e'
      obtain ⟨b', off, rfl, hc⟩ := ints_at cell (by omega)
      refine ⟨rfl, ?_, fun i hi => ?_⟩
      · exact cell_block_lt (hc 0 (by omega))
      · rw [hc i (by omega)]
        simp [List.getD_eq_getElem?_getD, List.getElem?_take, hi]
end Go.Proofs.Ytciehejifdbpoaa.Ht
end
