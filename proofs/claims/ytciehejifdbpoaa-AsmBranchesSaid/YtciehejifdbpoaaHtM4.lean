import Derived.Test.YtciehejifdbpoaaHtM3
import Derived.Laws.CopyOwn
import Derived.Laws.MakeOwn
import Derived.OwnWalk
import Derived.Test.YtciehejifdbpoaaAnC
import Derived.Test.YtciehejifdbpoaaRvN
set_option linter.unusedSimpArgs false
set_option linter.unusedVariables false
namespace Go.Proofs.Ytciehejifdbpoaa.Ht
open Go.RowKit Go.Maps Go.Proofs.Ytciehejifdbpoaa.Grow Go.Proofs.Ytciehejifdbpoaa.Rv Go.Proofs.Ytciehejifdbpoaa.As Go.Proofs.Ytciehejifdbpoaa.PHartQuotients
open Go.Proofs.YtciehejifdbpoaaW.PrintWords Go.Proofs.YtciehejifdbpoaaW.PrintLast Go.Proofs.YtciehejifdbpoaaW.PrintMore

/-! ### A memory out of regions -/
structure RegIn where
  base : Int
  data : ByteArray
  rights : Int
def dataB (s : ByteArray) : List Int := s.data.toList.map fun b => (b.toNat : Int)
theorem dataB_len (s : ByteArray) : (dataB s).length = s.size := by simp [dataB]
def memOf (l : List RegIn) : MemS := ⟨l.map fun r => ⟨r.base, dataB r.data, r.rights⟩, 0⟩
def endF (l : List RegIn) : Nat → Int
  | 0 => 0
  | k + 1 => ((l[k]?).map fun r => r.base + (r.data.size : Int)).getD 0
structure RegOk (e : Int) (r : RegIn) : Prop where
  pos : 0 < r.data.size
  few : r.data.size < 1000000000
  rights0 : 0 ≤ r.rights
  rights7 : r.rights ≤ 7
  base0 : 0 ≤ r.base
  base : e ≤ r.base
  top : r.base + (r.data.size : Int) ≤ 9223372036854775808
def RegsOk (l : List RegIn) : Prop := ∀ k (h : k < l.length), RegOk (endF l k) l[k]
def pcCells (x : RegIn × Nat) : List Value := [.int .u64 x.1.base, .slice (some ⟨x.2, 0, none⟩) x.1.data.size x.1.data.size, .int .i64 x.1.rights]
structure NewS (b : Nat) (w : World) (mp : Nat) (l : List RegIn) (k : Nat) (pv : Value) (gs : List Nat) : Prop where
  head : w.heap[mp]? = some (.cells #[pv, .int .u64 0] 169 (0, 0))
  row : w.ownsRow b 171 3 pv k (((l.take k).zip gs).flatMap pcCells)
  len : gs.length = k
  nd : gs.Nodup
  ge : ∀ g ∈ gs, b ≤ g ∧ g < w.heap.size
  bytes : ∀ i (h : i < l.length) (h' : i < gs.length), w.heap[gs[i]]? = some (.cells ((dataB l[i].data).map (Value.int .u8)).toArray 5 (0, 0))
theorem info5 : (Try.prog.info? 5).map (fun i => (i.zero, i.size, i.bytes)) = some (some (.int .u8 0), 1, 1) := by kernel_rfl
theorem under130 : Try.prog.underlying 130 = some (.slice 5) := by kernel_rfl
theorem info171 : (Try.prog.info? 171).map (fun i => (i.zero, i.size, i.bytes)) = some (some (.agg #[.int .u64 0, .slice none 0 0, .int .i64 0]), 3, 40) := by kernel_rfl
theorem under167 : Try.prog.underlying 167 = some (.slice 171) := by kernel_rfl
theorem ownsRow_below2 {w W : World} {B e size n : Nat} {v : Value} {xs : List Value} (h : w.ownsRow B e size v n xs) (hb : Below w.heap.size w W) : W.ownsRow B e size v n xs := by
  obtain ⟨h1, h2⟩ := h
  refine ⟨h1, ?_⟩
  rcases h2 with h2 | ⟨g, cap, cur, hv, hg, hh, r⟩
  · exact .inl h2
  · exact .inr ⟨g, cap, cur, hv, hg, (hb.block g (blk_lt hh)).trans hh, r⟩
/-- 'copy(dst, s)', dst a row of as many bytes as the string s has. -/
theorem run_copy_str (w : World) (ty : TypeId) (g n : Nat) (cap : Nat) (s : ByteArray) (cur : Array Value) (hn : s.size = n) (hg : w.heap[g]? = some (.cells cur 5 (0, 0))) (hc : cur.size = n) :
    (Builtin.copy_ #[130, 9] ty #[.slice (some ⟨g, 0, none⟩) n cap, .string s]).run Try.prog w = .ok (goInt n) (w.setRow g ((dataB s).map (Value.int .u8)).toArray) := by
  obtain ⟨i, hi, hz, hs, hb⟩ := info_parts info5
  have hst := run_storeCells_at Try.prog g 0 5 ((dataB s).map (Value.int .u8)) 0 cur w hg (by rw [List.length_map, dataB_len, hn, hc]; omega) (by intro v hv; obtain ⟨x, _, rfl⟩ := List.mem_map.1 hv; rfl)
  have e2 : (cur.toList.take (0 + 0) ++ (dataB s).map (Value.int .u8) ++ cur.toList.drop (0 + 0 + ((dataB s).map (Value.int .u8)).length)).toArray = ((dataB s).map (Value.int .u8)).toArray := by
    have : cur.toList.drop (0 + 0 + ((dataB s).map (Value.int .u8)).length) = [] := by
      apply List.drop_eq_nil_of_le
      rw [List.length_map, dataB_len, hn, Array.length_toList, hc]; omega
    rw [this]; simp
  rw [e2] at hst
  have hmin : Nat.min n n = n := Nat.min_self n
  have e3 : List.take n (List.map (fun b : UInt8 => Value.int .u8 (b.toNat : Int)) s.data.toList) = (dataB s).map (Value.int .u8) := by
    rw [List.take_of_length_le (by rw [List.length_map, Array.length_toList, ← hn]; exact Nat.le_refl _)]
    simp [dataB]
  simp [Builtin.copy_, run_underlying under130, Builtin.lenOf, Builtin.firstCells, sizeOf, typeInfo, hi, hn, hmin, e3, hst]
theorem wpList_copy_str {w : World} {ops : Array Oper} {rest : List Oper} {o : Oper} {a : Act} {Q : Exit → Act → World → Prop} (hgd : o.guard = none) (d s : Operand)
    (ho : o.op = .call { callee := .builtin .copy, args := #[d, s], argTypes := #[130, 9] }) (g n cap : Nat) (x : ByteArray) (hd : a.eval d = .slice (some ⟨g, 0, none⟩) n cap) (hs : a.eval s = .string x)
    (cur : Array Value) (hn : x.size = n) (hg : w.heap[g]? = some (.cells cur 5 (0, 0))) (hc : cur.size = n)
    (h : wpList Try.prog ops Q rest (a.put o.dst (goInt n)) (w.setRow g ((dataB x).map (Value.int .u8)).toArray)) : wpList Try.prog ops Q (o :: rest) a w := by
  refine wpList_plain hgd fun K hK => ?_
  have hrun := run_copy_str w o.type g n cap x cur hn hg hc
  unfold Oper.wp
  simp [execOp, ho, resolve, invoke, builtin, hd, hs, hrun, Result.andThen]
  exact hK _ _ h
theorem alloc_get (w : World) (o : Obj) (h : w.heap.size < (w.alloc o).heap.size) : (w.alloc o).heap[w.heap.size]'h = o :=
  Option.some.inj ((Array.getElem?_eq_getElem h).symm.trans (heap_alloc_last w o))
theorem bld171 (B R : Int) (g n : Nat) (w : World) : (Instr.build 171 #[(0, .int .u64 B), (1, .slice (some ⟨g, 0, none⟩) n n), (2, .int .i64 R)]).run Try.prog w = .ok (.agg #[.int .u64 B, .slice (some ⟨g, 0, none⟩) n n, .int .i64 R]) w := by kernel_rfl
theorem one_pcs (x : RegIn × Nat) : ∀ u ∈ pcCells x, u.oneCell' = true := by
  intro u hu
  simp [pcCells] at hu
  rcases hu with rfl | rfl | rfl <;> rfl
theorem NewS.below {b : Nat} {w w' : World} {mp : Nat} {l : List RegIn} {k : Nat} {pv : Value} {gs : List Nat} (h : NewS b w mp l k pv gs) (hb : Below w.heap.size w w') : NewS b w' mp l k pv gs :=
  ⟨blk_below h.head hb, ownsRow_below2 h.row hb, h.len, h.nd, fun g hg => ⟨(h.ge g hg).1, Nat.lt_of_lt_of_le (h.ge g hg).2 hb.size⟩, fun i h1 h2 => blk_below (h.bytes i h1 h2) hb⟩
theorem NewS.ne {b : Nat} {w : World} {mp : Nat} {l : List RegIn} {k : Nat} {pv : Value} {gs : List Nat} (h : NewS b w mp l k pv gs) : pv.ownBlock ≠ some mp ∧ (∀ j, pv.ownBlock = some j → j < w.heap.size ∧ ∃ cs, w.heap[j]? = some (.cells cs 171 (0, 0))) := by
  refine ⟨fun e => ?_, fun j e => ?_⟩
  all_goals
    rcases h.row.2 with ⟨rfl, _⟩ | ⟨g, cap, cur, rfl, hg, hh, _⟩
    · cases e
    · simp only [Value.ownBlock, Option.some.injEq] at e
      subst e
      first
        | exact ⟨blk_lt hh, _, hh⟩
        | (have := h.head; rw [hh] at this; simp at this)
theorem NewS.push {b : Nat} {w w1 : World} {mp : Nat} {l : List RegIn} {k : Nat} {pv : Value} {gs : List Nat} {g gg cap : Nat} (h : NewS b w mp l k pv gs) (hk : k < l.length) (hg : w.drew.grownBy w1 pv.ownBlock)
    (hown : w1.ownsRow b 171 3 (.slice (some ⟨gg, 0, none⟩) (k + 1) cap) (k + 1) (((l.take k).zip gs).flatMap pcCells ++ pcCells (l[k], g)))
    (hgb : w.heap[g]? = some (.cells ((dataB l[k].data).map (Value.int .u8)).toArray 5 (0, 0))) (hbg : b ≤ g) (hnew : g ∉ gs) (hbm : b ≤ mp) :
    NewS b (w1.setCell ⟨mp, 0, none⟩ (.slice (some ⟨gg, 0, none⟩) (k + 1) cap)) mp l (k + 1) (.slice (some ⟨gg, 0, none⟩) (k + 1) cap) (gs ++ [g]) ∧ Below b w (w1.setCell ⟨mp, 0, none⟩ (.slice (some ⟨gg, 0, none⟩) (k + 1) cap)) := by
  obtain ⟨n1, n2⟩ := h.ne
  have hmp := (hg.block mp (blk_lt h.head) (Ne.symm n1)).trans h.head
  have hne : gg ≠ mp := by
    rintro rfl
    rcases hown.2 with ⟨e, _⟩ | ⟨g', cap', cur, e, _, hh, _⟩
    · cases e
    · simp only [Value.slice.injEq, Option.some.injEq, Addr.mk.injEq] at e
      obtain ⟨⟨rfl, _⟩, _⟩ := e
      rw [hh] at hmp; simp at hmp
  have far : ∀ (j : Nat) (cs : Array Value), w.heap[j]? = some (Obj.cells cs 5 (0, 0)) → (w1.setCell ⟨mp, 0, none⟩ (.slice (some ⟨gg, 0, none⟩) (k + 1) cap)).heap[j]? = some (Obj.cells cs 5 (0, 0)) := fun j cs hj => by
    have j1 : j ≠ mp := by rintro rfl; have := h.head; rw [hj] at this; simp at this
    have j2 : some j ≠ pv.ownBlock := fun e => by
      obtain ⟨_, cs', hc'⟩ := n2 j e.symm
      rw [hj] at hc'; simp at hc'
    exact (heap_setCell_other _ _ _ _ j1).trans ((hg.block j (blk_lt hj) j2).trans hj)
  refine ⟨⟨?_, ?_, by simp [h.len], ?_, ?_, ?_⟩, ?_⟩
  · rw [heap_setCell_same w1 mp 0 _ 169 _ hmp]; rfl
  · have e : ((l.take (k + 1)).zip (gs ++ [g])).flatMap pcCells = ((l.take k).zip gs).flatMap pcCells ++ pcCells (l[k], g) := by
      rw [List.take_succ_eq_append_getElem hk, List.zip_append (by rw [List.length_take, h.len]; omega), List.flatMap_append]
      simp
    rw [e]
    refine ⟨hown.1, ?_⟩
    rcases hown.2 with ⟨e, _⟩ | ⟨g', cap', cur, e, r1, hh, r2⟩
    · cases e
    · refine .inr ⟨g', cap', cur, e, r1, ?_, r2⟩
      have : g' ≠ mp := by
        simp only [Value.slice.injEq, Option.some.injEq, Addr.mk.injEq] at e
        rw [← e.1.1]; exact hne
      exact (heap_setCell_other _ _ _ _ this).trans hh
  · rw [List.nodup_append]
    exact ⟨h.nd, by simp, fun a ha b' hb' => by simp at hb'; rintro rfl; subst hb'; exact hnew ha⟩
  · intro x hx
    have hsz : w.heap.size ≤ (w1.setCell ⟨mp, 0, none⟩ (.slice (some ⟨gg, 0, none⟩) (k + 1) cap)).heap.size := by simpa [World.setCell] using hg.size
    rcases List.mem_append.1 hx with hx | hx
    · exact ⟨(h.ge x hx).1, Nat.lt_of_lt_of_le (h.ge x hx).2 hsz⟩
    · simp at hx; subst hx
      exact ⟨hbg, Nat.lt_of_lt_of_le (blk_lt hgb) hsz⟩
  · intro i h1 h2
    by_cases hi : i < gs.length
    · rw [List.getElem_append_left hi]
      exact far _ _ (h.bytes i h1 hi)
    · have e : i = k := by simp at h2; have := h.len; omega
      subst e
      rw [List.getElem_append_right (by omega)]
      simp only [h.len, Nat.sub_self, List.getElem_singleton]
      exact far _ _ hgb
  · have b1 : Below b w w1 := ⟨hg.os, hg.tape, hg.output, hg.size, fun j hj => hg.block j (by have := blk_lt h.head; show j < w.heap.size; omega) fun e => by
      obtain ⟨_, _⟩ := n2 j e.symm
      rcases h.row.2 with ⟨rfl, _⟩ | ⟨g', cap', cur, rfl, hg', hh, _⟩
      · cases e
      · simp only [Value.ownBlock, Option.some.injEq] at e
        omega⟩
    exact b1.setCell (p := ⟨mp, 0, none⟩) hbm _
theorem mk_bytes (n : Nat) (hn : n < 1000000000) (w : World) : (Instr.makeSlice 130 (.int .i64 (n : Int)) (.int .i64 (n : Int))).run Try.prog w = .ok (.slice (some ⟨w.heap.size, 0, none⟩) n n) (w.alloc (.cells (madeCells (Value.cells (.int .u8 0)) n) 5)) := by
  obtain ⟨i, hi, hz, hs, hb⟩ := info_parts info5
  have h := run_make (P := Try.prog) w 130 5 i (.int .u8 0) under130 hi hz .i64 .i64 (n : Int) (n : Int) (by omega) (Int.le_refl _) (by rw [hb]; omega) (by omega)
  rw [hs, Nat.mul_one, Int.toNat_natCast] at h
  exact h

set_option maxHeartbeats 8000000 in
set_option maxRecDepth 100000 in
theorem MemNew_calls {w : World} {L off cap : Nat} (l : List RegIn) (hok : RegsOk l) (hl : l.length < 1000000)
    (hc : ∀ i (h : i < l.length), w.cell? ⟨L, off + i * 3, none⟩ = some (.int .u64 l[i].base) ∧ w.cell? ⟨L, off + i * 3 + 1, none⟩ = some (.string l[i].data) ∧ w.cell? ⟨L, off + i * 3 + 2, none⟩ = some (.int .i64 l[i].rights)) (hL : L < w.heap.size) :
    Calls Try.prog 48 #[.slice (some ⟨L, off, none⟩) l.length cap] w fun e w' => (∃ mp pv gs, e = .returned (.tuple #[.pointer (some ⟨mp, 0, none⟩), .int .i64 0]) ∧ w.heap.size ≤ mp ∧ NewS w.heap.size w' mp l l.length pv gs) ∧ Below w.heap.size w w' := by
  have HC := Aside0.mk hc
  have HO := Aside0.mk hok
  clear hc hok
  go_enter Try.func48, Try.ntmps48
  go_wp2
  go_loopw [5, 7, 8, 9, 14] (fun v5 _ _ _ v14 wr => ∃ k : Nat, k ≤ l.length ∧ v5 = .int .u64 (endF l k) ∧ v14 = .int .i64 k ∧ Aside0 (Below w.heap.size w wr ∧ ∃ pv gs, NewS w.heap.size wr w.heap.size l k pv gs)) (fun _ _ _ _ v14 _ => l.length - (intOf v14).toNat)
  case atStart =>
    refine ⟨0, by omega, rfl, rfl, ⟨below_alloc (Below.refl _ _) _, .slice none 0 0, [], ⟨heap_alloc_last _ _, ⟨rfl, .inl ⟨rfl, rfl⟩⟩, rfl, List.nodup_nil, (fun g hg => by cases hg), fun i h h' => by cases h'⟩⟩⟩
  case round =>
    obtain ⟨k, hk, rfl, rfl, hx⟩ := hrel
    by_cases hlt : k < l.length
    · obtain ⟨hb, pv, gs, hS⟩ := hx.out
      obtain ⟨o1, o2, o3, o4, o5, o6, o7⟩ := HO.out k hlt
      obtain ⟨c0, c1, c2⟩ := HC.out k hlt
      rw [← hb.cell hL] at c0 c1 c2
      obtain ⟨⟨B, D, R⟩, hr⟩ : ∃ r, l[k] = r := ⟨_, rfl⟩
      rw [hr] at c0 c1 c2 o1 o2 o3 o4 o5 o6 o7
      simp only at c0 c1 c2 o1 o2 o3 o4 o5 o6 o7
      obtain ⟨E, hE⟩ : ∃ E, endF l k = E := ⟨_, rfl⟩
      rw [hE] at o6 ⊢
      obtain ⟨n, hn⟩ : ∃ n, D.size = n := ⟨_, rfl⟩
      rw [hn] at o1 o2 o7
      have u1 : IntKind.u64.wrap (n : Int) = (n : Int) := u64_nat (by omega)
      have u2 : IntKind.u64.wrap ((n : Int) - 1) = (n : Int) - 1 := by rw [IntKind.wrap_u64]; omega
      have u3 : IntKind.u64.wrap (9223372036854775807 - B) = 9223372036854775807 - B := by rw [IntKind.wrap_u64]; omega
      have u4 : IntKind.u64.wrap (B + (n : Int)) = B + (n : Int) := by rw [IntKind.wrap_u64]; omega
      have hzL := Nat.lt_of_lt_of_le hL hb.size
      have HB := Aside0.mk hb
      have HS := Aside0.mk hS
      have HX := Aside0.mk hx
      have HR := Aside0.mk hr
      have HE2 := Aside0.mk (show endF l (k + 1) = B + (n : Int) by show ((l[k]?).map fun r => r.base + (r.data.size : Int)).getD 0 = _; rw [List.getElem?_eq_getElem hlt, hr, ← hn]; rfl)
      have HE := Aside0.mk hE
      clear hb hS hx hr hE
      go_wp2_with fail
      refine (mem_within_int.calls R 0 7 true _ (by unfold mem_within_int.f; rw [if_pos o3, decide_eq_true o4])).mono ?_
      rintro e w2 ⟨rfl, hd2⟩
      have hb2 := (below_alloc (Below.refl wr.heap.size wr) (.cells #[.int .u64 B, .string D, .int .i64 R] 92)).trans (hd2.below.mono (below_alloc (Below.refl wr.heap.size wr) _).size)
      have h7 := blk_below (heap_alloc_last wr (.cells #[.int .u64 B, .string D, .int .i64 R] 92)) hd2.below
      obtain ⟨b7, hb7⟩ : ∃ b7, wr.heap.size = b7 := ⟨_, rfl⟩
      rw [hb7] at h7 ⊢
      have HB2 := Aside0.mk hb2
      have H7 := Aside0.mk h7
      have HB7 := Aside0.mk hb7
      have z7 := blk_lt h7
      have c7 := blk_cell h7
      clear hd2 hb2 h7 hb7 c0 c1 c2
      have e7 : ((n : Int) == 0) = false := by simp; omega
      go_wp2_with fail
      have hmk := mk_bytes n o2
      refine wp_region_grow2 [53, 54, 55, 56, 57, 58, 59, 60, 61, 9] (fun j v w1 => match j with
        | 0 => v = .pointer (some ⟨b7, 0, none⟩)
        | 1 => v = .int .u64 B
        | 2 => v = .pointer (some ⟨b7, 1, none⟩)
        | 3 => v = .string D
        | 4 => v = .int .i64 n
        | 5 => ∃ g, v = .slice (some ⟨g, 0, none⟩) n n ∧ w2.heap.size ≤ g ∧ w1.heap[g]? = some (.cells (madeCells (Value.cells (.int .u8 0)) n) 5)
        | 6 => v = .pointer (some ⟨b7, 2, none⟩)
        | 7 => v = .int .i64 R
        | 8 => ∃ g, v = .agg #[.int .u64 B, .slice (some ⟨g, 0, none⟩) n n, .int .i64 R] ∧ w2.heap.size ≤ g ∧ w1.heap[g]? = some (.cells (madeCells (Value.cells (.int .u8 0)) n) 5)
        | 9 => ∃ g, v = .pointer (some ⟨g, 0, none⟩) ∧ w2.heap.size ≤ g ∧ w1.heap[g]? = some (.cells #[.int .u64 0, .slice none 0 0, .int .i64 0] 171)
        | _ => True) (by kernel_rfl) (by kernel_rfl) ?_ ?_ ?_
      · intro j v w1 w2 hv hb
        rcases j with _ | _ | _ | _ | _ | _ | _ | _ | _ | _ | j <;> first | exact hv | trivial | (obtain ⟨g, rfl, h1, h2⟩ := hv; exact ⟨g, rfl, h1, blk_below h2 hb⟩)
      · refine ⟨?_, ?_, ?_, ?_, ?_, ?_, ?_, ?_, ?_, ?_, trivial⟩
        all_goals
          intro a w5 hB hoth hdep
          have h5 := blk_below H7.out hB
          have c7 := blk_cell h5
          have z7 := blk_lt h5
          have q7 := hoth 7 (by decide)
          have hm5 := hmk w5
          have hsz5 := hB.size
          clear hoth hB hmk HB HS HX HR HE HB2 H7 HB7 h5 e7 u1 u2 u3 u4 o1 o3 o4 o5 o6 o7
          simp [bd1, bd2, bd3, bd5, bd6] at hdep q7
          simp only [StepTo, Oper.grows]
          first
            | (obtain ⟨d1, ⟨g, d5, d5a, d5b⟩, d7⟩ := hdep
               have hbd := bld171 B R g n w5
               go_simp
               first
                | exact Below.refl _ _
                | exact ⟨Below.refl _ _, g, rfl, d5a, d5b⟩
                | (refine ⟨Below.refl _ _, d5a, ?_⟩; simpa using d5b))
            | (go_simp
               first
                | exact Below.refl _ _
                | exact ⟨Below.refl _ _, rfl⟩
                | exact ⟨below_alloc (Below.refl _ _) _, w5.heap.size, rfl, hsz5, heap_alloc_last _ _⟩
                | exact ⟨below_alloc (Below.refl _ _) _, alloc_get _ _ _⟩)
      · intro v w5 hB hv
        obtain ⟨g, q8, g1, g2⟩ := hv 8 (by decide)
        obtain ⟨b9, q9, b1, b2⟩ := hv 9 (by decide)
        simp only [fillF, q8, q9, Act.put, List.setIfInBounds_toArray, List.set_cons_zero, List.set_cons_succ, List.length_cons, List.length_nil, Nat.reduceAdd, List.drop_succ_cons, List.drop_zero]
        have h7 := blk_below H7.out hB
        have c7 := blk_cell h7
        have z7 := blk_lt h7
        have c9 := blk_cell b2
        have z9 := blk_lt b2
        have f9 := fun o => frozen_of_row w5 b9 o _ 171 b2
        have g9 : g ≠ b9 := by rintro rfl; rw [g2] at b2; simp at b2
        have b79 : b7 ≠ b9 := by rintro rfl; rw [h7] at b2; simp at b2
        have HBB := Aside0.mk hB
        clear hv hB q8 q9 hmk e7
        go_wp2_with fail
        have g2' : (((w5.setCell ⟨b9, 0, none⟩ (.int .u64 B)).setCell ⟨b9, 1, none⟩ (.slice (some ⟨g, 0, none⟩) n n)).setCell ⟨b9, 2, none⟩ (.int .i64 R)).heap[g]? = some (.cells (madeCells (Value.cells (.int .u8 0)) n) 5) :=
          (heap_setCell_other _ ⟨b9, 2, none⟩ g _ g9).trans ((heap_setCell_other _ ⟨b9, 1, none⟩ g _ g9).trans ((heap_setCell_other _ ⟨b9, 0, none⟩ g _ g9).trans g2))
        rw [run_copy_str _ 3 g n n D _ hn g2' (size_madeCells _ _)]
        simp only [Result.andThen]
        go_wp2_with fail
        have hsz2 := HB2.out.size
        have BW : Below wr.heap.size wr ((((w5.setCell ⟨b9, 0, none⟩ (.int .u64 B)).setCell ⟨b9, 1, none⟩ (.slice (some ⟨g, 0, none⟩) n n)).setCell ⟨b9, 2, none⟩ (.int .i64 R)).setRow g ((dataB D).map (Value.int .u8)).toArray) :=
          below_setRow ((((HB2.out.trans (HBB.out.mono hsz2)).setCell (p := ⟨b9, 0, none⟩) (Nat.le_trans hsz2 b1) _).setCell (p := ⟨b9, 1, none⟩) (Nat.le_trans hsz2 b1) _).setCell (p := ⟨b9, 2, none⟩) (Nat.le_trans hsz2 b1) _) (Nat.le_trans hsz2 g1) _
        have gR := setRow_heap _ g _ ((dataB D).map (Value.int .u8)).toArray 5 (0, 0) g2'
        have g9R := (setRow_other (((w5.setCell ⟨b9, 0, none⟩ (.int .u64 B)).setCell ⟨b9, 1, none⟩ (.slice (some ⟨g, 0, none⟩) n n)).setCell ⟨b9, 2, none⟩ (.int .i64 R)) g b9 ((dataB D).map (Value.int .u8)).toArray (Ne.symm g9)).trans (heap_setCell_same _ b9 2 _ 171 (.int .i64 R) (heap_setCell_same _ b9 1 _ 171 (.slice (some ⟨g, 0, none⟩) n n) (heap_setCell_same _ b9 0 _ 171 (.int .u64 B) b2)))
        simp only [List.setIfInBounds_toArray, List.set_cons_zero, List.set_cons_succ] at g9R
        clear c7 z7 c9 z9 f9 g2' g2 b2 h7
        generalize (((w5.setCell ⟨b9, 0, none⟩ (.int .u64 B)).setCell ⟨b9, 1, none⟩ (.slice (some ⟨g, 0, none⟩) n n)).setCell ⟨b9, 2, none⟩ (.int .i64 R)).setRow g ((dataB D).map (Value.int .u8)).toArray = w6 at *
        have S6 := HS.out.below BW
        have hsw := HB.out.size
        have hgn : g ∉ gs := fun hg' => by have := (HS.out.ge g hg').2; omega
        have hown := S6.row
        obtain ⟨r1, r2⟩ := S6.ne
        have hmp := blk_lt S6.head
        have hr2 : pv.ownBlock ≠ some w6.heap.size := fun e => by have := (r2 _ e).1; omega
        have cm := blk_cell S6.head
        have c9 := blk_cell g9R
        have z9 := blk_lt g9R
        obtain ⟨i0, hi, hz0, hz1, hz2⟩ := info_parts info171
        have BS := Aside0.mk BW
        have SS := Aside0.mk S6
        have GB := Aside0.mk gR
        have HPC := Aside0.mk (show ([.int .u64 B, .slice (some ⟨g, 0, none⟩) n n, .int .i64 R] : List Value) = pcCells (⟨B, D, R⟩, g) by unfold pcCells; rw [hn])
        have ONE := Aside0.mk (show ∀ u ∈ ([.int .u64 B, .slice (some ⟨g, 0, none⟩) n n, .int .i64 R] : List Value), u.oneCell' = true by rw [HPC.out]; exact one_pcs _)
        have hwb : w.heap.size ≤ w6.heap.size := Nat.le_of_lt hmp
        clear BW S6 gR g9R r2
        go_region_law
          (first | (refine step_append_lies _ (by rfl) _ _ _ (by rfl) w.heap.size 171 i0 _ 3 40 under167 hi hz0 hz1 hz2 rfl (by omega) pv k (((l.take k).zip gs).flatMap pcCells) (by rfl) ((hown.alloc _).drew) ⟨w6.heap.size, 0, none⟩ 1 1 ([.int .u64 B, .slice (some ⟨g, 0, none⟩) n n, .int .i64 R]) (by rfl) (by rfl) (World.news_of_block (cs := ([.int .u64 B, .slice (some ⟨g, 0, none⟩) n n, .int .i64 R] : List Value).toArray) (t := 171) (fr := (0, 0)) (heap_alloc_last w6 (.cells #[.int .u64 B, .slice (some ⟨g, 0, none⟩) n n, .int .i64 R] 171))) ONE.out (by omega) (by unfold maxLen; omega) (by omega) (by simp; omega) (w6.heap.size + 1) (by simp) ?_; intro gg cap2 w7 hown1 hgrow hat hlt2; have hP1 := (hgrow.block w.heap.size (by simp; omega) (Ne.symm r1)).trans (blk_alloc SS.out.head _); have e1 := blk_cell hP1; have e2 := frozen_of_row w7 w.heap.size 0 _ 169 hP1))
        all_goals
          rw [HPC.out, ← HR.out] at hown1
          have S := Aside0.mk ((SS.out.below (below_alloc (Below.refl _ _) _)).push hlt hgrow hown1 (by rw [HR.out]; exact blk_alloc GB.out _) (by omega) hgn (Nat.le_refl _))
          have BB := Aside0.mk ((HB.out.trans (BS.out.mono hsw)).trans ((below_alloc (Below.refl _ _) (.cells #[.int .u64 B, .slice (some ⟨g, 0, none⟩) n n, .int .i64 R] 171)).mono hwb))
          clear hown1 hgrow hat hP1 e1 e2 cm c9 z9 hmp hown
          go_wp2
          go_roundw
          case rel => exact ⟨k + 1, by omega, by rw [HE2.out], by go_num, ⟨BB.out.trans S.out.2, _, _, S.out.1⟩⟩
          case measure => simp [intOf]; omega
    · obtain rfl : k = l.length := by omega
      obtain ⟨hb, pv, gs, hS⟩ := hx.out
      have HB := Aside0.mk hb
      have HS := Aside0.mk hS
      clear hx hb hS
      go_wp2
      exact bodyPost_ret (v := .tuple #[.pointer (some ⟨w.heap.size, 0, none⟩), .int .i64 0]) (by simp [results, Try.results48, go_sem]) rfl ⟨⟨w.heap.size, pv, gs, rfl, Nat.le_refl _, HS.out⟩, HB.out⟩
end Go.Proofs.Ytciehejifdbpoaa.Ht

namespace Go.Proofs.Ytciehejifdbpoaa.Ht
open Go.RowKit Go.Maps Go.Proofs.Ytciehejifdbpoaa.Grow Go.Proofs.Ytciehejifdbpoaa.Rv Go.Proofs.Ytciehejifdbpoaa.As Go.Proofs.Ytciehejifdbpoaa.PHartQuotients
open Go.Proofs.YtciehejifdbpoaaW.PrintWords Go.Proofs.YtciehejifdbpoaaW.PrintLast Go.Proofs.YtciehejifdbpoaaW.PrintMore

/-! ### The memory that New makes -/
theorem pcs_len (x : RegIn × Nat) : (pcCells x).length = 3 := rfl
theorem flat_pcs {l : List (RegIn × Nat)} {k : Nat} (h : k < l.length) {j : Nat} (hj : j < 3) : (l.flatMap pcCells)[k * 3 + j]? = (pcCells l[k])[j]? := by
  induction l generalizing k with
  | nil => simp at h
  | cons x xs ih =>
    rw [List.flatMap_cons]
    cases k with
    | zero => rw [List.getElem?_append_left (by rw [pcs_len]; omega)]; simp
    | succ k =>
      rw [List.getElem?_append_right (by rw [pcs_len]; omega), pcs_len]
      have := ih (k := k) (by simpa using h)
      rw [show (k + 1) * 3 + j - 3 = k * 3 + j by omega, this]
      simp
theorem NewS.mem {b : Nat} {w : World} {mp : Nat} {l : List RegIn} {pv : Value} {gs : List Nat} (h : NewS b w mp l l.length pv gs) (hl : 0 < l.length) : ∃ q, MemIs w mp q gs (memOf l) ∧ b ≤ q := by
  rcases h.row with ⟨hx, ⟨rfl, h0⟩ | ⟨q, cap, cur, rfl, hb, hh, hn, hc, hs, ht⟩⟩
  · omega
  · refine ⟨q, ⟨⟨cap, ?_⟩, ⟨cur, hh, fun i hi hi' => ?_⟩, ?_, fun i hi hi' => ?_⟩, hb⟩
    · have := h.head
      rw [show (memOf l).rs.length = l.length by simp [memOf]]
      exact this
    · have hil : i < l.length := by simpa [memOf] using hi
      have hz : i < (l.zip gs).length := by rw [List.length_zip]; omega
      have e : ∀ j, j < 3 → cur[i * 3 + j]? = (pcCells ((l.zip gs)[i]))[j]? := fun j hj => by
        rw [← flat_pcs hz hj]
        have ht' : cur.toList.take (l.length * 3) = (l.zip gs).flatMap pcCells := by rw [ht, List.take_length]
        rw [← ht', List.getElem?_take_of_lt (by omega)]
        simp
      have eb : (memOf l).rs[i] = ⟨l[i].base, dataB l[i].data, l[i].rights⟩ := by simp [memOf]
      have e0 := e 0 (by decide)
      have e1 := e 1 (by decide)
      have e2 := e 2 (by decide)
      rw [eb]
      simp only [dataB_len]
      rw [List.getElem_zip] at e0 e1 e2
      exact ⟨e0, e1, e2⟩
    · rw [h.len]; simp [memOf]
    · have hil : i < l.length := by simpa [memOf] using hi
      have eb : (memOf l).rs[i].bytes = dataB l[i].data := by simp [memOf]
      rw [eb]
      exact h.bytes i hil hi'
theorem end_mono {l : List RegIn} (h : RegsOk l) : ∀ (j i : Nat) (hj : j < l.length) (hi : i ≤ j), (l[i]'(by omega)).base ≤ l[j].base
  | 0, i, hj, hi => by
    have : i = 0 := by omega
    subst this; exact Int.le_refl _
  | j + 1, i, hj, hi => by
    by_cases e : i = j + 1
    · subst e; exact Int.le_refl _
    · have h1 := end_mono h j i (by omega) (by omega)
      have h2 := (h (j + 1) hj).base
      have h3 : endF l (j + 1) = (l[j]'(by omega)).base + ((l[j]'(by omega)).data.size : Int) := by
        show ((l[j]?).map fun r => r.base + (r.data.size : Int)).getD 0 = _
        rw [List.getElem?_eq_getElem (by omega)]; rfl
      rw [h3] at h2
      omega
theorem memOf_good {l : List RegIn} (h : RegsOk l) (hl : l.length < 1000000) : GoodM (memOf l) ∧ GoodB (memOf l) := by
  have hr : ∀ r ∈ (memOf l).rs, ∃ i, ∃ hi : i < l.length, r = ⟨l[i].base, dataB l[i].data, l[i].rights⟩ := fun r hr => by
    obtain ⟨x, hx, rfl⟩ := List.mem_map.1 hr
    obtain ⟨i, hi, rfl⟩ := List.mem_iff_getElem.1 hx
    exact ⟨i, hi, rfl⟩
  refine ⟨⟨fun i j hj hi => ?_, by simpa [memOf] using hl, fun r hx => ?_, fun r hx => ?_⟩, fun r hx => ?_⟩
  · have hj' : j < l.length := by simpa [memOf] using hj
    simp only [memOf, List.getElem_map]
    exact end_mono h j i hj' hi
  · obtain ⟨i, hi, rfl⟩ := hr r hx
    have hq := h i hi
    have h1 := hq.top
    have h2 := hq.pos
    exact ⟨hq.base0, show l[i].base < 9223372036854775808 by omega⟩
  · obtain ⟨i, hi, rfl⟩ := hr r hx
    show (dataB l[i].data).length < _
    rw [dataB_len]; exact (h i hi).few
  · obtain ⟨i, hi, rfl⟩ := hr r hx
    intro b hb
    obtain ⟨x, _, rfl⟩ := List.mem_map.1 (show b ∈ dataB l[i].data from hb)
    have := x.toNat_lt
    omega
theorem new_good {S : MemS} (h : GoodM S ∧ GoodB S) {pc : Int} (hp : U64 pc) : GoodH (new0 S pc) :=
  ⟨h.1, h.2, hp, fun x hx => by rw [List.eq_of_mem_replicate hx]; decide, by simp [new0], by simp [new0]⟩

/-! ### What a register has behind instructions -/
theorem strOf_go (bs : List Int) : ∀ acc : ByteArray, (bs.foldl (fun r n => r.push (UInt8.ofNat n.toNat)) acc).data.toList = acc.data.toList ++ bs.map fun n => UInt8.ofNat n.toNat := by
  induction bs with
  | nil => intro acc; simp
  | cons b bs ih =>
    intro acc
    rw [List.foldl_cons, ih]
    simp
theorem strOf_data (bs : List Int) : (strOf bs).data.toList = bs.map fun n => UInt8.ofNat n.toNat := by
  have := strOf_go bs ByteArray.empty
  simpa [strOf] using this
theorem dataB_append (a b : ByteArray) : dataB (a ++ b) = dataB a ++ dataB b := by simp [dataB]
theorem dataB_str {bs : List Int} (h : Bytes bs) : dataB (strOf bs) = bs := by
  unfold dataB
  rw [strOf_data, List.map_map]
  conv => rhs; rw [← List.map_id bs]
  refine List.map_congr_left fun b hb => ?_
  obtain ⟨h0, h1⟩ := h b hb
  obtain ⟨n, rfl⟩ := Int.eq_ofNat_of_zero_le h0
  show ((UInt8.ofNat (n : Int).toNat).toNat : Int) = (n : Int)
  rw [Int.toNat_natCast, UInt8.toNat_ofNat']
  omega
theorem strOf_size (bs : List Int) : (strOf bs).size = bs.length := by
  have : (strOf bs).data.toList.length = bs.length := by rw [strOf_data, List.length_map]
  simpa using this
theorem wordB_bytes (a : Int) : Bytes (encB.wordB a) := by
  intro b hb
  simp only [encB.wordB, List.mem_cons, List.not_mem_nil, or_false] at hb
  rcases hb with rfl | rfl | rfl | rfl <;> exact ⟨Int.emod_nonneg _ (by decide), Int.emod_lt_of_pos _ (by decide)⟩
theorem encB_bytes : ∀ (l : List OpI) (bs : List Int), encB l = some bs → Bytes bs
  | [], bs, h => by simp [encB] at h; subst h; intro b hb; cases hb
  | x :: l, bs, h => by
    unfold encB at h
    split at h
    · obtain ⟨cs, hcs, rfl⟩ := Option.map_eq_some_iff.1 h
      intro b hb
      rcases List.mem_append.1 hb with hb | hb
      · exact wordB_bytes _ b hb
      · exact encB_bytes l cs hcs b hb
    · cases h
/-- The region of a program: its words, and one byte behind them. -/
def regOf (base : Int) (bs : List Int) : RegIn := ⟨base, strOf bs ++ ⟨#[0]⟩, 4⟩
theorem regOf_size (base : Int) (bs : List Int) : (regOf base bs).data.size = bs.length + 1 := by
  show (strOf bs ++ ⟨#[0]⟩ : ByteArray).size = _
  rw [ByteArray.size_append, strOf_size]; rfl
theorem regOf_ok {base : Int} {bs : List Int} (h0 : 0 ≤ base) (h1 : base < 1000000) (hl : bs.length < 1000000) : RegsOk [regOf base bs] := by
  intro k hk
  have : k = 0 := by simpa using hk
  subst this
  refine ⟨?_, ?_, ?_, ?_, h0, h0, ?_⟩
  · show 0 < (regOf base bs).data.size; rw [regOf_size]; omega
  · show (regOf base bs).data.size < _; rw [regOf_size]; omega
  · show (0 : Int) ≤ 4; decide
  · show (4 : Int) ≤ 7; decide
  · show base + ((regOf base bs).data.size : Int) ≤ _; rw [regOf_size]; omega
def progM (base : Int) (bs : List Int) : MemS := memOf [regOf base bs]
def ranH (bs : List Int) (a b : Int) : HartS := ((new0 (progM 0 bs) 0).put 1 a).put 2 b
theorem op_agg {w : World} {g : Nat} {l : List OpI} (h : w.heap[g]? = some (.cells (l.flatMap OpI.cells).toArray 24 (0, 0))) {k : Nat} (hk : k < l.length) {y : OpI} (hy : l[k] = y) :
    w.cell? ⟨g, k * 5, none⟩ = some (.string y.name) ∧ w.cell? ⟨g, k * 5 + 1, none⟩ = some (.int .i64 y.rd) ∧ w.cell? ⟨g, k * 5 + 2, none⟩ = some (.int .i64 y.ra) ∧
    w.cell? ⟨g, k * 5 + 3, none⟩ = some (.int .i64 y.rb) ∧ w.cell? ⟨g, k * 5 + 4, none⟩ = some (.int .i64 y.imm) := by subst hy; exact op_cells h hk
theorem encB_at {l : List OpI} {bs : List Int} (h : encB l = some bs) {k : Nat} (hk : k < l.length) : (encF l[k].name l[k].rd l[k].ra l[k].rb l[k].imm).2 = 0 := by
  refine Classical.byContradiction fun hn => ?_
  rw [encB_none hk hn] at h; cases h
set_option maxHeartbeats 8000000 in
set_option maxRecDepth 100000 in
theorem ran_calls {w : World} {L cap : Nat} (l : List OpI) (hL : w.heap[L]? = some (.cells (l.flatMap OpI.cells).toArray 24 (0, 0))) (hl0 : 0 < l.length) (hl : l.length < 1000) {bs : List Int} (he : encB l = some bs) {a b : Int} (ha : U64 a) (hb : U64 b) (reg : Int)
    {S : HartS} (hrun : runF (4 * (l.length : Int)) l.length 0 (ranH bs a b) = (S, l.length, 0)) (hpc : S.pc = 4 * (l.length : Int)) :
    Calls Try.prog 36 #[.slice (some ⟨L, 0, none⟩) l.length cap, .int .u64 a, .int .u64 b, .int .i64 reg] w fun e w' => e = .returned (.tuple #[.int .u64 (S.reg reg), .bool true]) ∧ Below w.heap.size w w' := by
  have HL := Aside0.mk hL
  have HE := Aside0.mk he
  have HRUN := Aside0.mk hrun
  have HPC := Aside0.mk hpc
  have HUA := Aside0.mk ha
  have HUB := Aside0.mk hb
  obtain ⟨i0, hi, hz0, hz1, hz2⟩ := info_parts Ht.info5
  have hbl := encB_len _ _ he
  clear hL he hrun hpc ha hb
  go_enter Try.func36, Try.ntmps36
  go_wp2
  go_loopw [10, 12, 13, 14, 22] (fun v10 _ _ _ v22 wr => ∃ k : Nat, k ≤ l.length ∧ v22 = .int .i64 k ∧ (∃ cs, encB (l.take k) = some cs ∧ cs.length = 4 * k ∧ wr.ownsRow w.heap.size 5 1 v10 cs.length (cs.map (Value.int .u8))) ∧ Below w.heap.size w wr) (fun _ _ _ _ v22 _ => l.length - (intOf v22).toNat)
  case atStart => exact ⟨0, by omega, rfl, ⟨[], rfl, rfl, rfl, .inl ⟨rfl, rfl⟩⟩, Below.refl _ _⟩
  case round =>
    obtain ⟨k, hk, rfl, ⟨cs, hcs, hcl, hown⟩, hb⟩ := hrel
    by_cases hlt : k < l.length
    · obtain ⟨y, hy⟩ : ∃ y, l[k] = y := ⟨_, rfl⟩
      have hg := blk_below HL.out hb
      obtain ⟨d0, d1, d2, d3, d4⟩ := op_agg hg hlt hy
      have zg := blk_lt hg
      have hc0 := encB_at HE.out hlt
      obtain ⟨⟨wd, c⟩, hE⟩ : ∃ r, encF y.name y.rd y.ra y.rb y.imm = r := ⟨_, rfl⟩
      rw [hy, hE] at hc0
      simp only at hc0
      subst hc0
      have TK := Aside0.mk (encB_take hlt hcs (by rw [hy, hE]))
      rw [hy, hE] at TK
      have HENC := Aside0.mk hE
      have OWN3 := Aside0.mk hown
      have B3 := Aside0.mk hb
      have ne3 := row_ne hown
      have HCL := Aside0.mk hcl
      clear hE hy hcs hg hown hb hcl
      go_wp2_with fail
      refine (encode_at HENC.out _).mono ?_
      rintro e w4 ⟨rfl, hb4⟩
      have B4 := Aside0.mk ((below_alloc B3.out _).trans (hb4.mono (below_alloc B3.out _).size))
      have OWN4 := Aside0.mk ((OWN3.out.below (below_alloc (Below.refl _ _) _)).below hb4)
      clear d0 d1 d2 d3 d4 hb4 ne3
      have bz := B4.out.size
      have cl2 : cs.length ≤ 4000 := by have := HCL.out; omega
      go_wp2_with (first | (at_builtin; refine wpList_append_own _ rfl (.tmp 33) (.tmp 45) 130 rfl w.heap.size 5 i0 (.int .u8 0) 1 1 Ht.under130 hi hz0 hz1 hz2 rfl (by decide) _ cs.length _ rfl (OWN4.out.alloc _) ⟨w4.heap.size, 0, none⟩ 4 4 [.int .u8 (wd % 256), .int .u8 (wd / 256 % 256), .int .u8 (wd / 65536 % 256), .int .u8 (wd / 16777216 % 256)] rfl rfl (World.news_of_block (cs := #[.int .u8 (wd % 256), .int .u8 (wd / 256 % 256), .int .u8 (wd / 65536 % 256), .int .u8 (wd / 16777216 % 256)]) (t := 5) (fr := (0, 0)) (heap_alloc_last w4 _)) four_one (by unfold maxLen; omega) (by omega) (by simp; omega) ?_; intro v' w5 hown' hgrow _; have OWN5 := Aside0.mk (text_row (bs := []) (n := 0) (m := cs.length) (by simpa using hown')); have B5 := Aside0.mk ((below_alloc B4.out _).grown hgrow (by simp; omega) (own_ge OWN4.out)); clear hown' hgrow))
      go_roundw
      case rel => exact ⟨k + 1, by omega, by go_num, ⟨cs ++ encB.wordB wd, TK.out, by have := HCL.out; simp [encB.wordB]; omega, by simpa using OWN5.out⟩, B5.out⟩
      case measure => simp [intOf]; omega
    · obtain rfl : k = l.length := by omega
      have hcb : cs = bs := by
        have := HE.out
        rw [List.take_length] at hcs
        rw [hcs] at this
        exact Option.some.inj this
      subst hcb
      have hcv := own_string hown rfl
      have B3 := Aside0.mk hb
      clear hown hcs hcl hb
      have hns : ¬ 9223372036854775807 < (strOf cs).size + 1 := by rw [strOf_size]; omega
      have hok : RegsOk [regOf 0 cs] := regOf_ok (by decide) (by decide) (by omega)
      have MG := Aside0.mk (memOf_good hok (by simp))
      have MC := Aside0.mk (MemNew_calls (w := wr.alloc (.cells #[.int .u64 0, .string (strOf cs ++ ⟨#[0]⟩), .int .i64 4] 92)) (L := wr.heap.size) (off := 0) (cap := 1) [regOf 0 cs] hok (by simp)
        (fun i h => by
          obtain rfl : i = 0 := by simpa using h
          have c := blk_cell (heap_alloc_last wr (.cells #[.int .u64 0, .string (strOf cs ++ ⟨#[0]⟩), .int .i64 4] 92))
          exact ⟨c 0, c 1, c 2⟩) (by simp))
      clear hok
      go_wp2_with fail
      refine MC.out.mono ?_
      rintro e w5 ⟨⟨mp, pv, gs, rfl, hmp, hS⟩, hb5⟩
      obtain ⟨q, hM, hq⟩ := hS.mem (by simp)
      have NC := Aside0.mk (New_calls hM hS.nd 0)
      have hge := fun g hg => (hS.ge g hg).1
      have B5 := (below_alloc B3.out (.cells #[.int .u64 0, .string (strOf cs ++ ⟨#[0]⟩), .int .i64 4] 92)).trans (hb5.mono (below_alloc B3.out _).size)
      have bz := (below_alloc B3.out (.cells #[.int .u64 0, .string (strOf cs ++ ⟨#[0]⟩), .int .i64 4] 92)).size
      have HB5 := Aside0.mk B5
      have bz5 := B5.size
      clear hS hM MC hb5 B5 hns hcv
      go_wp2_with fail
      refine NC.out.mono ?_
      rintro e w6 ⟨rfl, h6, hb6⟩
      have HFB : ∀ k, HF (w5.heap.size + 1) ⟨mp, q, w5.heap.size, gs⟩ k → w.heap.size ≤ k := by
        rintro k (rfl | rfl | rfl | hk)
        · omega
        · exact bz5
        · exact Nat.le_trans bz hmp
        · exact Nat.le_trans bz (hge k hk)
      have HFB := Aside0.mk HFB
      have g6 : GoodH (new0 (progM 0 cs) 0) := new_good MG.out ⟨by decide, by decide⟩
      have G7 := put_good g6 1 HUA.out
      have G8 := Aside0.mk (put_good G7 2 HUB.out)
      have SC1 := Aside0.mk (Set_calls h6 1 a)
      have B6 := Aside0.mk (HB5.out.trans (hb6.mono bz5))
      clear NC hge hb6 h6 g6 G7
      go_wp2_with fail
      refine SC1.out.mono ?_
      rintro e w7 ⟨rfl, h7, k7⟩
      have SC2 := Aside0.mk (Set_calls h7 2 b)
      have B7 := Aside0.mk (B6.out.trans (k7.below B6.out.size HFB.out))
      clear SC1 h7 k7
      go_wp2_with fail
      refine SC2.out.mono ?_
      rintro e w8 ⟨rfl, h8, k8⟩
      have u1 : IntKind.u64.wrap (4 * (l.length : Int)) = 4 * (l.length : Int) := by rw [IntKind.wrap_u64]; omega
      have RC := Run_calls h8 G8.out (4 * (l.length : Int)) (l.length : Int) (by omega) (by decide)
      rw [Int.toNat_natCast, show (((new0 (memOf [regOf 0 cs]) 0).put 1 a).put 2 b) = ranH cs a b from rfl, HRUN.out] at RC
      have RC := Aside0.mk RC
      have B8 := Aside0.mk (B7.out.trans (k8.below B7.out.size HFB.out))
      clear SC2 h8 k8
      go_wp2_with fail
      refine RC.out.mono ?_
      rintro e w9 ⟨rfl, ⟨m, hm, h9⟩, g9, k9⟩
      have REG := Aside0.mk (Reg_calls h9 reg)
      have PCC := PC_calls h9
      rw [HPC.out] at PCC
      have PCC := Aside0.mk PCC
      have B9 := Aside0.mk (B8.out.trans (k9.below B8.out.size HFB.out))
      clear RC h9 g9 k9 hm
      go_wp2_with fail
      refine REG.out.mono ?_
      rintro e w10 ⟨rfl, rfl⟩
      go_wp2_with fail
      refine PCC.out.mono ?_
      rintro e w11 ⟨rfl, rfl⟩
      go_wp2
      exact bodyPost_ret (v := .tuple #[.int .u64 (S.reg reg), .bool true]) (by simp [results, Try.results36, go_sem]) rfl ⟨rfl, B9.out⟩
end Go.Proofs.Ytciehejifdbpoaa.Ht

namespace Go.Proofs.Ytciehejifdbpoaa.Ht
open Go.RowKit Go.Maps Go.Proofs.Ytciehejifdbpoaa.Grow Go.Proofs.Ytciehejifdbpoaa.Rv Go.Proofs.Ytciehejifdbpoaa.As Go.Proofs.Ytciehejifdbpoaa.PHartQuotients
open Go.Proofs.YtciehejifdbpoaaW.PrintWords Go.Proofs.YtciehejifdbpoaaW.PrintLast Go.Proofs.YtciehejifdbpoaaW.PrintMore

/-! ### Instructions in a row -/
theorem progM_eq {base : Int} {bs : List Int} (h : Bytes bs) : progM base bs = ⟨[⟨base, bs ++ [0], 4⟩], 0⟩ := by
  unfold progM memOf regOf
  simp only [List.map_cons, List.map_nil, dataB_append, dataB_str h]
  rfl
theorem find_prog {base : Int} {bs : List Int} (h : Bytes bs) (hl : bs.length < 1000000) {f : Nat} (hf : f + 4 ≤ bs.length) : findF (progM base bs) (base + (f : Int)) 4 4 = some (0, f) := by
  have h1 : firstF (progM base bs) (base + (f : Int)) = 1 := by
    rw [progM_eq h]
    unfold firstF
    rw [List.findIdx_cons, decide_eq_false (by show ¬ base + (f : Int) < base; omega)]
    rfl
  unfold findF
  rw [dif_pos (by rw [h1, progM_eq h]; exact ⟨by decide, by simp⟩)]
  simp only [h1, Nat.sub_self]
  have e : (progM base bs).rs[0]'(by rw [progM_eq h]; simp) = ⟨base, bs ++ [0], 4⟩ := by simp only [progM_eq h, List.getElem_cons_zero]
  rw [e]
  have e2 : base + (f : Int) - base = (f : Int) := by omega
  simp only [e2]
  have hm : mayF ⟨base, bs ++ [0], 4⟩ (f : Int) 4 4 = true := by
    unfold mayF
    have a1 : (Go.bits .and .i64 4 4 == 0) = false := by decide +kernel
    simp only [List.length_append, List.length_singleton]
    rw [a1, decide_eq_false (by omega), decide_eq_false (by rw [IntKind.wrap_u64]; omega)]
    rfl
  rw [if_pos hm, Int.toNat_natCast]
theorem encB_seg : ∀ (l : List OpI) (bs : List Int), encB l = some bs → ∀ k (hk : k < l.length), (bs.drop (4 * k)).take 4 = encB.wordB (encF l[k].name l[k].rd l[k].ra l[k].rb l[k].imm).1
  | [], _, _, k, hk => by cases hk
  | x :: l, bs, h, k, hk => by
    unfold encB at h
    split at h
    · obtain ⟨cs, hcs, rfl⟩ := Option.map_eq_some_iff.1 h
      cases k with
      | zero => rfl
      | succ k =>
        have e : (encB.wordB (encF x.name x.rd x.ra x.rb x.imm).1 ++ cs).drop (4 * (k + 1)) = cs.drop (4 * k) := by
          rw [List.drop_append]
          rw [List.drop_eq_nil_of_le (by simp [encB.wordB]; omega)]
          simp only [List.nil_append]
          congr 1
        rw [e]
        exact encB_seg l cs hcs k (by simpa using hk)
    · cases h
theorem num_word {a : Int} (h : U32 a) : numF (encB.wordB a) = a := by
  obtain ⟨h0, h1⟩ := h
  simp only [encB.wordB, numF]
  omega
theorem fetch_prog {base : Int} {l : List OpI} {bs : List Int} (he : encB l = some bs) (hl : l.length < 100000) (hb : base % 4 = 0) {k : Nat} (hk : k < l.length) :
    fetchF (progM base bs) (base + 4 * (k : Int)) = ((encF l[k].name l[k].rd l[k].ra l[k].rb l[k].imm).1, 0) := by
  have hbl := encB_len _ _ he
  have hby := encB_bytes _ _ he
  have h0 := encB_at he hk
  have hu : U32 (encF l[k].name l[k].rd l[k].ra l[k].rb l[k].imm).1 := by
    obtain ⟨⟨a, c⟩, hE⟩ : ∃ r, encF l[k].name l[k].rd l[k].ra l[k].rb l[k].imm = r := ⟨_, rfl⟩
    rw [hE] at h0 ⊢
    have := enc_dec l[k].name l[k].rd l[k].ra l[k].rb l[k].imm
    rw [hE] at this
    exact ⟨(this h0).1, (this h0).2.1⟩
  have e1 : base + 4 * (k : Int) = base + ((4 * k : Nat) : Int) := by omega
  unfold fetchF
  rw [if_pos (by omega), e1, find_prog hby (by omega) (by omega)]
  simp only
  have e2 : bytesAt (progM base bs) 0 (4 * k) 4 = encB.wordB (encF l[k].name l[k].rd l[k].ra l[k].rb l[k].imm).1 := by
    unfold bytesAt
    rw [progM_eq hby]
    simp only [List.getElem?_cons_zero, Option.map_some, Option.getD_some]
    rw [List.drop_append_of_le_length (by omega), List.take_append_of_le_length (by rw [List.length_drop]; omega)]
    exact encB_seg l bs he k hk
  rw [e2, num_word hu]
theorem next_prog {base : Int} {l : List OpI} {bs : List Int} (he : encB l = some bs) (hl : l.length < 100000) (hb : base % 4 = 0) {k : Nat} (hk : k < l.length) {S : HartS} (hm : S.mem = progM base bs) (hp : S.pc = base + 4 * (k : Int)) :
    nextF S = (mkDone l[k], 0) := by
  have hf := fetch_prog he hl hb hk
  refine nextF_ok (W := (encF l[k].name l[k].rd l[k].ra l[k].rb l[k].imm).1) (by rw [hm, hp, hf]) (by rw [hm, hp, hf]) ?_
  have h0 := encB_at he hk
  obtain ⟨⟨a, c⟩, hE⟩ : ∃ r, encF l[k].name l[k].rd l[k].ra l[k].rb l[k].imm = r := ⟨_, rfl⟩
  rw [hE] at h0 ⊢
  have := enc_dec l[k].name l[k].rd l[k].ra l[k].rb l[k].imm
  rw [hE] at this
  have hd := (this h0).2.2
  unfold doneF
  rw [hd, if_pos rfl]
def lineOp (S : HartS) (x : OpI) : HartS := (execF S (mkDone x) (S.ra x.ra) (S.ra x.rb) (IntKind.u64.wrap x.imm) (IntKind.u64.wrap (S.pc + 4))).1
def lineF (l : List OpI) (S : HartS) : HartS := l.foldl lineOp S
theorem mkDone_op (x : OpI) : (mkDone x).op = x := by unfold mkDone; split <;> rfl
theorem put_mem (S : HartS) (i x : Int) : (S.put i x).mem = S.mem := by unfold HartS.put; split <;> rfl
/-- It puts something into a register, and goes on behind. -/
def Plain (x : OpI) : Prop := clsF x.name = 4 ∨ clsF x.name = 8
theorem exec_plain {x : OpI} (h : Plain x) (S : HartS) (a b i nx : Int) : ∃ v, execF S (mkDone x) a b i nx = ((S.put x.rd v).at_ nx, 0) := by
  unfold execF
  rw [mkDone_op]
  rcases h with h | h <;> rw [h] <;> exact ⟨_, rfl⟩
theorem line_mem {x : OpI} (h : Plain x) (S : HartS) : (lineOp S x).mem = S.mem := by
  obtain ⟨v, hv⟩ := exec_plain h S (S.ra x.ra) (S.ra x.rb) (IntKind.u64.wrap x.imm) (IntKind.u64.wrap (S.pc + 4))
  unfold lineOp
  rw [hv]
  exact put_mem _ _ _
theorem line_pc {x : OpI} (h : Plain x) (S : HartS) : (lineOp S x).pc = IntKind.u64.wrap (S.pc + 4) := by
  obtain ⟨v, hv⟩ := exec_plain h S (S.ra x.ra) (S.ra x.rb) (IntKind.u64.wrap x.imm) (IntKind.u64.wrap (S.pc + 4))
  unfold lineOp
  rw [hv]
  rfl
theorem step_line {base : Int} {l : List OpI} {bs : List Int} (he : encB l = some bs) (hl : l.length < 100000) (hb : base % 4 = 0) {k : Nat} (hk : k < l.length) {S : HartS} (hm : S.mem = progM base bs) (hp : S.pc = base + 4 * (k : Int)) (hx : Plain l[k]) :
    stepF S = (lineOp S l[k], 0) := by
  have hn := next_prog he hl hb hk hm hp
  obtain ⟨v, hv⟩ := exec_plain hx S (S.ra l[k].ra) (S.ra l[k].rb) (IntKind.u64.wrap l[k].imm) (IntKind.u64.wrap (S.pc + 4))
  unfold stepF
  rw [hn, if_pos rfl]
  simp only [mkDone_op]
  unfold lineOp
  rw [hv]
theorem run_line {base : Int} {l : List OpI} {bs : List Int} (he : encB l = some bs) (hl : l.length < 100000) (hb : base % 4 = 0) (hb0 : 0 ≤ base) (hb1 : base < 1000000) (hx : ∀ x ∈ l, Plain x) :
    ∀ (d k : Nat) (S : HartS) (fuel : Nat), l.length = k + d → d ≤ fuel → S.mem = progM base bs → S.pc = base + 4 * (k : Int) →
      runF (base + 4 * (l.length : Int)) fuel k S = (lineF (l.drop k) S, l.length, 0) ∧ (lineF (l.drop k) S).pc = base + 4 * (l.length : Int)
  | 0, k, S, fuel, hd, _, hm, hp => by
    have hk : k = l.length := by omega
    subst hk
    rw [List.drop_length]
    exact ⟨by rw [runF_stop hp]; rfl, hp⟩
  | d + 1, k, S, fuel, hd, hf, hm, hp => by
    have hk : k < l.length := by omega
    obtain ⟨fu, rfl⟩ : ∃ fu, fuel = fu + 1 := ⟨fuel - 1, by omega⟩
    have hpl := hx _ (List.getElem_mem hk)
    have hs := step_line he hl hb hk hm hp hpl
    have hne : ¬ S.pc = base + 4 * (l.length : Int) := by omega
    have hpc : (lineOp S l[k]).pc = base + 4 * ((k + 1 : Nat) : Int) := by rw [line_pc hpl, hp, IntKind.wrap_u64]; omega
    have ih := run_line he hl hb hb0 hb1 hx d (k + 1) (lineOp S l[k]) fu (by omega) (by omega) (by rw [line_mem hpl]; exact hm) hpc
    rw [runF_step hne (by rw [hs]), hs]
    rw [List.drop_eq_getElem_cons hk]
    exact ih
end Go.Proofs.Ytciehejifdbpoaa.Ht

namespace Go.Proofs.Ytciehejifdbpoaa.Ht
open Go.RowKit Go.Maps Go.Proofs.Ytciehejifdbpoaa.Grow Go.Proofs.Ytciehejifdbpoaa.Rv Go.Proofs.Ytciehejifdbpoaa.As Go.Proofs.Ytciehejifdbpoaa.PHartQuotients
open Go.Proofs.YtciehejifdbpoaaW.PrintWords Go.Proofs.YtciehejifdbpoaaW.PrintLast Go.Proofs.YtciehejifdbpoaaW.PrintMore

/-! ### Names, and what they reckon -/
abbrev nDiv : ByteArray := ⟨#[100, 105, 118]⟩
abbrev nRem : ByteArray := ⟨#[114, 101, 109]⟩
abbrev nDivu : ByteArray := ⟨#[100, 105, 118, 117]⟩
abbrev nRemu : ByteArray := ⟨#[114, 101, 109, 117]⟩
abbrev nMul : ByteArray := ⟨#[109, 117, 108]⟩
abbrev nAdd : ByteArray := ⟨#[97, 100, 100]⟩
abbrev nDivw : ByteArray := ⟨#[100, 105, 118, 119]⟩
abbrev nRemw : ByteArray := ⟨#[114, 101, 109, 119]⟩
abbrev nDivuw : ByteArray := ⟨#[100, 105, 118, 117, 119]⟩
abbrev nRemuw : ByteArray := ⟨#[114, 101, 109, 117, 119]⟩
abbrev nMulw : ByteArray := ⟨#[109, 117, 108, 119]⟩
abbrev nAddw : ByteArray := ⟨#[97, 100, 100, 119]⟩
abbrev nMulhu : ByteArray := ⟨#[109, 117, 108, 104, 117]⟩
abbrev nMulh : ByteArray := ⟨#[109, 117, 108, 104]⟩
abbrev nMulhsu : ByteArray := ⟨#[109, 117, 108, 104, 115, 117]⟩
def N64 : Int := 18446744073709551616
def divS (a b : Int) : Int := if b = 0 then 18446744073709551615 else if a = 9223372036854775808 ∧ b = 18446744073709551615 then a else IntKind.u64.wrap (wrap64 (Int.tdiv (wrap64 a) (wrap64 b)))
def remS (a b : Int) : Int := if b = 0 then a else if a = 9223372036854775808 ∧ b = 18446744073709551615 then 0 else IntKind.u64.wrap (Int.tmod (wrap64 a) (wrap64 b))
def divU (a b : Int) : Int := if b = 0 then 18446744073709551615 else IntKind.u64.wrap (Int.tdiv a b)
def remU (a b : Int) : Int := if b = 0 then a else Int.tmod a b
theorem bind_id (o : Option Int) : (o.bind fun t => some t) = o := by cases o <;> rfl
theorem q_div (k : Nat) {a b : Int} (hb : U64 b) : hart_quotient.f (k + 3) nDiv a b = some (divS a b) := by
  have e : hart_quotient.f (k + 3) nDiv a b = hart_quotient.j0 (k + 3) nDiv a b 9223372036854775808 false := by kernel_rfl
  rw [e, hart_quotient.j0]
  unfold divS
  by_cases h0 : b = 0
  · rw [if_pos h0, if_pos h0, hart_quotient.j1, if_neg (by decide), if_pos h0]
  · have hw := wrap64_zero hb h0
    rw [if_neg h0, if_neg h0, hart_quotient.j1, if_neg (by decide), if_neg h0, if_neg (by decide +kernel), if_neg (by decide +kernel)]
    by_cases ha : a = 9223372036854775808
    · rw [if_pos ha]
      by_cases hm : b = 18446744073709551615
      · rw [if_pos ⟨ha, hm⟩, hart_quotient.j2, if_pos (by simpa using hm), if_neg (by decide)]
      · rw [if_neg (fun h => hm h.2), hart_quotient.j2, if_neg (by simpa using hm), if_neg (by decide), if_neg hw]
    · rw [if_neg ha, if_neg (fun h => ha h.1), hart_quotient.j2, if_neg (by decide), if_neg (by decide), if_neg hw]
theorem q_rem (k : Nat) {a b : Int} (hb : U64 b) : hart_quotient.f (k + 3) nRem a b = some (remS a b) := by
  have e : hart_quotient.f (k + 3) nRem a b = hart_quotient.j0 (k + 3) nRem a b 9223372036854775808 true := by kernel_rfl
  rw [e, hart_quotient.j0]
  unfold remS
  by_cases h0 : b = 0
  · rw [if_pos h0, if_pos h0, hart_quotient.j1, if_pos rfl]
  · have hw := wrap64_zero hb h0
    rw [if_neg h0, if_neg h0, hart_quotient.j1, if_neg (by decide), if_neg h0, if_neg (by decide +kernel), if_neg (by decide +kernel)]
    by_cases ha : a = 9223372036854775808
    · rw [if_pos ha]
      by_cases hm : b = 18446744073709551615
      · rw [if_pos ⟨ha, hm⟩, hart_quotient.j2, if_pos (by simpa using hm), if_pos rfl]
      · rw [if_neg (fun h => hm h.2), hart_quotient.j2, if_neg (by simpa using hm), if_pos rfl, if_neg hw]
    · rw [if_neg ha, if_neg (fun h => ha h.1), hart_quotient.j2, if_neg (by decide), if_pos rfl, if_neg hw]
theorem q_divu (k : Nat) (a b : Int) : hart_quotient.f (k + 3) nDivu a b = some (divU a b) := by
  have e : hart_quotient.f (k + 3) nDivu a b = hart_quotient.j0 (k + 3) nDivu a b 9223372036854775808 false := by kernel_rfl
  rw [e, hart_quotient.j0]
  unfold divU
  by_cases h0 : b = 0
  · rw [if_pos h0, if_pos h0, hart_quotient.j1, if_neg (by decide), if_pos h0]
  · rw [if_neg h0, if_neg h0, hart_quotient.j1, if_neg (by decide), if_neg h0, if_pos (by decide +kernel)]
theorem q_remu (k : Nat) (a b : Int) : hart_quotient.f (k + 3) nRemu a b = some (remU a b) := by
  have e : hart_quotient.f (k + 3) nRemu a b = hart_quotient.j0 (k + 3) nRemu a b 9223372036854775808 true := by kernel_rfl
  rw [e, hart_quotient.j0]
  unfold remU
  by_cases h0 : b = 0
  · rw [if_pos h0, if_pos h0, hart_quotient.j1, if_pos rfl]
  · rw [if_neg h0, if_neg h0, hart_quotient.j1, if_neg (by decide), if_neg h0, if_neg (by decide +kernel), if_pos (by decide +kernel)]
theorem reck_of {nm : ByteArray} {a b r : Int} (h : hart_reckon.f 20 nm a b = some r) : reckF nm a b = r := by unfold reckF; rw [h]; rfl
theorem r_div {a b : Int} (hb : U64 b) : reckF nDiv a b = divS a b := by
  refine reck_of ?_
  have e : hart_reckon.f 20 nDiv a b = ((hart_quotient.f 19 nDiv a b).bind fun t131 => some t131).bind fun t => some t := by kernel_rfl
  rw [e, bind_id, bind_id]; exact q_div 16 hb
theorem r_rem {a b : Int} (hb : U64 b) : reckF nRem a b = remS a b := by
  refine reck_of ?_
  have e : hart_reckon.f 20 nRem a b = ((hart_quotient.f 19 nRem a b).bind fun t131 => some t131).bind fun t => some t := by kernel_rfl
  rw [e, bind_id, bind_id]; exact q_rem 16 hb
theorem r_divu (a b : Int) : reckF nDivu a b = divU a b := by
  refine reck_of ?_
  have e : hart_reckon.f 20 nDivu a b = ((hart_quotient.f 19 nDivu a b).bind fun t131 => some t131).bind fun t => some t := by kernel_rfl
  rw [e, bind_id, bind_id]; exact q_divu 16 a b
theorem r_remu (a b : Int) : reckF nRemu a b = remU a b := by
  refine reck_of ?_
  have e : hart_reckon.f 20 nRemu a b = ((hart_quotient.f 19 nRemu a b).bind fun t131 => some t131).bind fun t => some t := by kernel_rfl
  rw [e, bind_id, bind_id]; exact q_remu 16 a b
theorem r_mul (a b : Int) : reckF nMul a b = IntKind.u64.wrap (a * b) := by
  refine reck_of ?_
  have e : hart_reckon.f 20 nMul a b = (some (IntKind.u64.wrap (a * b))).bind fun t => some t := by kernel_rfl
  rw [e]; rfl
theorem r_add (a b : Int) : reckF nAdd a b = IntKind.u64.wrap (a + b) := by
  refine reck_of ?_
  have e : hart_reckon.f 20 nAdd a b = (some (IntKind.u64.wrap (a + b))).bind fun t => some t := by kernel_rfl
  rw [e]; rfl
/-! The lower 32 bits. -/
theorem ext_bind {o : Option Int} {r : Int} (h : o = some r) : ((o.bind fun t137 => (hart_extend.f t137 32).bind fun t138 => some t138) : Option Int) = some (extF r 32) := by
  rw [h]
  show ((hart_extend.f r 32).bind fun t138 => some t138) = _
  rw [bind_id, (extF_some r 32).1]
theorem r_mulw (a b : Int) : reckF nMulw a b = extF (IntKind.u64.wrap (a * b)) 32 := by
  refine reck_of ?_
  have e : hart_reckon.f 20 nMulw a b = (hart_word.f 20 nMul a b).bind fun t137 => (hart_extend.f t137 32).bind fun t138 => some t138 := by kernel_rfl
  rw [e]
  refine ext_bind ?_
  kernel_rfl
theorem r_addw (a b : Int) : reckF nAddw a b = extF (IntKind.u64.wrap (a + b)) 32 := by
  refine reck_of ?_
  have e : hart_reckon.f 20 nAddw a b = (hart_word.f 20 nAdd a b).bind fun t137 => (hart_extend.f t137 32).bind fun t138 => some t138 := by kernel_rfl
  rw [e]
  refine ext_bind ?_
  kernel_rfl
theorem ext2 {a b r : Int} {nm : ByteArray} (h : hart_quotient.f 19 nm (extF a 32) (extF b 32) = some r) : ((hart_extend.f a 32).bind fun t132 => (hart_extend.f b 32).bind fun t133 => (hart_quotient.f 19 nm t132 t133).bind fun t134 => some t134) = some r := by
  rw [(extF_some a 32).1, Option.bind_some, (extF_some b 32).1, Option.bind_some, h]; rfl
theorem r_divw (a b : Int) : reckF nDivw a b = extF (divS (extF a 32) (extF b 32)) 32 := by
  refine reck_of ?_
  have e : hart_reckon.f 20 nDivw a b = (hart_word.f 20 nDiv a b).bind fun t137 => (hart_extend.f t137 32).bind fun t138 => some t138 := by kernel_rfl
  rw [e]
  refine ext_bind ?_
  have e2 : hart_word.f 20 nDiv a b = (hart_extend.f a 32).bind fun t132 => (hart_extend.f b 32).bind fun t133 => (hart_quotient.f 19 nDiv t132 t133).bind fun t134 => some t134 := by kernel_rfl
  rw [e2]
  exact ext2 (q_div 16 (extF_some b 32).2)
theorem r_remw (a b : Int) : reckF nRemw a b = extF (remS (extF a 32) (extF b 32)) 32 := by
  refine reck_of ?_
  have e : hart_reckon.f 20 nRemw a b = (hart_word.f 20 nRem a b).bind fun t137 => (hart_extend.f t137 32).bind fun t138 => some t138 := by kernel_rfl
  rw [e]
  refine ext_bind ?_
  have e2 : hart_word.f 20 nRem a b = (hart_extend.f a 32).bind fun t132 => (hart_extend.f b 32).bind fun t133 => (hart_quotient.f 19 nRem t132 t133).bind fun t134 => some t134 := by kernel_rfl
  rw [e2]
  exact ext2 (q_rem 16 (extF_some b 32).2)
def lowF (x : Int) : Int := Go.bits .and .u64 x 4294967295
theorem r_divuw (a b : Int) : reckF nDivuw a b = extF (divU (lowF a) (lowF b)) 32 := by
  refine reck_of ?_
  have e : hart_reckon.f 20 nDivuw a b = (hart_word.f 20 nDivu a b).bind fun t137 => (hart_extend.f t137 32).bind fun t138 => some t138 := by kernel_rfl
  rw [e]
  refine ext_bind ?_
  have e2 : hart_word.f 20 nDivu a b = (hart_quotient.f 18 nDivu (Go.bits .and .u64 a 4294967295) (Go.bits .and .u64 b 4294967295)).bind fun t135 => some t135 := by kernel_rfl
  rw [e2, bind_id]
  exact q_divu 15 _ _
theorem r_remuw (a b : Int) : reckF nRemuw a b = extF (remU (lowF a) (lowF b)) 32 := by
  refine reck_of ?_
  have e : hart_reckon.f 20 nRemuw a b = (hart_word.f 20 nRemu a b).bind fun t137 => (hart_extend.f t137 32).bind fun t138 => some t138 := by kernel_rfl
  rw [e]
  refine ext_bind ?_
  have e2 : hart_word.f 20 nRemu a b = (hart_quotient.f 18 nRemu (Go.bits .and .u64 a 4294967295) (Go.bits .and .u64 b 4294967295)).bind fun t135 => some t135 := by kernel_rfl
  rw [e2, bind_id]
  exact q_remu 15 _ _
/-! Upper halves. -/
def hiF (a b : Int) : Int := ((bits_Mul64.f a b).getD (0, 0)).1
theorem r_mulhu (a b : Int) : reckF nMulhu a b = hiF a b := by
  refine reck_of ?_
  have e : hart_reckon.f 20 nMulhu a b = ((hart_upper.f nMulhu a b).bind fun t130 => some t130).bind fun t => some t := by kernel_rfl
  have e2 : hart_upper.f nMulhu a b = some (hiF a b) := by kernel_rfl
  rw [e, bind_id, bind_id, e2]
theorem r_mulhsu (a b : Int) : reckF nMulhsu a b = if wrap64 a < 0 then IntKind.u64.wrap (hiF a b - b) else hiF a b := by
  refine reck_of ?_
  have e : hart_reckon.f 20 nMulhsu a b = ((hart_upper.f nMulhsu a b).bind fun t130 => some t130).bind fun t => some t := by kernel_rfl
  rw [e, bind_id, bind_id]
  have e2 : hart_upper.f nMulhsu a b = if wrap64 a < 0 then some (IntKind.u64.wrap (hiF a b - b)) else some (hiF a b) := by kernel_rfl
  rw [e2]
  split <;> rfl
theorem r_mulh (a b : Int) : reckF nMulh a b = if wrap64 b < 0 then (if wrap64 a < 0 then IntKind.u64.wrap (IntKind.u64.wrap (hiF a b - a) - b) else IntKind.u64.wrap (hiF a b - a)) else (if wrap64 a < 0 then IntKind.u64.wrap (hiF a b - b) else hiF a b) := by
  refine reck_of ?_
  have e : hart_reckon.f 20 nMulh a b = ((hart_upper.f nMulh a b).bind fun t130 => some t130).bind fun t => some t := by kernel_rfl
  rw [e, bind_id, bind_id]
  have e2 : hart_upper.f nMulh a b = if wrap64 b < 0 then (if wrap64 a < 0 then some (IntKind.u64.wrap (IntKind.u64.wrap (hiF a b - a) - b)) else some (IntKind.u64.wrap (hiF a b - a))) else (if wrap64 a < 0 then some (IntKind.u64.wrap (hiF a b - b)) else some (hiF a b)) := by kernel_rfl
  rw [e2]
  split <;> split <;> rfl
end Go.Proofs.Ytciehejifdbpoaa.Ht

namespace Go.Proofs.Ytciehejifdbpoaa.Ht
open Go.RowKit Go.Maps Go.Proofs.Ytciehejifdbpoaa.Grow Go.Proofs.Ytciehejifdbpoaa.Rv Go.Proofs.Ytciehejifdbpoaa.As Go.Proofs.Ytciehejifdbpoaa.PHartQuotients
open Go.Proofs.YtciehejifdbpoaaW.PrintWords Go.Proofs.YtciehejifdbpoaaW.PrintLast Go.Proofs.YtciehejifdbpoaaW.PrintMore

/-! ### The laws' arithmetic -/
theorem w64_mod (x : Int) : wrap64 x % 18446744073709551616 = x % 18446744073709551616 := by unfold wrap64; omega
theorem mod_mul_add {d b r q s t : Int} (T : Int) (h1 : d % T = q % T) (h2 : b % T = s % T) (h3 : r % T = t % T) : (d * b + r) % T = (q * s + t) % T := by
  rw [Int.add_emod, Int.mul_emod, h1, h2, h3, ← Int.mul_emod, ← Int.add_emod]
theorem key_s {a b : Int} (ha : U64 a) (_hb : U64 b) : (divS a b * b + remS a b) % 18446744073709551616 = a := by
  have haT : a % 18446744073709551616 = a := Int.emod_eq_of_lt ha.1 ha.2
  unfold divS remS
  by_cases h0 : b = 0
  · subst h0; simp only [if_true, Int.mul_zero, Int.zero_add]; exact haT
  · rw [if_neg h0, if_neg h0]
    by_cases hm : a = 9223372036854775808 ∧ b = 18446744073709551615
    · obtain ⟨rfl, rfl⟩ := hm
      decide
    · rw [if_neg hm, if_neg hm]
      have := mod_mul_add (d := IntKind.u64.wrap (wrap64 (Int.tdiv (wrap64 a) (wrap64 b)))) (b := b) (r := IntKind.u64.wrap (Int.tmod (wrap64 a) (wrap64 b))) (q := Int.tdiv (wrap64 a) (wrap64 b)) (s := wrap64 b) (t := Int.tmod (wrap64 a) (wrap64 b)) 18446744073709551616
        (by rw [IntKind.wrap_u64, Int.emod_emod_of_dvd _ (Int.dvd_refl _)]; exact w64_mod _) (w64_mod b).symm (by rw [IntKind.wrap_u64, Int.emod_emod_of_dvd _ (Int.dvd_refl _)])
      rw [this, Int.mul_comm, Int.mul_tdiv_add_tmod, w64_mod, haT]
theorem key_u {a b : Int} (ha : U64 a) (_hb : U64 b) : (divU a b * b + remU a b) % 18446744073709551616 = a := by
  have haT : a % 18446744073709551616 = a := Int.emod_eq_of_lt ha.1 ha.2
  unfold divU remU
  by_cases h0 : b = 0
  · subst h0; simp only [if_true, Int.mul_zero, Int.zero_add]; exact haT
  · rw [if_neg h0, if_neg h0]
    have := mod_mul_add (d := IntKind.u64.wrap (Int.tdiv a b)) (b := b) (r := Int.tmod a b) (q := Int.tdiv a b) (s := b) (t := Int.tmod a b) 18446744073709551616 (by rw [IntKind.wrap_u64, Int.emod_emod_of_dvd _ (Int.dvd_refl _)]) rfl rfl
    rw [this, Int.mul_comm, Int.mul_tdiv_add_tmod, haT]
theorem quot_end {d b r a : Int} (h : (d * b + r) % 18446744073709551616 = a) : IntKind.u64.wrap (IntKind.u64.wrap (d * b) + r) = a := by
  rw [IntKind.wrap_u64, IntKind.wrap_u64, Int.emod_add_emod]; exact h
def sx (x : Int) : Int := (x + 2147483648) % 4294967296 - 2147483648
def eF (x : Int) : Int := sx x % 18446744073709551616
theorem ext_val (x : Int) : extF x 32 = eF x := by
  have e : hart_extend.f x 32 = some (IntKind.u64.wrap (wrap64 (IntKind.u64.wrap (x * 4294967296)) / 4294967296)) := by kernel_rfl
  unfold extF
  rw [e]
  show IntKind.u64.wrap (wrap64 (IntKind.u64.wrap (x * 4294967296)) / 4294967296) = eF x
  rw [IntKind.wrap_u64, IntKind.wrap_u64]
  unfold wrap64 eF sx
  omega
theorem eF_mod (x : Int) : eF x % 4294967296 = x % 4294967296 := by unfold eF sx; omega
theorem eF_of {x y : Int} (h : x % 4294967296 = y % 4294967296) : eF x = eF y := by unfold eF sx; omega
theorem eF_u64 (x : Int) : U64 (eF x) := by unfold eF; exact ⟨Int.emod_nonneg _ (by decide), Int.emod_lt_of_pos _ (by decide)⟩
theorem words {d r eb ea a b : Int} (h : (d * eb + r) % 18446744073709551616 = ea) (hb : eb % 4294967296 = b % 4294967296) (ha : ea % 4294967296 = a % 4294967296) :
    extF (IntKind.u64.wrap (extF (IntKind.u64.wrap (extF d 32 * b)) 32 + extF r 32)) 32 = eF a := by
  simp only [ext_val]
  refine eF_of ?_
  have h1 : (eF d * b + eF r) % 4294967296 = (d * eb + r) % 4294967296 := mod_mul_add 4294967296 (eF_mod d) hb.symm (eF_mod r)
  have h2 : (d * eb + r) % 4294967296 = a % 4294967296 := by rw [← ha, ← h]; omega
  have h3 := eF_mod (IntKind.u64.wrap (eF d * b))
  rw [IntKind.wrap_u64] at h3 ⊢
  rw [h2] at h1
  rw [IntKind.wrap_u64]
  generalize eF d * b = z at *
  generalize eF (z % 18446744073709551616) = y at *
  generalize eF r = u at *
  omega
theorem low_val {x : Int} (hx : U64 x) : lowF x = x % 4294967296 := by
  obtain ⟨n, rfl⟩ := Int.eq_ofNat_of_zero_le hx.1
  unfold lowF
  have := (bits_nat .u64 64 (by decide) wraps_u64 n 4294967295 (by have := hx.2; omega) (by decide)).1
  rw [show (4294967295 : Int) = ((4294967295 : Nat) : Int) by rfl, this]
  have e : n &&& 4294967295 = n % 4294967296 := Nat.and_two_pow_sub_one_eq_mod n 32
  rw [e]
  omega
theorem hi_val {a b : Int} (ha : U64 a) (hb : U64 b) : hiF a b = a * b / 18446744073709551616 := by
  have e : hiF a b = IntKind.u64.wrap ((IntKind.u64.wrap ((IntKind.u64.wrap ((a / 4294967296) * (b / 4294967296))) + ((IntKind.u64.wrap ((IntKind.u64.wrap ((a / 4294967296) * lowF b)) + ((IntKind.u64.wrap (lowF a * lowF b)) / 4294967296))) / 4294967296))) + ((IntKind.u64.wrap ((lowF (IntKind.u64.wrap ((IntKind.u64.wrap ((a / 4294967296) * lowF b)) + ((IntKind.u64.wrap (lowF a * lowF b)) / 4294967296)))) + (IntKind.u64.wrap (lowF a * (b / 4294967296))))) / 4294967296)) := by kernel_rfl
  rw [e, low_val (wrap_range _), low_val ha, low_val hb]
  obtain ⟨a1, ha1⟩ : ∃ a1, a / 4294967296 = a1 := ⟨_, rfl⟩
  obtain ⟨a0, ha0⟩ : ∃ a0, a % 4294967296 = a0 := ⟨_, rfl⟩
  obtain ⟨b1, hb1⟩ : ∃ b1, b / 4294967296 = b1 := ⟨_, rfl⟩
  obtain ⟨b0, hb0⟩ : ∃ b0, b % 4294967296 = b0 := ⟨_, rfl⟩
  have hae : a = a1 * 4294967296 + a0 := by omega
  have hbe : b = b1 * 4294967296 + b0 := by omega
  have a1r : 0 ≤ a1 ∧ a1 ≤ 4294967295 := by have := ha.1; have := ha.2; omega
  have a0r : 0 ≤ a0 ∧ a0 ≤ 4294967295 := by omega
  have b1r : 0 ≤ b1 ∧ b1 ≤ 4294967295 := by have := hb.1; have := hb.2; omega
  have b0r : 0 ≤ b0 ∧ b0 ≤ 4294967295 := by omega
  have hab : a * b = a1 * b1 * 18446744073709551616 + (a1 * b0 + a0 * b1) * 4294967296 + a0 * b0 := by
    rw [hae, hbe]
    simp only [Int.add_mul, Int.mul_add]
    have e1 : a1 * 4294967296 * (b1 * 4294967296) = a1 * b1 * 18446744073709551616 := by
      rw [Int.mul_assoc, Int.mul_left_comm 4294967296 b1 4294967296, ← Int.mul_assoc]; rfl
    have e2 : a1 * 4294967296 * b0 = a1 * b0 * 4294967296 := by rw [Int.mul_right_comm]
    have e3 : a0 * (b1 * 4294967296) = a0 * b1 * 4294967296 := by rw [Int.mul_assoc]
    rw [e1, e2, e3]
    omega
  rw [ha1, ha0, hb1, hb0, hab]
  have pr : ∀ x y : Int, 0 ≤ x ∧ x ≤ 4294967295 → 0 ≤ y ∧ y ≤ 4294967295 → 0 ≤ x * y ∧ x * y ≤ 18446744065119617025 := fun x y hx hy =>
    ⟨Int.mul_nonneg hx.1 hy.1, Int.le_trans (Int.mul_le_mul hx.2 hy.2 hy.1 (by decide)) (by decide)⟩
  have p1 := pr _ _ a1r b1r
  have p2 := pr _ _ a1r b0r
  have p3 := pr _ _ a0r b1r
  have p4 := pr _ _ a0r b0r
  clear hae hbe hab ha hb e ha1 ha0 hb1 hb0 a1r a0r b1r b0r pr
  generalize a1 * b1 = p at *
  generalize a1 * b0 = q at *
  generalize a0 * b1 = r at *
  generalize a0 * b0 = s at *
  simp only [IntKind.wrap_u64]
  omega

/-! ### What the laws' programs leave in a register -/
theorem put_len (S : HartS) (i x : Int) : (S.put i x).regs.length = S.regs.length := by
  unfold HartS.put; split
  · simp
  · rfl
theorem ra_at (S : HartS) (nx i : Int) : (S.at_ nx).ra i = S.ra i := rfl
theorem len_at (S : HartS) (nx : Int) : (S.at_ nx).regs.length = S.regs.length := rfl
theorem ra_same {S : HartS} (hl : S.regs.length = 32) {i : Int} (h : 0 < i ∧ i < 32) (x : Int) : (S.put i x).ra i = x := by
  unfold HartS.put HartS.ra
  rw [if_pos h]
  simp only [List.getD_eq_getElem?_getD]
  rw [List.getElem?_set_self (by omega)]; rfl
theorem ra_ne {S : HartS} {i j : Int} (h : i.toNat ≠ j.toNat) (x : Int) : (S.put i x).ra j = S.ra j := by
  unfold HartS.put HartS.ra
  split
  · simp only [List.getD_eq_getElem?_getD]
    rw [List.getElem?_set_ne h]
  · rfl
theorem reg_ra {S : HartS} {i : Int} (h : 0 ≤ i ∧ i < 32) : S.reg i = S.ra i := by unfold HartS.reg HartS.ra; rw [if_pos h]
theorem new_len (M : MemS) (pc : Int) : (new0 M pc).regs.length = 32 := by simp [new0]
theorem ranH_len (bs : List Int) (a b : Int) : (ranH bs a b).regs.length = 32 := by unfold ranH; rw [put_len, put_len, new_len]
theorem ranH_1 (bs : List Int) (a b : Int) : (ranH bs a b).ra 1 = a := by
  unfold ranH; rw [ra_ne (by decide), ra_same (new_len _ _) (by decide)]
theorem ranH_2 (bs : List Int) (a b : Int) : (ranH bs a b).ra 2 = b := by
  unfold ranH; rw [ra_same (by rw [put_len, new_len]) (by decide)]
theorem line_reck {nm : ByteArray} (h : clsF nm = 8 ∧ withF nm = none) (S : HartS) (rd ra rb imm : Int) : lineOp S ⟨nm, rd, ra, rb, imm⟩ = (S.put rd (reckF nm (S.ra ra) (S.ra rb))).at_ (IntKind.u64.wrap (S.pc + 4)) := by
  have hm : mkDone ⟨nm, rd, ra, rb, imm⟩ = ⟨⟨nm, rd, ra, rb, imm⟩, nm, false⟩ := by unfold mkDone; simp only [h.2]
  unfold lineOp
  rw [hm]
  unfold execF
  simp only [h.1]
  rfl
abbrev Rk (nm : ByteArray) : Prop := clsF nm = 8 ∧ withF nm = none
theorem quot_line {n1 n2 n3 n4 : ByteArray} (h1 : Rk n1) (h2 : Rk n2) (h3 : Rk n3) (h4 : Rk n4) (bs : List Int) (a b : Int) :
    (lineF [⟨n1, 3, 1, 2, 0⟩, ⟨n2, 4, 1, 2, 0⟩, ⟨n3, 3, 3, 2, 0⟩, ⟨n4, 3, 3, 4, 0⟩] (ranH bs a b)).reg 3 = reckF n4 (reckF n3 (reckF n1 a b) b) (reckF n2 a b) := by
  have l0 := ranH_len bs a b
  have r1 := ranH_1 bs a b
  have r2 := ranH_2 bs a b
  show (lineOp (lineOp (lineOp (lineOp (ranH bs a b) _) _) _) _).reg 3 = _
  generalize ranH bs a b = S0 at *
  rw [line_reck h1, r1, r2]
  obtain ⟨S1, hS1⟩ : ∃ S1, (S0.put 3 (reckF n1 a b)).at_ (IntKind.u64.wrap (S0.pc + 4)) = S1 := ⟨_, rfl⟩
  have l1 : S1.regs.length = 32 := by rw [← hS1, len_at, put_len, l0]
  have a1 : S1.ra 1 = a := by rw [← hS1, ra_at, ra_ne (by decide), r1]
  have a2 : S1.ra 2 = b := by rw [← hS1, ra_at, ra_ne (by decide), r2]
  have a3 : S1.ra 3 = reckF n1 a b := by rw [← hS1, ra_at, ra_same l0 (by decide)]
  rw [hS1, line_reck h2, a1, a2]
  obtain ⟨S2, hS2⟩ : ∃ S2, (S1.put 4 (reckF n2 a b)).at_ (IntKind.u64.wrap (S1.pc + 4)) = S2 := ⟨_, rfl⟩
  have l2 : S2.regs.length = 32 := by rw [← hS2, len_at, put_len, l1]
  have b2 : S2.ra 2 = b := by rw [← hS2, ra_at, ra_ne (by decide), a2]
  have b3 : S2.ra 3 = reckF n1 a b := by rw [← hS2, ra_at, ra_ne (by decide), a3]
  have b4 : S2.ra 4 = reckF n2 a b := by rw [← hS2, ra_at, ra_same l1 (by decide)]
  rw [hS2, line_reck h3, b3, b2]
  obtain ⟨S3, hS3⟩ : ∃ S3, (S2.put 3 (reckF n3 (reckF n1 a b) b)).at_ (IntKind.u64.wrap (S2.pc + 4)) = S3 := ⟨_, rfl⟩
  have l3 : S3.regs.length = 32 := by rw [← hS3, len_at, put_len, l2]
  have c3 : S3.ra 3 = reckF n3 (reckF n1 a b) b := by rw [← hS3, ra_at, ra_same l2 (by decide)]
  have c4 : S3.ra 4 = reckF n2 a b := by rw [← hS3, ra_at, ra_ne (by decide), b4]
  rw [hS3, line_reck h4, c3, c4, reg_ra (by decide), ra_at, ra_same l3 (by decide)]
theorem one_line {nm : ByteArray} (h : Rk nm) (bs : List Int) (a b ra rb : Int) :
    (lineF [⟨nm, 3, ra, rb, 0⟩] (ranH bs a b)).reg 3 = reckF nm ((ranH bs a b).ra ra) ((ranH bs a b).ra rb) := by
  show (lineOp (ranH bs a b) _).reg 3 = _
  rw [line_reck h, reg_ra (by decide), ra_at, ra_same (ranH_len bs a b) (by decide)]
theorem ran_line {w : World} {L cap n : Nat} (l : List OpI) (hL : w.heap[L]? = some (.cells (l.flatMap OpI.cells).toArray 24 (0, 0))) (hl0 : 0 < l.length) (hl : l.length < 1000) {bs : List Int} (he : encB l = some bs) (hx : ∀ x ∈ l, Plain x) {a b : Int} (ha : U64 a) (hb : U64 b) (reg : Int) (hn : l.length = n) :
    Calls Try.prog 36 #[.slice (some ⟨L, 0, none⟩) n cap, .int .u64 a, .int .u64 b, .int .i64 reg] w fun e w' => e = .returned (.tuple #[.int .u64 ((lineF l (ranH bs a b)).reg reg), .bool true]) ∧ Below w.heap.size w w' := by
  subst hn
  have hm : (ranH bs a b).mem = progM 0 bs := by unfold ranH; rw [put_mem, put_mem]; rfl
  have hp : (ranH bs a b).pc = 0 + 4 * ((0 : Nat) : Int) := by unfold ranH; rw [put_pc, put_pc]; rfl
  have h := run_line he (by omega) (by decide) (by decide) (by decide) hx l.length 0 (ranH bs a b) l.length (by omega) (Nat.le_refl _) hm hp
  rw [Int.zero_add, List.drop_zero] at h
  exact ran_calls l hL hl0 hl he ha hb reg h.1 h.2
end Go.Proofs.Ytciehejifdbpoaa.Ht
