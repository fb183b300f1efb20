import Derived.Test.YtpfcdhjknmijjaaGreatCo33
import Derived.Laws.CopyOwn
import Derived.Laws.MakeOwn
import Derived.OwnWalk
import Derived.Test.YtpfcdhjknmijjaaGreatCo19
import Derived.Test.YtpfcdhjknmijjaaGreatCo30
section
set_option linter.unusedSimpArgs false
set_option linter.unusedVariables false
namespace Go.Proofs.YtpfcdhjknmijjaaGreat.Ht
open Go.RowKit Go.Maps Go.Proofs.YtpfcdhjknmijjaaGreat.Grow Go.Proofs.YtpfcdhjknmijjaaGreat.Rv Go.Proofs.YtpfcdhjknmijjaaGreat.As Go.Proofs.YtpfcdhjknmijjaaGreat.PHartQuotients
open Go.Proofs.YtpfcdhjknmijjaaGreatW.PrintWords Go.Proofs.YtpfcdhjknmijjaaGreatW.PrintLast Go.Proofs.YtpfcdhjknmijjaaGreatW.PrintMore

/-! ### A memory out of regions -/
structure RegIn where
  base : Int
  data : ByteArray
  rights : Int
def dataB (s : ByteArray) : List Int := s.data.toList.map fun b => (b.toNat : Int)
theorem dataB_len (s : ByteArray) : (dataB s).length = s.size := by simp [dataB]
def memOf (l : List RegIn) : MemS := ⟨l.map fun r => ⟨r.base, dataB r.data, r.rights⟩, 0⟩
def endF (l : List RegIn) : Nat → Int
  | 0 => 0
  | k + 1 => ((l[k]?).map fun r => r.base + (r.data.size : Int)).getD 0
structure RegOk (e : Int) (r : RegIn) : Prop where
  pos : 0 < r.data.size
  few : r.data.size < 1000000000
  rights0 : 0 ≤ r.rights
  rights7 : r.rights ≤ 7
  base0 : 0 ≤ r.base
  base : e ≤ r.base
  top : r.base + (r.data.size : Int) ≤ 9223372036854775808
def RegsOk (l : List RegIn) : Prop := ∀ k (h : k < l.length), RegOk (endF l k) l[k]
def pcCells (x : RegIn × Nat) : List Value := [.int .u64 x.1.base, .slice (some ⟨x.2, 0, none⟩) x.1.data.size x.1.data.size, .int .i64 x.1.rights]
structure NewS (b : Nat) (w : World) (mp : Nat) (l : List RegIn) (k : Nat) (pv : Value) (gs : List Nat) : Prop where
  head : w.heap[mp]? = some (.cells #[pv, .int .u64 0] 180 (0, 0))
  row : w.ownsRow b 182 3 pv k (((l.take k).zip gs).flatMap pcCells)
  len : gs.length = k
  nd : gs.Nodup
  ge : ∀ g ∈ gs, b ≤ g ∧ g < w.heap.size
  bytes : ∀ i (h : i < l.length) (h' : i < gs.length), w.heap[gs[i]]? = some (.cells ((dataB l[i].data).map (Value.int .u8)).toArray 5 (0, 0))
theorem info5 : (Tryz.prog.info? 5).map (fun i => (i.zero, i.size, i.bytes)) = some (some (.int .u8 0), 1, 1) := by kernel_rfl
theorem under130 : Tryz.prog.underlying 68 = some (.slice 5) := by kernel_rfl
theorem info171 : (Tryz.prog.info? 182).map (fun i => (i.zero, i.size, i.bytes)) = some (some (.agg #[.int .u64 0, .slice none 0 0, .int .i64 0]), 3, 40) := by kernel_rfl
theorem under167 : Tryz.prog.underlying 178 = some (.slice 182) := by kernel_rfl
theorem ownsRow_below2 {w W : World} {B e size n : Nat} {v : Value} {xs : List Value} (h : w.ownsRow B e size v n xs) (hb : Below w.heap.size w W) : W.ownsRow B e size v n xs := by
  obtain ⟨h1, h2⟩ := h
  refine ⟨h1, ?_⟩
  rcases h2 with h2 | ⟨g, cap, cur, hv, hg, hh, r⟩
  · exact .inl h2
  · exact .inr ⟨g, cap, cur, hv, hg, (hb.block g (blk_lt hh)).trans hh, r⟩
/-- 'copy(dst, s)', dst a row of as many bytes as the string s has. -/
theorem run_copy_str (w : World) (ty : TypeId) (g n : Nat) (cap : Nat) (s : ByteArray) (cur : Array Value) (hn : s.size = n) (hg : w.heap[g]? = some (.cells cur 5 (0, 0))) (hc : cur.size = n) :
    (Builtin.copy_ #[68, 9] ty #[.slice (some ⟨g, 0, none⟩) n cap, .string s]).run Tryz.prog w = .ok (goInt n) (w.setRow g ((dataB s).map (Value.int .u8)).toArray) := by
  obtain ⟨i, hi, hz, hs, hb⟩ := info_parts info5
  have hst := run_storeCells_at Tryz.prog g 0 5 ((dataB s).map (Value.int .u8)) 0 cur w hg (by rw [List.length_map, dataB_len, hn, hc]; omega) (by intro v hv; obtain ⟨x, _, rfl⟩ := List.mem_map.1 hv; rfl)
  have e2 : (cur.toList.take (0 + 0) ++ (dataB s).map (Value.int .u8) ++ cur.toList.drop (0 + 0 + ((dataB s).map (Value.int .u8)).length)).toArray = ((dataB s).map (Value.int .u8)).toArray := by
    have : cur.toList.drop (0 + 0 + ((dataB s).map (Value.int .u8)).length) = [] := by
      apply List.drop_eq_nil_of_le
      rw [List.length_map, dataB_len, hn, Array.length_toList, hc]; omega
    rw [this]; simp
  rw [e2] at hst
  have hmin : Nat.min n n = n := Nat.min_self n
  have e3 : List.take n (List.map (fun b : UInt8 => Value.int .u8 (b.toNat : Int)) s.data.toList) = (dataB s).map (Value.int .u8) := by
    rw [List.take_of_length_le (by rw [List.length_map, Array.length_toList, ← hn]; exact Nat.le_refl _)]
    simp [dataB]
  simp [Builtin.copy_, run_underlying under130, Builtin.lenOf, Builtin.firstCells, sizeOf, typeInfo, hi, hn, hmin, e3, hst]
theorem alloc_get (w : World) (o : Obj) (h : w.heap.size < (w.alloc o).heap.size) : (w.alloc o).heap[w.heap.size]'h = o :=
  Option.some.inj ((Array.getElem?_eq_getElem h).symm.trans (heap_alloc_last w o))
theorem bld171 (B R : Int) (g n : Nat) (w : World) : (Instr.build 182 #[(0, .int .u64 B), (1, .slice (some ⟨g, 0, none⟩) n n), (2, .int .i64 R)]).run Tryz.prog w = .ok (.agg #[.int .u64 B, .slice (some ⟨g, 0, none⟩) n n, .int .i64 R]) w := by kernel_rfl
theorem one_pcs (x : RegIn × Nat) : ∀ u ∈ pcCells x, u.oneCell' = true := by
  intro u hu
  simp [pcCells] at hu
  rcases hu with rfl | rfl | rfl <;> rfl
theorem NewS.below {b : Nat} {w w' : World} {mp : Nat} {l : List RegIn} {k : Nat} {pv : Value} {gs : List Nat} (h : NewS b w mp l k pv gs) (hb : Below w.heap.size w w') : NewS b w' mp l k pv gs :=
  ⟨blk_below h.head hb, ownsRow_below2 h.row hb, h.len, h.nd, fun g hg => ⟨(h.ge g hg).1, Nat.lt_of_lt_of_le (h.ge g hg).2 hb.size⟩, fun i h1 h2 => blk_below (h.bytes i h1 h2) hb⟩
theorem NewS.ne {b : Nat} {w : World} {mp : Nat} {l : List RegIn} {k : Nat} {pv : Value} {gs : List Nat} (h : NewS b w mp l k pv gs) : pv.ownBlock ≠ some mp ∧ (∀ j, pv.ownBlock = some j → j < w.heap.size ∧ ∃ cs, w.heap[j]? = some (.cells cs 182 (0, 0))) := by
  refine ⟨fun e => ?_, fun j e => ?_⟩
  all_goals
    rcases h.row.2 with ⟨rfl, _⟩ | ⟨g, cap, cur, rfl, hg, hh, _⟩
    · cases e
    · simp only [Value.ownBlock, Option.some.injEq] at e
      subst e
      first
        | exact ⟨blk_lt hh, _, hh⟩
        | (have := h.head; rw [hh] at this; simp at this)
theorem NewS.push {b : Nat} {w w1 : World} {mp : Nat} {l : List RegIn} {k : Nat} {pv : Value} {gs : List Nat} {g gg cap : Nat} (h : NewS b w mp l k pv gs) (hk : k < l.length) (hg : w.drew.grownBy w1 pv.ownBlock)
    (hown : w1.ownsRow b 182 3 (.slice (some ⟨gg, 0, none⟩) (k + 1) cap) (k + 1) (((l.take k).zip gs).flatMap pcCells ++ pcCells (l[k], g)))
    (hgb : w.heap[g]? = some (.cells ((dataB l[k].data).map (Value.int .u8)).toArray 5 (0, 0))) (hbg : b ≤ g) (hnew : g ∉ gs) (hbm : b ≤ mp) :
    NewS b (w1.setCell ⟨mp, 0, none⟩ (.slice (some ⟨gg, 0, none⟩) (k + 1) cap)) mp l (k + 1) (.slice (some ⟨gg, 0, none⟩) (k + 1) cap) (gs ++ [g]) ∧ Below b w (w1.setCell ⟨mp, 0, none⟩ (.slice (some ⟨gg, 0, none⟩) (k + 1) cap)) := by
  obtain ⟨n1, n2⟩ := h.ne
  have hmp := (hg.block mp (blk_lt h.head) (Ne.symm n1)).trans h.head
  have hne : gg ≠ mp := by
    rintro rfl
    rcases hown.2 with ⟨e, _⟩ | ⟨g', cap', cur, e, _, hh, _⟩
    · cases e
    · simp only [Value.slice.injEq, Option.some.injEq, Addr.mk.injEq] at e
      obtain ⟨⟨rfl, _⟩, _⟩ := e
      rw [hh] at hmp; simp at hmp
  have far : ∀ (j : Nat) (cs : Array Value), w.heap[j]? = some (Obj.cells cs 5 (0, 0)) → (w1.setCell ⟨mp, 0, none⟩ (.slice (some ⟨gg, 0, none⟩) (k + 1) cap)).heap[j]? = some (Obj.cells cs 5 (0, 0)) := fun j cs hj => by
    have j1 : j ≠ mp := by rintro rfl; have := h.head; rw [hj] at this; simp at this
    have j2 : some j ≠ pv.ownBlock := fun e => by
      obtain ⟨_, cs', hc'⟩ := n2 j e.symm
      rw [hj] at hc'; simp at hc'
    exact (heap_setCell_other _ _ _ _ j1).trans ((hg.block j (blk_lt hj) j2).trans hj)
  refine ⟨⟨?_, ?_, by simp [h.len], ?_, ?_, ?_⟩, ?_⟩
  · rw [heap_setCell_same w1 mp 0 _ 180 _ hmp]; rfl
  · have e : ((l.take (k + 1)).zip (gs ++ [g])).flatMap pcCells = ((l.take k).zip gs).flatMap pcCells ++ pcCells (l[k], g) := by
      rw [List.take_succ_eq_append_getElem hk, List.zip_append (by rw [List.length_take, h.len]; omega), List.flatMap_append]
      simp
    rw [e]
    refine ⟨hown.1, ?_⟩
    rcases hown.2 with ⟨e, _⟩ | ⟨g', cap', cur, e, r1, hh, r2⟩
    · cases e
    · refine .inr ⟨g', cap', cur, e, r1, ?_, r2⟩
      have : g' ≠ mp := by
        simp only [Value.slice.injEq, Option.some.injEq, Addr.mk.injEq] at e
        rw [← e.1.1]; exact hne
      exact (heap_setCell_other _ _ _ _ this).trans hh
  · rw [List.nodup_append]
    exact ⟨h.nd, by simp, fun a ha b' hb' => by simp at hb'; rintro rfl; subst hb'; exact hnew ha⟩
  · intro x hx
    have hsz : w.heap.size ≤ (w1.setCell ⟨mp, 0, none⟩ (.slice (some ⟨gg, 0, none⟩) (k + 1) cap)).heap.size := by simpa [World.setCell] using hg.size
    rcases List.mem_append.1 hx with hx | hx
    · exact ⟨(h.ge x hx).1, Nat.lt_of_lt_of_le (h.ge x hx).2 hsz⟩
    · simp at hx; subst hx
      exact ⟨hbg, Nat.lt_of_lt_of_le (blk_lt hgb) hsz⟩
  · intro i h1 h2
    by_cases hi : i < gs.length
    · rw [List.getElem_append_left hi]
      exact far _ _ (h.bytes i h1 hi)
    · have e : i = k := by simp at h2; have := h.len; omega
      subst e
      rw [List.getElem_append_right (by omega)]
      simp only [h.len, Nat.sub_self, List.getElem_singleton]
      exact far _ _ hgb
  · have b1 : Below b w w1 := ⟨hg.os, hg.tape, hg.output, hg.size, fun j hj => hg.block j (by have := blk_lt h.head; show j < w.heap.size; omega) fun e => by
      obtain ⟨_, _⟩ := n2 j e.symm
      rcases h.row.2 with ⟨rfl, _⟩ | ⟨g', cap', cur, rfl, hg', hh, _⟩
      · cases e
      · simp only [Value.ownBlock, Option.some.injEq] at e
        omega⟩
    exact b1.setCell (p := ⟨mp, 0, none⟩) hbm _
theorem mk_bytes (n : Nat) (hn : n < 1000000000) (w : World) : (Instr.makeSlice 68 (.int .i64 (n : Int)) (.int .i64 (n : Int))).run Tryz.prog w = .ok (.slice (some ⟨w.heap.size, 0, none⟩) n n) (w.alloc (.cells (madeCells (Value.cells (.int .u8 0)) n) 5)) := by
  obtain ⟨i, hi, hz, hs, hb⟩ := info_parts info5
  have h := run_make (P := Tryz.prog) w 68 5 i (.int .u8 0) under130 hi hz .i64 .i64 (n : Int) (n : Int) (by omega) (Int.le_refl _) (by rw [hb]; omega) (by omega)
  rw [hs, Nat.mul_one, Int.toNat_natCast] at h
  exact h

set_option maxHeartbeats 8000000 in
set_option maxRecDepth 100000 in
theorem MemNew_calls {w : World} {L off cap : Nat} (l : List RegIn) (hok : RegsOk l) (hl : l.length < 1000000)
    (hc : ∀ i (h : i < l.length), w.cell? ⟨L, off + i * 3, none⟩ = some (.int .u64 l[i].base) ∧ w.cell? ⟨L, off + i * 3 + 1, none⟩ = some (.string l[i].data) ∧ w.cell? ⟨L, off + i * 3 + 2, none⟩ = some (.int .i64 l[i].rights)) (hL : L < w.heap.size) :
    Calls Tryz.prog 64 #[.slice (some ⟨L, off, none⟩) l.length cap] w fun e w' => (∃ mp pv gs, e = .returned (.tuple #[.pointer (some ⟨mp, 0, none⟩), .int .i64 0]) ∧ w.heap.size ≤ mp ∧ NewS w.heap.size w' mp l l.length pv gs) ∧ Below w.heap.size w w' := by
  have HC := Aside0.mk hc
  have HO := Aside0.mk hok
  clear hc hok
  go_enter Tryz.func64, Tryz.ntmps64
  go_wp2
  go_loopw [5, 7, 8, 9, 14] (fun v5 _ _ _ v14 wr => ∃ k : Nat, k ≤ l.length ∧ v5 = .int .u64 (endF l k) ∧ v14 = .int .i64 k ∧ Aside0 (Below w.heap.size w wr ∧ ∃ pv gs, NewS w.heap.size wr w.heap.size l k pv gs)) (fun _ _ _ _ v14 _ => l.length - (intOf v14).toNat)
  case atStart =>
    refine ⟨0, by omega, rfl, rfl, ⟨below_alloc (Below.refl _ _) _, .slice none 0 0, [], ⟨heap_alloc_last _ _, ⟨rfl, .inl ⟨rfl, rfl⟩⟩, rfl, List.nodup_nil, (fun g hg => by cases hg), fun i h h' => by cases h'⟩⟩⟩
  case round =>
    obtain ⟨k, hk, rfl, rfl, hx⟩ := hrel
    by_cases hlt : k < l.length
    · obtain ⟨hb, pv, gs, hS⟩ := hx.out
      obtain ⟨o1, o2, o3, o4, o5, o6, o7⟩ := HO.out k hlt
      obtain ⟨c0, c1, c2⟩ := HC.out k hlt
      rw [← hb.cell hL] at c0 c1 c2
      obtain ⟨⟨B, D, R⟩, hr⟩ : ∃ r, l[k] = r := ⟨_, rfl⟩
      rw [hr] at c0 c1 c2 o1 o2 o3 o4 o5 o6 o7
      simp only at c0 c1 c2 o1 o2 o3 o4 o5 o6 o7
      obtain ⟨E, hE⟩ : ∃ E, endF l k = E := ⟨_, rfl⟩
      rw [hE] at o6 ⊢
      obtain ⟨n, hn⟩ : ∃ n, D.size = n := ⟨_, rfl⟩
      rw [hn] at o1 o2 o7
      have u1 : IntKind.u64.wrap (n : Int) = (n : Int) := u64_nat (by omega)
      have u2 : IntKind.u64.wrap ((n : Int) - 1) = (n : Int) - 1 := by rw [IntKind.wrap_u64]; omega
      have u3 : IntKind.u64.wrap (9223372036854775807 - B) = 9223372036854775807 - B := by rw [IntKind.wrap_u64]; omega
      have u4 : IntKind.u64.wrap (B + (n : Int)) = B + (n : Int) := by rw [IntKind.wrap_u64]; omega
      have hzL := Nat.lt_of_lt_of_le hL hb.size
      have HB := Aside0.mk hb
      have HS := Aside0.mk hS
      have HX := Aside0.mk hx
      have HR := Aside0.mk hr
      have HE2 := Aside0.mk (show endF l (k + 1) = B + (n : Int) by show ((l[k]?).map fun r => r.base + (r.data.size : Int)).getD 0 = _; rw [List.getElem?_eq_getElem hlt, hr, ← hn]; rfl)
      have HE := Aside0.mk hE
      clear hb hS hx hr hE
      go_wp2_with fail
      refine (mem_within_int.calls R 0 7 true _ (by unfold mem_within_int.f; rw [if_pos o3, decide_eq_true o4])).mono ?_
      rintro e w2 ⟨rfl, hd2⟩
      have hb2 := (below_alloc (Below.refl wr.heap.size wr) (.cells #[.int .u64 B, .string D, .int .i64 R] 89)).trans (hd2.below.mono (below_alloc (Below.refl wr.heap.size wr) _).size)
      have h7 := blk_below (heap_alloc_last wr (.cells #[.int .u64 B, .string D, .int .i64 R] 89)) hd2.below
      obtain ⟨b7, hb7⟩ : ∃ b7, wr.heap.size = b7 := ⟨_, rfl⟩
      rw [hb7] at h7 ⊢
      have HB2 := Aside0.mk hb2
      have H7 := Aside0.mk h7
      have HB7 := Aside0.mk hb7
      have z7 := blk_lt h7
      have c7 := blk_cell h7
      clear hd2 hb2 h7 hb7 c0 c1 c2
      have e7 : ((n : Int) == 0) = false := by simp; omega
      go_wp2_with fail
      have hmk := mk_bytes n o2
      refine wp_region_grow2 [53, 54, 55, 56, 57, 58, 59, 60, 61, 9] (fun j v w1 => match j with
        | 0 => v = .pointer (some ⟨b7, 0, none⟩)
        | 1 => v = .int .u64 B
        | 2 => v = .pointer (some ⟨b7, 1, none⟩)
        | 3 => v = .string D
        | 4 => v = .int .i64 n
        | 5 => ∃ g, v = .slice (some ⟨g, 0, none⟩) n n ∧ w2.heap.size ≤ g ∧ w1.heap[g]? = some (.cells (madeCells (Value.cells (.int .u8 0)) n) 5)
        | 6 => v = .pointer (some ⟨b7, 2, none⟩)
        | 7 => v = .int .i64 R
        | 8 => ∃ g, v = .agg #[.int .u64 B, .slice (some ⟨g, 0, none⟩) n n, .int .i64 R] ∧ w2.heap.size ≤ g ∧ w1.heap[g]? = some (.cells (madeCells (Value.cells (.int .u8 0)) n) 5)
        | 9 => ∃ g, v = .pointer (some ⟨g, 0, none⟩) ∧ w2.heap.size ≤ g ∧ w1.heap[g]? = some (.cells #[.int .u64 0, .slice none 0 0, .int .i64 0] 182)
        | _ => True) (by kernel_rfl) (by kernel_rfl) ?_ ?_ ?_
      · intro j v w1 w2 hv hb
        rcases j with _ | _ | _ | _ | _ | _ | _ | _ | _ | _ | j <;> first | exact hv | trivial | (obtain ⟨g, rfl, h1, h2⟩ := hv; exact ⟨g, rfl, h1, blk_below h2 hb⟩)
      · refine ⟨?_, ?_, ?_, ?_, ?_, ?_, ?_, ?_, ?_, ?_, trivial⟩
        all_goals
          intro a w5 hB hoth hdep
          have h5 := blk_below H7.out hB
          have c7 := blk_cell h5
          have z7 := blk_lt h5
          have q7 := hoth 7 (by decide)
          have hm5 := hmk w5
          have hsz5 := hB.size
          clear hoth hB hmk HB HS HX HR HE HB2 H7 HB7 h5 e7 u1 u2 u3 u4 o1 o3 o4 o5 o6 o7
          simp [bd1, bd2, bd3, bd5, bd6] at hdep q7
          simp only [StepTo, Oper.grows]
          first
            | (obtain ⟨d1, ⟨g, d5, d5a, d5b⟩, d7⟩ := hdep
               have hbd := bld171 B R g n w5
               go_simp
               first
                | exact Below.refl _ _
                | exact ⟨Below.refl _ _, g, rfl, d5a, d5b⟩
                | (refine ⟨Below.refl _ _, d5a, ?_⟩; simpa using d5b))
            | (go_simp
               first
                | exact Below.refl _ _
                | exact ⟨Below.refl _ _, rfl⟩
                | exact ⟨below_alloc (Below.refl _ _) _, w5.heap.size, rfl, hsz5, heap_alloc_last _ _⟩
                | exact ⟨below_alloc (Below.refl _ _) _, alloc_get _ _ _⟩)
      · intro v w5 hB hv
        obtain ⟨g, q8, g1, g2⟩ := hv 8 (by decide)
        obtain ⟨b9, q9, b1, b2⟩ := hv 9 (by decide)
        simp only [fillF, q8, q9, Act.put, List.setIfInBounds_toArray, List.set_cons_zero, List.set_cons_succ, List.length_cons, List.length_nil, Nat.reduceAdd, List.drop_succ_cons, List.drop_zero]
        have h7 := blk_below H7.out hB
        have c7 := blk_cell h7
        have z7 := blk_lt h7
        have c9 := blk_cell b2
        have z9 := blk_lt b2
        have f9 := fun o => frozen_of_row w5 b9 o _ 182 b2
        have g9 : g ≠ b9 := by rintro rfl; rw [g2] at b2; simp at b2
        have b79 : b7 ≠ b9 := by rintro rfl; rw [h7] at b2; simp at b2
        have HBB := Aside0.mk hB
        clear hv hB q8 q9 hmk e7
        go_wp2_with fail
        have g2' : (((w5.setCell ⟨b9, 0, none⟩ (.int .u64 B)).setCell ⟨b9, 1, none⟩ (.slice (some ⟨g, 0, none⟩) n n)).setCell ⟨b9, 2, none⟩ (.int .i64 R)).heap[g]? = some (.cells (madeCells (Value.cells (.int .u8 0)) n) 5) :=
          (heap_setCell_other _ ⟨b9, 2, none⟩ g _ g9).trans ((heap_setCell_other _ ⟨b9, 1, none⟩ g _ g9).trans ((heap_setCell_other _ ⟨b9, 0, none⟩ g _ g9).trans g2))
        rw [run_copy_str _ 3 g n n D _ hn g2' (size_madeCells _ _)]
        simp only [Result.andThen]
        go_wp2_with fail
        have hsz2 := HB2.out.size
        have BW : Below wr.heap.size wr ((((w5.setCell ⟨b9, 0, none⟩ (.int .u64 B)).setCell ⟨b9, 1, none⟩ (.slice (some ⟨g, 0, none⟩) n n)).setCell ⟨b9, 2, none⟩ (.int .i64 R)).setRow g ((dataB D).map (Value.int .u8)).toArray) :=
          below_setRow ((((HB2.out.trans (HBB.out.mono hsz2)).setCell (p := ⟨b9, 0, none⟩) (Nat.le_trans hsz2 b1) _).setCell (p := ⟨b9, 1, none⟩) (Nat.le_trans hsz2 b1) _).setCell (p := ⟨b9, 2, none⟩) (Nat.le_trans hsz2 b1) _) (Nat.le_trans hsz2 g1) _
        have gR := setRow_heap _ g _ ((dataB D).map (Value.int .u8)).toArray 5 (0, 0) g2'
        have g9R := (setRow_other (((w5.setCell ⟨b9, 0, none⟩ (.int .u64 B)).setCell ⟨b9, 1, none⟩ (.slice (some ⟨g, 0, none⟩) n n)).setCell ⟨b9, 2, none⟩ (.int .i64 R)) g b9 ((dataB D).map (Value.int .u8)).toArray (Ne.symm g9)).trans (heap_setCell_same _ b9 2 _ 182 (.int .i64 R) (heap_setCell_same _ b9 1 _ 182 (.slice (some ⟨g, 0, none⟩) n n) (heap_setCell_same _ b9 0 _ 182 (.int .u64 B) b2)))
        simp only [List.setIfInBounds_toArray, List.set_cons_zero, List.set_cons_succ] at g9R
        clear c7 z7 c9 z9 f9 g2' g2 b2 h7
        generalize (((w5.setCell ⟨b9, 0, none⟩ (.int .u64 B)).setCell ⟨b9, 1, none⟩ (.slice (some ⟨g, 0, none⟩) n n)).setCell ⟨b9, 2, none⟩ (.int .i64 R)).setRow g ((dataB D).map (Value.int .u8)).toArray = w6 at *
        have S6 := HS.out.below BW
        have hsw := HB.out.size
        have hgn : g ∉ gs := fun hg' => by have := (HS.out.ge g hg').2; omega
        have hown := S6.row
        obtain ⟨r1, r2⟩ := S6.ne
        have hmp := blk_lt S6.head
        have hr2 : pv.ownBlock ≠ some w6.heap.size := fun e => by have := (r2 _ e).1; omega
        have cm := blk_cell S6.head
        have c9 := blk_cell g9R
        have z9 := blk_lt g9R
        obtain ⟨i0, hi, hz0, hz1, hz2⟩ := info_parts info171
        have BS := Aside0.mk BW
        have SS := Aside0.mk S6
        have GB := Aside0.mk gR
        have HPC := Aside0.mk (show ([.int .u64 B, .slice (some ⟨g, 0, none⟩) n n, .int .i64 R] : List Value) = pcCells (⟨B, D, R⟩, g) by unfold pcCells; rw [hn])
        have ONE := Aside0.mk (show ∀ u ∈ ([.int .u64 B, .slice (some ⟨g, 0, none⟩) n n, .int .i64 R] : List Value), u.oneCell' = true by rw [HPC.out]; exact one_pcs _)
        have hwb : w.heap.size ≤ w6.heap.size := Nat.le_of_lt hmp
        clear BW S6 gR g9R r2
        go_region_law
          (first | (refine step_append_lies _ (by rfl) _ _ _ (by rfl) w.heap.size 182 i0 _ 3 40 under167 hi hz0 hz1 hz2 rfl (by omega) pv k (((l.take k).zip gs).flatMap pcCells) (by rfl) ((hown.alloc _).drew) ⟨w6.heap.size, 0, none⟩ 1 1 ([.int .u64 B, .slice (some ⟨g, 0, none⟩) n n, .int .i64 R]) (by rfl) (by rfl) (World.news_of_block (cs := ([.int .u64 B, .slice (some ⟨g, 0, none⟩) n n, .int .i64 R] : List Value).toArray) (t := 182) (fr := (0, 0)) (heap_alloc_last w6 (.cells #[.int .u64 B, .slice (some ⟨g, 0, none⟩) n n, .int .i64 R] 182))) ONE.out (by omega) (by unfold maxLen; omega) (by omega) (by simp; omega) (w6.heap.size + 1) (by simp) ?_; intro gg cap2 w7 hown1 hgrow hat hlt2; have hP1 := (hgrow.block w.heap.size (by simp; omega) (Ne.symm r1)).trans (blk_alloc SS.out.head _); have e1 := blk_cell hP1; have e2 := frozen_of_row w7 w.heap.size 0 _ 180 hP1))
        all_goals
          rw [HPC.out, ← HR.out] at hown1
          have S := Aside0.mk ((SS.out.below (below_alloc (Below.refl _ _) _)).push hlt hgrow hown1 (by rw [HR.out]; exact blk_alloc GB.out _) (by omega) hgn (Nat.le_refl _))
          have BB := Aside0.mk ((HB.out.trans (BS.out.mono hsw)).trans ((below_alloc (Below.refl _ _) (.cells #[.int .u64 B, .slice (some ⟨g, 0, none⟩) n n, .int .i64 R] 182)).mono hwb))
          clear hown1 hgrow hat hP1 e1 e2 cm c9 z9 hmp hown
          go_wp2
          go_roundw
          case rel => exact ⟨k + 1, by omega, by rw [HE2.out], by go_num, ⟨BB.out.trans S.out.2, _, _, S.out.1⟩⟩
          case measure => simp [intOf]; omega
    · obtain rfl : k = l.length := by omega
      obtain ⟨hb, pv, gs, hS⟩ := hx.out
      have HB := Aside0.mk hb
      have HS := Aside0.mk hS
      clear hx hb hS
      go_wp2
      exact bodyPost_ret (v := .tuple #[.pointer (some ⟨w.heap.size, 0, none⟩), .int .i64 0]) (by simp [results, Tryz.results64, go_sem]) rfl ⟨⟨w.heap.size, pv, gs, rfl, Nat.le_refl _, HS.out⟩, HB.out⟩
end Go.Proofs.YtpfcdhjknmijjaaGreat.Ht

namespace Go.Proofs.YtpfcdhjknmijjaaGreat.Ht
open Go.RowKit Go.Maps Go.Proofs.YtpfcdhjknmijjaaGreat.Grow Go.Proofs.YtpfcdhjknmijjaaGreat.Rv Go.Proofs.YtpfcdhjknmijjaaGreat.As Go.Proofs.YtpfcdhjknmijjaaGreat.PHartQuotients
open Go.Proofs.YtpfcdhjknmijjaaGreatW.PrintWords Go.Proofs.YtpfcdhjknmijjaaGreatW.PrintLast Go.Proofs.YtpfcdhjknmijjaaGreatW.PrintMore

/-! ### The memory that New makes -/
theorem pcs_len (x : RegIn × Nat) : (pcCells x).length = 3 := rfl
theorem flat_pcs {l : List (RegIn × Nat)} {k : Nat} (h : k < l.length) {j : Nat} (hj : j < 3) : (l.flatMap pcCells)[k * 3 + j]? = (pcCells l[k])[j]? := by
  induction l generalizing k with
  | nil => simp at h
  | cons x xs ih =>
    rw [List.flatMap_cons]
    cases k with
    | zero => rw [List.getElem?_append_left (by rw [pcs_len]; omega)]; simp
    | succ k =>
      rw [List.getElem?_append_right (by rw [pcs_len]; omega), pcs_len]
      have := ih (k := k) (by simpa using h)
      rw [show (k + 1) * 3 + j - 3 = k * 3 + j by omega, this]
      simp
theorem NewS.mem {b : Nat} {w : World} {mp : Nat} {l : List RegIn} {pv : Value} {gs : List Nat} (h : NewS b w mp l l.length pv gs) (hl : 0 < l.length) : ∃ q, MemIs w mp q gs (memOf l) ∧ b ≤ q := by
  rcases h.row with ⟨hx, ⟨rfl, h0⟩ | ⟨q, cap, cur, rfl, hb, hh, hn, hc, hs, ht⟩⟩
  · omega
  · refine ⟨q, ⟨⟨cap, ?_⟩, ⟨cur, hh, fun i hi hi' => ?_⟩, ?_, fun i hi hi' => ?_⟩, hb⟩
    · have := h.head
      rw [show (memOf l).rs.length = l.length by simp [memOf]]
      exact this
    · have hil : i < l.length := by simpa [memOf] using hi
      have hz : i < (l.zip gs).length := by rw [List.length_zip]; omega
      have e : ∀ j, j < 3 → cur[i * 3 + j]? = (pcCells ((l.zip gs)[i]))[j]? := fun j hj => by
        rw [← flat_pcs hz hj]
        have ht' : cur.toList.take (l.length * 3) = (l.zip gs).flatMap pcCells := by rw [ht, List.take_length]
        rw [← ht', List.getElem?_take_of_lt (by omega)]
        simp
      have eb : (memOf l).rs[i] = ⟨l[i].base, dataB l[i].data, l[i].rights⟩ := by simp [memOf]
      have e0 := e 0 (by decide)
      have e1 := e 1 (by decide)
      have e2 := e 2 (by decide)
      rw [eb]
      simp only [dataB_len]
      rw [List.getElem_zip] at e0 e1 e2
      exact ⟨e0, e1, e2⟩
    · rw [h.len]; simp [memOf]
    · have hil : i < l.length := by simpa [memOf] using hi
      have eb : (memOf l).rs[i].bytes = dataB l[i].data := by simp [memOf]
      rw [eb]
      exact h.bytes i hil hi'
theorem end_mono {l : List RegIn} (h : RegsOk l) : ∀ (j i : Nat) (hj : j < l.length) (hi : i ≤ j), (l[i]'(by omega)).base ≤ l[j].base
  | 0, i, hj, hi => by
    have : i = 0 := by omega
    subst this; exact Int.le_refl _
  | j + 1, i, hj, hi => by
    by_cases e : i = j + 1
    · subst e; exact Int.le_refl _
    · have h1 := end_mono h j i (by omega) (by omega)
      have h2 := (h (j + 1) hj).base
      have h3 : endF l (j + 1) = (l[j]'(by omega)).base + ((l[j]'(by omega)).data.size : Int) := by
        show ((l[j]?).map fun r => r.base + (r.data.size : Int)).getD 0 = _
        rw [List.getElem?_eq_getElem (by omega)]; rfl
      rw [h3] at h2
      omega
theorem memOf_good {l : List RegIn} (h : RegsOk l) (hl : l.length < 1000000) : GoodM (memOf l) ∧ GoodB (memOf l) := by
  have hr : ∀ r ∈ (memOf l).rs, ∃ i, ∃ hi : i < l.length, r = ⟨l[i].base, dataB l[i].data, l[i].rights⟩ := fun r hr => by
    obtain ⟨x, hx, rfl⟩ := List.mem_map.1 hr
    obtain ⟨i, hi, rfl⟩ := List.mem_iff_getElem.1 hx
    exact ⟨i, hi, rfl⟩
  refine ⟨⟨fun i j hj hi => ?_, by simpa [memOf] using hl, fun r hx => ?_, fun r hx => ?_⟩, fun r hx => ?_⟩
  · have hj' : j < l.length := by simpa [memOf] using hj
    simp only [memOf, List.getElem_map]
    exact end_mono h j i hj' hi
  · obtain ⟨i, hi, rfl⟩ := hr r hx
    have hq := h i hi
    have h1 := hq.top
    have h2 := hq.pos
    exact ⟨hq.base0, show l[i].base < 9223372036854775808 by omega⟩
  · obtain ⟨i, hi, rfl⟩ := hr r hx
    show (dataB l[i].data).length < _
    rw [dataB_len]; exact (h i hi).few
  · obtain ⟨i, hi, rfl⟩ := hr r hx
    intro b hb
    obtain ⟨x, _, rfl⟩ := List.mem_map.1 (show b ∈ dataB l[i].data from hb)
    have := x.toNat_lt
    omega
theorem new_good {S : MemS} (h : GoodM S ∧ GoodB S) {pc : Int} (hp : U64 pc) : GoodH (new0 S pc) :=
  ⟨h.1, h.2, hp, fun x hx => by rw [List.eq_of_mem_replicate hx]; decide, by simp [new0], by simp [new0]⟩

/-! ### What a register has behind instructions -/
theorem strOf_go (bs : List Int) : ∀ acc : ByteArray, (bs.foldl (fun r n => r.push (UInt8.ofNat n.toNat)) acc).data.toList = acc.data.toList ++ bs.map fun n => UInt8.ofNat n.toNat := by
  induction bs with
  | nil => intro acc; simp
  | cons b bs ih =>
    intro acc
    rw [List.foldl_cons, ih]
    simp
theorem strOf_data (bs : List Int) : (strOf bs).data.toList = bs.map fun n => UInt8.ofNat n.toNat := by
  have := strOf_go bs ByteArray.empty
  simpa [strOf] using this
theorem strOf_size (bs : List Int) : (strOf bs).size = bs.length := by
  have : (strOf bs).data.toList.length = bs.length := by rw [strOf_data, List.length_map]
  simpa using this
end Go.Proofs.YtpfcdhjknmijjaaGreat.Ht

namespace Go.Proofs.YtpfcdhjknmijjaaGreat.Ht
open Go.RowKit Go.Maps Go.Proofs.YtpfcdhjknmijjaaGreat.Grow Go.Proofs.YtpfcdhjknmijjaaGreat.Rv Go.Proofs.YtpfcdhjknmijjaaGreat.As Go.Proofs.YtpfcdhjknmijjaaGreat.PHartQuotients
open Go.Proofs.YtpfcdhjknmijjaaGreatW.PrintWords Go.Proofs.YtpfcdhjknmijjaaGreatW.PrintLast Go.Proofs.YtpfcdhjknmijjaaGreatW.PrintMore

/-! ### Instructions in a row -/
end Go.Proofs.YtpfcdhjknmijjaaGreat.Ht

namespace Go.Proofs.YtpfcdhjknmijjaaGreat.Ht
open Go.RowKit Go.Maps Go.Proofs.YtpfcdhjknmijjaaGreat.Grow Go.Proofs.YtpfcdhjknmijjaaGreat.Rv Go.Proofs.YtpfcdhjknmijjaaGreat.As Go.Proofs.YtpfcdhjknmijjaaGreat.PHartQuotients
open Go.Proofs.YtpfcdhjknmijjaaGreatW.PrintWords Go.Proofs.YtpfcdhjknmijjaaGreatW.PrintLast Go.Proofs.YtpfcdhjknmijjaaGreatW.PrintMore

/-! ### Names, and what they reckon -/
/-! The lower 32 bits. -/
def lowF (x : Int) : Int := Go.bits .and .u64 x 4294967295
/-! Upper halves. -/
def hiF (a b : Int) : Int := ((bits_Mul64.f a b).getD (0, 0)).1
end Go.Proofs.YtpfcdhjknmijjaaGreat.Ht

namespace Go.Proofs.YtpfcdhjknmijjaaGreat.Ht
open Go.RowKit Go.Maps Go.Proofs.YtpfcdhjknmijjaaGreat.Grow Go.Proofs.YtpfcdhjknmijjaaGreat.Rv Go.Proofs.YtpfcdhjknmijjaaGreat.As Go.Proofs.YtpfcdhjknmijjaaGreat.PHartQuotients
open Go.Proofs.YtpfcdhjknmijjaaGreatW.PrintWords Go.Proofs.YtpfcdhjknmijjaaGreatW.PrintLast Go.Proofs.YtpfcdhjknmijjaaGreatW.PrintMore

/-! ### The laws' arithmetic -/
/-! ### What the laws' programs leave in a register -/
end Go.Proofs.YtpfcdhjknmijjaaGreat.Ht
end
