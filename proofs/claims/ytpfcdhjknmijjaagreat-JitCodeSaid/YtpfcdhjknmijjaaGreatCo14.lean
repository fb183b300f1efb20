import Derived.Test.YtpfcdhjknmijjaaGreatCo13
import Derived.Maps.OwnSet
import Derived.Maps.AppendAt
import Derived.Deep.MidRow
import Derived.Deep.RegionHeld3
import Derived.Deep.RegionLaw
import Derived.Deep.AppendLies
section
namespace Go.Proofs.YtpfcdhjknmijjaaGreat.As
open Go.RowKit Go.Maps Go.Proofs.YtpfcdhjknmijjaaGreat.Grow Go.Proofs.YtpfcdhjknmijjaaGreat.Rv
open Go.Proofs.YtpfcdhjknmijjaaGreatW.PrintWords Go.Proofs.YtpfcdhjknmijjaaGreatW.PrintLast Go.Proofs.YtpfcdhjknmijjaaGreatW.PrintMore

/-! ### Maps from integers to integers -/
def I64 (k : Int) : Prop := -9223372036854775808 ≤ k ∧ k < 9223372036854775808
theorem I64.wf {k : Int} (h : I64 k) : (Lit.int .i64 k).wf = true := by
  have e1 : IntKind.i64.min = -9223372036854775808 := rfl
  have e2 : IntKind.i64.max = 9223372036854775807 := rfl
  simp only [Lit.wf, Bool.and_eq_true, decide_eq_true_eq]
  unfold I64 at h
  omega
theorem law3 : Keyed Tryz.prog 3 := int_keyed Tryz.underlying3
/-- Block M is a map of at most n entries, and holds at each key what f says. -/
def MapAt (w : World) (M n : Nat) (f : Int → Option Int) : Prop :=
  ∃ D : DataW Unit, w.ownsMap Tryz.prog 3 (plainElem Tryz.prog 3) M n D ∧ ∀ (k : Int) (z : DataW Unit), D.atKey (.int .i64 k) z = ((f k).elim z fun v => .lit (.int .i64 v))

theorem keyOf_int {k : Int} (h : I64 k) : keyOf Tryz.prog 3 (.int .i64 k) = some (.int .i64 k) := by
  simp [keyOf, mapKey, Tryz.underlying3, h.wf]
theorem under119 : Tryz.prog.underlying 124 = some (.map 3 3) := by kernel_rfl
theorem zero3 (w : World) : (zeroValue 3).run Tryz.prog w = .ok (.int .i64 0) w := by kernel_rfl

theorem MapAt.lookup {w : World} {M n : Nat} {f : Int → Option Int} (h : MapAt w M n f) {k : Int} (hk : I64 k) :
    (Instr.lookup 124 (.map (some M)) (.int .i64 k) true).run Tryz.prog w = .ok (.tuple #[.int .i64 ((f k).getD 0), .bool (f k).isSome]) w := by
  obtain ⟨D, ho, hD⟩ := h
  obtain ⟨v, ps, hrun, hv⟩ := ho.look_ok law3 under119 (zero3 w) (plainElem_int Tryz.underlying3 (a := 0) (by decide)) (keyOf_int hk)
  obtain ⟨c, rfl, hc, hwc⟩ := plainElem_int_inv Tryz.underlying3 hv
  simp only [Prod.mk.injEq] at hc
  rw [hrun]
  have h1 := hc.1
  rw [hD] at h1
  cases hf : f k with
  | none =>
    rw [hf] at h1
    have e : Maps.has D (.int .i64 k) = false := has_false_of_atKey fun z => by rw [hD, hf]; rfl
    rw [e]
    simp at h1
    rw [← h1]; rfl
  | some y =>
    rw [hf] at h1
    have e : Maps.has D (.int .i64 k) = true := has_true_of_atKey fun z => by rw [hD, hf]; rfl
    rw [e]
    simp at h1
    rw [← h1]; rfl
theorem MapAt.block {w : World} {M n : Nat} {f : Int → Option Int} (h : MapAt w M n f) : ∃ es c, w.heap[M]? = some (.map es c) := by
  obtain ⟨D, ⟨es, c, hb, _⟩, _⟩ := h
  exact ⟨es, c, hb⟩
theorem MapAt.kept {w w' : World} {M n : Nat} {f : Int → Option Int} (h : MapAt w M n f) (hb : w'.heap[M]? = w.heap[M]?) : MapAt w' M n f := by
  obtain ⟨D, ⟨es, c, hb0, r⟩, hD⟩ := h
  exact ⟨D, ⟨es, c, hb.trans hb0, r⟩, hD⟩
theorem MapAt.made (w : World) : MapAt (w.alloc (.map #[] 0)) w.heap.size 0 fun _ => none :=
  ⟨.map [], World.ownsMap_made w _ _ _, fun _ _ => rfl⟩
theorem MapAt.update {w : World} {M n : Nat} {f : Int → Option Int} (h : MapAt w M n f) (hn : n < maxLen) {k v : Int} (hk : I64 k) (hv : I64 v) :
    ∃ w', (Instr.mapUpdate 124 (.map (some M)) (.int .i64 k) (.int .i64 v)).run Tryz.prog w = .ok () w' ∧ MapAt w' M (n + 1) (fun j => if j = k then some v else f j) ∧ w.grownBy w' (some M) := by
  obtain ⟨D, ho, hD⟩ := h
  obtain ⟨w', hrun, ho', hg⟩ := ho.update law3 under119 hn (keyOf_int hk) (plainElem_int Tryz.underlying3 hv.wf)
  refine ⟨w', hrun, ⟨_, ho', fun j z => ?_⟩, hg⟩
  by_cases e : j = k
  · subst e
    rw [atKey_put_same ho.isMap (law3.key (keyOf_int hk))]; simp
  · rw [atKey_put_other (fun e' => e (by injection e')), hD]; simp [e]

/-! ### What an 'Asm' is -/
structure Pc where
  sort : Int
  op : OpI
  label : Int
  long : Bool
  deriving DecidableEq

def Pc.cells (p : Pc) : List Value := [.int .i64 p.sort, .string p.op.name, .int .i64 p.op.rd, .int .i64 p.op.ra, .int .i64 p.op.rb, .int .i64 p.op.imm, .int .i64 p.label, .bool p.long]
def Pc.val (p : Pc) : Value := .agg #[.int .i64 p.sort, .string p.op.name, .int .i64 p.op.rd, .int .i64 p.op.ra, .int .i64 p.op.rb, .int .i64 p.op.imm, .int .i64 p.label, .bool p.long]
def OpI.val (x : OpI) : Value := .agg #[.string x.name, .int .i64 x.rd, .int .i64 x.ra, .int .i64 x.rb, .int .i64 x.imm]
def plainPc (x : OpI) : Pc := ⟨0, x, 0, false⟩

structure AsmS where
  ps : List Pc
  labels : Int
  marks : Int → Option Int
  nm : Nat

/-- The 'Asm' at p. -/
structure AsmIs (w : World) (base p : Nat) (A : AsmS) (pv : Value) (M : Nat) : Prop where
  cells : w.heap[p]? = some (.cells #[pv, .int .i64 A.labels, .map (some M)] 127 (0, 0))
  le : base ≤ p
  leM : base ≤ M
  row : w.ownsRow base 141 8 pv A.ps.length (A.ps.flatMap Pc.cells)
  map : MapAt w M A.nm A.marks
def AsmAt (w : World) (base p : Nat) (A : AsmS) : Prop := ∃ pv M, AsmIs w base p A pv M

/-- A block that may be an 'Asm's. -/
def Tagged (o : Option Obj) : Prop := ∃ c f, o = some (.cells c 127 f) ∨ o = some (.cells c 141 f) ∨ ∃ es k, o = some (.map es k)
/-- What a call of an 'Asm' leaves as it was. -/
structure Fr (b : Nat) (w w' : World) : Prop where
  os : w'.os = w.os
  tape : w'.tape = w.tape
  output : w'.output = w.output
  size : w.heap.size ≤ w'.heap.size
  block : ∀ k, k < w.heap.size → (k < b ∨ ¬ Tagged w.heap[k]?) → w'.heap[k]? = w.heap[k]?

theorem Fr.refl (b : Nat) (w : World) : Fr b w w := ⟨rfl, rfl, rfl, Nat.le_refl _, fun _ _ _ => rfl⟩
theorem Fr.trans {b : Nat} {w w1 w2 : World} (h : Fr b w w1) (h' : Fr b w1 w2) : Fr b w w2 :=
  ⟨h'.os.trans h.os, h'.tape.trans h.tape, h'.output.trans h.output, Nat.le_trans h.size h'.size, fun k hk hor => by
    have e := h.block k hk hor
    exact (h'.block k (Nat.lt_of_lt_of_le hk h.size) (hor.imp id fun hn => by rw [e]; exact hn)).trans e⟩
theorem Fr.of_below {b : Nat} {w w' : World} (h : Below w.heap.size w w') : Fr b w w' := ⟨h.os, h.tape, h.output, h.size, fun k hk _ => h.block k hk⟩
theorem Fr.below {b : Nat} {w w' : World} (h : Fr b w w') (hb : b ≤ w.heap.size) : Below b w w' := ⟨h.os, h.tape, h.output, h.size, fun k hk => h.block k (by omega) (.inl hk)⟩
theorem Fr.grown {b : Nat} {w w' : World} {row : Option Nat} (hg : w.grownBy w' row) (hr : ∀ k, row = some k → k < w.heap.size → b ≤ k ∧ Tagged w.heap[k]?) : Fr b w w' :=
  ⟨hg.os, hg.tape, hg.output, hg.size, fun k hk hor => hg.block k hk fun e => by
    obtain ⟨h1, h2⟩ := hr k e.symm hk
    rcases hor with h | h
    · omega
    · exact h h2⟩
theorem Fr.setCell {b : Nat} {w : World} {a : Addr} (v : Value) (hb : b ≤ a.block) (ht : Tagged w.heap[a.block]?) : Fr b w (w.setCell a v) :=
  ⟨rfl, rfl, rfl, by simp [World.setCell], fun k hk hor => heap_setCell_other w a k v fun e => by
    subst e
    rcases hor with h | h
    · omega
    · exact h ht⟩
theorem Fr.alloc (b : Nat) (w : World) (o : Obj) : Fr b w (w.alloc o) := Fr.of_below (below_alloc (Below.refl _ _) o)

theorem AsmIs.tagged {w : World} {base p : Nat} {A : AsmS} {pv : Value} {M : Nat} (h : AsmIs w base p A pv M) : Tagged w.heap[p]? := ⟨_, _, .inl h.cells⟩
theorem AsmIs.taggedM {w : World} {base p : Nat} {A : AsmS} {pv : Value} {M : Nat} (h : AsmIs w base p A pv M) : Tagged w.heap[M]? := by
  obtain ⟨es, c, e⟩ := h.map.block
  exact ⟨#[], (0, 0), .inr (.inr ⟨es, c, e⟩)⟩
theorem row_tagged {w : World} {base n : Nat} {pv : Value} {xs : List Value} (h : w.ownsRow base 141 8 pv n xs) : ∀ k, pv.ownBlock = some k → base ≤ k ∧ k < w.heap.size ∧ Tagged w.heap[k]? ∧ ∃ c f, w.heap[k]? = some (.cells c 141 f) := by
  intro k hk
  rcases h.2 with ⟨rfl, _⟩ | ⟨g, cap, cur, rfl, hg, hh, _⟩
  · cases hk
  · cases hk
    exact ⟨hg, blk_lt hh, ⟨_, _, .inr (.inl hh)⟩, _, _, hh⟩
theorem row_kept {w w' : World} {base e size n : Nat} {pv : Value} {xs : List Value} (h : w.ownsRow base e size pv n xs) (hb : ∀ k, pv.ownBlock = some k → w'.heap[k]? = w.heap[k]?) : w'.ownsRow base e size pv n xs := by
  refine ⟨h.1, ?_⟩
  rcases h.2 with h2 | ⟨g, cap, cur, rfl, hg, hh, r⟩
  · exact .inl h2
  · exact .inr ⟨g, cap, cur, rfl, hg, (hb g rfl).trans hh, r⟩
theorem AsmIs.kept {w w' : World} {base p : Nat} {A : AsmS} {pv : Value} {M : Nat} (h : AsmIs w base p A pv M) (hk : ∀ k, k < w.heap.size → Tagged w.heap[k]? → w'.heap[k]? = w.heap[k]?) : AsmIs w' base p A pv M := by
  have hM := h.taggedM
  obtain ⟨es, c, e⟩ := h.map.block
  exact ⟨(hk p (blk_lt h.cells) h.tagged).trans h.cells, h.le, h.leM, row_kept h.row fun k hk' => hk k (row_tagged h.row k hk').2.1 (row_tagged h.row k hk').2.2.1, h.map.kept (hk M (Array.getElem?_eq_some_iff.1 e).1 hM)⟩
theorem AsmAt.kept {w w' : World} {base p : Nat} {A : AsmS} (h : AsmAt w base p A) (hk : ∀ k, k < w.heap.size → Tagged w.heap[k]? → w'.heap[k]? = w.heap[k]?) : AsmAt w' base p A := by
  obtain ⟨pv, M, h⟩ := h
  exact ⟨pv, M, h.kept hk⟩
theorem AsmAt.below {w w' : World} {base p : Nat} {A : AsmS} (h : AsmAt w base p A) (hb : Below w.heap.size w w') : AsmAt w' base p A := h.kept fun k hk _ => hb.block k hk
theorem AsmIs.below {w w' : World} {base p : Nat} {A : AsmS} {pv : Value} {M : Nat} (h : AsmIs w base p A pv M) (hb : Below w.heap.size w w') : AsmIs w' base p A pv M := h.kept fun k hk _ => hb.block k hk
end Go.Proofs.YtpfcdhjknmijjaaGreat.As

namespace Go.Proofs.YtpfcdhjknmijjaaGreat.As
open Go.RowKit Go.Maps Go.Proofs.YtpfcdhjknmijjaaGreat.Grow Go.Proofs.YtpfcdhjknmijjaaGreat.Rv
open Go.Proofs.YtpfcdhjknmijjaaGreatW.PrintWords Go.Proofs.YtpfcdhjknmijjaaGreatW.PrintLast Go.Proofs.YtpfcdhjknmijjaaGreatW.PrintMore

def regOk (r : Int) : Bool := decide (0 ≤ r) && decide (r < 32)
set_option maxHeartbeats 1000000 in
theorem register_calls (r : Int) (w : World) : Calls Tryz.prog 117 #[.int .i64 r] w fun e w' => e = .returned (.bool (regOk r)) ∧ w' = w := by
  go_enter Tryz.func117, Tryz.ntmps117
  unfold regOk
  by_cases h : 0 ≤ r
  · go_wp2
    go_ret
    exact ⟨by simp [*] <;> omega, rfl⟩
  · go_wp2
    go_ret
    exact ⟨by simp [*] <;> omega, rfl⟩

def reachF (n far : Int) : Bool := decide (wrap64 (-far) ≤ n) && decide (n < far)
set_option maxHeartbeats 1000000 in
theorem reaches_calls (n far : Int) (w : World) : Calls Tryz.prog 125 #[.int .i64 n, .int .i64 far] w fun e w' => e = .returned (.bool (reachF n far)) ∧ w' = w := by
  go_enter Tryz.func125, Tryz.ntmps125
  unfold reachF
  go_wp2
  all_goals go_ret
  all_goals exact ⟨by simp [*] <;> omega, rfl⟩
theorem mk_map (w : World) : (Instr.makeMap 124 none).run Tryz.prog w = .ok (.map (some w.heap.size)) (w.alloc (.map #[] 0)) := by kernel_rfl
set_option maxHeartbeats 1000000 in
theorem new_calls (w : World) : Calls Tryz.prog 34 #[] w fun e w' => ∃ p, e = .returned (.pointer (some ⟨p, 0, none⟩)) ∧ w.heap.size ≤ p ∧ AsmAt w' w.heap.size p ⟨[], 0, fun _ => none, 0⟩ ∧ Below w.heap.size w w' := by
  have hm := mk_map w
  go_enter Tryz.func34, Tryz.ntmps34
  go_wp2
  refine bodyPost_ret (v := .pointer (some ⟨w.heap.size + 1, 0, none⟩)) (by simp [results, Tryz.results34, go_sem]) rfl ⟨_, rfl, by omega, ⟨.slice none 0 0, w.heap.size, ?_⟩, ?_⟩
  · refine ⟨?_, by omega, Nat.le_refl _, ?_, ?_⟩
    · exact heap_alloc_at _ _ (by simp)
    · exact ⟨rfl, .inl ⟨rfl, rfl⟩⟩
    · exact (MapAt.made w).kept (Below.heap_alloc _ _ _ (by simp))
  · exact below_alloc (below_alloc (Below.refl _ _) _) _
set_option maxHeartbeats 1000000 in
theorem known_calls {w : World} {b p : Nat} {A : AsmS} (h : AsmAt w b p A) (label : Int) : Calls Tryz.prog 119 #[.pointer (some ⟨p, 0, none⟩), .int .i64 label] w fun e w' => e = .returned (.bool (decide (0 ≤ label) && decide (label < A.labels))) ∧ w' = w := by
  obtain ⟨pv, M, h⟩ := h
  have hc := blk_cell h.cells
  have hz := blk_lt h.cells
  clear h
  go_enter Tryz.func119, Tryz.ntmps119
  by_cases hl : 0 ≤ label
  · go_wp2
    go_ret
    exact ⟨by simp [*] <;> omega, rfl⟩
  · go_wp2
    go_ret
    exact ⟨by simp [*] <;> omega, rfl⟩

theorem AsmIs.noP {w : World} {b p : Nat} {A : AsmS} {pv : Value} {M : Nat} (h : AsmIs w b p A pv M) : M ≠ p ∧ (∀ k, pv.ownBlock = some k → k ≠ p ∧ k ≠ M) := by
  obtain ⟨es, c, e⟩ := h.map.block
  refine ⟨fun e' => ?_, fun k hk => ⟨fun e' => ?_, fun e' => ?_⟩⟩
  · rw [e', h.cells] at e; cases e
  · obtain ⟨_, _, _, c', f', e1⟩ := row_tagged h.row k hk
    rw [e', h.cells] at e1; cases e1
  · obtain ⟨_, _, _, c', f', e1⟩ := row_tagged h.row k hk
    rw [e', e] at e1; cases e1
/-- The pieces' slice is written. -/
theorem AsmIs.setRow {w w1 : World} {b p : Nat} {A : AsmS} {pv pv' : Value} {M : Nat} {ps : List Pc} (h : AsmIs w b p A pv M) (hg : w.grownBy w1 pv.ownBlock) (hr : w1.ownsRow b 141 8 pv' ps.length (ps.flatMap Pc.cells)) :
    AsmIs (w1.setCell ⟨p, 0, none⟩ pv') b p { A with ps := ps } pv' M ∧ Fr b w (w1.setCell ⟨p, 0, none⟩ pv') := by
  obtain ⟨hM, hrow⟩ := h.noP
  obtain ⟨es, c, e⟩ := h.map.block
  have hp1 : w1.heap[p]? = some (.cells #[pv, .int .i64 A.labels, .map (some M)] 127 (0, 0)) := (hg.block p (blk_lt h.cells) fun e' => (hrow p e'.symm).1 rfl).trans h.cells
  have hM1 : w1.heap[M]? = w.heap[M]? := hg.block M (Array.getElem?_eq_some_iff.1 e).1 fun e' => (hrow M e'.symm).2 rfl
  refine ⟨⟨?_, h.le, h.leM, ?_, ?_⟩, ?_⟩
  · rw [heap_setCell_same w1 p 0 _ 127 pv' hp1]; rfl
  · refine row_kept hr fun k hk => heap_setCell_other _ _ _ _ fun e' => ?_
    obtain ⟨_, _, _, c', f', e1⟩ := row_tagged hr k hk
    have e2 : k = p := e'
    rw [e2, hp1] at e1; cases e1
  · exact (h.map.kept hM1).kept (heap_setCell_other _ _ _ _ hM)
  · refine (Fr.grown hg fun k hk hlt => ⟨(row_tagged h.row k hk).1, (row_tagged h.row k hk).2.2.1⟩).trans (Fr.setCell (a := ⟨p, 0, none⟩) pv' h.le ⟨_, _, .inl hp1⟩)
theorem AsmIs.setLabel {w : World} {b p : Nat} {A : AsmS} {pv : Value} {M : Nat} (h : AsmIs w b p A pv M) (l : Int) :
    AsmIs (w.setCell ⟨p, 1, none⟩ (.int .i64 l)) b p { A with labels := l } pv M ∧ Fr b w (w.setCell ⟨p, 1, none⟩ (.int .i64 l)) := by
  obtain ⟨hM, hrow⟩ := h.noP
  refine ⟨⟨?_, h.le, h.leM, ?_, ?_⟩, Fr.setCell (a := ⟨p, 1, none⟩) _ h.le h.tagged⟩
  · rw [heap_setCell_same w p 1 _ 127 _ h.cells]; rfl
  · exact row_kept h.row fun k hk => heap_setCell_other _ _ _ _ (hrow k hk).1
  · exact h.map.kept (heap_setCell_other _ _ _ _ hM)
theorem AsmIs.setMark {w w1 : World} {b p : Nat} {A : AsmS} {pv : Value} {M : Nat} {f : Int → Option Int} {n : Nat} (h : AsmIs w b p A pv M) (hg : w.grownBy w1 (some M)) (hm : MapAt w1 M n f) :
    AsmIs w1 b p { A with marks := f, nm := n } pv M ∧ Fr b w w1 := by
  obtain ⟨hM, hrow⟩ := h.noP
  refine ⟨⟨?_, h.le, h.leM, ?_, hm⟩, Fr.grown hg fun k hk _ => ?_⟩
  · exact (hg.block p (blk_lt h.cells) fun e' => hM (by cases e'; rfl)).trans h.cells
  · exact row_kept h.row fun k hk => hg.block k (row_tagged h.row k hk).2.1 fun e' => (hrow k hk).2 (by cases e'; rfl)
  · cases hk; exact ⟨h.leM, h.taggedM⟩
theorem AsmIs.size {w : World} {b p : Nat} {A : AsmS} {pv : Value} {M : Nat} (h : AsmIs w b p A pv M) : b ≤ w.heap.size := Nat.le_trans h.le (Nat.le_of_lt (blk_lt h.cells))

set_option maxHeartbeats 1000000 in
theorem label_calls {w : World} {b p : Nat} {A : AsmS} (h : AsmAt w b p A) (hl : 0 ≤ A.labels) (hl2 : A.labels < 1000000000) : Calls Tryz.prog 36 #[.pointer (some ⟨p, 0, none⟩)] w fun e w' => e = .returned (.int .i64 A.labels) ∧ AsmAt w' b p { A with labels := A.labels + 1 } ∧ Fr b w w' := by
  obtain ⟨pv, M, h⟩ := h
  have hc := blk_cell h.cells
  have hz := blk_lt h.cells
  have H := Aside0.mk (h.setLabel (A.labels + 1))
  have e1 : wrap64 (A.labels + 1) = A.labels + 1 := by unfold wrap64; omega
  have e2 : wrap64 (A.labels + 1 - 1) = A.labels := by unfold wrap64; omega
  have hf := frozen_of_row w p 1 _ 127 h.cells
  clear h
  go_enter Tryz.func36, Tryz.ntmps36
  go_wp2
  go_ret
  exact ⟨by simp, ⟨pv, M, H.out.1⟩, H.out.2⟩

theorem info126 : (Tryz.prog.info? 141).map (fun i => (i.zero, i.size, i.bytes)) = some (some (.agg #[.int .i64 0, .string ⟨#[]⟩, .int .i64 0, .int .i64 0, .int .i64 0, .int .i64 0, .int .i64 0, .bool false]), 8, 72) := by kernel_rfl
theorem under120 : Tryz.prog.underlying 125 = some (.slice 141) := by kernel_rfl
theorem bld126 (s l : Int) (x : OpI) (w : World) : (Instr.build 141 #[(0, .int .i64 s), (1, OpI.val x), (2, .int .i64 l)]).run Tryz.prog w = .ok (Pc.val ⟨s, x, l, false⟩) w := by kernel_rfl
theorem bld126p (x : OpI) (w : World) : (Instr.build 141 #[(1, OpI.val x)]).run Tryz.prog w = .ok (Pc.val (plainPc x)) w := by kernel_rfl
theorem pc_len (p : Pc) : p.cells.length = 8 := rfl
theorem one_pc (p : Pc) : ∀ u ∈ p.cells, u.oneCell' = true := by
  intro u hu
  simp only [Pc.cells, List.mem_cons, List.not_mem_nil, or_false] at hu
  rcases hu with rfl | rfl | rfl | rfl | rfl | rfl | rfl | rfl <;> rfl
theorem flat_push (ps : List Pc) (x : Pc) : ps.flatMap Pc.cells ++ x.cells = (ps ++ [x]).flatMap Pc.cells := by rw [List.flatMap_append]; simp

theorem push_done {w w1 : World} {b p : Nat} {A : AsmS} {pv pv' : Value} {M : Nat} {ps : List Pc} {x : Pc} (h : AsmIs w b p A pv M) (hg : w.drew.grownBy w1 pv.ownBlock) (hr : w1.ownsRow b 141 8 pv' (ps.length + 1) (ps.flatMap Pc.cells ++ x.cells)) :
    AsmIs (w1.setCell ⟨p, 0, none⟩ pv') b p { A with ps := ps ++ [x] } pv' M ∧ Fr b w (w1.setCell ⟨p, 0, none⟩ pv') := by
  rw [flat_push] at hr
  exact h.setRow (ps := ps ++ [x]) ⟨hg.os, hg.tape, hg.output, hg.size, hg.block⟩ (by rw [List.length_append]; exact hr)
set_option maxHeartbeats 2000000 in
set_option maxRecDepth 100000 in
theorem put_calls {w : World} {b p : Nat} {A : AsmS} (h : AsmAt w b p A) (hn : A.ps.length < 1000000000) (x : OpI) {sb cap : Nat} (hsb : w.heap[sb]? = some (.cells #[.string x.name, .int .i64 x.rd, .int .i64 x.ra, .int .i64 x.rb, .int .i64 x.imm] 130 (0, 0))) :
    Calls Tryz.prog 160 #[.pointer (some ⟨p, 0, none⟩), .slice (some ⟨sb, 0, none⟩) 1 cap] w fun e w' => e = .returned (.tuple #[]) ∧ AsmAt w' b p { A with ps := A.ps ++ [plainPc x] } ∧ Fr b w w' := by
  obtain ⟨pv, M, h⟩ := h
  have hc := blk_cell h.cells
  have hz := blk_lt h.cells
  have sc := blk_cell hsb
  have sz := blk_lt hsb
  obtain ⟨i0, hi, hz0, hz1, hz2⟩ := info_parts info126
  have H := Aside0.mk h
  have hbz := h.size
  have hcc := h.cells
  clear h
  go_enter Tryz.func160, Tryz.ntmps160
  go_wp2
  go_loopw [8] (fun i wr => (i = .int .i64 0 ∧ wr = w) ∨ (i = .int .i64 1 ∧ AsmAt wr b p { A with ps := A.ps ++ [plainPc x] } ∧ Fr b w wr)) (fun i _ => 1 - (intOf i).toNat)
  case atStart => exact .inl ⟨rfl, rfl⟩
  case round =>
    rcases hrel with ⟨rfl, rfl⟩ | ⟨rfl, hA, hF⟩
    · go_wp2_with fail
      have hcw := (Below.heap_alloc wr (.cells #[.string x.name, .int .i64 x.rd, .int .i64 x.ra, .int .i64 x.rb, .int .i64 x.imm] 130) p hz).trans hcc
      have h := H.out
      have hL := heap_alloc_last wr (.cells #[.string x.name, .int .i64 x.rd, .int .i64 x.ra, .int .i64 x.rb, .int .i64 x.imm] 130)
      have hP := h.below (below_alloc (Below.refl _ _) (.cells #[.string x.name, .int .i64 x.rd, .int .i64 x.ra, .int .i64 x.rb, .int .i64 x.imm] 130))
      have hr1 : pv.ownBlock ≠ some p := fun e => (h.noP.2 p e).1 rfl
      have hr2 : pv.ownBlock ≠ some wr.heap.size := fun e => by have := (row_tagged h.row _ e).2.1; omega
      have c0 := (blk_cell hP.cells 0)
      have l0 := (blk_cell hL)
      have f0 := frozen_of_row _ p 0 _ 127 hP.cells
      have f1 : ∀ o : Obj, ((wr.alloc (.cells #[.string x.name, .int .i64 x.rd, .int .i64 x.ra, .int .i64 x.rb, .int .i64 x.imm] 130)).alloc o).drew.frozen? ⟨p, 0, none⟩ = false := fun o => frozen_of_row _ p 0 _ 127 (blk_alloc hP.cells o)
      have hB : b ≤ wr.heap.size + 1 := by omega
      generalize hw2 : wr.alloc (.cells #[.string x.name, .int .i64 x.rd, .int .i64 x.ra, .int .i64 x.rb, .int .i64 x.imm] 130) = w2 at *
      have hs2 : w2.heap.size = wr.heap.size + 1 := by rw [← hw2]; simp
      have bp := fun w => bld126p x w
      clear h hcc hcw hc sc hsb
      go_region_law
        (first | (refine step_append_lies _ (by rfl) _ _ _ (by rfl) b 141 i0 _ 8 72 under120 hi hz0 hz1 hz2 rfl (by omega) pv A.ps.length (A.ps.flatMap Pc.cells) (by rfl) ((hP.row.alloc _).drew) ⟨wr.heap.size + 1, 0, none⟩ 1 1 (Pc.cells (plainPc x)) (by rfl) (by rfl) (World.news_of_block (cs := (Pc.cells (plainPc x)).toArray) (t := 141) (fr := (0, 0)) (heap_alloc_at w2 _ hs2.symm)) (one_pc _) (by omega) (by unfold maxLen; omega) (by omega) (by simp; omega) (wr.heap.size + 2) (by simp [hs2]) ?_; intro gg cap w1 hown1 hgrow hat hlt; have hP1 := (hgrow.block p (by simp [hs2]; omega) (Ne.symm hr1)).trans (blk_alloc hP.cells _); have e1 := blk_cell hP1; have e2 := frozen_of_row w1 p 0 _ 127 hP1))
      all_goals
        have S := Aside0.mk (push_done (ps := A.ps) (x := plainPc x) (hP.below (below_alloc (Below.refl _ _) _)) hgrow hown1)
        clear hown1 hgrow hat hP1 e1 e2 hP c0 l0 f0 f1 hL
        have hF := Fr.alloc b wr (.cells #[.string x.name, .int .i64 x.rd, .int .i64 x.ra, .int .i64 x.rb, .int .i64 x.imm] 130)
        rw [hw2] at hF
        have F := Aside0.mk hF
        clear hF hw2
        go_wp2
        go_roundw
        case rel => exact .inr ⟨by go_num, ⟨_, M, S.out.1⟩, F.out.trans ((Fr.alloc b w2 _).trans S.out.2)⟩
        case measure => simp [intOf]
    · go_wp2
      exact bodyPost_end (v := .tuple #[]) (by simp [results, Tryz.results160, go_sem]) rfl ⟨rfl, hA, hF⟩
end Go.Proofs.YtpfcdhjknmijjaaGreat.As

namespace Go.Proofs.YtpfcdhjknmijjaaGreat.As
open Go.RowKit Go.Maps Go.Proofs.YtpfcdhjknmijjaaGreat.Grow Go.Proofs.YtpfcdhjknmijjaaGreat.Rv
open Go.Proofs.YtpfcdhjknmijjaaGreatW.PrintWords Go.Proofs.YtpfcdhjknmijjaaGreatW.PrintLast Go.Proofs.YtpfcdhjknmijjaaGreatW.PrintMore

def AsmS.push (A : AsmS) (x : Pc) : AsmS := { A with ps := A.ps ++ [x] }
def AsmS.pushIf (A : AsmS) (c : Int) (x : Pc) : AsmS := if c = 0 then A.push x else A
theorem pushIf_ne {A : AsmS} {c : Int} (x : Pc) (h : c ≠ 0) : A.pushIf c x = A := if_neg h
def AsmS.putF (A : AsmS) (x : OpI) (c : Int) : AsmS := A.pushIf c (plainPc x)

theorem push_done0 {w w1 : World} {b p : Nat} {A : AsmS} {pv pv' : Value} {M : Nat} {x : Pc} (h : AsmIs w b p A pv M) (hg : w.grownBy w1 pv.ownBlock) (hr : w1.ownsRow b 141 8 pv' (A.ps.length + 1) (A.ps.flatMap Pc.cells ++ x.cells)) :
    AsmIs (w1.setCell ⟨p, 0, none⟩ pv') b p (A.push x) pv' M ∧ Fr b w (w1.setCell ⟨p, 0, none⟩ pv') := by
  rw [flat_push] at hr
  exact h.setRow (ps := A.ps ++ [x]) hg (by rw [List.length_append]; exact hr)
set_option maxHeartbeats 2000000 in
set_option maxRecDepth 100000 in
theorem Put_calls {w : World} {b p : Nat} {A : AsmS} (h : AsmAt w b p A) (hn : A.ps.length < 1000000000) (x : OpI) {a c : Int} (hE : encF x.name x.rd x.ra x.rb x.imm = (a, c)) :
    Calls Tryz.prog 116 #[.pointer (some ⟨p, 0, none⟩), .agg #[.string x.name, .int .i64 x.rd, .int .i64 x.ra, .int .i64 x.rb, .int .i64 x.imm]] w fun e w' => e = .returned (.int .i64 c) ∧ AsmAt w' b p (A.putF x c) ∧ Fr b w w' := by
  have H := Aside0.mk h
  have HE := Aside0.mk hE
  clear h hE
  go_enter Tryz.func116, Tryz.ntmps116
  go_wp2_with fail
  refine (encode_at HE.out _).mono ?_
  rintro e w1 ⟨rfl, hb1⟩
  have hk := (hb1.block w.heap.size (by simp)).trans (heap_alloc_last _ _)
  have hb := (below_alloc (Below.refl w.heap.size w) _).trans (hb1.mono (below_alloc (Below.refl _ _) _).size)
  have hz0 := blk_lt hk
  have p0 := blk_cell hk
  clear hb1
  by_cases hc : c = 0
  · subst hc
    go_wp2_with fail
    refine (put_calls ((H.out.below hb).below (below_alloc (Below.refl _ _) _)) hn x (heap_alloc_last _ _)).mono ?_
    rintro e w2 ⟨rfl, hA, hF⟩
    have F := Aside0.mk ((Fr.of_below (b := b) hb).trans ((Fr.alloc b w1 _).trans hF))
    clear hF hk p0 hb
    go_wp2
    go_ret
    exact ⟨by simp, hA, F.out⟩
  · go_wp2
    go_ret
    unfold AsmS.putF
    rw [pushIf_ne _ hc]
    exact ⟨by simp, H.out.below hb, Fr.of_below hb⟩

theorem bld24 (s : ByteArray) (a : Int) (w : World) : (Instr.build 130 #[(0, .string s), (1, .int .i64 a)]).run Tryz.prog w = .ok (OpI.val ⟨s, a, 0, 0, 0⟩) w := by kernel_rfl
theorem bld24b (s : ByteArray) (a c : Int) (w : World) : (Instr.build 130 #[(0, .string s), (2, .int .i64 a), (3, .int .i64 c)]).run Tryz.prog w = .ok (OpI.val ⟨s, 0, a, c, 0⟩) w := by kernel_rfl
/-- The answers of 'to'. -/
def toC (A : AsmS) (rd label : Int) : Int := if regOk rd = false then 260 else if (decide (0 ≤ label) && decide (label < A.labels)) = false then 290 else 0
set_option maxHeartbeats 2000000 in
set_option maxRecDepth 100000 in
theorem to_calls {w : World} {b p : Nat} {A : AsmS} (h : AsmAt w b p A) (hn : A.ps.length < 1000000000) (s : Int) (nm : ByteArray) (rd label : Int) :
    Calls Tryz.prog 120 #[.pointer (some ⟨p, 0, none⟩), .int .i64 s, .string nm, .int .i64 rd, .int .i64 label] w fun e w' => e = .returned (.int .i64 (toC A rd label)) ∧
      AsmAt w' b p (A.pushIf (toC A rd label) ⟨s, ⟨nm, rd, 0, 0, 0⟩, label, false⟩) ∧ Fr b w w' := by
  have H := Aside0.mk h
  clear h
  go_enter Tryz.func120, Tryz.ntmps120
  go_wp2_with fail
  refine (register_calls rd _).mono ?_
  rintro e w1 ⟨rfl, rfl⟩
  cases hr : regOk rd
  · have hC : toC A rd label = 260 := by unfold toC; rw [if_pos hr]
    go_wp2
    go_ret
    exact ⟨by simp [hC], by rw [pushIf_ne _ (by rw [hC]; decide)]; exact H.out, Fr.refl _ _⟩
  go_wp2_with fail
  refine (known_calls H.out label).mono ?_
  rintro e w1 ⟨rfl, rfl⟩
  cases hk : (decide (0 ≤ label) && decide (label < A.labels))
  · have hC : toC A rd label = 290 := by unfold toC; rw [if_neg (by rw [hr]; decide), if_pos hk]
    go_wp2
    go_ret
    exact ⟨by simp [hC], by rw [pushIf_ne _ (by rw [hC]; decide)]; exact H.out, Fr.refl _ _⟩
  have hC : toC A rd label = 0 := by unfold toC; rw [if_neg (by rw [hr]; decide), if_neg (by rw [hk]; decide)]
  obtain ⟨pv, M, h⟩ := H.out
  have hc := blk_cell h.cells
  have hz := blk_lt h.cells
  have hbz := h.size
  have hr1 : pv.ownBlock ≠ some p := fun e => (h.noP.2 p e).1 rfl
  have hrow := h.row
  have hcc := h.cells
  obtain ⟨i0, hi, hz0, hz1, hz2⟩ := info_parts info126
  have b1 := fun w => bld24 nm rd w
  have b2 := fun w => bld126 s label ⟨nm, rd, 0, 0, 0⟩ w
  have HI := Aside0.mk h
  clear h hk hr
  go_wp2_with (first | (at_builtin; refine wpList_append_lies _ rfl (.tmp 24) (.tmp 31) 125 rfl b 141 i0 _ 8 72 under120 hi hz0 hz1 hz2 rfl (by decide) pv A.ps.length (A.ps.flatMap Pc.cells) rfl (hrow.alloc _) ⟨w1.heap.size, 0, none⟩ 1 1 (Pc.cells ⟨s, ⟨nm, rd, 0, 0, 0⟩, label, false⟩) rfl rfl (World.news_of_block (cs := (Pc.cells ⟨s, ⟨nm, rd, 0, 0, 0⟩, label, false⟩).toArray) (t := 141) (fr := (0, 0)) (heap_alloc_last w1 _)) (one_pc _) (by omega) (by unfold maxLen; omega) (by omega) (by simp; omega) (w1.heap.size + 1) (by simp) ?_; intro gg cap w2 hown' hgrow _ _; have hP1 := (hgrow.block p (by simp; omega) (Ne.symm hr1)).trans (blk_alloc hcc _); have e1 := blk_cell hP1; have e2 := frozen_of_row w2 p 0 _ 127 hP1))
  all_goals first
    | contradiction
    | (have S := push_done0 (HI.out.below (below_alloc (Below.refl _ _) _)) hgrow hown'
       go_ret
       exact ⟨by simp [hC], ⟨_, M, by rw [hC]; exact S.1⟩, (Fr.alloc b w1 _).trans S.2⟩)

set_option maxHeartbeats 1000000 in
theorem Jump_calls {w : World} {b p : Nat} {A : AsmS} (h : AsmAt w b p A) (hn : A.ps.length < 1000000000) (rd label : Int) :
    Calls Tryz.prog 75 #[.pointer (some ⟨p, 0, none⟩), .int .i64 rd, .int .i64 label] w fun e w' => e = .returned (.int .i64 (toC A rd label)) ∧
      AsmAt w' b p (A.pushIf (toC A rd label) ⟨2, ⟨⟨#[106, 97, 108]⟩, rd, 0, 0, 0⟩, label, false⟩) ∧ Fr b w w' := by
  have H := Aside0.mk h
  clear h
  go_enter Tryz.func75, Tryz.ntmps75
  go_wp2_with fail
  refine (to_calls H.out hn 2 _ rd label).mono ?_
  rintro e w2 ⟨rfl, hA, hF⟩
  have HA := Aside0.mk hA
  clear hA
  go_wp2
  go_ret
  exact ⟨by simp, HA.out, hF⟩
set_option maxHeartbeats 1000000 in
theorem Address_calls {w : World} {b p : Nat} {A : AsmS} (h : AsmAt w b p A) (hn : A.ps.length < 1000000000) (rd label : Int) :
    Calls Tryz.prog 79 #[.pointer (some ⟨p, 0, none⟩), .int .i64 rd, .int .i64 label] w fun e w' => e = .returned (.int .i64 (toC A rd label)) ∧
      AsmAt w' b p (A.pushIf (toC A rd label) ⟨3, ⟨⟨#[97, 117, 105, 112, 99]⟩, rd, 0, 0, 0⟩, label, false⟩) ∧ Fr b w w' := by
  have H := Aside0.mk h
  clear h
  go_enter Tryz.func79, Tryz.ntmps79
  go_wp2_with fail
  refine (to_calls H.out hn 3 _ rd label).mono ?_
  rintro e w2 ⟨rfl, hA, hF⟩
  have HA := Aside0.mk hA
  clear hA
  go_wp2
  go_ret
  exact ⟨by simp, HA.out, hF⟩

/-- The branch that goes just when another one does not. -/
def turnF (nm : ByteArray) : ByteArray :=
  if nm.toList = [98, 101, 113] then ⟨#[98, 110, 101]⟩ else if nm.toList = [98, 110, 101] then ⟨#[98, 101, 113]⟩ else if nm.toList = [98, 108, 116] then ⟨#[98, 103, 101]⟩
  else if nm.toList = [98, 103, 101] then ⟨#[98, 108, 116]⟩ else if nm.toList = [98, 108, 116, 117] then ⟨#[98, 103, 101, 117]⟩ else if nm.toList = [98, 103, 101, 117] then ⟨#[98, 108, 116, 117]⟩ else ⟨#[]⟩
set_option maxHeartbeats 1000000 in
theorem turned_calls (nm : ByteArray) (w : World) : Calls Tryz.prog 121 #[.string nm] w fun e w' => e = .returned (.string (turnF nm)) ∧ w' = w := by
  go_enter Tryz.func121, Tryz.ntmps121
  go_wp2
  all_goals go_ret
  all_goals exact ⟨by unfold turnF; simp_all, rfl⟩
end Go.Proofs.YtpfcdhjknmijjaaGreat.As

namespace Go.Proofs.YtpfcdhjknmijjaaGreat.As
open Go.RowKit Go.Maps Go.Proofs.YtpfcdhjknmijjaaGreat.Grow Go.Proofs.YtpfcdhjknmijjaaGreat.Rv
open Go.Proofs.YtpfcdhjknmijjaaGreatW.PrintWords Go.Proofs.YtpfcdhjknmijjaaGreatW.PrintLast Go.Proofs.YtpfcdhjknmijjaaGreatW.PrintMore

def brBad (nm : ByteArray) (ra rb : Int) : Bool := (turnF nm).toList.isEmpty || !regOk ra || !regOk rb
def brC (A : AsmS) (nm : ByteArray) (ra rb label : Int) : Int := if brBad nm ra rb = true then 260 else if (decide (0 ≤ label) && decide (label < A.labels)) = false then 290 else 0
set_option maxHeartbeats 2000000 in
set_option maxRecDepth 100000 in
theorem Branch_calls {w : World} {b p : Nat} {A : AsmS} (h : AsmAt w b p A) (hn : A.ps.length < 1000000000) (nm : ByteArray) (ra rb label : Int) :
    Calls Tryz.prog 78 #[.pointer (some ⟨p, 0, none⟩), .string nm, .int .i64 ra, .int .i64 rb, .int .i64 label] w fun e w' => e = .returned (.int .i64 (brC A nm ra rb label)) ∧
      AsmAt w' b p (A.pushIf (brC A nm ra rb label) ⟨1, ⟨nm, 0, ra, rb, 0⟩, label, false⟩) ∧ Fr b w w' := by
  have H := Aside0.mk h
  clear h
  go_enter Tryz.func78, Tryz.ntmps78
  go_wp2_with fail
  refine (turned_calls nm _).mono ?_
  rintro e w1 ⟨rfl, rfl⟩
  cases ht : (turnF nm).toList.isEmpty
  · go_wp2_with fail
    refine (register_calls ra _).mono ?_
    rintro e w1 ⟨rfl, rfl⟩
    cases hra : regOk ra
    · have hC : brC A nm ra rb label = 260 := by unfold brC brBad; rw [ht, hra]; rfl
      go_wp2
      go_ret
      exact ⟨by simp [hC], by rw [pushIf_ne _ (by rw [hC]; decide)]; exact H.out, Fr.refl _ _⟩
    go_wp2_with fail
    refine (register_calls rb _).mono ?_
    rintro e w1 ⟨rfl, rfl⟩
    cases hrb : regOk rb
    · have hC : brC A nm ra rb label = 260 := by unfold brC brBad; rw [ht, hra, hrb]; rfl
      go_wp2
      go_ret
      exact ⟨by simp [hC], by rw [pushIf_ne _ (by rw [hC]; decide)]; exact H.out, Fr.refl _ _⟩
    have hbad : brBad nm ra rb = false := by unfold brBad; rw [ht, hra, hrb]; rfl
    go_wp2_with fail
    refine (known_calls H.out label).mono ?_
    rintro e w1 ⟨rfl, rfl⟩
    cases hk : (decide (0 ≤ label) && decide (label < A.labels))
    · have hC : brC A nm ra rb label = 290 := by unfold brC; rw [if_neg (by rw [hbad]; decide), if_pos hk]
      go_wp2
      go_ret
      exact ⟨by simp [hC], by rw [pushIf_ne _ (by rw [hC]; decide)]; exact H.out, Fr.refl _ _⟩
    have hC : brC A nm ra rb label = 0 := by unfold brC; rw [if_neg (by rw [hbad]; decide), if_neg (by rw [hk]; decide)]
    obtain ⟨pv, M, h⟩ := H.out
    have hc := blk_cell h.cells
    have hz := blk_lt h.cells
    have hbz := h.size
    have hr1 : pv.ownBlock ≠ some p := fun e => (h.noP.2 p e).1 rfl
    have hrow := h.row
    have hcc := h.cells
    obtain ⟨i0, hi, hz0, hz1, hz2⟩ := info_parts info126
    have b1 := fun w => bld24b nm ra rb w
    have b2 := fun w => bld126 1 label ⟨nm, 0, ra, rb, 0⟩ w
    have HI := Aside0.mk h
    clear h hk hra hrb hbad
    go_wp2_with (first | (at_builtin; refine wpList_append_lies _ rfl (.tmp 34) (.tmp 41) 125 rfl b 141 i0 _ 8 72 under120 hi hz0 hz1 hz2 rfl (by decide) pv A.ps.length (A.ps.flatMap Pc.cells) rfl (hrow.alloc _) ⟨w1.heap.size, 0, none⟩ 1 1 (Pc.cells ⟨1, ⟨nm, 0, ra, rb, 0⟩, label, false⟩) rfl rfl (World.news_of_block (cs := (Pc.cells ⟨1, ⟨nm, 0, ra, rb, 0⟩, label, false⟩).toArray) (t := 141) (fr := (0, 0)) (heap_alloc_last w1 _)) (one_pc _) (by omega) (by unfold maxLen; omega) (by omega) (by simp; omega) (w1.heap.size + 1) (by simp) ?_; intro gg cap w2 hown' hgrow _ _; have hP1 := (hgrow.block p (by simp; omega) (Ne.symm hr1)).trans (blk_alloc hcc _); have e1 := blk_cell hP1; have e2 := frozen_of_row w2 p 0 _ 127 hP1))
    all_goals first
      | contradiction
      | (have S := push_done0 (HI.out.below (below_alloc (Below.refl _ _) _)) hgrow hown'
         go_ret
         exact ⟨by simp [hC], ⟨_, M, by rw [hC]; exact S.1⟩, (Fr.alloc b w1 _).trans S.2⟩)
  · have hC : brC A nm ra rb label = 260 := by unfold brC brBad; rw [ht]; rfl
    go_wp2
    go_ret
    exact ⟨by simp [hC], by rw [pushIf_ne _ (by rw [hC]; decide)]; exact H.out, Fr.refl _ _⟩

theorem row_form {w : World} {b e z n : Nat} {pv : Value} {xs : List Value} (h : w.ownsRow b e z pv n xs) : ∃ a c, pv = .slice a n c := by
  rcases h.2 with ⟨rfl, rfl⟩ | ⟨g, cap, cur, rfl, _⟩
  · exact ⟨_, _, rfl⟩
  · exact ⟨_, _, rfl⟩
def AsmS.mark (A : AsmS) (label : Int) : AsmS := { A with marks := fun j => if j = label then some (A.ps.length : Int) else A.marks j, nm := A.nm + 1 }
def AsmS.markIf (A : AsmS) (c label : Int) : AsmS := if c = 0 then A.mark label else A
def mkC (A : AsmS) (label : Int) : Int := if (decide (0 ≤ label) && decide (label < A.labels)) = false then 290 else if (A.marks label).isSome = true then 6 else 0
set_option maxHeartbeats 2000000 in
set_option maxRecDepth 100000 in
theorem Mark_calls {w : World} {b p : Nat} {A : AsmS} (h : AsmAt w b p A) (hn : A.ps.length < 1000000000) (hm : A.nm < 1000000000) {label : Int} (hl : I64 label) :
    Calls Tryz.prog 73 #[.pointer (some ⟨p, 0, none⟩), .int .i64 label] w fun e w' => e = .returned (.int .i64 (mkC A label)) ∧ AsmAt w' b p (A.markIf (mkC A label) label) ∧ Fr b w w' := by
  have H := Aside0.mk h
  clear h
  go_enter Tryz.func73, Tryz.ntmps73
  go_wp2_with fail
  refine (known_calls H.out label).mono ?_
  rintro e w1 ⟨rfl, rfl⟩
  cases hk : (decide (0 ≤ label) && decide (label < A.labels))
  · have hC : mkC A label = 290 := by unfold mkC; rw [if_pos hk]
    go_wp2
    go_ret
    exact ⟨by simp [hC], by rw [hC]; exact H.out, Fr.refl _ _⟩
  obtain ⟨pv, M, h⟩ := H.out
  have hc := blk_cell h.cells
  have hz := blk_lt h.cells
  have hlook := h.map.lookup hl
  cases hs : (A.marks label).isSome
  · have hC : mkC A label = 0 := by unfold mkC; rw [if_neg (by rw [hk]; decide), if_neg (by rw [hs]; decide)]
    obtain ⟨pa, pc, hpv⟩ := row_form h.row
    obtain ⟨w2, hrun, hm2, hg⟩ := (show MapAt w1.drew M A.nm A.marks from h.map.kept rfl).update (by unfold maxLen; omega) hl (v := (A.ps.length : Int)) (by unfold I64; omega)
    have S := Aside0.mk (h.setMark ⟨hg.os, hg.tape, hg.output, hg.size, hg.block⟩ hm2)
    rw [hpv] at hc
    rw [hs] at hlook
    clear h hg hm2
    go_wp2_with fail
    go_region_law (fail)
    all_goals
      go_wp2
      go_ret
      exact ⟨by simp [hC], ⟨pv, M, by rw [hC]; exact S.out.1⟩, S.out.2⟩
  · have hC : mkC A label = 6 := by unfold mkC; rw [if_neg (by rw [hk]; decide), if_pos hs]
    rw [hs] at hlook
    go_wp2
    go_ret
    exact ⟨by simp [hC], by rw [hC]; exact H.out, Fr.refl _ _⟩
end Go.Proofs.YtpfcdhjknmijjaaGreat.As

namespace Go.Proofs.YtpfcdhjknmijjaaGreat.As
open Go.RowKit Go.Maps Go.Proofs.YtpfcdhjknmijjaaGreat.Grow Go.Proofs.YtpfcdhjknmijjaaGreat.Rv
open Go.Proofs.YtpfcdhjknmijjaaGreatW.PrintWords Go.Proofs.YtpfcdhjknmijjaaGreatW.PrintLast Go.Proofs.YtpfcdhjknmijjaaGreatW.PrintMore

def lowF (n : Int) : Int := wrap64 (n * 4503599627370496) / 4503599627370496
def hiF (n : Int) : Int := if wrap64 (n + 2048) / 4096 = 524288 then -524288 else wrap64 (n + 2048) / 4096
def oAddi (rd n : Int) : OpI := ⟨⟨#[97, 100, 100, 105]⟩, rd, 0, 0, n⟩
def oAddi2 (rd n : Int) : OpI := ⟨⟨#[97, 100, 100, 105]⟩, rd, rd, 0, n⟩
def oLui (rd n : Int) : OpI := ⟨⟨#[108, 117, 105]⟩, rd, 0, 0, n⟩
def oAddiw (rd n : Int) : OpI := ⟨⟨#[97, 100, 100, 105, 119]⟩, rd, rd, 0, n⟩
def oSlli (rd : Int) : OpI := ⟨⟨#[115, 108, 108, 105]⟩, rd, rd, 0, 12⟩
/-- What brings a number to a register. -/
def numL (rd : Int) : Nat → Int → List OpI
  | 0, _ => []
  | k + 1, n => if -2048 ≤ n ∧ n < 2048 then [oAddi rd n]
    else if -2147483648 ≤ n ∧ n < 2147483648 then oLui rd (hiF n) :: (if lowF n = 0 then [] else [oAddiw rd (lowF n)])
    else numL rd k (wrap64 (n - lowF n) / 4096) ++ (oSlli rd :: (if lowF n = 0 then [] else [oAddi2 rd (lowF n)]))
def AsmS.puts (A : AsmS) (l : List OpI) : AsmS := { A with ps := A.ps ++ l.map plainPc }
theorem puts_nil (A : AsmS) : A.puts [] = A := by unfold AsmS.puts; simp
theorem puts_cons (A : AsmS) (x : OpI) (l : List OpI) : A.puts (x :: l) = (A.push (plainPc x)).puts l := by unfold AsmS.puts AsmS.push; simp
theorem puts_app (A : AsmS) (k l : List OpI) : A.puts (k ++ l) = (A.puts k).puts l := by unfold AsmS.puts; simp
theorem puts_one (A : AsmS) (x : OpI) : A.puts [x] = A.push (plainPc x) := by rw [puts_cons, puts_nil]
theorem puts_len (A : AsmS) (l : List OpI) : (A.puts l).ps.length = A.ps.length + l.length := by unfold AsmS.puts; simp
/-- How far a number may be off, by what is left to do. -/
def farB : Nat → Int
  | 0 => 0
  | k + 1 => if k = 0 then 2147483648 else farB k * 4096 - 4096
theorem low_b (n : Int) : -2048 ≤ lowF n ∧ lowF n ≤ 2047 ∧ (n - lowF n) % 4096 = 0 := by
  unfold lowF wrap64
  have h1 : ∃ q, n * 4503599627370496 = q * 4503599627370496 ∧ q = n := ⟨n, rfl, rfl⟩
  refine ⟨?_, ?_, ?_⟩ <;> omega
theorem bld_ad (s : ByteArray) (a c d : Int) (w : World) : (Instr.build 130 #[(0, .string s), (1, .int .i64 a), (2, .int .i64 c), (4, .int .i64 d)]).run Tryz.prog w = .ok (OpI.val ⟨s, a, c, 0, d⟩) w := by kernel_rfl
theorem bld_a (s : ByteArray) (a d : Int) (w : World) : (Instr.build 130 #[(0, .string s), (1, .int .i64 a), (4, .int .i64 d)]).run Tryz.prog w = .ok (OpI.val ⟨s, a, 0, 0, d⟩) w := by kernel_rfl
set_option maxHeartbeats 2000000 in
set_option maxRecDepth 100000 in
theorem number_small {w : World} {b p : Nat} {A : AsmS} (h : AsmAt w b p A) (hn : A.ps.length < 1000000000) (rd n : Int) (h1 : -2048 ≤ n) (h2 : n < 2048) :
    Calls Tryz.prog 118 #[.pointer (some ⟨p, 0, none⟩), .int .i64 rd, .int .i64 n] w fun e w' => e = .returned (.tuple #[]) ∧ AsmAt w' b p (A.puts [oAddi rd n]) ∧ Fr b w w' := by
  have H := Aside0.mk h
  have b1 := fun w => bld_a ⟨#[97, 100, 100, 105]⟩ rd n w
  clear h
  go_enter Tryz.func118, Tryz.ntmps118
  go_wp2_with fail
  refine (put_calls (H.out.below (below_alloc (Below.refl _ _) _)) hn (oAddi rd n) (heap_alloc_last _ _)).mono ?_
  rintro e w2 ⟨rfl, hA, hF⟩
  have F := Aside0.mk ((Fr.alloc b w _).trans hF)
  clear hF
  go_wp2
  refine bodyPost_ret (v := .tuple #[]) (by simp [results, Tryz.results118, go_sem]) rfl ⟨rfl, ?_, F.out⟩
  rw [puts_one]; exact hA
theorem high_mid (n : Int) (h1 : -2147483648 ≤ n) (h2 : n < 2147483648) : hiF n = if (n + 2048) / 4096 = 524288 then -524288 else (n + 2048) / 4096 := by
  have hw : wrap64 (n + 2048) = n + 2048 := by unfold wrap64; omega
  unfold hiF
  rw [hw]
theorem push_len (A : AsmS) (x : Pc) {k : Nat} (h : A.ps.length < k) : (A.push x).ps.length < k + 1 := by show (A.ps ++ [x]).length < _; simp; omega
set_option maxHeartbeats 4000000 in
set_option maxRecDepth 100000 in
theorem number_mid {w : World} {b p : Nat} {A : AsmS} (h : AsmAt w b p A) (hn : A.ps.length < 999999999) (rd n : Int) (h0 : ¬ (-2048 ≤ n ∧ n < 2048)) (h1 : -2147483648 ≤ n) (h2 : n < 2147483648) :
    Calls Tryz.prog 118 #[.pointer (some ⟨p, 0, none⟩), .int .i64 rd, .int .i64 n] w fun e w' => e = .returned (.tuple #[]) ∧ AsmAt w' b p (A.puts (oLui rd (hiF n) :: (if lowF n = 0 then [] else [oAddiw rd (lowF n)]))) ∧ Fr b w w' := by
  have H := Aside0.mk h
  obtain ⟨L, hL⟩ : ∃ L, lowF n = L := ⟨_, rfl⟩
  obtain ⟨Q, hQ⟩ : ∃ Q, hiF n = Q := ⟨_, rfl⟩
  rw [hL, hQ]
  have L1 : wrap64 (n * 4503599627370496) / 4503599627370496 = L := hL
  have b1 := fun q w => bld_a ⟨#[108, 117, 105]⟩ rd q w
  have b2 := fun q w => bld_ad ⟨#[97, 100, 100, 105, 119]⟩ rd rd q w
  have HQ := Aside0.mk (hQ.symm.trans (high_mid n h1 h2))
  have HN := Aside0.mk hn
  clear h hQ hL hn
  obtain ⟨G, hG⟩ : ∃ G : AsmS, A.puts (oLui rd Q :: (if L = 0 then [] else [oAddiw rd L])) = G := ⟨_, rfl⟩
  rw [hG]
  have HG := Aside0.mk hG
  clear hG
  go_enter Tryz.func118, Tryz.ntmps118
  by_cases hs : n < -2048
  all_goals by_cases hlo : L = 0
  all_goals by_cases hh : (n + 2048) / 4096 = 524288
  all_goals try (exfalso; omega)
  all_goals go_wp2_with fail
  all_goals (refine (put_calls (H.out.below (below_alloc (Below.refl _ _) _)) (by have := HN.out; omega) (oLui rd _) (heap_alloc_last _ _)).mono ?_; rintro e w2 ⟨rfl, hA, hF⟩)
  all_goals
    have hq : AsmAt w2 b p (A.push (plainPc (oLui rd Q))) := by
      have := HQ.out
      first
        | (rw [if_pos hh] at this; rw [this]; exact hA)
        | (rw [if_neg hh] at this; rw [this]; exact hA)
    have F := Aside0.mk ((Fr.alloc b w _).trans hF)
    have HA := Aside0.mk hq
    clear hF hA hq
  all_goals first
    | (have hG : A.push (plainPc (oLui rd Q)) = G := by
         have := HG.out
         rw [if_pos hlo, puts_one] at this
         exact this
       rw [hG] at HA
       clear hG
       go_wp2
       exact bodyPost_ret (v := .tuple #[]) (by simp [results, Tryz.results118, go_sem]) rfl ⟨rfl, HA.out, F.out⟩)
    | (have hG : (A.push (plainPc (oLui rd Q))).push (plainPc (oAddiw rd L)) = G := by
         have := HG.out
         rw [if_neg hlo, puts_cons, puts_one] at this
         exact this
       have HG2 := Aside0.mk hG
       clear hG
       go_wp2_with fail
       refine (put_calls (HA.out.below (below_alloc (Below.refl _ _) _)) (push_len A _ HN.out) (oAddiw rd L) (heap_alloc_last _ _)).mono ?_
       rintro e w3 ⟨rfl, hA, hF⟩
       have F2 := Aside0.mk (F.out.trans ((Fr.alloc b w2 _).trans hF))
       have HA2 := Aside0.mk hA
       clear hF hA
       go_wp2
       exact bodyPost_ret (v := .tuple #[]) (by simp [results, Tryz.results118, go_sem]) rfl ⟨rfl, by rw [← HG2.out]; exact HA2.out, F2.out⟩)
end Go.Proofs.YtpfcdhjknmijjaaGreat.As

namespace Go.Proofs.YtpfcdhjknmijjaaGreat.As
open Go.RowKit Go.Maps Go.Proofs.YtpfcdhjknmijjaaGreat.Grow Go.Proofs.YtpfcdhjknmijjaaGreat.Rv
open Go.Proofs.YtpfcdhjknmijjaaGreatW.PrintWords Go.Proofs.YtpfcdhjknmijjaaGreatW.PrintLast Go.Proofs.YtpfcdhjknmijjaaGreatW.PrintMore

/-- What 'number' does with a number. -/
def NumAt (b p : Nat) (rd n : Int) (l : List OpI) : Prop := ∀ (w : World) (A : AsmS), AsmAt w b p A → A.ps.length < 999999900 →
  Calls Tryz.prog 118 #[.pointer (some ⟨p, 0, none⟩), .int .i64 rd, .int .i64 n] w fun e w' => e = .returned (.tuple #[]) ∧ AsmAt w' b p (A.puts l) ∧ Fr b w w'
theorem numL_len (rd : Int) : ∀ k n, (numL rd k n).length ≤ 2 * k
  | 0, _ => Nat.le_refl _
  | k + 1, n => by
    have := numL_len rd k (wrap64 (n - lowF n) / 4096)
    unfold numL
    split
    · simp; omega
    · split
      · split <;> simp <;> omega
      · split <;> simp <;> omega
theorem num_near {b p : Nat} (rd n : Int) (k : Nat) (h1 : -2147483648 ≤ n) (h2 : n < 2147483648) : NumAt b p rd n (numL rd (k + 1) n) := by
  intro w A h hn
  unfold numL
  by_cases hs : -2048 ≤ n ∧ n < 2048
  · rw [if_pos hs]
    exact number_small h (by omega) rd n hs.1 hs.2
  · rw [if_neg hs, if_pos ⟨h1, h2⟩]
    exact number_mid h (by omega) rd n hs h1 h2
set_option maxHeartbeats 4000000 in
set_option maxRecDepth 100000 in
theorem num_step {b p : Nat} (rd n : Int) (k : Nat) (hk : k ≤ 10) (h0 : ¬ (-2147483648 ≤ n ∧ n < 2147483648)) (hrec : NumAt b p rd (wrap64 (n - lowF n) / 4096) (numL rd k (wrap64 (n - lowF n) / 4096))) : NumAt b p rd n (numL rd (k + 1) n) := by
  intro w A h hn
  have hlen := numL_len rd k (wrap64 (n - lowF n) / 4096)
  have hE : numL rd (k + 1) n = numL rd k (wrap64 (n - lowF n) / 4096) ++ (oSlli rd :: (if lowF n = 0 then [] else [oAddi2 rd (lowF n)])) := by
    conv => lhs; unfold numL
    rw [if_neg (by omega), if_neg h0]
  rw [hE]
  obtain ⟨L, hL⟩ : ∃ L, lowF n = L := ⟨_, rfl⟩
  rw [hL] at hrec hlen ⊢
  obtain ⟨m, hm⟩ : ∃ m, wrap64 (n - L) / 4096 = m := ⟨_, rfl⟩
  rw [hm] at hrec hlen ⊢
  obtain ⟨l, hl⟩ : ∃ l, numL rd k m = l := ⟨_, rfl⟩
  rw [hl] at hrec hlen ⊢
  obtain ⟨G, hG⟩ : ∃ G : AsmS, A.puts (l ++ (oSlli rd :: (if L = 0 then [] else [oAddi2 rd L]))) = G := ⟨_, rfl⟩
  rw [hG]
  have L1 : wrap64 (n * 4503599627370496) / 4503599627370496 = L := hL
  have b1 := fun w => bld_ad ⟨#[115, 108, 108, 105]⟩ rd rd 12 w
  have b2 := fun q w => bld_ad ⟨#[97, 100, 100, 105]⟩ rd rd q w
  have HG := Aside0.mk hG
  have R := Aside0.mk (hrec w A h hn)
  have N := Aside0.mk (show (A.puts l).ps.length < 999999990 by rw [puts_len]; omega)
  clear hG hL hE hl h hn hlen hrec
  go_enter Tryz.func118, Tryz.ntmps118
  by_cases hs : n < -2147483648
  all_goals
    go_wp2_with fail
    refine R.out.mono ?_
    rintro e w1 ⟨rfl, hA, hF⟩
    have HA := Aside0.mk hA
    have F := Aside0.mk hF
    clear hA hF
    go_wp2_with fail
    refine (put_calls (HA.out.below (below_alloc (Below.refl _ _) _)) (by have := N.out; omega) (oSlli rd) (heap_alloc_last _ _)).mono ?_
    rintro e w2 ⟨rfl, hA, hF⟩
    have F2 := Aside0.mk (F.out.trans ((Fr.alloc b w1 _).trans hF))
    have HA2 := Aside0.mk (show AsmAt w2 b p ((A.puts l).push (plainPc (oSlli rd))) from hA)
    clear hA hF
    by_cases hlo : L = 0
    · have hG : (A.puts l).push (plainPc (oSlli rd)) = G := by
        have := HG.out
        rw [if_pos hlo, puts_app, puts_one] at this
        exact this
      rw [hG] at HA2
      clear hG
      go_wp2
      exact bodyPost_end (v := .tuple #[]) (by simp [results, Tryz.results118, go_sem]) rfl ⟨rfl, HA2.out, F2.out⟩
    · have hG : ((A.puts l).push (plainPc (oSlli rd))).push (plainPc (oAddi2 rd L)) = G := by
        have := HG.out
        rw [if_neg hlo, puts_app, puts_cons, puts_one] at this
        exact this
      have HG2 := Aside0.mk hG
      clear hG
      go_wp2_with fail
      refine (put_calls (HA2.out.below (below_alloc (Below.refl _ _) _)) (by have := push_len (A.puts l) (plainPc (oSlli rd)) N.out; omega) (oAddi2 rd L) (heap_alloc_last _ _)).mono ?_
      rintro e w3 ⟨rfl, hA, hF⟩
      have F3 := Aside0.mk (F2.out.trans ((Fr.alloc b w2 _).trans hF))
      have HA3 := Aside0.mk hA
      clear hF hA
      go_wp2
      exact bodyPost_end (v := .tuple #[]) (by simp [results, Tryz.results118, go_sem]) rfl ⟨rfl, by rw [← HG2.out]; exact HA3.out, F3.out⟩
theorem num_up {b p : Nat} (rd n : Int) (k : Nat) (hk : k ≤ 10) (hrec : NumAt b p rd (wrap64 (n - lowF n) / 4096) (numL rd k (wrap64 (n - lowF n) / 4096))) : NumAt b p rd n (numL rd (k + 1) n) := by
  by_cases h0 : -2147483648 ≤ n ∧ n < 2147483648
  · exact num_near rd n k h0.1 h0.2
  · exact num_step rd n k hk h0 hrec
theorem far_up (n B : Int) (hB : 4294967296 ≤ B) (hB2 : B ≤ 9223372036854775808) (hm : B % 16777216 = 0) (h1 : -B ≤ n) (h2 : n ≤ B) (h3 : n < 9223372036854775808) : -(B / 4096) ≤ wrap64 (n - lowF n) / 4096 ∧ wrap64 (n - lowF n) / 4096 ≤ B / 4096 := by
  obtain ⟨l1, l2, l3⟩ := low_b n
  have l4 : lowF n = n - 4096 * ((n - lowF n) / 4096) := by omega
  generalize lowF n = L at *
  unfold wrap64
  constructor <;> omega
theorem num_all {b p : Nat} (rd n : Int) (h1 : I64 n) : NumAt b p rd n (numL rd 4 n) := by
  obtain ⟨a1, a2⟩ := h1
  obtain ⟨b1, b2⟩ := far_up n 9223372036854775808 (by decide) (by decide) (by decide) (by omega) (by omega) a2
  refine num_up rd n 3 (by decide) ?_
  generalize wrap64 (n - lowF n) / 4096 = m at *
  obtain ⟨c1, c2⟩ := far_up m (9223372036854775808 / 4096) (by decide) (by decide) (by decide) b1 b2 (by omega)
  refine num_up rd m 2 (by decide) ?_
  generalize wrap64 (m - lowF m) / 4096 = o at *
  obtain ⟨d1, d2⟩ := far_up o (9223372036854775808 / 4096 / 4096) (by decide) (by decide) (by decide) c1 c2 (by omega)
  refine num_up rd o 1 (by decide) ?_
  generalize wrap64 (o - lowF o) / 4096 = q at *
  exact num_near rd q 0 (by omega) (by omega)
def regC : Bool → Int
  | true => 0
  | false => 260
def numIf (rd n : Int) : Bool → List OpI
  | true => numL rd 4 n
  | false => []
set_option maxHeartbeats 1000000 in
theorem Number_calls {w : World} {b p : Nat} {A : AsmS} (h : AsmAt w b p A) (hn : A.ps.length < 999999900) (rd : Int) {n : Int} (hi : I64 n) :
    Calls Tryz.prog 71 #[.pointer (some ⟨p, 0, none⟩), .int .i64 rd, .int .i64 n] w fun e w' => e = .returned (.int .i64 (regC (regOk rd))) ∧
      AsmAt w' b p (A.puts (numIf rd n (regOk rd))) ∧ Fr b w w' := by
  have H := Aside0.mk h
  have R := Aside0.mk (num_all (b := b) (p := p) rd n hi w A h hn)
  clear h
  go_enter Tryz.func71, Tryz.ntmps71
  go_wp2_with fail
  refine (register_calls rd _).mono ?_
  rintro e w1 ⟨rfl, rfl⟩
  cases hr : regOk rd
  · go_wp2
    go_ret
    exact ⟨by simp [regC, hr], by rw [hr]; unfold numIf; rw [puts_nil]; exact H.out, Fr.refl _ _⟩
  · go_wp2_with fail
    refine R.out.mono ?_
    rintro e w2 ⟨rfl, hA, hF⟩
    have HA := Aside0.mk hA
    have F := Aside0.mk hF
    clear hA hF
    go_wp2
    go_ret
    exact ⟨by simp [regC, hr], by rw [hr]; exact HA.out, F.out⟩
end Go.Proofs.YtpfcdhjknmijjaaGreat.As

namespace Go.Proofs.YtpfcdhjknmijjaaGreat.As
open Go.RowKit Go.Maps Go.Proofs.YtpfcdhjknmijjaaGreat.Grow Go.Proofs.YtpfcdhjknmijjaaGreat.Rv
open Go.Proofs.YtpfcdhjknmijjaaGreatW.PrintWords Go.Proofs.YtpfcdhjknmijjaaGreatW.PrintLast Go.Proofs.YtpfcdhjknmijjaaGreatW.PrintMore

theorem info3 : (Tryz.prog.info? 3).map (fun i => (i.zero, i.size, i.bytes)) = some (some (.int .i64 0), 1, 8) := by kernel_rfl
theorem under51 : Tryz.prog.underlying 38 = some (.slice 3) := by kernel_rfl
def sizeP (x : Pc) : Int := if x.sort = 3 ∨ x.long = true then 8 else 4
set_option maxHeartbeats 1000000 in
theorem size_calls (x : Pc) (w : World) : Calls Tryz.prog 161 #[Pc.val x] w fun e w' => e = .returned (.int .i64 (sizeP x)) ∧ Below w.heap.size w w' := by
  unfold Pc.val
  go_enter Tryz.func161, Tryz.ntmps161
  cases hl : x.long
  all_goals by_cases hs : x.sort = 3
  all_goals go_wp2
  all_goals go_ret
  all_goals exact ⟨by simp [sizeP, hl, hs], below_alloc (Below.refl _ _) _⟩

def posF (ps : List Pc) (k : Nat) : Int := ((ps.take k).map sizeP).sum
theorem posF_succ {ps : List Pc} {k : Nat} (h : k < ps.length) : posF ps (k + 1) = posF ps k + sizeP ps[k] := by
  unfold posF
  rw [List.take_succ_eq_append_getElem h, List.map_append, List.sum_append]
  simp
theorem size_b (x : Pc) : 4 ≤ sizeP x ∧ sizeP x ≤ 8 := by unfold sizeP; split <;> omega
theorem posF_b (ps : List Pc) : ∀ k, 0 ≤ posF ps k ∧ posF ps k ≤ 8 * k
  | 0 => by simp [posF]
  | k + 1 => by
    have := posF_b ps k
    by_cases h : k < ps.length
    · rw [posF_succ h]; have := size_b ps[k]; omega
    · have : posF ps (k + 1) = posF ps k := by unfold posF; rw [List.take_of_length_le (by omega), List.take_of_length_le (by omega)]
      omega
def posV (ps : List Pc) (k : Nat) : List Value := (List.range k).map fun i => .int .i64 (posF ps i)
theorem posV_succ (ps : List Pc) (k : Nat) : posV ps k ++ [.int .i64 (posF ps k)] = posV ps (k + 1) := by unfold posV; rw [List.range_succ, List.map_append]; rfl
/-- The cells of a piece in the midst of the row. -/
theorem flat_get {ps : List Pc} {k : Nat} (h : k < ps.length) {j : Nat} (hj : j < 8) : (ps.flatMap Pc.cells)[k * 8 + j]? = (ps[k].cells)[j]? := by
  induction ps generalizing k with
  | nil => simp at h
  | cons x xs ih =>
    rw [List.flatMap_cons]
    cases k with
    | zero => rw [List.getElem?_append_left (by rw [pc_len]; omega)]; simp
    | succ k =>
      rw [List.getElem?_append_right (by rw [pc_len]; omega), pc_len]
      have := ih (k := k) (by simpa using h)
      rw [show (k + 1) * 8 + j - 8 = k * 8 + j by omega, this]
      simp
/-- What a row's cell holds. -/
theorem row_cell {w : World} {b : Nat} {pv : Value} {ps : List Pc} (h : w.ownsRow b 141 8 pv ps.length (ps.flatMap Pc.cells)) (hn : 0 < ps.length) :
    ∃ g cap, pv = .slice (some ⟨g, 0, none⟩) ps.length cap ∧ g < w.heap.size ∧ ∀ k (hk : k < ps.length), ∀ j, j < 8 → w.cell? ⟨g, k * 8 + j, none⟩ = (ps[k].cells)[j]? := by
  obtain ⟨hl, ⟨_, h0⟩ | ⟨g, cap, cur, hv, _, hh, hc, _, hs, ht⟩⟩ := h
  · omega
  · refine ⟨g, cap, hv, blk_lt hh, fun k hk j hj => ?_⟩
    rw [cell_of_row w g _ cur 141 (0, 0) hh, ← flat_get hk hj, ← ht, List.getElem?_take_of_lt (by omega)]
    simp
theorem piece_cells {w : World} {g k : Nat} {x : Pc} (h : ∀ j, j < 8 → w.cell? ⟨g, k * 8 + j, none⟩ = (x.cells)[j]?) :
    w.cell? ⟨g, k * 8, none⟩ = some (.int .i64 x.sort) ∧ w.cell? ⟨g, k * 8 + 1, none⟩ = some (.string x.op.name) ∧ w.cell? ⟨g, k * 8 + 2, none⟩ = some (.int .i64 x.op.rd) ∧ w.cell? ⟨g, k * 8 + 3, none⟩ = some (.int .i64 x.op.ra) ∧
    w.cell? ⟨g, k * 8 + 4, none⟩ = some (.int .i64 x.op.rb) ∧ w.cell? ⟨g, k * 8 + 5, none⟩ = some (.int .i64 x.op.imm) ∧ w.cell? ⟨g, k * 8 + 6, none⟩ = some (.int .i64 x.label) ∧ w.cell? ⟨g, k * 8 + 7, none⟩ = some (.bool x.long) :=
  ⟨h 0 (by decide), h 1 (by decide), h 2 (by decide), h 3 (by decide), h 4 (by decide), h 5 (by decide), h 6 (by decide), h 7 (by decide)⟩
theorem row_lt {w : World} {b e z n : Nat} {v : Value} {xs : List Value} (h : w.ownsRow b e z v n xs) : ∀ j, v.ownBlock = some j → j < w.heap.size := by
  intro j hj
  rcases h.2 with ⟨rfl, _⟩ | ⟨g, cap, cur, rfl, _, hh, _⟩
  · cases hj
  · cases hj; exact blk_lt hh
theorem row_ne {w : World} {b e z n : Nat} {v : Value} {xs : List Value} (h : w.ownsRow b e z v n xs) : some w.heap.size ≠ v.ownBlock := fun e => by have := row_lt h _ e.symm; omega
theorem _root_.Go.World.ownsRow.below {w w' : World} {b e z n : Nat} {v : Value} {xs : List Value} (h : w.ownsRow b e z v n xs) (hb : Below w.heap.size w w') : w'.ownsRow b e z v n xs :=
  row_kept h fun k hk => hb.block k (row_lt h k hk)
theorem own_made (w : World) (n : Nat) (hn : n < 1000000000) : (w.alloc (.cells (madeCells #[.int .i64 0] (n + 1)) 3)).ownsRow w.heap.size 3 1 (.slice (some ⟨w.heap.size, 0, none⟩) 0 (n + 1)) 0 [] :=
  ⟨rfl, .inr ⟨w.heap.size, n + 1, _, rfl, Nat.le_refl _, heap_alloc_last _ _, by omega, by unfold maxLen; omega, by simp [madeCells], by simp⟩⟩
set_option maxHeartbeats 4000000 in
set_option maxRecDepth 100000 in
theorem places_calls {w : World} {b p : Nat} {A : AsmS} (h : AsmAt w b p A) (hn : A.ps.length < 1000000000) :
    Calls Tryz.prog 124 #[.pointer (some ⟨p, 0, none⟩)] w fun e w' => ∃ v, e = .returned v ∧ w'.ownsRow w.heap.size 3 1 v (A.ps.length + 1) (posV A.ps (A.ps.length + 1)) ∧ Below w.heap.size w w' := by
  obtain ⟨pv, M, h⟩ := h
  obtain ⟨pa, pc, hpv⟩ := row_form h.row
  have hc := blk_cell h.cells
  have hz := blk_lt h.cells
  have HI := Aside0.mk h
  rw [hpv] at hc
  obtain ⟨i0, hi, hz0, hz1, hz2⟩ := info_parts info3
  have hmk := run_make (P := Tryz.prog) w 38 3 i0 (.int .i64 0) under51 hi hz0 .i64 .i64 0 ((A.ps.length : Int) + 1) (by decide) (by omega) (by rw [hz2]; omega) (by omega)
  rw [hz1, show ((A.ps.length : Int) + 1).toNat = A.ps.length + 1 by omega] at hmk
  clear h
  go_enter Tryz.func124, Tryz.ntmps124
  go_wp2
  go_loopw [3, 4, 19] (fun v3 v4 v19 wr => ∃ k : Nat, k ≤ A.ps.length ∧ v19 = .int .i64 k ∧ v4 = .int .i64 (posF A.ps k) ∧ wr.ownsRow w.heap.size 3 1 v3 k (posV A.ps k) ∧ Below w.heap.size w wr) (fun _ _ v19 _ => A.ps.length - (intOf v19).toNat)
  case atStart => exact ⟨0, by omega, rfl, rfl, own_made w _ hn, below_alloc (Below.refl _ _) _⟩
  case round =>
    obtain ⟨k, hk, rfl, rfl, hown, hb⟩ := hrel
    by_cases hlt : k < A.ps.length
    · obtain ⟨g, cap, hg, hgl, hcell⟩ := row_cell HI.out.row (by omega)
      rw [hpv] at hg
      cases hg
      have hk0 : (0 : Int) ≤ (k : Int) := by omega
      have hk1 : (k : Int) < (A.ps.length : Int) := by omega
      obtain ⟨c0, c1, c2, c3, c4, c5, c6, c7⟩ := piece_cells (x := A.ps[k]) fun j hj => (hb.cell hgl).trans (hcell k hlt j hj)
      have hps := posF_succ hlt
      obtain ⟨x, hx⟩ : ∃ x, A.ps[k] = x := ⟨_, rfl⟩
      rw [hx] at c0 c1 c2 c3 c4 c5 c6 c7 hps
      have hpb := posF_b A.ps k
      have hsb := size_b x
      have PS := Aside0.mk hps
      have hne := row_ne hown
      have e1 : wrap64 (posF A.ps k + sizeP x) = posF A.ps k + sizeP x := by unfold wrap64; omega
      clear hps hmk hcell
      go_wp2_with (first | (at_builtin; refine wpList_append_own _ rfl (.tmp 23) (.tmp 25) 38 rfl w.heap.size 3 i0 (.int .i64 0) 1 8 under51 hi hz0 hz1 hz2 rfl (by decide) _ k _ rfl ((hown.alloc _).alloc _) ⟨wr.heap.size + 1, 0, none⟩ 1 1 [.int .i64 (posF A.ps k)] rfl rfl (cell_one_at _ _ _ (by simp)) (fun x hx => by simp at hx; subst hx; rfl) (by unfold maxLen; omega) (by omega) (by have := hb.size; simp; omega) ?_; intro v' w1 hown' hgrow _; have hq := (hgrow.block wr.heap.size (by simp; omega) hne).trans (blk_alloc (heap_alloc_last wr _) _); have q := blk_cell hq; have hsz := hgrow.size; have hlq := blk_lt hq))
      refine (size_calls x _).mono ?_
      rintro e w2 ⟨rfl, hb2⟩
      have B := Aside0.mk (((below_alloc (below_alloc hb _) _).grown hgrow (by have := hb.size; simp; omega) (own_ge hown)).trans (hb2.mono (Nat.le_trans hb.size (by simp at hsz; omega))))
      have O := Aside0.mk (hown'.below hb2)
      clear hq q hown' hgrow hb2 hown
      go_wp2
      go_roundw
      case rel => exact ⟨k + 1, by omega, by go_num, by rw [PS.out], by rw [← posV_succ]; exact O.out, B.out⟩
      case measure => simp [intOf]; omega
    · have : k = A.ps.length := by omega
      subst this
      go_wp2_with (first | (at_builtin; refine wpList_append_own _ rfl (.tmp 32) (.tmp 34) 38 rfl w.heap.size 3 i0 (.int .i64 0) 1 8 under51 hi hz0 hz1 hz2 rfl (by decide) _ A.ps.length _ rfl (hown.alloc _) ⟨wr.heap.size, 0, none⟩ 1 1 [.int .i64 (posF A.ps A.ps.length)] rfl rfl (cell_one_at _ _ _ (by simp)) (fun x hx => by simp at hx; subst hx; rfl) (by unfold maxLen; omega) (by omega) (by have := hb.size; simp; omega) ?_; intro v' w1 hown' hgrow _))
      go_ret
      exact ⟨_, rfl, by rw [← posV_succ]; exact hown', (below_alloc hb _).grown hgrow (by have := hb.size; simp; omega) (own_ge hown)⟩
end Go.Proofs.YtpfcdhjknmijjaaGreat.As

namespace Go.Proofs.YtpfcdhjknmijjaaGreat.As
open Go.RowKit Go.Maps Go.Proofs.YtpfcdhjknmijjaaGreat.Grow Go.Proofs.YtpfcdhjknmijjaaGreat.Rv
open Go.Proofs.YtpfcdhjknmijjaaGreatW.PrintWords Go.Proofs.YtpfcdhjknmijjaaGreatW.PrintLast Go.Proofs.YtpfcdhjknmijjaaGreatW.PrintMore

/-! ### Pieces with other lengths -/
def withL (ps : List Pc) (f : Nat → Bool) : List Pc := ps.mapIdx fun i x => { x with long := f i }
theorem withL_len (ps : List Pc) (f : Nat → Bool) : (withL ps f).length = ps.length := by unfold withL; simp
theorem withL_get {ps : List Pc} {f : Nat → Bool} {i : Nat} (h : i < ps.length) : (withL ps f)[i]'(by rw [withL_len]; exact h) = { ps[i] with long := f i } := by unfold withL; simp
theorem withL_self (ps : List Pc) : withL ps (fun i => ((ps[i]?).map Pc.long).getD false) = ps := by
  apply List.ext_getElem
  · exact withL_len _ _
  · intro i h1 h2
    rw [withL_get h2]
    simp [h2]
theorem withL_congr {ps : List Pc} {f g : Nat → Bool} (h : ∀ i, i < ps.length → f i = g i) : withL ps f = withL ps g := by
  apply List.ext_getElem
  · rw [withL_len, withL_len]
  · intro i h1 h2
    rw [withL_len] at h1
    rw [withL_get h1, withL_get h1, h i h1]
def updB (f : Nat → Bool) (i : Nat) (v : Bool) : Nat → Bool := fun j => if j = i then v else f j
theorem withL_set {ps : List Pc} {f : Nat → Bool} {i : Nat} (v : Bool) (h : i < ps.length) : (withL ps f).set i { ps[i] with long := v } = withL ps (updB f i v) := by
  apply List.ext_getElem
  · rw [List.length_set, withL_len, withL_len]
  · intro j h1 h2
    have h3 : j < ps.length := by rw [withL_len] at h2; exact h2
    rw [withL_get h3, List.getElem_set]
    unfold updB
    split
    · rename_i e; subst e; simp
    · rename_i e; rw [withL_get h3, if_neg (fun e' => e e'.symm)]
theorem flat_len (ps : List Pc) : (ps.flatMap Pc.cells).length = ps.length * 8 := by
  induction ps with
  | nil => rfl
  | cons x xs ih => rw [List.flatMap_cons, List.length_append, ih, pc_len, List.length_cons]; omega
theorem flat_set {ps : List Pc} {i : Nat} (h : i < ps.length) (v : Bool) : (ps.set i { ps[i] with long := v }).flatMap Pc.cells = (ps.flatMap Pc.cells).set (i * 8 + 7) (.bool v) := by
  induction ps generalizing i with
  | nil => simp at h
  | cons x xs ih =>
    cases i with
    | zero => rfl
    | succ i =>
      have hi : i < xs.length := by simpa using h
      have e := ih hi
      simp only [List.set_cons_succ, List.flatMap_cons, List.getElem_cons_succ]
      rw [e, List.set_append_right _ _ (by rw [pc_len]; omega), pc_len, show (i + 1) * 8 + 7 - 8 = i * 8 + 7 by omega]
/-- One flag of the row is written. -/
theorem AsmIs.setLong {w : World} {b p n cap g : Nat} {A : AsmS} {M : Nat} (h : AsmIs w b p A (.slice (some ⟨g, 0, none⟩) n cap) M) {i : Nat} (hi : i < A.ps.length) (v : Bool) :
    AsmIs (w.setCell ⟨g, i * 8 + 7, none⟩ (.bool v)) b p { A with ps := A.ps.set i { A.ps[i] with long := v } } (.slice (some ⟨g, 0, none⟩) n cap) M ∧ Fr b w (w.setCell ⟨g, i * 8 + 7, none⟩ (.bool v)) := by
  obtain ⟨hM, hrow⟩ := h.noP
  obtain ⟨hne1, hne2⟩ := hrow g rfl
  obtain ⟨hl, ⟨h0, _⟩ | ⟨g', cap', cur, hv, hbg, hh, hc, hcm, hs, ht⟩⟩ := h.row
  · cases h0
  · cases hv
    refine ⟨⟨?_, h.le, h.leM, ?_, ?_⟩, Fr.setCell (a := ⟨g, i * 8 + 7, none⟩) _ hbg ⟨_, _, .inr (.inl hh)⟩⟩
    · exact (heap_setCell_other _ _ _ _ (fun e => hne1 e.symm)).trans h.cells
    · refine ⟨?_, .inr ⟨g, cap, cur.setIfInBounds (i * 8 + 7) (.bool v), ?_, hbg, ?_, ?_, hcm, ?_, ?_⟩⟩
      · rw [flat_set hi, List.length_set, List.length_set]; exact hl
      · rw [List.length_set]
      · rw [heap_setCell_same w g (i * 8 + 7) _ 141 _ hh]
      · rw [List.length_set]; exact hc
      · rw [Array.size_setIfInBounds]; exact hs
      · rw [List.length_set, flat_set hi, ← ht, Array.toList_setIfInBounds, List.take_set]
    · exact h.map.kept (heap_setCell_other _ _ _ _ (fun e => hne2 e.symm))

/-! ### Which branches are long -/
def posL (A : AsmS) (f : Nat → Bool) (k : Nat) : Int := posF (withL A.ps f) k
/-- Does a short branch not reach? -/
def needs (A : AsmS) (f : Nat → Bool) (i : Nat) : Bool :=
  match A.ps[i]? with
  | none => false
  | some x => decide (x.sort = 1) && !f i && match A.marks x.label with
    | none => false
    | some t => !reachF (wrap64 (posL A f t.toNat - posL A f i)) 4096
def stepL (A : AsmS) (f : Nat → Bool) : Nat → Bool := fun i => f i || needs A f i
def itL (A : AsmS) : Nat → Nat → Bool
  | 0 => fun _ => false
  | j + 1 => stepL A (itL A j)
def cntT (f : Nat → Bool) (n : Nat) : Nat := (List.range n).countP fun i => f i
def longF (A : AsmS) : Nat → Bool := itL A (A.ps.length + 1)
def settleF (A : AsmS) : AsmS := { A with ps := withL A.ps (longF A) }
theorem needs_lt {A : AsmS} {f : Nat → Bool} {i : Nat} (h : needs A f i = true) : i < A.ps.length ∧ f i = false := by
  unfold needs at h
  split at h
  · cases h
  · rename_i x hx
    refine ⟨(List.getElem?_eq_some_iff.1 hx).1, ?_⟩
    simp only [Bool.and_eq_true, Bool.not_eq_true'] at h
    exact h.1.2
theorem cntT_le (f : Nat → Bool) (n : Nat) : cntT f n ≤ n := by
  have := List.countP_le_length (p := fun i => f i) (l := List.range n)
  simpa [cntT] using this
theorem cntT_lt {f g : Nat → Bool} {n i : Nat} (hfg : ∀ j, f j = true → g j = true) (hi : i < n) (h1 : f i = false) (h2 : g i = true) : cntT f n < cntT g n := by
  induction n with
  | zero => omega
  | succ n ih =>
    unfold cntT at *
    rw [List.range_succ, List.countP_append, List.countP_append]
    by_cases e : i = n
    · subst e
      have hm : (List.range i).countP (fun i => f i) ≤ (List.range i).countP (fun i => g i) := List.countP_mono_left fun j _ h => hfg j h
      simp [h1, h2]
      omega
    · have := ih (by omega)
      have h3 : [n].countP (fun i => f i) ≤ [n].countP (fun i => g i) := List.countP_mono_left fun j _ h => hfg j h
      omega
theorem stepL_le {A : AsmS} {f : Nat → Bool} (j : Nat) (h : f j = true) : stepL A f j = true := by unfold stepL; rw [h]; rfl
theorem itL_fix {A : AsmS} {j : Nat} (h : stepL A (itL A j) = itL A j) : ∀ m, itL A (j + m) = itL A j
  | 0 => rfl
  | m + 1 => by rw [← Nat.add_assoc]; show stepL A (itL A (j + m)) = _; rw [itL_fix h m, h]
/-- At the fixed point. -/
theorem longF_of {A : AsmS} {j : Nat} (h : stepL A (itL A j) = itL A j) (hj : j ≤ cntT (itL A j) A.ps.length) : itL A j = longF A := by
  have := cntT_le (itL A j) A.ps.length
  have e := itL_fix h (A.ps.length + 1 - j)
  rw [show j + (A.ps.length + 1 - j) = A.ps.length + 1 by omega] at e
  exact e.symm
theorem itL_more {A : AsmS} {j i : Nat} (hj : j ≤ cntT (itL A j) A.ps.length) (hi : needs A (itL A j) i = true) : j + 1 ≤ cntT (itL A (j + 1)) A.ps.length := by
  obtain ⟨h1, h2⟩ := needs_lt hi
  have := cntT_lt (f := itL A j) (g := itL A (j + 1)) (n := A.ps.length) (fun k hk => stepL_le k hk) h1 h2 (by show stepL A (itL A j) i = true; unfold stepL; rw [hi]; simp)
  omega
end Go.Proofs.YtpfcdhjknmijjaaGreat.As
end
