import Derived.Test.YtciehejifdbpoaaPlC
import Derived.Laws.OwnMore
import Derived.Deep.RegionWith
import Derived.StillTailTactics
section
set_option linter.unusedSimpArgs false
set_option linter.unusedVariables false
namespace Go.Proofs.Ytciehejifdbpoaa.Ap
open Go.RowKit Go.Maps Go.Proofs.Ytciehejifdbpoaa.Grow Go.Proofs.Ytciehejifdbpoaa.Rv Go.Proofs.Ytciehejifdbpoaa.As
open Go.Proofs.YtciehejifdbpoaaW.PrintWords Go.Proofs.YtciehejifdbpoaaW.PrintLast Go.Proofs.YtciehejifdbpoaaW.PrintMore

/-! ### The reference's code -/
def refC (p : Pc) : List Value := [.int .i64 p.sort, .string p.op.name, .int .i64 p.op.rd, .int .i64 p.op.ra, .int .i64 p.op.rb, .int .i64 p.op.imm, .int .i64 p.label]
def refV (p : Pc) : Value := .agg #[.int .i64 p.sort, .string p.op.name, .int .i64 p.op.rd, .int .i64 p.op.ra, .int .i64 p.op.rb, .int .i64 p.op.imm, .int .i64 p.label]
structure CodeIs (w : World) (b : Nat) (lv mv : Value) (ps : List Pc) (ms : List Int) : Prop where
  row : w.ownsRow b 138 7 lv ps.length (ps.flatMap refC)
  marks : w.ownsRow b 3 1 mv ms.length (ms.map (Value.int .i64))
/-- What a call of the reference leaves as it was: all but rows of pieces from b on. -/
structure RF (b : Nat) (w w' : World) : Prop where
  os : w'.os = w.os
  tape : w'.tape = w.tape
  output : w'.output = w.output
  size : w.heap.size ≤ w'.heap.size
  block : ∀ k, k < w.heap.size → (k < b ∨ ¬ ∃ c f, w.heap[k]? = some (.cells c 138 f)) → w'.heap[k]? = w.heap[k]?
theorem RF.refl (b : Nat) (w : World) : RF b w w := ⟨rfl, rfl, rfl, Nat.le_refl _, fun _ _ _ => rfl⟩
theorem RF.trans {b : Nat} {w w1 w2 : World} (h : RF b w w1) (h' : RF b w1 w2) : RF b w w2 :=
  ⟨h'.os.trans h.os, h'.tape.trans h.tape, h'.output.trans h.output, Nat.le_trans h.size h'.size, fun k hk hor => by
    have e := h.block k hk hor
    exact (h'.block k (Nat.lt_of_lt_of_le hk h.size) (hor.imp id fun hn => by rw [e]; exact hn)).trans e⟩
theorem RF.of_below {b : Nat} {w w' : World} (h : Below w.heap.size w w') : RF b w w' := ⟨h.os, h.tape, h.output, h.size, fun k hk _ => h.block k hk⟩
theorem RF.below {b : Nat} {w w' : World} (h : RF b w w') (hb : b ≤ w.heap.size) : Below b w w' := ⟨h.os, h.tape, h.output, h.size, fun k hk => h.block k (by omega) (.inl hk)⟩
theorem RF.grown {b : Nat} {w w' : World} {row : Option Nat} (hg : w.grownBy w' row) (hr : ∀ k, row = some k → k < w.heap.size → b ≤ k ∧ ∃ c f, w.heap[k]? = some (.cells c 138 f)) : RF b w w' :=
  ⟨hg.os, hg.tape, hg.output, hg.size, fun k hk hor => hg.block k hk fun e => by
    obtain ⟨h1, h2⟩ := hr k e.symm hk
    rcases hor with h | h
    · omega
    · exact h h2⟩
theorem row_block {w : World} {b e s n : Nat} {v : Value} {xs : List Value} (h : w.ownsRow b e s v n xs) : ∀ k, v.ownBlock = some k → b ≤ k ∧ k < w.heap.size ∧ ∃ c, w.heap[k]? = some (.cells c e (0, 0)) := by
  intro k hk
  rcases h.2 with ⟨rfl, _⟩ | ⟨g, cap, cur, rfl, hg, hh, _⟩
  · cases hk
  · cases hk
    exact ⟨hg, blk_lt hh, _, hh⟩
theorem row_slice {w : World} {b e s n : Nat} {v : Value} {xs : List Value} (h : w.ownsRow b e s v n xs) : ∃ o c, v = .slice o n c := by
  rcases h.2 with ⟨rfl, rfl⟩ | ⟨g, cap, cur, rfl, _⟩
  · exact ⟨_, _, rfl⟩
  · exact ⟨_, _, rfl⟩
/-- A code stays where its blocks stay. -/
theorem CodeIs.kept {w w' : World} {b : Nat} {lv mv : Value} {ps : List Pc} {ms : List Int} (h : CodeIs w b lv mv ps ms)
    (hk : ∀ k c t, k < w.heap.size → w.heap[k]? = some (.cells c t (0, 0)) → t = 138 ∨ t = 3 → w'.heap[k]? = w.heap[k]?) : CodeIs w' b lv mv ps ms := by
  refine ⟨row_kept h.row fun k e => ?_, row_kept h.marks fun k e => ?_⟩
  · obtain ⟨_, h1, c, h2⟩ := row_block h.row k e
    exact hk k c 138 h1 h2 (.inl rfl)
  · obtain ⟨_, h1, c, h2⟩ := row_block h.marks k e
    exact hk k c 3 h1 h2 (.inr rfl)
theorem CodeIs.below {w w' : World} {b : Nat} {lv mv : Value} {ps : List Pc} {ms : List Int} (h : CodeIs w b lv mv ps ms) (hb : Below w.heap.size w w') : CodeIs w' b lv mv ps ms := h.kept fun k _ _ hk _ _ => hb.block k hk
theorem CodeIs.fr {w w' : World} {b : Nat} {lv mv : Value} {ps : List Pc} {ms : List Int} (h : CodeIs w b lv mv ps ms) {c : Nat} (hF : Fr c w w') : CodeIs w' b lv mv ps ms :=
  h.kept fun k cs t hk hc ht => hF.block k hk (.inr (by
    rintro ⟨c', f, e | e | ⟨es, n, e⟩⟩
    · rw [hc] at e; rcases ht with rfl | rfl <;> cases e
    · rw [hc] at e; rcases ht with rfl | rfl <;> cases e
    · rw [hc] at e; cases e))
/-- An 'Asm' stays where the reference alone writes. -/
theorem asm_rf {w w' : World} {b p : Nat} {A : AsmS} (h : AsmAt w b p A) {c : Nat} (hF : RF c w w') : AsmAt w' b p A :=
  h.kept fun k hk ht => hF.block k hk (.inr (by
    rintro ⟨c', f', e'⟩
    obtain ⟨c', f, e | e | ⟨es, n, e⟩⟩ := ht
    · rw [e'] at e; cases e
    · rw [e'] at e; cases e
    · rw [e'] at e; cases e))
theorem info138 : (Try.prog.info? 138).map (fun i => (i.zero, i.size, i.bytes)) = some (some (.agg #[.int .i64 0, .string ⟨#[]⟩, .int .i64 0, .int .i64 0, .int .i64 0, .int .i64 0, .int .i64 0]), 7, 64) := by kernel_rfl
theorem info3 : (Try.prog.info? 3).map (fun i => (i.zero, i.size, i.bytes)) = some (some (.int .i64 0), 1, 8) := by kernel_rfl
theorem under50 : Try.prog.underlying 50 = some (.slice 138) := by kernel_rfl
theorem under51 : Try.prog.underlying 51 = some (.slice 3) := by kernel_rfl
theorem under37 : Try.prog.underlying 37 = some (.slice 24) := by kernel_rfl
theorem under139 : Try.prog.underlying 139 = some (.slice 4) := by kernel_rfl
theorem bld138 (s l : Int) (x : OpI) (w : World) : (Instr.build 138 #[(0, .int .i64 s), (1, OpI.val x), (2, .int .i64 l)]).run Try.prog w = .ok (refV ⟨s, x, l, false⟩) w := by kernel_rfl
theorem bld138p (x : OpI) (w : World) : (Instr.build 138 #[(1, OpI.val x)]).run Try.prog w = .ok (refV (plainPc x)) w := by kernel_rfl
theorem ref_len (p : Pc) : (refC p).length = 7 := rfl
theorem one_ref (p : Pc) : ∀ u ∈ refC p, u.oneCell' = true := by
  intro u hu
  simp only [refC, List.mem_cons, List.not_mem_nil, or_false] at hu
  rcases hu with rfl | rfl | rfl | rfl | rfl | rfl | rfl <;> rfl
theorem flat_ref (ps : List Pc) (x : Pc) : ps.flatMap refC ++ refC x = (ps ++ [x]).flatMap refC := by rw [List.flatMap_append]; simp

/-! ### The small ones -/
theorem register_calls (r : Int) (w : World) : Calls Try.prog 104 #[.int .i64 r] w fun e w' => e = .returned (.bool (regOk r)) ∧ w' = w := by
  unfold regOk
  go_enter Try.func104, Try.ntmps104
  by_cases h1 : 0 ≤ r
  · by_cases h2 : r ≤ 31
    · go_wp2
      go_ret
      exact ⟨by simp [h1, h2]; omega, rfl⟩
    · go_wp2
      go_ret
      exact ⟨by simp [h1, h2]; omega, rfl⟩
  · go_wp2
    go_ret
    exact ⟨by simp [h1]; omega, rfl⟩
def knownB (n : Nat) (label : Int) : Bool := decide (0 ≤ label) && decide (label < (n : Int))
set_option maxHeartbeats 2000000 in
theorem known_calls (lv : Value) (o : Option Addr) (n c : Nat) (label : Int) (w : World) : Calls Try.prog 74 #[.agg #[lv, .slice o n c], .int .i64 label] w fun e w' => e = .returned (.bool (knownB n label)) ∧ Below w.heap.size w w' := by
  unfold knownB
  go_enter Try.func74, Try.ntmps74
  by_cases h1 : 0 ≤ label
  · by_cases h2 : label < (n : Int)
    · go_wp2
      go_ret
      exact ⟨by simp [h1, h2], below_alloc (Below.refl _ _) _⟩
    · go_wp2
      go_ret
      exact ⟨by simp [h1, h2], below_alloc (Below.refl _ _) _⟩
  · go_wp2
    go_ret
    exact ⟨by simp [h1]; omega, below_alloc (Below.refl _ _) _⟩
end Go.Proofs.Ytciehejifdbpoaa.Ap
end
section
set_option linter.unusedSimpArgs false
set_option linter.unusedVariables false
namespace Go.Proofs.Ytciehejifdbpoaa.Ap
open Go.RowKit Go.Maps Go.Proofs.Ytciehejifdbpoaa.Grow Go.Proofs.Ytciehejifdbpoaa.Rv Go.Proofs.Ytciehejifdbpoaa.As
open Go.Proofs.YtciehejifdbpoaaW.PrintWords Go.Proofs.YtciehejifdbpoaaW.PrintLast Go.Proofs.YtciehejifdbpoaaW.PrintMore

def tA (k : Nat) : ByteArray := match k with
  | 0 => ⟨#[98, 101, 113]⟩
  | 1 => ⟨#[98, 110, 101]⟩
  | 2 => ⟨#[98, 108, 116]⟩
  | 3 => ⟨#[98, 103, 101]⟩
  | 4 => ⟨#[98, 108, 116, 117]⟩
  | _ => ⟨#[98, 103, 101, 117]⟩
def tB (k : Nat) : ByteArray := match k with
  | 0 => ⟨#[98, 110, 101]⟩
  | 1 => ⟨#[98, 101, 113]⟩
  | 2 => ⟨#[98, 103, 101]⟩
  | 3 => ⟨#[98, 108, 116]⟩
  | 4 => ⟨#[98, 103, 101, 117]⟩
  | _ => ⟨#[98, 108, 116, 117]⟩
theorem six {k : Nat} (h : k < 6) : k = 0 ∨ k = 1 ∨ k = 2 ∨ k = 3 ∨ k = 4 ∨ k = 5 := by omega
theorem tA_turn {k : Nat} (h : k < 6) : turnF (tA k) = tB k := by
  rcases six h with rfl | rfl | rfl | rfl | rfl | rfl <;> decide +kernel
theorem toList_iff (a b : ByteArray) : a = b ↔ a.toList = b.toList := by
  constructor
  · intro h; rw [h]
  · intro h
    rw [ByteArray.toList_eq, ByteArray.toList_eq] at h
    cases a; cases b
    simp only [ByteArray.mk.injEq]
    exact Array.ext' h
theorem turn_none {nm : ByteArray} (h : ∀ k, k < 6 → tA k ≠ nm) : turnF nm = ⟨#[]⟩ := by
  unfold turnF
  have l : ∀ k, k < 6 → nm.toList ≠ (tA k).toList := fun k hk e => h k hk ((toList_iff _ _).2 e.symm)
  have l0 := l 0 (by decide)
  have l1 := l 1 (by decide)
  have l2 := l 2 (by decide)
  have l3 := l 3 (by decide)
  have l4 := l 4 (by decide)
  have l5 := l 5 (by decide)
  rw [show (tA 0).toList = [98, 101, 113] by decide +kernel] at l0
  rw [show (tA 1).toList = [98, 110, 101] by decide +kernel] at l1
  rw [show (tA 2).toList = [98, 108, 116] by decide +kernel] at l2
  rw [show (tA 3).toList = [98, 103, 101] by decide +kernel] at l3
  rw [show (tA 4).toList = [98, 108, 116, 117] by decide +kernel] at l4
  rw [show (tA 5).toList = [98, 103, 101, 117] by decide +kernel] at l5
  rw [if_neg l0, if_neg l1, if_neg l2, if_neg l3, if_neg l4, if_neg l5]
theorem six_cell {w : World} {L : Nat} {f : Nat → ByteArray} (h : w.heap[L]? = some (.cells #[.string (f 0), .string (f 1), .string (f 2), .string (f 3), .string (f 4), .string (f 5)] 9 (0, 0))) {i : Nat} (hi : i < 6) :
    w.cell? ⟨L, i, none⟩ = some (.string (f i)) := by
  refine (blk_cell h _).trans ?_
  rcases six hi with rfl | rfl | rfl | rfl | rfl | rfl <;> rfl
set_option maxHeartbeats 4000000 in
set_option maxRecDepth 100000 in
theorem Turned_calls (nm : ByteArray) (w : World) : Calls Try.prog 73 #[.string nm] w fun e w' => e = .returned (.string (turnF nm)) ∧ Below w.heap.size w w' := by
  have hA := heap_alloc_last w (.cells #[.string (tA 0), .string (tA 1), .string (tA 2), .string (tA 3), .string (tA 4), .string (tA 5)] 9)
  have b1 := below_alloc (Below.refl w.heap.size w) (.cells #[.string (tA 0), .string (tA 1), .string (tA 2), .string (tA 3), .string (tA 4), .string (tA 5)] 9)
  have hs1 : (w.alloc (.cells #[.string (tA 0), .string (tA 1), .string (tA 2), .string (tA 3), .string (tA 4), .string (tA 5)] 9)).heap.size = w.heap.size + 1 := by simp
  generalize hw1 : w.alloc (.cells #[.string (tA 0), .string (tA 1), .string (tA 2), .string (tA 3), .string (tA 4), .string (tA 5)] 9) = w1 at *
  have hB := heap_alloc_at w1 (.cells #[.string (tB 0), .string (tB 1), .string (tB 2), .string (tB 3), .string (tB 4), .string (tB 5)] 9) (n := w.heap.size + 1) hs1.symm
  have hA2 := blk_alloc hA (.cells #[.string (tB 0), .string (tB 1), .string (tB 2), .string (tB 3), .string (tB 4), .string (tB 5)] 9)
  have b2 := below_alloc b1 (.cells #[.string (tB 0), .string (tB 1), .string (tB 2), .string (tB 3), .string (tB 4), .string (tB 5)] 9)
  have CA := Aside0.mk (fun i (hi : i < 6) => six_cell (f := tA) hA2 hi)
  have CB := Aside0.mk (fun i (hi : i < 6) => six_cell (f := tB) hB hi)
  have B2 := Aside0.mk b2
  clear hA hB hA2 b1 b2
  have HW := Aside0.mk (show (w.alloc (.cells #[.string ⟨#[98, 101, 113]⟩, .string ⟨#[98, 110, 101]⟩, .string ⟨#[98, 108, 116]⟩, .string ⟨#[98, 103, 101]⟩, .string ⟨#[98, 108, 116, 117]⟩, .string ⟨#[98, 103, 101, 117]⟩] 9)) = w1 from hw1)
  clear hw1 hs1
  go_enter Try.func73, Try.ntmps73
  go_wp2_with fail
  rw [HW.out]
  show Code.wp _ _ _ _ (w1.alloc (.cells #[.string (tB 0), .string (tB 1), .string (tB 2), .string (tB 3), .string (tB 4), .string (tB 5)] 9))
  generalize w1.alloc (.cells #[.string (tB 0), .string (tB 1), .string (tB 2), .string (tB 3), .string (tB 4), .string (tB 5)] 9) = W at *
  go_loopw [5] (fun v5 wr => ∃ i : Nat, i ≤ 6 ∧ v5 = .int .i64 i ∧ wr = W ∧ Aside0 (∀ k, k < i → tA k ≠ nm)) (fun v5 _ => 6 - (intOf v5).toNat)
  case atStart => exact ⟨0, by omega, rfl, rfl, ⟨fun k hk => by omega⟩⟩
  case round =>
    obtain ⟨i, hi, rfl, rfl, hn⟩ := hrel
    by_cases hlt : i < 6
    · have ca := CA.out i hlt
      have cb := CB.out i hlt
      by_cases he : tA i = nm
      · have HT := Aside0.mk (tA_turn hlt)
        rw [he] at HT ca
        go_wp2
        go_ret
        exact ⟨by rw [HT.out]; rfl, B2.out⟩
      · have hn' : Aside0 (∀ k, k < i + 1 → tA k ≠ nm) := ⟨fun k hk => by
          by_cases e : k = i
          · subst e; exact he
          · exact hn.out k (by omega)⟩
        have hne : ((tA i).toList == nm.toList) = false := beq_eq_false_iff_ne.2 fun e => he ((toList_iff _ _).2 e)
        go_wp2
        exact ⟨⟨i + 1, by omega, by simp, trivial, hn'⟩, by simp [intOf]; omega⟩
    · obtain rfl : i = 6 := by omega
      have HT := Aside0.mk (turn_none hn.out)
      rw [show ((6 : Nat) : Int) = 6 from rfl]
      go_wp2
      go_ret
      exact ⟨by rw [HT.out]; rfl, B2.out⟩
end Go.Proofs.Ytciehejifdbpoaa.Ap
end
section
set_option linter.unusedSimpArgs false
set_option linter.unusedVariables false
namespace Go.Proofs.Ytciehejifdbpoaa.Ap
open Go.RowKit Go.Maps Go.Proofs.Ytciehejifdbpoaa.Grow Go.Proofs.Ytciehejifdbpoaa.Rv Go.Proofs.Ytciehejifdbpoaa.As
open Go.Proofs.YtciehejifdbpoaaW.PrintWords Go.Proofs.YtciehejifdbpoaaW.PrintLast Go.Proofs.YtciehejifdbpoaaW.PrintMore

def opC (x : OpI) : Obj := .cells #[.string x.name, .int .i64 x.rd, .int .i64 x.ra, .int .i64 x.rb, .int .i64 x.imm] 24
theorem boxes (w : World) (o1 o2 o3 : Obj) : ∀ W, ((w.alloc o1).alloc o2).alloc o3 = W → W.heap[w.heap.size]? = some o1 ∧ W.heap[w.heap.size + 1]? = some o2 ∧ W.heap[w.heap.size + 1 + 1]? = some o3 ∧ W.heap.size = w.heap.size + 3 ∧ Below w.heap.size w W := by
  rintro W rfl
  have h1 := blk_alloc (blk_alloc (heap_alloc_last w o1) o2) o3
  have h2 := blk_alloc (heap_alloc_at (w.alloc o1) o2 (n := w.heap.size + 1) (by simp)) o3
  have h3 := heap_alloc_at ((w.alloc o1).alloc o2) o3 (n := w.heap.size + 2) (by simp)
  exact ⟨h1, h2, h3, by simp, below_alloc (below_alloc (below_alloc (Below.refl _ _) _) _) _⟩
theorem rf_step {b : Nat} {w w4 w5 w6 : World} {row : Option Nat} (h4 : Below w.heap.size w w4) (hg : w4.grownBy w5 row) (hr : ∀ k, row = some k → k < w.heap.size → b ≤ k ∧ ∃ c f, w.heap[k]? = some (.cells c 138 f)) (h6 : Below w.heap.size w5 w6) : RF b w w6 :=
  ⟨h6.os.trans (hg.os.trans h4.os), h6.tape.trans (hg.tape.trans h4.tape), h6.output.trans (hg.output.trans h4.output), Nat.le_trans h4.size (Nat.le_trans hg.size h6.size), fun k hk hor => by
    have h4s := h4.size
    refine (h6.block k hk).trans ((hg.block k (by omega) fun e => ?_).trans (h4.block k hk))
    obtain ⟨h1, h2⟩ := hr k e.symm hk
    rcases hor with h | h
    · omega
    · exact h h2⟩
/-- A row is where no block of another type is. -/
theorem row_ne {w : World} {b e s n k : Nat} {v : Value} {xs : List Value} (h : w.ownsRow b e s v n xs) {cs : Array Value} {t : TypeId} {f : Nat × Nat} (hk : w.heap[k]? = some (.cells cs t f)) (ht : t ≠ e) : v.ownBlock ≠ some k := fun he => by
  obtain ⟨_, _, c, h2⟩ := row_block h k he
  rw [hk] at h2
  cases h2
  exact ht rfl
theorem code_done {b : Nat} {w w4 w6 w7 : World} {lv lv' mv : Value} {ps : List Pc} {ms : List Int} {x : Pc} {k1 k2 : Nat} (H : CodeIs w b lv mv ps ms) (h4 : Below w.heap.size w w4) (hg : w4.grownBy w6 lv.ownBlock) (hown : w6.ownsRow b 138 7 lv' (ps.length + 1) (ps.flatMap refC ++ refC x))
    {c1 c2 : Array Value} (hk1 : w6.heap[k1]? = some (.cells c1 53 (0, 0))) (hk2 : w6.heap[k2]? = some (.cells c2 53 (0, 0))) (h1 : w.heap.size ≤ k1) (h2 : w.heap.size ≤ k2)
    (hq : ∀ k, k ≠ k1 → k ≠ k2 → w7.heap[k]? = w6.heap[k]?) (hos : w7.os = w6.os ∧ w7.tape = w6.tape ∧ w7.output = w6.output ∧ w6.heap.size ≤ w7.heap.size) : CodeIs w7 b lv' mv (ps ++ [x]) ms ∧ RF b w w7 := by
  have B7 : Below w.heap.size w6 w7 := ⟨hos.1, hos.2.1, hos.2.2.1, hos.2.2.2, fun k hk => hq k (by omega) (by omega)⟩
  have s4 := h4.size
  refine ⟨⟨?_, ?_⟩, rf_step h4 hg (fun k e hk => ?_) B7⟩
  · rw [← flat_ref, List.length_append]
    exact row_kept hown fun k e => hq k (fun e' => row_ne hown hk1 (by decide) (e' ▸ e)) (fun e' => row_ne hown hk2 (by decide) (e' ▸ e))
  · refine row_kept H.marks fun k e => ?_
    obtain ⟨_, hk, c, hc⟩ := row_block H.marks k e
    refine (B7.block k hk).trans ((hg.block k (by omega) fun e2 => ?_).trans (h4.block k hk))
    exact row_ne H.row hc (by decide) e2.symm
  · obtain ⟨q1, _, c, q2⟩ := row_block H.row k e
    exact ⟨q1, _, _, q2⟩
theorem set3 (w : World) (k1 k2 : Nat) (u v t : Value) : (∀ k, k ≠ k1 → k ≠ k2 → (((w.setCell ⟨k1, 0, none⟩ u).setCell ⟨k2, 0, none⟩ v).setCell ⟨k2, 1, none⟩ t).heap[k]? = w.heap[k]?) :=
  fun k h1 h2 => (heap_setCell_other _ _ _ _ h2).trans ((heap_setCell_other _ _ _ _ h2).trans (heap_setCell_other _ _ _ _ h1))
/-- The answer of 'To'. -/
def toR (n : Nat) (sort : Int) (x : OpI) (label : Int) : Int :=
  if (regOk x.rd && regOk x.ra && regOk x.rb && !(decide (sort = 1) && (turnF x.name).toList.isEmpty)) = false then 260 else if knownB n label = false then 290 else 0
def addP (ps : List Pc) (c : Int) (x : Pc) : List Pc := if c = 0 then ps ++ [x] else ps
theorem addP_ne {ps : List Pc} {c : Int} (x : Pc) (h : c ≠ 0) : addP ps c x = ps := if_neg h
set_option maxHeartbeats 4000000 in
set_option maxRecDepth 100000 in
theorem To_calls {w : World} {b : Nat} {lv mv : Value} {ps : List Pc} {ms : List Int} (h : CodeIs w b lv mv ps ms) (hb : b ≤ w.heap.size) (hn : ps.length < 100000000) (sort : Int) (x : OpI) (label : Int) :
    Calls Try.prog 69 #[.agg #[lv, mv], .int .i64 sort, .agg #[.string x.name, .int .i64 x.rd, .int .i64 x.ra, .int .i64 x.rb, .int .i64 x.imm], .int .i64 label] w fun e w' =>
      ∃ lv', e = .returned (.tuple #[.agg #[lv', mv], .int .i64 (toR ms.length sort x label)]) ∧ CodeIs w' b lv' mv (addP ps (toR ms.length sort x label) ⟨sort, x, label, false⟩) ms ∧ RF b w w' := by
  obtain ⟨nm, rd, ra, rb, imm⟩ := x
  obtain ⟨o, c, hmv⟩ := row_slice h.marks
  have H := Aside0.mk h
  obtain ⟨o1, c1, hlv⟩ := row_slice h.row
  obtain ⟨T, hT⟩ : ∃ T, toR ms.length sort ⟨nm, rd, ra, rb, imm⟩ label = T := ⟨_, rfl⟩
  rw [hT]
  unfold toR at hT
  clear h
  subst hmv
  subst hlv
  obtain ⟨i0, hi, hz0, hz1, hz2⟩ := info_parts info138
  go_enter Try.func69, Try.ntmps69
  go_wp2_with fail
  generalize hW : ((w.alloc _).alloc _).alloc _ = W
  obtain ⟨kA, kB, kC, hs, hbel⟩ := boxes _ _ _ _ _ hW
  have H1 := Aside0.mk (H.out.below hbel)
  have BW := Aside0.mk hbel
  have pA := blk_cell kA
  have pB := blk_cell kB
  have pC := blk_cell kC
  have fA := fun o => frozen_of_row W (w.heap.size) o _ 53 kA
  have fC := fun o => frozen_of_row W (w.heap.size + 1 + 1) o _ 53 kC
  have KA := Aside0.mk kA
  have KB := Aside0.mk kB
  have KC := Aside0.mk kC
  clear hW kA kB kC hbel
  refine (register_calls rd W).mono ?_
  rintro e w1 ⟨rfl, rfl⟩
  cases hr1 : regOk rd
  · rw [hr1] at hT
    have hT : T = 260 := hT.symm
    subst hT
    go_wp2
    have RB := Aside0.mk (((BW.out.setCell (p := ⟨w.heap.size + 1 + 1, 0, none⟩) (by simp; omega) (Value.slice o1 ps.length c1)).setCell (p := ⟨w.heap.size + 1 + 1, 1, none⟩) (by simp; omega) (Value.slice o ms.length c)))
    refine bodyPost_ret (v := .tuple #[.agg #[.slice o1 ps.length c1, .slice o ms.length c], .int .i64 260]) ?_ rfl ⟨_, rfl, by rw [addP_ne _ (by decide)]; exact H.out.below RB.out, RF.of_below RB.out⟩
    simp only [results, Try.results69]
    go_simp
  go_wp2_with fail
  refine (register_calls ra _).mono ?_
  rintro e w2 ⟨rfl, rfl⟩
  cases hr2 : regOk ra
  · rw [hr1, hr2] at hT
    have hT : T = 260 := hT.symm
    subst hT
    go_wp2
    have RB := Aside0.mk (((BW.out.setCell (p := ⟨w.heap.size + 1 + 1, 0, none⟩) (by simp; omega) (Value.slice o1 ps.length c1)).setCell (p := ⟨w.heap.size + 1 + 1, 1, none⟩) (by simp; omega) (Value.slice o ms.length c)))
    refine bodyPost_ret (v := .tuple #[.agg #[.slice o1 ps.length c1, .slice o ms.length c], .int .i64 260]) ?_ rfl ⟨_, rfl, by rw [addP_ne _ (by decide)]; exact H.out.below RB.out, RF.of_below RB.out⟩
    simp only [results, Try.results69]
    go_simp
  go_wp2_with fail
  refine (register_calls rb _).mono ?_
  rintro e w3 ⟨rfl, rfl⟩
  cases hr3 : regOk rb
  · rw [hr1, hr2, hr3] at hT
    have hT : T = 260 := hT.symm
    subst hT
    go_wp2
    have RB := Aside0.mk (((BW.out.setCell (p := ⟨w.heap.size + 1 + 1, 0, none⟩) (by simp; omega) (Value.slice o1 ps.length c1)).setCell (p := ⟨w.heap.size + 1 + 1, 1, none⟩) (by simp; omega) (Value.slice o ms.length c)))
    refine bodyPost_ret (v := .tuple #[.agg #[.slice o1 ps.length c1, .slice o ms.length c], .int .i64 260]) ?_ rfl ⟨_, rfl, by rw [addP_ne _ (by decide)]; exact H.out.below RB.out, RF.of_below RB.out⟩
    simp only [results, Try.results69]
    go_simp
  rw [hr1, hr2, hr3] at hT
  clear hr1 hr2 hr3
  by_cases hs1 : sort = 1
  · subst hs1
    go_wp2_with fail
    refine (Turned_calls nm _).mono ?_
    rintro e w4 ⟨rfl, hbt⟩
    have kA4 := (hbt.block w.heap.size (by omega)).trans KA.out
    have kB4 := (hbt.block (w.heap.size + 1) (by omega)).trans KB.out
    have kC4 := (hbt.block (w.heap.size + 1 + 1) (by omega)).trans KC.out
    have hs4 : w.heap.size + 3 ≤ w4.heap.size := by have := hbt.size; omega
    have BW4 := Aside0.mk (BW.out.trans (hbt.mono (by omega)))
    have p1 := blk_cell kA4
    have p2 := blk_cell kB4
    have p3 := blk_cell kC4
    have f1 := fun o => frozen_of_row w4 w.heap.size o _ 53 kA4
    have f3 := fun o => frozen_of_row w4 (w.heap.size + 1 + 1) o _ 53 kC4
    clear pA pB pC fA fC hbt hs
    cases ht : (turnF nm).toList.isEmpty
    · rw [ht] at hT
      -- known?
      go_wp2_with fail
      refine (known_calls _ o ms.length c label _).mono ?_
      rintro e w5 ⟨rfl, hbk⟩
      have kA5 := (hbk.block w.heap.size (by omega)).trans kA4
      have kB5 := (hbk.block (w.heap.size + 1) (by omega)).trans kB4
      have kC5 := (hbk.block (w.heap.size + 1 + 1) (by omega)).trans kC4
      have hs5 := Nat.le_trans hs4 hbk.size
      have BW5 := Aside0.mk (BW4.out.trans (hbk.mono (by omega)))
      have q1 := blk_cell kA5
      have q2 := blk_cell kB5
      have q3 := blk_cell kC5
      have g1 := fun o => frozen_of_row w5 w.heap.size o _ 53 kA5
      have g3 := fun o => frozen_of_row w5 (w.heap.size + 1 + 1) o _ 53 kC5
      clear p1 p2 p3 f1 f3 hbk kA4 kB4 kC4
      cases hk : knownB ms.length label
      · rw [hk] at hT
        clear kA5 kB5 kC5
        have hT : T = 290 := hT.symm
        subst hT
        go_wp2
        have RB := Aside0.mk (((BW5.out.setCell (p := ⟨w.heap.size + 1 + 1, 0, none⟩) (by simp; omega) (Value.slice o1 ps.length c1)).setCell (p := ⟨w.heap.size + 1 + 1, 1, none⟩) (by simp; omega) (Value.slice o ms.length c)))
        refine bodyPost_ret (v := .tuple #[.agg #[.slice o1 ps.length c1, .slice o ms.length c], .int .i64 290]) ?_ rfl ⟨_, rfl, by rw [addP_ne _ (by decide)]; exact H.out.below RB.out, RF.of_below RB.out⟩
        simp only [results, Try.results69]
        go_simp
      · rw [hk] at hT
        have hT : T = 0 := hT.symm
        subst hT
        have KA5 := Aside0.mk kA5
        have KC5 := Aside0.mk kC5
        have bp : ∀ w, (Instr.build 138 #[(0, .int .i64 1), (1, .agg #[.string nm, .int .i64 rd, .int .i64 ra, .int .i64 rb, .int .i64 imm]), (2, .int .i64 label)]).run Try.prog w = .ok (.agg #[.int .i64 1, .string nm, .int .i64 rd, .int .i64 ra, .int .i64 rb, .int .i64 imm, .int .i64 label]) w := fun w => bld138 1 label ⟨nm, rd, ra, rb, imm⟩ w
        have OWN := Aside0.mk (row_kept H.out.row fun k e => BW5.out.block k (row_block H.out.row k e).2.1)
        have hbs : b ≤ w5.heap.size := by omega
        clear kA5 kB5 kC5
        have OWA := Aside0.mk (row_kept (w' := w5.alloc (.cells #[.int .i64 1, .string nm, .int .i64 rd, .int .i64 ra, .int .i64 rb, .int .i64 imm, .int .i64 label] 138)) OWN.out fun k e => Below.heap_alloc _ _ _ (row_block OWN.out k e).2.1)
        have hm1 : ps.length + 1 ≤ maxLen := by unfold maxLen; omega
        have hm2 : (ps.length + 1) * 64 ≤ 140737488355328 := by omega
        have hm3 : b ≤ (w5.alloc (.cells #[.int .i64 1, .string nm, .int .i64 rd, .int .i64 ra, .int .i64 rb, .int .i64 imm, .int .i64 label] 138)).heap.size := by simp; omega
        have NW := World.news_of_block (w := w5.alloc (.cells #[.int .i64 1, .string nm, .int .i64 rd, .int .i64 ra, .int .i64 rb, .int .i64 imm, .int .i64 label] 138)) (cs := #[.int .i64 1, .string nm, .int .i64 rd, .int .i64 ra, .int .i64 rb, .int .i64 imm, .int .i64 label]) (t := 138) (fr := (0, 0)) (heap_alloc_last w5 _)
        go_wp2_with (first | (at_builtin; refine Aside0.out ?_))
        refine Aside0.mk ?_
        refine wpList_append_own _ rfl (.tmp 43) (.tmp 48) 50 rfl b 138 i0 _ 7 64 under50 hi hz0 hz1 hz2 rfl (by decide) _ ps.length _ rfl OWA.out ⟨w5.heap.size, 0, none⟩ 1 1 (refC ⟨1, ⟨nm, rd, ra, rb, imm⟩, label, false⟩) rfl rfl NW (one_ref _) hm1 hm2 hm3 ?_
        intro v' w6 hown' hgrow _
        obtain ⟨o6, c6, rfl⟩ := row_slice hown'
        have HOWN := Aside0.mk hown'
        have kA6 := (hgrow.block w.heap.size (by simp; omega) (Ne.symm (row_ne OWA.out (blk_alloc KA5.out _) (by decide)))).trans (blk_alloc KA5.out _)
        have kC6 := (hgrow.block (w.heap.size + 1 + 1) (by simp; omega) (Ne.symm (row_ne OWA.out (blk_alloc KC5.out _) (by decide)))).trans (blk_alloc KC5.out _)
        have r1 := blk_cell kA6
        have r3 := blk_cell kC6
        have e1 := fun o => frozen_of_row w6 w.heap.size o _ 53 kA6
        have e3 := fun o => frozen_of_row w6 (w.heap.size + 1 + 1) o _ 53 kC6
        have hgrow2 : (w5.alloc (.cells #[.int .i64 1, .string nm, .int .i64 rd, .int .i64 ra, .int .i64 rb, .int .i64 imm, .int .i64 label] 138)).grownBy w6 (Value.slice o1 ps.length c1).ownBlock := hgrow
        have HG := Aside0.mk hgrow2
        have K6 := Aside0.mk (And.intro kA6 kC6)
        clear hown' hgrow hgrow2 kA6 kC6 q1 q2 q3 g1 g3
        go_wp2
        have CD := Aside0.mk (code_done (w7 := (((w6.setCell ⟨w.heap.size, 0, none⟩ (.slice o6 (ps.length + 1) c6)).setCell ⟨w.heap.size + 1 + 1, 0, none⟩ (.slice o6 (ps.length + 1) c6)).setCell ⟨w.heap.size + 1 + 1, 1, none⟩ (.slice o ms.length c))) H.out (below_alloc BW5.out _) HG.out HOWN.out K6.out.1 K6.out.2 (by omega) (by omega) (set3 _ _ _ _ _ _) ⟨rfl, rfl, rfl, by simp⟩)
        refine bodyPost_ret (v := .tuple #[.agg #[.slice o6 (ps.length + 1) c6, .slice o ms.length c], .int .i64 0]) ?_ rfl ⟨_, rfl, CD.out.1, CD.out.2⟩
        simp only [results, Try.results69]
        go_simp
    · rw [ht] at hT
      clear kA4 kB4 kC4
      have hT : T = 260 := hT.symm
      subst hT
      go_wp2
      have RB := Aside0.mk (((BW4.out.setCell (p := ⟨w.heap.size + 1 + 1, 0, none⟩) (by simp; omega) (Value.slice o1 ps.length c1)).setCell (p := ⟨w.heap.size + 1 + 1, 1, none⟩) (by simp; omega) (Value.slice o ms.length c)))
      refine bodyPost_ret (v := .tuple #[.agg #[.slice o1 ps.length c1, .slice o ms.length c], .int .i64 260]) ?_ rfl ⟨_, rfl, by rw [addP_ne _ (by decide)]; exact H.out.below RB.out, RF.of_below RB.out⟩
      simp only [results, Try.results69]
      go_simp
  · have hs1' : (sort == 1) = false := beq_eq_false_iff_ne.2 hs1
    have hT : (if knownB ms.length label = false then (290 : Int) else 0) = T := by
      rw [← hT]
      simp [hs1]
    obtain ⟨w4, hw4⟩ : ∃ w4, w3 = w4 := ⟨_, rfl⟩
    subst hw4
    have kA4 := KA.out
    have kB4 := KB.out
    have kC4 := KC.out
    have hs4 : w.heap.size + 3 ≤ w3.heap.size := by omega
    have BW4 := BW
    have p1 := blk_cell kA4
    have p2 := blk_cell kB4
    have p3 := blk_cell kC4
    have f1 := fA
    have f3 := fC
    clear pA pB pC fA fC hs
    -- known?
    go_wp2_with fail
    refine (known_calls _ o ms.length c label _).mono ?_
    rintro e w5 ⟨rfl, hbk⟩
    have kA5 := (hbk.block w.heap.size (by omega)).trans kA4
    have kB5 := (hbk.block (w.heap.size + 1) (by omega)).trans kB4
    have kC5 := (hbk.block (w.heap.size + 1 + 1) (by omega)).trans kC4
    have hs5 := Nat.le_trans hs4 hbk.size
    have BW5 := Aside0.mk (BW4.out.trans (hbk.mono (by omega)))
    have q1 := blk_cell kA5
    have q2 := blk_cell kB5
    have q3 := blk_cell kC5
    have g1 := fun o => frozen_of_row w5 w.heap.size o _ 53 kA5
    have g3 := fun o => frozen_of_row w5 (w.heap.size + 1 + 1) o _ 53 kC5
    clear p1 p2 p3 f1 f3 hbk kA4 kB4 kC4
    cases hk : knownB ms.length label
    · rw [hk] at hT
      clear kA5 kB5 kC5
      have hT : T = 290 := hT.symm
      subst hT
      go_wp2
      have RB := Aside0.mk (((BW5.out.setCell (p := ⟨w.heap.size + 1 + 1, 0, none⟩) (by simp; omega) (Value.slice o1 ps.length c1)).setCell (p := ⟨w.heap.size + 1 + 1, 1, none⟩) (by simp; omega) (Value.slice o ms.length c)))
      refine bodyPost_ret (v := .tuple #[.agg #[.slice o1 ps.length c1, .slice o ms.length c], .int .i64 290]) ?_ rfl ⟨_, rfl, by rw [addP_ne _ (by decide)]; exact H.out.below RB.out, RF.of_below RB.out⟩
      simp only [results, Try.results69]
      go_simp
    · rw [hk] at hT
      have hT : T = 0 := hT.symm
      subst hT
      have KA5 := Aside0.mk kA5
      have KC5 := Aside0.mk kC5
      have bp : ∀ w, (Instr.build 138 #[(0, .int .i64 sort), (1, .agg #[.string nm, .int .i64 rd, .int .i64 ra, .int .i64 rb, .int .i64 imm]), (2, .int .i64 label)]).run Try.prog w = .ok (.agg #[.int .i64 sort, .string nm, .int .i64 rd, .int .i64 ra, .int .i64 rb, .int .i64 imm, .int .i64 label]) w := fun w => bld138 sort label ⟨nm, rd, ra, rb, imm⟩ w
      have OWN := Aside0.mk (row_kept H.out.row fun k e => BW5.out.block k (row_block H.out.row k e).2.1)
      have hbs : b ≤ w5.heap.size := by omega
      clear kA5 kB5 kC5
      have OWA := Aside0.mk (row_kept (w' := w5.alloc (.cells #[.int .i64 sort, .string nm, .int .i64 rd, .int .i64 ra, .int .i64 rb, .int .i64 imm, .int .i64 label] 138)) OWN.out fun k e => Below.heap_alloc _ _ _ (row_block OWN.out k e).2.1)
      have hm1 : ps.length + 1 ≤ maxLen := by unfold maxLen; omega
      have hm2 : (ps.length + 1) * 64 ≤ 140737488355328 := by omega
      have hm3 : b ≤ (w5.alloc (.cells #[.int .i64 sort, .string nm, .int .i64 rd, .int .i64 ra, .int .i64 rb, .int .i64 imm, .int .i64 label] 138)).heap.size := by simp; omega
      have NW := World.news_of_block (w := w5.alloc (.cells #[.int .i64 sort, .string nm, .int .i64 rd, .int .i64 ra, .int .i64 rb, .int .i64 imm, .int .i64 label] 138)) (cs := #[.int .i64 sort, .string nm, .int .i64 rd, .int .i64 ra, .int .i64 rb, .int .i64 imm, .int .i64 label]) (t := 138) (fr := (0, 0)) (heap_alloc_last w5 _)
      go_wp2_with (first | (at_builtin; refine Aside0.out ?_))
      refine Aside0.mk ?_
      refine wpList_append_own _ rfl (.tmp 43) (.tmp 48) 50 rfl b 138 i0 _ 7 64 under50 hi hz0 hz1 hz2 rfl (by decide) _ ps.length _ rfl OWA.out ⟨w5.heap.size, 0, none⟩ 1 1 (refC ⟨sort, ⟨nm, rd, ra, rb, imm⟩, label, false⟩) rfl rfl NW (one_ref _) hm1 hm2 hm3 ?_
      intro v' w6 hown' hgrow _
      obtain ⟨o6, c6, rfl⟩ := row_slice hown'
      have HOWN := Aside0.mk hown'
      have kA6 := (hgrow.block w.heap.size (by simp; omega) (Ne.symm (row_ne OWA.out (blk_alloc KA5.out _) (by decide)))).trans (blk_alloc KA5.out _)
      have kC6 := (hgrow.block (w.heap.size + 1 + 1) (by simp; omega) (Ne.symm (row_ne OWA.out (blk_alloc KC5.out _) (by decide)))).trans (blk_alloc KC5.out _)
      have r1 := blk_cell kA6
      have r3 := blk_cell kC6
      have e1 := fun o => frozen_of_row w6 w.heap.size o _ 53 kA6
      have e3 := fun o => frozen_of_row w6 (w.heap.size + 1 + 1) o _ 53 kC6
      have hgrow2 : (w5.alloc (.cells #[.int .i64 sort, .string nm, .int .i64 rd, .int .i64 ra, .int .i64 rb, .int .i64 imm, .int .i64 label] 138)).grownBy w6 (Value.slice o1 ps.length c1).ownBlock := hgrow
      have HG := Aside0.mk hgrow2
      have K6 := Aside0.mk (And.intro kA6 kC6)
      clear hown' hgrow hgrow2 kA6 kC6 q1 q2 q3 g1 g3
      go_wp2
      have CD := Aside0.mk (code_done (w7 := (((w6.setCell ⟨w.heap.size, 0, none⟩ (.slice o6 (ps.length + 1) c6)).setCell ⟨w.heap.size + 1 + 1, 0, none⟩ (.slice o6 (ps.length + 1) c6)).setCell ⟨w.heap.size + 1 + 1, 1, none⟩ (.slice o ms.length c))) H.out (below_alloc BW5.out _) HG.out HOWN.out K6.out.1 K6.out.2 (by omega) (by omega) (set3 _ _ _ _ _ _) ⟨rfl, rfl, rfl, by simp⟩)
      refine bodyPost_ret (v := .tuple #[.agg #[.slice o6 (ps.length + 1) c6, .slice o ms.length c], .int .i64 0]) ?_ rfl ⟨_, rfl, CD.out.1, CD.out.2⟩
      simp only [results, Try.results69]
      go_simp
end Go.Proofs.Ytciehejifdbpoaa.Ap
end
section
set_option linter.unusedSimpArgs false
set_option linter.unusedVariables false
namespace Go.Proofs.Ytciehejifdbpoaa.Ap
open Go.RowKit Go.Maps Go.Proofs.Ytciehejifdbpoaa.Grow Go.Proofs.Ytciehejifdbpoaa.Rv Go.Proofs.Ytciehejifdbpoaa.As
open Go.Proofs.YtciehejifdbpoaaW.PrintWords Go.Proofs.YtciehejifdbpoaaW.PrintLast Go.Proofs.YtciehejifdbpoaaW.PrintMore

theorem boxes2 (w : World) (o1 o2 : Obj) : ∀ W, (w.alloc o1).alloc o2 = W → W.heap[w.heap.size]? = some o1 ∧ W.heap[w.heap.size + 1]? = some o2 ∧ W.heap.size = w.heap.size + 2 ∧ Below w.heap.size w W := by
  rintro W rfl
  exact ⟨blk_alloc (heap_alloc_last w o1) o2, heap_alloc_at (w.alloc o1) o2 (n := w.heap.size + 1) (by simp), by simp, below_alloc (below_alloc (Below.refl _ _) _) _⟩
/-- The cells of a row that is not empty. -/
theorem row_cells {w : World} {b e s n : Nat} {v : Value} {xs : List Value} (h : w.ownsRow b e s v n xs) (hn : 0 < n) :
    ∃ g cap, v = .slice (some ⟨g, 0, none⟩) n cap ∧ b ≤ g ∧ g < w.heap.size ∧ (∀ j, j < n * s → w.cell? ⟨g, j, none⟩ = xs[j]?) ∧ ∀ j, w.frozen? ⟨g, j, none⟩ = false := by
  obtain ⟨g, cap, rfl, hb, hg⟩ := h.form hn
  exact ⟨g, cap, rfl, hb, hg, fun j hj => h.cellAt j hj, fun j => h.frozenAt j⟩
theorem ints_get (ms : List Int) (j : Nat) : (ms.map (Value.int .i64))[j]? = (ms[j]?).map (Value.int .i64) := List.getElem?_map ..
theorem add_at (g j : Nat) : (⟨g, 0, none⟩ : Addr).add j = ⟨g, j, none⟩ := by unfold Addr.add; split <;> simp_all
theorem row_mono {w : World} {b b' e s n : Nat} {v : Value} {xs : List Value} (h : w.ownsRow b e s v n xs) (hb : b' ≤ b) : w.ownsRow b' e s v n xs := by
  refine ⟨h.1, ?_⟩
  rcases h.2 with h' | ⟨g, cap, cur, h1, h2, h3⟩
  · exact .inl h'
  · exact .inr ⟨g, cap, cur, h1, Nat.le_trans hb h2, h3⟩
def mkR (ms : List Int) (label : Int) : Int := if knownB ms.length label = false then 290 else if 0 ≤ ms.getD label.toNat 0 then 6 else 0
def markP (ms : List Int) (c : Int) (k : Nat) (n : Nat) : List Int := if c = 0 then ms.set k (n : Int) else ms
theorem markP_0 (ms : List Int) (k n : Nat) : markP ms 0 k n = ms.set k (n : Int) := rfl
theorem markP_ne {ms : List Int} {c : Int} {k n : Nat} (h : c ≠ 0) : markP ms c k n = ms := if_neg h
theorem ints_one (ms : List Int) : ∀ u ∈ ms.map (Value.int .i64), u.oneCell' = true := by
  intro u hu
  obtain ⟨x, _, rfl⟩ := List.mem_map.1 hu
  rfl
set_option maxHeartbeats 4000000 in
set_option maxRecDepth 100000 in
theorem refMark_calls {w : World} {b : Nat} {lv mv : Value} {ps : List Pc} {ms : List Int} (h : CodeIs w b lv mv ps ms) (hb : b ≤ w.heap.size) (hn : ps.length < 100000000) (hm : ms.length < 100000000) (label : Int) :
    Calls Try.prog 68 #[.agg #[lv, mv], .int .i64 label] w fun e w' =>
      ∃ mv', e = .returned (.tuple #[.agg #[lv, mv'], .int .i64 (mkR ms label)]) ∧ CodeIs w' b lv mv' ps (markP ms (mkR ms label) label.toNat ps.length) ∧ Below w.heap.size w w' := by
  obtain ⟨o, c, hmv⟩ := row_slice h.marks
  have H := Aside0.mk h
  obtain ⟨o1, c1, hlv⟩ := row_slice h.row
  obtain ⟨T, hT⟩ : ∃ T, mkR ms label = T := ⟨_, rfl⟩
  rw [hT]
  unfold mkR at hT
  clear h
  subst hmv
  subst hlv
  obtain ⟨i0, hi, hz0, hz1, hz2⟩ := info_parts info3
  go_enter Try.func68, Try.ntmps68
  go_wp2_with fail
  generalize hW : (w.alloc _).alloc _ = W
  obtain ⟨kA, kB, hs, hbel⟩ := boxes2 _ _ _ _ hW
  clear hW
  refine (known_calls _ o ms.length c label _).mono ?_
  rintro e w5 ⟨rfl, hbk⟩
  have kA5 := (hbk.block w.heap.size (by omega)).trans kA
  have kB5 := (hbk.block (w.heap.size + 1) (by omega)).trans kB
  have hs5 : w.heap.size + 2 ≤ w5.heap.size := by have := hbk.size; omega
  have BW5 := Aside0.mk (hbel.trans (hbk.mono (by omega)))
  have q1 := blk_cell kA5
  have q2 := blk_cell kB5
  have g1 := fun o => frozen_of_row w5 w.heap.size o _ 53 kA5
  have g2 := fun o => frozen_of_row w5 (w.heap.size + 1) o _ 53 kB5
  have K5 := Aside0.mk (And.intro kA5 kB5)
  clear hbk kA kB hbel kA5 kB5
  cases hk : knownB ms.length label
  · rw [hk] at hT
    have hT : T = 290 := hT.symm
    subst hT
    go_wp2
    have RB := Aside0.mk ((BW5.out.setCell (p := ⟨w.heap.size + 1, 0, none⟩) (by simp) (Value.slice o1 ps.length c1)).setCell (p := ⟨w.heap.size + 1, 1, none⟩) (by simp) (Value.slice o ms.length c))
    refine bodyPost_ret (v := .tuple #[.agg #[.slice o1 ps.length c1, .slice o ms.length c], .int .i64 290]) ?_ rfl ⟨_, rfl, by rw [markP_ne (by decide)]; exact H.out.below RB.out, RB.out⟩
    simp only [results, Try.results68]
    go_simp
  · rw [hk] at hT
    have hkk := hk
    unfold knownB at hkk
    simp only [Bool.and_eq_true, decide_eq_true_eq] at hkk
    obtain ⟨k, rfl⟩ : ∃ k : Nat, label = (k : Int) := ⟨label.toNat, by omega⟩
    have hkl : k < ms.length := by omega
    have hkl' : (k : Int) < (ms.length : Int) := by omega
    have hk0 : (0 : Int) ≤ (k : Int) := by omega
    simp only [Int.toNat_natCast]
    obtain ⟨g, cap, hg, hgb, hgl, hcell, -⟩ := row_cells (row_kept H.out.marks fun k e => BW5.out.block k (row_block H.out.marks k e).2.1) (by omega)
    obtain ⟨rfl, rfl⟩ : o = some ⟨g, 0, none⟩ ∧ c = cap := by simpa using hg
    have ck := hcell k (by omega)
    rw [ints_get, List.getElem?_eq_getElem hkl] at ck
    simp only [Option.map_some] at ck
    obtain ⟨V, hV⟩ : ∃ V, ms[k] = V := ⟨_, rfl⟩
    rw [hV] at ck
    have hgd : ms.getD k 0 = V := by rw [List.getD_eq_getElem?_getD, List.getElem?_eq_getElem hkl, Option.getD_some, hV]
    have hT : (if 0 ≤ V then (6 : Int) else 0) = T := by rw [← hT, Int.toNat_natCast, ← hgd]; rfl
    clear hgd
    have HC := Aside0.mk hcell
    clear hcell hk hkk hg
    by_cases hv : 0 ≤ V
    · have hT : T = 6 := by rw [← hT]; simp [hv]
      subst hT
      go_wp2
      have RB := Aside0.mk ((BW5.out.setCell (p := ⟨w.heap.size + 1, 0, none⟩) (by simp) (Value.slice o1 ps.length c1)).setCell (p := ⟨w.heap.size + 1, 1, none⟩) (by simp) (Value.slice (some ⟨g, 0, none⟩) ms.length c))
      refine bodyPost_ret (v := .tuple #[.agg #[.slice o1 ps.length c1, .slice (some ⟨g, 0, none⟩) ms.length c], .int .i64 6]) ?_ rfl ⟨_, rfl, by rw [markP_ne (by decide)]; exact H.out.below RB.out, RB.out⟩
      simp only [results, Try.results68]
      go_simp
    · have hT : T = 0 := by rw [← hT]; simp [hv]
      subst hT
      have hm1 : 0 + ms.length ≤ maxLen := by unfold maxLen; omega
      have hm2 : (0 + ms.length) * 8 ≤ 140737488355328 := by omega
      have NW : ∀ j u, (ms.map (Value.int .i64))[j]? = some u → w5.cell? ((⟨g, 0, none⟩ : Addr).add j) = some u := fun j u hu => by
        have hj : j < ms.length := by
          have := (List.getElem?_eq_some_iff.1 hu).1
          simpa using this
        have := HC.out j (by omega)
        rw [hu] at this
        rw [add_at]
        exact this
      go_wp2_with (first | (at_builtin; refine Aside0.out ?_))
      refine Aside0.mk ?_
      refine wpList_append_own _ rfl (.tmp 19) (.tmp 21) 51 rfl w5.heap.size 3 i0 _ 1 8 under51 hi hz0 hz1 hz2 rfl (by decide) (.slice none 0 0) 0 [] rfl ⟨rfl, .inl ⟨rfl, rfl⟩⟩ ⟨g, 0, none⟩ ms.length _ (ms.map (Value.int .i64)) rfl (by simp) NW (ints_one ms) hm1 hm2 (Nat.le_refl _) ?_
      intro v' w6 hown' hgrow _
      rw [Nat.zero_add, List.nil_append] at hown'
      obtain ⟨g', c', rfl, hb', hl', -, -⟩ := row_cells hown' (by omega)
      have hgg : ∀ k, k < w5.heap.size → w6.heap[k]? = w5.heap[k]? := fun k hk => hgrow.block k hk (by simp [Value.ownBlock])
      have kA6 := (hgg w.heap.size (by omega)).trans K5.out.1
      have kB6 := (hgg (w.heap.size + 1) (by omega)).trans K5.out.2
      have r1 := blk_cell kA6
      have r2 := blk_cell kB6
      have e1 := fun o => frozen_of_row w6 w.heap.size o _ 53 kA6
      have e2 := fun o => frozen_of_row w6 (w.heap.size + 1) o _ 53 kB6
      have cc := (hown'.cellAt k (by omega)).trans ((ints_get ms k).trans (by rw [List.getElem?_eq_getElem hkl]))
      have ff := hown'.frozenAt
      have ST := Aside0.mk (hown'.stored k (.int .i64 (ps.length : Int)))
      have BW6 := Aside0.mk (show Below w.heap.size w w6 from ⟨hgrow.os.trans BW5.out.os, hgrow.tape.trans BW5.out.tape, hgrow.output.trans BW5.out.output, Nat.le_trans BW5.out.size hgrow.size, fun k hk => (hgg k (by omega)).trans (BW5.out.block k hk)⟩)
      have n1 : g' ≠ w.heap.size := by omega
      have n2 : g' ≠ w.heap.size + 1 := by omega
      clear hgrow hgg hown' q1 q2 g1 g2 ck NW hm1 hm2
      go_wp2
      have B8 := Aside0.mk ((((BW6.out.setCell (p := ⟨g', k, none⟩) (by simp; omega) (.int .i64 (ps.length : Int))).setCell (p := ⟨w.heap.size, 1, none⟩) (by simp) (Value.slice (some ⟨g', 0, none⟩) ms.length c')).setCell (p := ⟨w.heap.size + 1, 0, none⟩) (by simp) (Value.slice o1 ps.length c1)).setCell (p := ⟨w.heap.size + 1, 1, none⟩) (by simp) (Value.slice (some ⟨g', 0, none⟩) ms.length c'))
      refine bodyPost_ret (v := .tuple #[.agg #[.slice o1 ps.length c1, .slice (some ⟨g', 0, none⟩) ms.length c'], .int .i64 0]) ?_ rfl ⟨_, rfl, ⟨?_, ?_⟩, B8.out⟩
      · simp only [results, Try.results68]
        go_simp
      · exact row_kept H.out.row fun k e => B8.out.block k (row_block H.out.row k e).2.1
      · rw [markP_0, List.length_set, show (ms.set k (ps.length : Int)).map (Value.int .i64) = (ms.map (Value.int .i64)).set k (.int .i64 (ps.length : Int)) from List.map_set ..]
        refine row_mono (row_kept ST.out.1 fun k2 e => ?_) (b := w5.heap.size) (by omega)
        obtain rfl : g' = k2 := by simpa [Value.ownBlock] using e
        exact (heap_setCell_other _ _ _ _ n2).trans ((heap_setCell_other _ _ _ _ n2).trans (heap_setCell_other _ _ _ _ n1))
end Go.Proofs.Ytciehejifdbpoaa.Ap
end
section
set_option linter.unusedSimpArgs false
set_option linter.unusedVariables false
namespace Go.Proofs.Ytciehejifdbpoaa.Ap
open Go.RowKit Go.Maps Go.Proofs.Ytciehejifdbpoaa.Grow Go.Proofs.Ytciehejifdbpoaa.Rv Go.Proofs.Ytciehejifdbpoaa.As
open Go.Proofs.YtciehejifdbpoaaW.PrintWords Go.Proofs.YtciehejifdbpoaaW.PrintLast Go.Proofs.YtciehejifdbpoaaW.PrintMore

theorem fr_block {b : Nat} {w w' : World} (hF : Fr b w w') {k : Nat} {cs : Array Value} {t : TypeId} {f : Nat × Nat} (hk : w.heap[k]? = some (.cells cs t f)) (h1 : t ≠ 122) (h2 : t ≠ 126) : w'.heap[k]? = some (.cells cs t f) :=
  (hF.block k (blk_lt hk) (.inr (by
    rintro ⟨c', f', e | e | ⟨es, n, e⟩⟩
    · rw [hk] at e; cases e; exact h1 rfl
    · rw [hk] at e; cases e; exact h2 rfl
    · rw [hk] at e; cases e))).trans hk
theorem set1 (w : World) (k1 : Nat) (u : Value) : (∀ k, k ≠ k1 → (w.setCell ⟨k1, 0, none⟩ u).heap[k]? = w.heap[k]?) :=
  fun k h1 => heap_setCell_other _ _ _ _ h1
theorem asm_set {w w' : World} {b p k : Nat} {A : AsmS} (h : AsmAt w b p A) {cs : Array Value} (hk : w.heap[k]? = some (.cells cs 53 (0, 0))) (hq : ∀ j, j ≠ k → w'.heap[j]? = w.heap[j]?) : AsmAt w' b p A :=
  h.kept fun j hj ht => hq j (by
    rintro rfl
    obtain ⟨c', f, e | e | ⟨es, n, e⟩⟩ := ht
    · rw [hk] at e; cases e
    · rw [hk] at e; cases e
    · rw [hk] at e; cases e)
theorem code_set {w w' : World} {b k : Nat} {lv mv : Value} {ps : List Pc} {ms : List Int} (h : CodeIs w b lv mv ps ms) {cs : Array Value} (hk : w.heap[k]? = some (.cells cs 53 (0, 0))) (hq : ∀ j, j ≠ k → w'.heap[j]? = w.heap[j]?) : CodeIs w' b lv mv ps ms :=
  h.kept fun j c t hj hc ht => hq j (by
    rintro rfl
    rw [hk] at hc
    cases hc
    rcases ht with h | h <;> cases h)
theorem set2 (w : World) (k1 : Nat) (u v : Value) : (∀ k, k ≠ k1 → ((w.setCell ⟨k1, 0, none⟩ u).setCell ⟨k1, 1, none⟩ v).heap[k]? = w.heap[k]?) :=
  fun k h1 => (heap_setCell_other _ _ _ _ h1).trans (heap_setCell_other _ _ _ _ h1)
/-- What a call leaves that writes in an 'Asm' and in a row of pieces. -/
structure FD (b : Nat) (w w' : World) : Prop where
  os : w'.os = w.os
  tape : w'.tape = w.tape
  output : w'.output = w.output
  size : w.heap.size ≤ w'.heap.size
  low : ∀ k, k < w.heap.size → k < b → w'.heap[k]? = w.heap[k]?
  block : ∀ (k : Nat) (cs : Array Value) (t : TypeId) (f : Nat × Nat), w.heap[k]? = some (.cells cs t f) → t ≠ 138 → t ≠ 122 → t ≠ 126 → w'.heap[k]? = w.heap[k]?
theorem FD.refl (b : Nat) (w : World) : FD b w w := ⟨rfl, rfl, rfl, Nat.le_refl _, fun _ _ _ => rfl, fun _ _ _ _ _ _ _ _ => rfl⟩
theorem FD.trans {b : Nat} {w w1 w2 : World} (h : FD b w w1) (h' : FD b w1 w2) : FD b w w2 :=
  ⟨h'.os.trans h.os, h'.tape.trans h.tape, h'.output.trans h.output, Nat.le_trans h.size h'.size, fun k hk hb => (h'.low k (Nat.lt_of_lt_of_le hk h.size) hb).trans (h.low k hk hb),
   fun k cs t f hk h1 h2 h3 => by
    have e := h.block k cs t f hk h1 h2 h3
    exact (h'.block k cs t f (e.trans hk) h1 h2 h3).trans e⟩
theorem FD.of_below {b : Nat} {w w' : World} (h : Below w.heap.size w w') : FD b w w' := ⟨h.os, h.tape, h.output, h.size, fun k hk _ => h.block k hk, fun k _ _ _ hk _ _ _ => h.block k (Array.getElem?_eq_some_iff.1 hk).1⟩
theorem FD.of_rf {b : Nat} {w w' : World} (h : RF b w w') : FD b w w' := ⟨h.os, h.tape, h.output, h.size, fun k hk hb => h.block k hk (.inl hb), fun k cs t f hk h1 _ _ => h.block k (Array.getElem?_eq_some_iff.1 hk).1 (.inr (by
    rintro ⟨c', f', e⟩
    rw [hk] at e; cases e; exact h1 rfl))⟩
theorem FD.of_fr {b : Nat} {w w' : World} (h : Fr b w w') : FD b w w' := ⟨h.os, h.tape, h.output, h.size, fun k hk hb => h.block k hk (.inl hb), fun k cs t f hk _ h2 h3 => h.block k (Array.getElem?_eq_some_iff.1 hk).1 (.inr (by
    rintro ⟨c', f', e | e | ⟨es, n, e⟩⟩
    · rw [hk] at e; cases e; exact h2 rfl
    · rw [hk] at e; cases e; exact h3 rfl
    · rw [hk] at e; cases e))⟩
theorem FD.below {b : Nat} {w w' : World} (h : FD b w w') (hb : b ≤ w.heap.size) : Below b w w' := ⟨h.os, h.tape, h.output, h.size, fun k hk => h.low k (by omega) hk⟩
theorem FD.setNew {b : Nat} {w w' : World} (h : FD b w w') {k j : Nat} (hk : w.heap.size ≤ k) (v : Value) : FD b w (w'.setCell ⟨k, j, none⟩ v) :=
  ⟨h.os, h.tape, h.output, by simpa [World.setCell] using h.size, fun i hi hb => (heap_setCell_other w' ⟨k, j, none⟩ i v (by show i ≠ k; omega)).trans (h.low i hi hb),
   fun i cs t f hi h1 h2 h3 => (heap_setCell_other w' ⟨k, j, none⟩ i v (by have := (Array.getElem?_eq_some_iff.1 hi).1; show i ≠ k; omega)).trans (h.block i cs t f hi h1 h2 h3)⟩
theorem FD.kept {b : Nat} {w w' : World} (h : FD b w w') {k : Nat} {cs : Array Value} {t : TypeId} {f : Nat × Nat} (hk : w.heap[k]? = some (.cells cs t f)) (h1 : t ≠ 138) (h2 : t ≠ 122) (h3 : t ≠ 126) : w'.heap[k]? = some (.cells cs t f) := (h.block k cs t f hk h1 h2 h3).trans hk
theorem FD.drew {b : Nat} {w w' : World} (h : FD b w w') : FD b w w'.drew := ⟨h.os, h.tape, h.output, h.size, h.low, h.block⟩
set_option maxHeartbeats 4000000 in
set_option maxRecDepth 100000 in
theorem put67_calls {w : World} {b p : Nat} {A : AsmS} {lv mv : Value} {ps : List Pc} {ms : List Int} (hA : AsmAt w b p A) (h : CodeIs w b lv mv ps ms) (hb : b ≤ w.heap.size) (hA2 : A.ps.length < 100000000) (hn : ps.length < 100000000) (x : OpI) {a c : Int} (hE : encF x.name x.rd x.ra x.rb x.imm = (a, c)) :
    Calls Try.prog 67 #[.pointer (some ⟨p, 0, none⟩), .agg #[lv, mv], .agg #[.string x.name, .int .i64 x.rd, .int .i64 x.ra, .int .i64 x.rb, .int .i64 x.imm]] w fun e w' =>
      ∃ lv', e = .returned (.tuple #[.agg #[lv', mv], .bool true]) ∧ AsmAt w' b p (A.putF x c) ∧ CodeIs w' b lv' mv (addP ps c (plainPc x)) ms ∧ FD b w w' := by
  have HE := Aside0.mk hE
  obtain ⟨o, c2, hmv⟩ := row_slice h.marks
  obtain ⟨o1, c1, hlv⟩ := row_slice h.row
  have H := Aside0.mk h
  have HA := Aside0.mk hA
  have HB := Aside0.mk hb
  clear h hA hE
  subst hmv
  subst hlv
  have PC := Aside0.mk (fun (w : World) (hA : AsmAt w b p A) => Put_calls hA (by omega) x HE.out)
  obtain ⟨nm, rd, ra, rb, imm⟩ := x
  obtain ⟨i0, hi, hz0, hz1, hz2⟩ := info_parts info138
  go_enter Try.func67, Try.ntmps67
  go_wp2_with fail
  generalize hW : ((w.alloc _).alloc _).alloc _ = W
  obtain ⟨kA, kB, kC, hs, hbel⟩ := boxes _ _ _ _ _ hW
  clear hW
  refine (encode_at HE.out _).mono ?_
  rintro e w5 ⟨rfl, hbk⟩
  have kA5 := (hbk.block w.heap.size (by omega)).trans kA
  have kB5 := (hbk.block (w.heap.size + 1) (by omega)).trans kB
  have kC5 := (hbk.block (w.heap.size + 1 + 1) (by omega)).trans kC
  have hs5 : w.heap.size + 3 ≤ w5.heap.size := by have := hbk.size; omega
  have BW5 := Aside0.mk (hbel.trans (hbk.mono (by omega)))
  have q1 := blk_cell kA5
  have q2 := blk_cell kB5
  have q3 := blk_cell kC5
  have g1 := fun o => frozen_of_row w5 w.heap.size o _ 53 kA5
  have g3 := fun o => frozen_of_row w5 (w.heap.size + 1 + 1) o _ 53 kC5
  have K5 := Aside0.mk (And.intro kA5 (And.intro kB5 kC5))
  have A5 := Aside0.mk (HA.out.below (BW5.out.mono (Nat.le_refl _)))
  clear hbk kA kB kC hbel kA5 kB5 kC5 hs
  by_cases hc : c = 0
  · subst hc
    have bp : ∀ w, (Instr.build 138 #[(1, .agg #[.string nm, .int .i64 rd, .int .i64 ra, .int .i64 rb, .int .i64 imm])]).run Try.prog w = .ok (.agg #[.int .i64 0, .string nm, .int .i64 rd, .int .i64 ra, .int .i64 rb, .int .i64 imm, .int .i64 0]) w := fun w => bld138p ⟨nm, rd, ra, rb, imm⟩ w
    have OWN := Aside0.mk (row_kept H.out.row fun k e => BW5.out.block k (row_block H.out.row k e).2.1)
    have OWA := Aside0.mk (row_kept (w' := w5.alloc (.cells #[.int .i64 0, .string nm, .int .i64 rd, .int .i64 ra, .int .i64 rb, .int .i64 imm, .int .i64 0] 138)) OWN.out fun k e => Below.heap_alloc _ _ _ (row_block OWN.out k e).2.1)
    have hm1 : ps.length + 1 ≤ maxLen := by unfold maxLen; omega
    have hm2 : (ps.length + 1) * 64 ≤ 140737488355328 := by omega
    have hm3 : b ≤ (w5.alloc (.cells #[.int .i64 0, .string nm, .int .i64 rd, .int .i64 ra, .int .i64 rb, .int .i64 imm, .int .i64 0] 138)).heap.size := by simp; omega
    have NW := World.news_of_block (w := w5.alloc (.cells #[.int .i64 0, .string nm, .int .i64 rd, .int .i64 ra, .int .i64 rb, .int .i64 imm, .int .i64 0] 138)) (cs := #[.int .i64 0, .string nm, .int .i64 rd, .int .i64 ra, .int .i64 rb, .int .i64 imm, .int .i64 0]) (t := 138) (fr := (0, 0)) (heap_alloc_last w5 _)
    go_wp2_with (first | (at_builtin; refine Aside0.out ?_))
    refine Aside0.mk ?_
    refine wpList_append_own _ rfl (.tmp 18) (.tmp 21) 50 rfl b 138 i0 _ 7 64 under50 hi hz0 hz1 hz2 rfl (by decide) _ ps.length _ rfl OWA.out ⟨w5.heap.size, 0, none⟩ 1 1 (refC (plainPc ⟨nm, rd, ra, rb, imm⟩)) rfl rfl NW (one_ref _) hm1 hm2 hm3 ?_
    intro v' w6 hown' hgrow _
    obtain ⟨o6, c6, rfl⟩ := row_slice hown'
    have HOWN := Aside0.mk hown'
    have kA6 := (hgrow.block w.heap.size (by simp; omega) (Ne.symm (row_ne OWA.out (blk_alloc K5.out.1 _) (by decide)))).trans (blk_alloc K5.out.1 _)
    have kB6 := (hgrow.block (w.heap.size + 1) (by simp; omega) (Ne.symm (row_ne OWA.out (blk_alloc K5.out.2.1 _) (by decide)))).trans (blk_alloc K5.out.2.1 _)
    have kC6 := (hgrow.block (w.heap.size + 1 + 1) (by simp; omega) (Ne.symm (row_ne OWA.out (blk_alloc K5.out.2.2 _) (by decide)))).trans (blk_alloc K5.out.2.2 _)
    have r1 := blk_cell kA6
    have e1 := fun o => frozen_of_row w6 w.heap.size o _ 53 kA6
    have hgrow2 : (w5.alloc (.cells #[.int .i64 0, .string nm, .int .i64 rd, .int .i64 ra, .int .i64 rb, .int .i64 imm, .int .i64 0] 138)).grownBy w6 (Value.slice o1 ps.length c1).ownBlock := hgrow
    have HG := Aside0.mk hgrow2
    have K6 := Aside0.mk (And.intro kA6 (And.intro kB6 kC6))
    clear hown' hgrow hgrow2 kA6 kB6 kC6 q1 q2 q3 g1 g3 A5
    go_wp2_with fail
    have CD := Aside0.mk (code_done (w7 := w6.setCell ⟨w.heap.size, 0, none⟩ (.slice o6 (ps.length + 1) c6)) H.out (below_alloc BW5.out _) HG.out HOWN.out K6.out.1 K6.out.1 (Nat.le_refl _) (Nat.le_refl _) (fun k h1 _ => set1 w6 _ _ k h1) ⟨rfl, rfl, rfl, by simp⟩)
    have kA7 := heap_setCell_same w6 w.heap.size 0 _ 53 (.slice o6 (ps.length + 1) c6) K6.out.1
    have kB7 := (set1 w6 w.heap.size (.slice o6 (ps.length + 1) c6) (w.heap.size + 1) (by omega)).trans K6.out.2.1
    have kC7 := (set1 w6 w.heap.size (.slice o6 (ps.length + 1) c6) (w.heap.size + 1 + 1) (by omega)).trans K6.out.2.2
    have A7 := Aside0.mk (asm_rf HA.out CD.out.2)
    have s7 : w.heap.size + 3 ≤ (w6.setCell ⟨w.heap.size, 0, none⟩ (.slice o6 (ps.length + 1) c6)).heap.size := by simp; have := HG.out.size; simp at this; omega
    clear r1 e1 OWN OWA NW bp HOWN HG hm3
    generalize w6.setCell ⟨w.heap.size, 0, none⟩ (.slice o6 (ps.length + 1) c6) = w7 at *
    have r1 := blk_cell kA7
    have r2 := blk_cell kB7
    have r3 := blk_cell kC7
    have f1 := fun o => frozen_of_row w7 w.heap.size o _ 53 kA7
    have f3 := fun o => frozen_of_row w7 (w.heap.size + 1 + 1) o _ 53 kC7
    have KK := Aside0.mk (And.intro kA7 (And.intro kB7 kC7))
    have A7d := Aside0.mk (A7.out.below ((Below.refl _ w7).drew))
    clear kA7 kB7 kC7
    go_region_with (go_at_call 64; refine (PC.out _ A7d.out).mono ?_; rintro e w8 ⟨rfl, hA8, hF8⟩; have kA8 := fr_block hF8 (show w7.drew.heap[_]? = _ from KK.out.1) (by decide) (by decide); have kC8 := fr_block hF8 (show w7.drew.heap[_]? = _ from KK.out.2.2) (by decide) (by decide); have s8 := hF8.size; have t1 := blk_cell kA8; have t3 := blk_cell kC8; have u1 := fun o => frozen_of_row w8 w.heap.size o _ 53 kA8; have u3 := fun o => frozen_of_row w8 (w.heap.size + 1 + 1) o _ 53 kC8; have AF := Aside0.mk (And.intro hA8 hF8); have KC8 := Aside0.mk kC8; clear hA8 hF8 kA8 kC8)
    all_goals
      go_wp2
      refine bodyPost_ret (v := .tuple #[.agg #[.slice o6 (ps.length + 1) c6, .slice o ms.length c2], .bool true]) ?_ rfl ⟨_, rfl, asm_set AF.out.1 KC8.out (set2 _ _ _ _), code_set ((CD.out.1.below ((Below.refl _ w7).drew)).fr AF.out.2) KC8.out (set2 _ _ _ _), ?_⟩
      · simp only [results, Try.results67]
        go_simp
      · exact (((FD.of_rf CD.out.2).drew.trans (FD.of_fr AF.out.2)).setNew (by omega) _).setNew (by omega) _
  · have hcb : (c == 0) = false := beq_eq_false_iff_ne.2 hc
    go_wp2_with fail
    have s7 := hs5
    have KK := K5
    have A7d := Aside0.mk (A5.out.below ((Below.refl _ w5).drew))
    clear A5
    go_region_with (go_at_call 64; refine (PC.out _ A7d.out).mono ?_; rintro e w8 ⟨rfl, hA8, hF8⟩; have kA8 := fr_block hF8 (show w5.drew.heap[_]? = _ from KK.out.1) (by decide) (by decide); have kC8 := fr_block hF8 (show w5.drew.heap[_]? = _ from KK.out.2.2) (by decide) (by decide); have s8 := hF8.size; have t1 := blk_cell kA8; have t3 := blk_cell kC8; have u1 := fun o => frozen_of_row w8 w.heap.size o _ 53 kA8; have u3 := fun o => frozen_of_row w8 (w.heap.size + 1 + 1) o _ 53 kC8; have AF := Aside0.mk (And.intro hA8 hF8); have KC8 := Aside0.mk kC8; clear hA8 hF8 kA8 kC8)
    all_goals
      go_wp2
      refine bodyPost_ret (v := .tuple #[.agg #[.slice o1 ps.length c1, .slice o ms.length c2], .bool true]) ?_ rfl ⟨_, rfl, asm_set AF.out.1 KC8.out (set2 _ _ _ _), by rw [addP_ne _ hc]; exact code_set ((H.out.below (BW5.out.drew)).fr AF.out.2) KC8.out (set2 _ _ _ _), ?_⟩
      · simp only [results, Try.results67]
        go_simp
      · exact (((FD.of_below BW5.out).drew.trans (FD.of_fr AF.out.2)).setNew (by omega) _).setNew (by omega) _
end Go.Proofs.Ytciehejifdbpoaa.Ap
end
section
set_option linter.unusedSimpArgs false
set_option linter.unusedVariables false
namespace Go.Proofs.Ytciehejifdbpoaa.Ap
open Go.RowKit Go.Maps Go.Proofs.Ytciehejifdbpoaa.Grow Go.Proofs.Ytciehejifdbpoaa.Rv Go.Proofs.Ytciehejifdbpoaa.As
open Go.Proofs.YtciehejifdbpoaaW.PrintWords Go.Proofs.YtciehejifdbpoaaW.PrintLast Go.Proofs.YtciehejifdbpoaaW.PrintMore

theorem flat_getR {ps : List Pc} {k : Nat} (h : k < ps.length) {j : Nat} (hj : j < 7) : (ps.flatMap refC)[k * 7 + j]? = (refC ps[k])[j]? := by
  induction ps generalizing k with
  | nil => simp at h
  | cons x xs ih =>
    rw [List.flatMap_cons]
    cases k with
    | zero => rw [List.getElem?_append_left (by rw [ref_len]; omega)]; simp
    | succ k =>
      have hk : k < xs.length := by simpa using h
      rw [List.getElem?_append_right (by rw [ref_len]; omega), ref_len, show (k + 1) * 7 + j - 7 = k * 7 + j by omega, ih hk]
      simp
/-- The seven cells of a piece. -/
theorem ref_cells {w : World} {b : Nat} {lv : Value} {ps : List Pc} (h : w.ownsRow b 138 7 lv ps.length (ps.flatMap refC)) (hn : 0 < ps.length) :
    ∃ g cap, lv = .slice (some ⟨g, 0, none⟩) ps.length cap ∧ b ≤ g ∧ g < w.heap.size ∧ ∀ i (hi : i < ps.length), w.cell? ⟨g, i * 7, none⟩ = some (.int .i64 ps[i].sort) ∧ w.cell? ⟨g, i * 7 + 1, none⟩ = some (.string ps[i].op.name) ∧ w.cell? ⟨g, i * 7 + 1 + 1, none⟩ = some (.int .i64 ps[i].op.rd) ∧ w.cell? ⟨g, i * 7 + 1 + 2, none⟩ = some (.int .i64 ps[i].op.ra) ∧ w.cell? ⟨g, i * 7 + 1 + 3, none⟩ = some (.int .i64 ps[i].op.rb) ∧ w.cell? ⟨g, i * 7 + 1 + 4, none⟩ = some (.int .i64 ps[i].op.imm) ∧ w.cell? ⟨g, i * 7 + 6, none⟩ = some (.int .i64 ps[i].label) := by
  obtain ⟨g, cap, hv, hb, hg, hc, -⟩ := row_cells h hn
  refine ⟨g, cap, hv, hb, hg, fun i hi => ?_⟩
  have q : ∀ j, j < 7 → w.cell? ⟨g, i * 7 + j, none⟩ = (refC ps[i])[j]? := fun j hj => (hc (i * 7 + j) (by omega)).trans (flat_getR hi hj)
  exact ⟨q 0 (by decide), q 1 (by decide), q 2 (by decide), q 3 (by decide), q 4 (by decide), q 5 (by decide), q 6 (by decide)⟩
/-- A row of flags. -/
def boolsO (n : Nat) (f : Nat → Bool) : Obj := .cells ((List.range n).map fun i => Value.bool (f i)).toArray 4
theorem bools_cell {w : World} {g n : Nat} {f : Nat → Bool} (h : w.heap[g]? = some (boolsO n f)) {i : Nat} (hi : i < n) : w.cell? ⟨g, i, none⟩ = some (.bool (f i)) := by
  refine (blk_cell h i).trans ?_
  simp [hi]
theorem size_long (x : Pc) (v : Bool) : sizeP { x with long := v } = if x.sort = 3 ∨ v = true then 8 else 4 := rfl
theorem pos_wl {ps : List Pc} {f : Nat → Bool} {k : Nat} (h : k < ps.length) : posF (withL ps f) (k + 1) = posF (withL ps f) k + (if ps[k].sort = 3 ∨ f k = true then 8 else 4) := by
  rw [posF_succ (by rw [withL_len]; exact h), withL_get h, size_long]
set_option maxHeartbeats 4000000 in
set_option maxRecDepth 100000 in
theorem at_calls {w : World} {b g : Nat} {lv mv : Value} {ps : List Pc} {ms : List Int} {f : Nat → Bool} (h : CodeIs w b lv mv ps ms) (hg : w.heap[g]? = some (boolsO ps.length f)) (hn : ps.length < 100000000) {k : Nat} (hk : k ≤ ps.length) :
    Calls Try.prog 72 #[.agg #[lv, mv], .slice (some ⟨g, 0, none⟩) ps.length ps.length, .int .i64 k] w fun e w' => e = .returned (.int .i64 (posF (withL ps f) k)) ∧ Below w.heap.size w w' := by
  obtain ⟨o, c2, hmv⟩ := row_slice h.marks
  obtain ⟨o1, c1, hlv⟩ := row_slice h.row
  have H := Aside0.mk h
  have HG := Aside0.mk hg
  have hgl := blk_lt hg
  clear h hg
  subst hmv
  subst hlv
  go_enter Try.func72, Try.ntmps72
  go_wp2_with fail
  have kA := heap_alloc_last w (.cells #[.slice o1 ps.length c1, .slice o ms.length c2] 53)
  have BW := Aside0.mk (below_alloc (Below.refl w.heap.size w) (.cells #[.slice o1 ps.length c1, .slice o ms.length c2] 53))
  have hs : w.heap.size < (w.alloc (.cells #[.slice o1 ps.length c1, .slice o ms.length c2] 53)).heap.size := by simp
  generalize w.alloc _ = W at *
  have q1 := blk_cell kA
  go_loopw [7, 8] (fun v7 v8 wr => ∃ i : Nat, i ≤ k ∧ v8 = .int .i64 i ∧ v7 = .int .i64 (posF (withL ps f) i) ∧ wr = W) (fun _ v8 _ => k - (intOf v8).toNat)
  case atStart => exact ⟨0, by omega, rfl, rfl, rfl⟩
  case round =>
    obtain ⟨i, hi, rfl, rfl, rfl⟩ := hrel
    by_cases hlt : i < k
    · obtain ⟨g1, cap1, e1, -, hg1, hc⟩ := ref_cells H.out.row (by omega)
      obtain ⟨rfl, rfl⟩ : o1 = some ⟨g1, 0, none⟩ ∧ c1 = cap1 := by simpa using e1
      have hip : i < ps.length := by omega
      have c0 := (BW.out.cell (p := ⟨g1, i * 7, none⟩) hg1).trans (hc i hip).1
      have cb := (BW.out.cell (p := ⟨g, i, none⟩) hgl).trans (bools_cell HG.out hip)
      have hps := pos_wl (f := f) hip
      have hpb := posF_b (withL ps f) i
      obtain ⟨X, hX⟩ : ∃ X, ps[i].sort = X := ⟨_, rfl⟩
      obtain ⟨Y, hY⟩ : ∃ Y, f i = Y := ⟨_, rfl⟩
      rw [hX] at c0 hps
      rw [hY] at cb hps
      obtain ⟨Z, hZ⟩ : ∃ Z, posF (withL ps f) i = Z := ⟨_, rfl⟩
      rw [hZ] at hps hpb ⊢
      have a1 : (i : Int) < (k : Int) := by omega
      have a2 : (i : Int) < (ps.length : Int) := by omega
      have a3 : (0 : Int) ≤ (i : Int) := by omega
      have w4 : wrap64 (Z + 4) = Z + 4 := by unfold wrap64; omega
      have w8 : wrap64 (Z + 4 + 4) = Z + 4 + 4 := by unfold wrap64; omega
      have HPS := Aside0.mk hps
      clear hps hc e1 hZ hX hY
      by_cases x3 : X = 3
      · have HP : posF (withL ps f) (i + 1) = Z + 4 + 4 := by rw [HPS.out, if_pos (.inl x3)]; omega
        go_wp2
        exact ⟨⟨i + 1, by omega, by simp, by rw [HP], trivial⟩, by simp [intOf]; omega⟩
      · have hx3 : (X == 3) = false := beq_eq_false_iff_ne.2 x3
        cases Y
        · have HP : posF (withL ps f) (i + 1) = Z + 4 := by rw [HPS.out, if_neg (by simp [x3])]
          go_wp2
          exact ⟨⟨i + 1, by omega, by simp, by rw [HP], trivial⟩, by simp [intOf]; omega⟩
        · have HP : posF (withL ps f) (i + 1) = Z + 4 + 4 := by rw [HPS.out, if_pos (.inr rfl)]; omega
          go_wp2
          exact ⟨⟨i + 1, by omega, by simp, by rw [HP], trivial⟩, by simp [intOf]; omega⟩
    · obtain rfl : i = k := by omega
      have a1 : ¬ (i : Int) < (i : Int) := by omega
      go_wp2
      go_ret
      exact ⟨by simp, BW.out⟩
end Go.Proofs.Ytciehejifdbpoaa.Ap
end
section
set_option linter.unusedSimpArgs false
set_option linter.unusedVariables false
namespace Go.Proofs.Ytciehejifdbpoaa.Ap
open Go.RowKit Go.Maps Go.Proofs.Ytciehejifdbpoaa.Grow Go.Proofs.Ytciehejifdbpoaa.Rv Go.Proofs.Ytciehejifdbpoaa.As
open Go.Proofs.YtciehejifdbpoaaW.PrintWords Go.Proofs.YtciehejifdbpoaaW.PrintLast Go.Proofs.YtciehejifdbpoaaW.PrintMore

/-- The asm and the reference's code are of one mind. -/
structure Tie (A : AsmS) (ms : List Int) : Prop where
  labels : A.labels = (ms.length : Int)
  marks : ∀ k : Nat, k < ms.length → A.marks (k : Int) = if 0 ≤ ms.getD k 0 then some (ms.getD k 0) else none
  top : ∀ k : Nat, k < ms.length → ms.getD k 0 ≤ (A.ps.length : Int)
  labs : ∀ i (h : i < A.ps.length), A.ps[i].sort ≠ 0 → 0 ≤ A.ps[i].label ∧ A.ps[i].label < (ms.length : Int)
theorem size_mod (x : Pc) : sizeP x % 4 = 0 := by unfold sizeP; split <;> rfl
theorem posF_mod (ps : List Pc) : ∀ k, posF ps k % 4 = 0
  | 0 => by simp [posF]
  | k + 1 => by
    by_cases h : k < ps.length
    · rw [posF_succ h]
      have := posF_mod ps k
      have := size_mod ps[k]
      omega
    · have : posF ps (k + 1) = posF ps k := by unfold posF; rw [List.take_of_length_le (by omega), List.take_of_length_le (by omega)]
      rw [this]; exact posF_mod ps k
def farOut (d : Int) : Bool := decide (d < -4096) || decide (d > 4094)
theorem far_reach {d : Int} (h : d % 4 = 0) (h1 : -1000000000000 < d) (h2 : d < 1000000000000) : (!reachF (wrap64 d) 4096) = farOut d := by
  have e : wrap64 d = d := by unfold wrap64; omega
  have e2 : wrap64 (-4096) = -4096 := by unfold wrap64; omega
  unfold reachF farOut
  rw [e, e2, Bool.eq_iff_iff]
  simp only [Bool.not_eq_true', Bool.and_eq_false_iff, Bool.or_eq_true, decide_eq_true_eq, decide_eq_false_iff_not]
  omega
/-- Does a piece become long? -/
theorem needs_ref {A : AsmS} {ms : List Int} (T : Tie A ms) (hn : A.ps.length < 100000000) (f : Nat → Bool) {i : Nat} (hi : i < A.ps.length) (h1 : A.ps[i].sort = 1) (hf : f i = false) :
    needs A f i = if 0 ≤ ms.getD A.ps[i].label.toNat 0 then farOut (posL A f (ms.getD A.ps[i].label.toNat 0).toNat - posL A f i) else false := by
  obtain ⟨l0, l1⟩ := T.labs i hi (by rw [h1]; decide)
  have hm := T.marks A.ps[i].label.toNat (by omega)
  rw [show ((A.ps[i].label.toNat : Nat) : Int) = A.ps[i].label by omega] at hm
  unfold needs
  rw [List.getElem?_eq_getElem hi]
  simp only [h1, hf, decide_true, Bool.not_false, Bool.true_and]
  rw [hm]
  by_cases h : 0 ≤ ms.getD A.ps[i].label.toNat 0
  · rw [if_pos h, if_pos h]
    have b1 := posF_b (withL A.ps f) (ms.getD A.ps[i].label.toNat 0).toNat
    have b2 := posF_b (withL A.ps f) i
    have t := T.top A.ps[i].label.toNat (by omega)
    have m1 := posF_mod (withL A.ps f) (ms.getD A.ps[i].label.toNat 0).toNat
    have m2 := posF_mod (withL A.ps f) i
    unfold posL
    exact far_reach (by omega) (by omega) (by omega)
  · rw [if_neg h, if_neg h]
theorem needs_sort {A : AsmS} (f : Nat → Bool) {i : Nat} (hi : i < A.ps.length) (h1 : A.ps[i].sort ≠ 1) : needs A f i = false := by
  unfold needs
  rw [List.getElem?_eq_getElem hi]
  simp [h1]
theorem needs_long {A : AsmS} (f : Nat → Bool) {i : Nat} (hf : f i = true) : needs A f i = false := by
  unfold needs
  split
  · rfl
  · simp [hf]
/-- What the next flags are behind i of them. -/
def nxtL (A : AsmS) (f : Nat → Bool) (k : Nat) : Nat → Bool := fun i => decide (i < k) && stepL A f i
theorem boolsO_congr {n : Nat} {f g : Nat → Bool} (h : ∀ i, i < n → f i = g i) : boolsO n f = boolsO n g := by
  unfold boolsO
  congr 2
  exact List.map_congr_left fun i hi => by rw [h i (List.mem_range.1 hi)]
theorem bools_set {w : World} {g n : Nat} {f : Nat → Bool} (h : w.heap[g]? = some (boolsO n f)) {i : Nat} (v : Bool) : (w.setCell ⟨g, i, none⟩ (.bool v)).heap[g]? = some (boolsO n (fun j => if j = i then v else f j)) := by
  refine (heap_setCell_same w g i _ 4 (.bool v) h).trans ?_
  unfold boolsO
  congr 2
  apply Array.ext'
  rw [Array.toList_setIfInBounds]
  apply List.ext_getElem
  · simp
  · intro j h1 h2
    rw [List.getElem_set]
    simp at h1 h2 ⊢
    by_cases e : i = j
    · subst e; simp
    · rw [if_neg e, if_neg (fun e' => e e'.symm)]
theorem bools_made (w : World) (n : Nat) : (w.alloc (.cells (madeCells #[.bool false] n) 4)).heap[w.heap.size]? = some (boolsO n fun _ => false) := by
  refine (heap_alloc_last w _).trans ?_
  unfold boolsO
  congr 2
  apply Array.ext'
  apply List.ext_getElem
  · simp [madeCells]
  · intro j h1 h2
    have e : j % 1 = 0 := Nat.mod_one j
    simp [madeCells, e]
def cntV (v : Value) (n : Nat) (w : World) : Nat := match v with
  | .slice (some a) _ _ => (List.range n).countP fun i => match w.cell? ⟨a.block, i, none⟩ with | some (.bool v) => v | _ => false
  | _ => 0
theorem cntV_is {w : World} {g n c m : Nat} {f : Nat → Bool} (h : w.heap[g]? = some (boolsO n f)) : cntV (.slice (some ⟨g, 0, none⟩) m c) n w = cntT f n := by
  unfold cntV cntT
  apply List.countP_congr
  intro i hi
  rw [bools_cell h (List.mem_range.1 hi)]
theorem nxt_none (A : AsmS) (f : Nat → Bool) : nxtL A f 0 = fun _ => false := by funext i; simp [nxtL]
theorem nxt_succ {A : AsmS} {f : Nat → Bool} {k : Nat} {v : Bool} (h : stepL A f k = v) : (fun j => if j = k then v else nxtL A f k j) = nxtL A f (k + 1) := by
  funext j
  unfold nxtL
  by_cases e : j = k
  · subst e; simp [h]
  · rw [if_neg e]
    have : decide (j < k) = decide (j < k + 1) := by
      rw [Bool.eq_iff_iff]; simp only [decide_eq_true_eq]; omega
    rw [this]
theorem nxt_twice (f : Nat → Bool) (k : Nat) (u v : Bool) : (fun j => if j = k then v else (fun j => if j = k then u else f j) j) = fun j => if j = k then v else f j := by
  funext j; by_cases e : j = k <;> simp [e]
end Go.Proofs.Ytciehejifdbpoaa.Ap
end
section
set_option linter.unusedSimpArgs false
set_option linter.unusedVariables false
namespace Go.Proofs.Ytciehejifdbpoaa.Ap
open Go.RowKit Go.Maps Go.Proofs.Ytciehejifdbpoaa.Grow Go.Proofs.Ytciehejifdbpoaa.Rv Go.Proofs.Ytciehejifdbpoaa.As
open Go.Proofs.YtciehejifdbpoaaW.PrintWords Go.Proofs.YtciehejifdbpoaaW.PrintLast Go.Proofs.YtciehejifdbpoaaW.PrintMore

theorem nxt_end (A : AsmS) (f : Nat → Bool) (N : Nat) : boolsO N (nxtL A f N) = boolsO N (stepL A f) := boolsO_congr fun i hi => by unfold nxtL; simp [hi]
theorem info4 : (Try.prog.info? 4).map (fun i => (i.zero, i.size, i.bytes)) = some (some (.bool false), 1, 1) := by kernel_rfl
set_option maxHeartbeats 8000000 in
set_option maxRecDepth 100000 in
theorem Long_calls {w : World} {b : Nat} {lv mv : Value} {A : AsmS} {ms : List Int} (h : CodeIs w b lv mv A.ps ms) (T : Tie A ms) (hn : A.ps.length < 100000000) :
    Calls Try.prog 71 #[.agg #[lv, mv]] w fun e w' => ∃ g, e = .returned (.slice (some ⟨g, 0, none⟩) A.ps.length A.ps.length) ∧ w'.heap[g]? = some (boolsO A.ps.length (longF A)) ∧ w.heap.size ≤ g ∧ Below w.heap.size w w' := by
  obtain ⟨o, c2, hmv⟩ := row_slice h.marks
  obtain ⟨o1, c1, hlv⟩ := row_slice h.row
  have H := Aside0.mk h
  have HT := Aside0.mk T
  clear h T
  subst hmv
  subst hlv
  obtain ⟨N, hN⟩ : ∃ N, A.ps.length = N := ⟨_, rfl⟩
  have HN := Aside0.mk hN
  rw [hN] at hn ⊢
  obtain ⟨i0, hi, hz0, hz1, hz2⟩ := info_parts info4
  have hmk : ∀ w : World, _ := fun w => run_make (P := Try.prog) (w := w) 139 4 i0 (.bool false) under139 hi hz0 .i64 .i64 (N : Int) (N : Int) (by omega) (Int.le_refl _) (by rw [hz2]; omega) (by omega)
  rw [hz1] at hmk
  simp only [Int.toNat_natCast, Nat.mul_one] at hmk
  go_enter Try.func71, Try.ntmps71
  go_wp2_with fail
  have kA := blk_alloc (heap_alloc_last w (.cells #[.slice o1 N c1, .slice o ms.length c2] 53)) (.cells (madeCells #[.bool false] N) 4)
  have k0 := bools_made (w.alloc (.cells #[.slice o1 N c1, .slice o ms.length c2] 53)) N
  rw [show (w.alloc (.cells #[.slice o1 N c1, .slice o ms.length c2] 53)).heap.size = w.heap.size + 1 by simp] at k0
  have B0 := Aside0.mk (below_alloc (below_alloc (Below.refl w.heap.size w) (.cells #[.slice o1 N c1, .slice o ms.length c2] 53)) (.cells (madeCells #[.bool false] N) 4))
  have K0 := Aside0.mk (And.intro k0 kA)
  clear k0 kA
  generalize (w.alloc (.cells #[.slice o1 N c1, .slice o ms.length c2] 53)).alloc (.cells (madeCells #[.bool false] N) 4) = W at *
  go_loopw [3, 4, 5, 6, 7, 8] (fun v3 _ _ _ _ _ wr => ∃ (j g : Nat), v3 = .slice (some ⟨g, 0, none⟩) N N ∧ Aside0 (wr.heap[g]? = some (boolsO N (itL A j)) ∧ w.heap.size + 1 ≤ g ∧ j ≤ cntT (itL A j) N ∧ Below w.heap.size w wr ∧ wr.heap[w.heap.size]? = some (.cells #[.slice o1 N c1, .slice o ms.length c2] 53))) (fun v3 _ _ _ _ _ wr => N - cntV v3 N wr)
  case atStart => exact ⟨0, w.heap.size + 1, rfl, ⟨K0.out.1, Nat.le_refl _, Nat.zero_le _, B0.out, K0.out.2⟩⟩
  case round =>
    obtain ⟨j, g, rfl, hx⟩ := hrel
    obtain ⟨hg, hgw, hj, hB, hA⟩ := hx.out
    have q1 := blk_cell hA
    have z1 := blk_lt hA
    have zg := blk_lt hg
    have HM := Aside0.mk (cntV_is (c := N) (m := N) hg)
    have HJ := Aside0.mk hj
    obtain ⟨f, hf⟩ : ∃ f, itL A j = f := ⟨_, rfl⟩
    rw [hf] at hg
    have HF := Aside0.mk hf
    have n0 := bools_made wr N
    have HG := Aside0.mk (And.intro n0 (And.intro (blk_alloc hg (.cells (madeCells #[.bool false] N) 4)) (blk_alloc hA (.cells (madeCells #[.bool false] N) 4))))
    have HB := Aside0.mk (below_alloc hB (.cells (madeCells #[.bool false] N) 4))
    have HBs := Aside0.mk hB.size
    have hs2 : (wr.alloc (.cells (madeCells #[.bool false] N) 4)).heap.size = wr.heap.size + 1 := by simp
    clear hx hg hj hB hA hf n0
    go_wp2_with fail
    generalize wr.alloc (.cells (madeCells #[.bool false] N) 4) = W2 at *
    generalize wr.heap.size = g2 at *
    clear q1
    go_loopw [5, 6, 7, 8] (fun v5 v6 _ _ wr => ∃ i : Nat, i ≤ N ∧ v6 = .int .i64 i ∧ v5 = .bool (anyN A f i) ∧ Aside0 (wr.heap[g2]? = some (boolsO N (nxtL A f i)) ∧ wr.heap[g]? = some (boolsO N f) ∧ wr.heap[w.heap.size]? = some (.cells #[.slice o1 N c1, .slice o ms.length c2] 53) ∧ Below w.heap.size w wr)) (fun _ v6 _ _ _ => N - (intOf v6).toNat)
    case atStart => exact ⟨0, by omega, rfl, rfl, ⟨by rw [nxt_none]; exact HG.out.1, HG.out.2.1, HG.out.2.2, HB.out⟩⟩
    case round =>
      obtain ⟨i, hi2, rfl, rfl, hy⟩ := hrel
      obtain ⟨k2, kg, kA, kB⟩ := hy.out
      have q1 := blk_cell kA
      have y1 := blk_lt kA
      have y2 := blk_lt k2
      have yg := blk_lt kg
      by_cases hlt : i < N
      · have hip : i < A.ps.length := by rw [HN.out]; exact hlt
        have cg := bools_cell kg hlt
        have cn := bools_cell k2 hlt
        have fg2 := fun o => frozen_of_row wr g2 o _ 4 k2
        obtain ⟨gp, cp, e1, -, hgp, hcp⟩ := ref_cells H.out.row (by omega)
        rw [HN.out] at e1
        obtain ⟨rfl, rfl⟩ : o1 = some ⟨gp, 0, none⟩ ∧ c1 = cp := by simpa using e1
        obtain ⟨p0, p1, p2, p3, p4, p5, p6⟩ := hcp i hip
        obtain ⟨x, hx⟩ : ∃ x, A.ps[i] = x := ⟨_, rfl⟩
        rw [hx] at p0 p1 p2 p3 p4 p5 p6
        have r0 := (kB.cell (p := ⟨gp, i * 7, none⟩) hgp).trans p0
        have r1 := (kB.cell (p := ⟨gp, i * 7 + 1, none⟩) hgp).trans p1
        have r2 := (kB.cell (p := ⟨gp, i * 7 + 1 + 1, none⟩) hgp).trans p2
        have r3 := (kB.cell (p := ⟨gp, i * 7 + 1 + 2, none⟩) hgp).trans p3
        have r4 := (kB.cell (p := ⟨gp, i * 7 + 1 + 3, none⟩) hgp).trans p4
        have r5 := (kB.cell (p := ⟨gp, i * 7 + 1 + 4, none⟩) hgp).trans p5
        have r6 := (kB.cell (p := ⟨gp, i * 7 + 6, none⟩) hgp).trans p6
        have zgp := Nat.lt_of_lt_of_le hgp kB.size
        have nga : g2 ≠ w.heap.size := by omega
        have ngg : g2 ≠ g := by omega
        have ngp : g2 ≠ gp := by omega
        have a1 : (i : Int) < (N : Int) := by omega
        have a2 : (0 : Int) ≤ (i : Int) := by omega
        have HY := Aside0.mk (And.intro k2 (And.intro kg (And.intro kA kB)))
        have HX := Aside0.mk hx
        obtain ⟨Fi, hFi⟩ : ∃ Fi, f i = Fi := ⟨_, rfl⟩
        rw [hFi] at cg
        have HFi := Aside0.mk hFi
        clear hx hFi hcp e1 p0 p1 p2 p3 p4 p5 p6 hy k2 kg kA kB hmk
        have VV := Aside0.mk (fun (O : Obj) => (⟨blk_alloc (bools_set HY.out.1 (i := i) Fi) O, blk_alloc ((heap_setCell_other wr ⟨g2, i, none⟩ g (.bool Fi) (Ne.symm ngg)).trans HY.out.2.1) O, blk_alloc ((heap_setCell_other wr ⟨g2, i, none⟩ w.heap.size (.bool Fi) (Ne.symm nga)).trans HY.out.2.2.1) O, below_alloc (HY.out.2.2.2.setCell (p := ⟨g2, i, none⟩) HBs.out (.bool Fi)) O⟩ : ((wr.setCell ⟨g2, i, none⟩ (.bool Fi)).alloc O).heap[g2]? = some (boolsO N (fun j => if j = i then Fi else nxtL A f i j)) ∧ ((wr.setCell ⟨g2, i, none⟩ (.bool Fi)).alloc O).heap[g]? = some (boolsO N f) ∧ ((wr.setCell ⟨g2, i, none⟩ (.bool Fi)).alloc O).heap[w.heap.size]? = some (.cells #[.slice (some ⟨gp, 0, none⟩) N c1, .slice o ms.length c2] 53) ∧ Below w.heap.size w ((wr.setCell ⟨g2, i, none⟩ (.bool Fi)).alloc O)))
        have DONE : ∀ O : Obj, needs A f i = false → Aside0 (((wr.setCell ⟨g2, i, none⟩ (.bool Fi)).alloc O).heap[g2]? = some (boolsO N (nxtL A f (i + 1))) ∧ ((wr.setCell ⟨g2, i, none⟩ (.bool Fi)).alloc O).heap[g]? = some (boolsO N f) ∧ ((wr.setCell ⟨g2, i, none⟩ (.bool Fi)).alloc O).heap[w.heap.size]? = some (.cells #[.slice (some ⟨gp, 0, none⟩) N c1, .slice o ms.length c2] 53) ∧ Below w.heap.size w ((wr.setCell ⟨g2, i, none⟩ (.bool Fi)).alloc O)) := fun O hne => by
          obtain ⟨v2, vg, vA, vB⟩ := VV.out O
          rw [nxt_succ (show stepL A f i = Fi by unfold stepL; rw [hne, HFi.out]; simp)] at v2
          exact ⟨v2, vg, vA, vB⟩
        have DONE := Aside0.mk DONE
        by_cases hs1 : x.sort = 1
        · have hs : A.ps[i].sort = 1 := by rw [HX.out, hs1]
          rw [hs1] at r0
          cases Fi
          · have hNR := needs_ref HT.out (by rw [HN.out]; exact hn) f hip hs HFi.out
            obtain ⟨l0, l1⟩ := HT.out.labs i hip (by rw [hs]; decide)
            rw [HX.out] at hNR l0 l1
            obtain ⟨L, hL⟩ := Int.eq_ofNat_of_zero_le l0
            rw [hL] at r6 l0 l1 hNR
            rw [Int.toNat_natCast] at hNR
            obtain ⟨gm, cm, e2, -, hgm, hcm, -⟩ := row_cells H.out.marks (by omega)
            obtain ⟨rfl, rfl⟩ : o = some ⟨gm, 0, none⟩ ∧ c2 = cm := by simpa using e2
            have cM := (HY.out.2.2.2.cell (p := ⟨gm, L, none⟩) hgm).trans ((hcm L (by omega)).trans (ints_get ms L))
            rw [List.getElem?_eq_getElem (by omega)] at cM
            simp only [Option.map_some] at cM
            obtain ⟨M, hM⟩ : ∃ M, ms[L]'(by omega) = M := ⟨_, rfl⟩
            rw [hM] at cM
            have hgd : ms.getD L 0 = M := by rw [List.getD_eq_getElem?_getD, List.getElem?_eq_getElem (by omega), Option.getD_some, hM]
            rw [hgd] at hNR
            have ngm : g2 ≠ gm := by have := HBs.out; omega
            have zgm := Nat.lt_of_lt_of_le hgm HY.out.2.2.2.size
            have l1' : (L : Int) < (ms.length : Int) := by omega
            have HNR := Aside0.mk hNR
            have HTOP := Aside0.mk (HT.out.top L (by omega))
            rw [hgd] at HTOP
            clear hNR hL hM hgd hcm e2 l1
            by_cases hM0 : 0 ≤ M
            · obtain ⟨Mn, rfl⟩ := Int.eq_ofNat_of_zero_le hM0
              rw [if_pos hM0, Int.toNat_natCast] at HNR
              have hMn : Mn ≤ A.ps.length := by have := HTOP.out; omega
              obtain ⟨v2, vg, vA, vB⟩ := VV.out (.cells #[.int .i64 1, .string x.op.name, .int .i64 x.op.rd, .int .i64 x.op.ra, .int .i64 x.op.rb, .int .i64 x.op.imm, .int .i64 (L : Int)] 138)
              have vx := heap_alloc_at (wr.setCell ⟨g2, i, none⟩ (.bool false)) (.cells #[.int .i64 1, .string x.op.name, .int .i64 x.op.rd, .int .i64 x.op.ra, .int .i64 x.op.rb, .int .i64 x.op.imm, .int .i64 (L : Int)] 138) (n := wr.heap.size) (by simp)
              have cM2 := (vB.cell (p := ⟨gm, L, none⟩) hgm).trans ((HY.out.2.2.2.cell (p := ⟨gm, L, none⟩) hgm).symm.trans cM)
              go_wp2_with fail
              clear r0 r1 r2 r3 r4 r5 r6 cg cn cM q1 VV DONE fg2
              generalize (wr.setCell ⟨g2, i, none⟩ (.bool false)).alloc (.cells #[.int .i64 1, .string x.op.name, .int .i64 x.op.rd, .int .i64 x.op.ra, .int .i64 x.op.rb, .int .i64 x.op.imm, .int .i64 (L : Int)] 138) = V at *
              have AT : ∀ w5, Below V.heap.size V w5 → ∀ k, k ≤ A.ps.length → Calls Try.prog 72 #[.agg #[.slice (some ⟨gp, 0, none⟩) N c1, .slice (some ⟨gm, 0, none⟩) ms.length c2], .slice (some ⟨g, 0, none⟩) N N, .int .i64 (k : Int)] w5 fun e w' => e = .returned (.int .i64 (posL A f k)) ∧ Below w5.heap.size w5 w' := fun w5 hB k hk => by
                have hb5 := vB.trans (hB.mono vB.size)
                have := at_calls (H.out.below hb5) (f := f) (g := g) (by rw [HN.out]; exact blk_below vg hB) (by rw [HN.out]; exact hn) hk
                rw [HN.out] at this
                exact this
              obtain ⟨P1, hP1⟩ : ∃ P1, posL A f Mn = P1 := ⟨_, rfl⟩
              obtain ⟨P2, hP2⟩ : ∃ P2, posL A f i = P2 := ⟨_, rfl⟩
              have AT1 := fun w5 hB => AT w5 hB Mn hMn
              have AT2 := fun w5 hB => AT w5 hB i (Nat.le_of_lt hip)
              rw [hP1] at AT1
              rw [hP2] at AT2
              have AT1 := Aside0.mk AT1
              have AT2 := Aside0.mk AT2
              clear AT
              refine wp_region_grow2 [61, 62, 63, 64, 65, 66, 67, 68, 69, 70, 71, 72, 73, 74, 8] (fun j v w1 => match j with
                | 0 => v = .agg #[.slice (some ⟨gp, 0, none⟩) N c1, .slice (some ⟨gm, 0, none⟩) ms.length c2]
                | 1 => v = .slice (some ⟨g, 0, none⟩) N N
                | 2 => v = .pointer (some ⟨w.heap.size, 1, none⟩)
                | 3 => v = .slice (some ⟨gm, 0, none⟩) ms.length c2
                | 4 => v = .pointer (some ⟨wr.heap.size, 6, none⟩)
                | 5 => v = .int .i64 (L : Int)
                | 6 => v = .pointer (some ⟨gm, L, none⟩)
                | 7 => v = .int .i64 (Mn : Int)
                | 8 => v = .int .i64 P1
                | 9 => v = .agg #[.slice (some ⟨gp, 0, none⟩) N c1, .slice (some ⟨gm, 0, none⟩) ms.length c2]
                | 10 => v = .slice (some ⟨g, 0, none⟩) N N
                | 11 => v = .int .i64 (i : Int)
                | 12 => v = .int .i64 P2
                | 13 => v = .int .i64 (wrap64 (P1 - P2))
                | 14 => v = .int .i64 (wrap64 (P1 - P2))
                | _ => True) (by kernel_rfl) (by kernel_rfl) ?_ ?_ ?_
              · intro j v w1 w2 hv hb
                rcases j with _ | _ | _ | _ | _ | _ | _ | _ | _ | _ | _ | _ | _ | _ | _ | j <;> first | exact hv | trivial
              · refine ⟨?_, ?_, ?_, ?_, ?_, ?_, ?_, ?_, ?_, ?_, ?_, ?_, ?_, ?_, ?_, trivial⟩
                all_goals
                  intro a w5 hB5 hoth hdep
                  have p0 := blk_cell (blk_below vA hB5)
                  have z0 := blk_lt (blk_below vA hB5)
                  have px := blk_cell (blk_below vx hB5)
                  have zx := blk_lt (blk_below vx hB5)
                  have pm := (hB5.cell (p := ⟨gm, L, none⟩) (by have := vB.size; simp; omega)).trans cM2
                  have h1 := hoth 1 (by decide)
                  have h3 := hoth 3 (by decide)
                  have h6 := hoth 6 (by decide)
                  have h7 := hoth 7 (by decide)
                  clear hoth
                  simp [bd1, bd2, bd3, bd5] at hdep h1 h3 h6 h7
                  simp only [StepTo, Oper.grows]
                  go_simp
                  all_goals first
                    | exact Below.refl _ _
                    | exact ⟨Below.refl _ _, AT1.out w5 hB5⟩
                    | exact ⟨Below.refl _ _, AT2.out w5 hB5⟩
                    | exact ⟨Below.refl _ _, wrap_eq _⟩
                    | exact ⟨Below.refl _ _, hdep⟩
              · intro v w5 hB5 hv
                have q14 : v 14 = _ := hv 14 (by decide)
                simp only [fillF, q14, Act.put, List.setIfInBounds_toArray, List.set_cons_zero, List.set_cons_succ, List.length_cons, List.length_nil, Nat.reduceAdd, List.drop_succ_cons, List.drop_zero]
                clear hv
                have b1 := posF_b (withL A.ps f) Mn
                have b2 := posF_b (withL A.ps f) i
                rw [show posF (withL A.ps f) Mn = P1 from hP1] at b1
                rw [show posF (withL A.ps f) i = P2 from hP2] at b2
                rw [HN.out] at hMn
                rw [show wrap64 (P1 - P2) = P1 - P2 by unfold wrap64; omega]
                have hNR := HNR.out
                rw [hP1, hP2] at hNR
                obtain ⟨D, hD⟩ : ∃ D, P1 - P2 = D := ⟨_, rfl⟩
                rw [hD] at hNR ⊢
                have k2 := blk_below v2 hB5
                have KG := Aside0.mk (And.intro (blk_below vg hB5) (And.intro (blk_below vA hB5) (vB.trans (hB5.mono vB.size))))
                have K2 := Aside0.mk k2
                have cw : w5.cell? ⟨g2, i, none⟩ = some (.bool false) := by
                  have := bools_cell k2 hlt
                  simpa using this
                have fw := fun o => frozen_of_row w5 g2 o _ 4 k2
                have yw := blk_lt k2
                have NR := Aside0.mk hNR
                clear v2 vg vA vB vx hB5 AT1 AT2 cM2 hP1 hP2 b1 b2 hD hNR k2 q14
                by_cases d1 : D < -4096
                · have nf : needs A f i = true := by rw [NR.out]; unfold farOut; simp [d1]
                  go_wp2
                  exact ⟨⟨i + 1, by omega, by simp, by rw [anyN_succ, nf, Bool.or_true], ⟨by have := bools_set K2.out (i := i) true; rw [nxt_twice, nxt_succ (show stepL A f i = true by unfold stepL; rw [nf]; simp)] at this; exact this, (heap_setCell_other _ _ _ _ (Ne.symm ngg)).trans KG.out.1, (heap_setCell_other _ _ _ _ (Ne.symm nga)).trans KG.out.2.1, KG.out.2.2.setCell (p := ⟨g2, i, none⟩) HBs.out _⟩⟩, by simp [intOf]; omega⟩
                · by_cases d2 : D > 4094
                  · have nf : needs A f i = true := by rw [NR.out]; unfold farOut; simp [d2]
                    go_wp2
                    exact ⟨⟨i + 1, by omega, by simp, by rw [anyN_succ, nf, Bool.or_true], ⟨by have := bools_set K2.out (i := i) true; rw [nxt_twice, nxt_succ (show stepL A f i = true by unfold stepL; rw [nf]; simp)] at this; exact this, (heap_setCell_other _ _ _ _ (Ne.symm ngg)).trans KG.out.1, (heap_setCell_other _ _ _ _ (Ne.symm nga)).trans KG.out.2.1, KG.out.2.2.setCell (p := ⟨g2, i, none⟩) HBs.out _⟩⟩, by simp [intOf]; omega⟩
                  · have nf : needs A f i = false := by rw [NR.out]; unfold farOut; simp [d1, d2]
                    go_wp2
                    exact ⟨⟨i + 1, by omega, by simp, by rw [anyN_succ, nf, Bool.or_false], ⟨by have := K2.out; rw [nxt_succ (show stepL A f i = false by unfold stepL; rw [nf, HFi.out]; rfl)] at this; exact this, KG.out.1, KG.out.2.1, KG.out.2.2⟩⟩, by simp [intOf]; omega⟩
            · have nf : needs A f i = false := by rw [HNR.out, if_neg hM0]
              go_wp2
              exact ⟨⟨i + 1, by omega, by simp, by rw [anyN_succ, nf, Bool.or_false], DONE.out _ nf⟩, by simp [intOf]; omega⟩
          · have nf : needs A f i = false := needs_long f HFi.out
            go_wp2
            exact ⟨⟨i + 1, by omega, by simp, by rw [anyN_succ, nf, Bool.or_false], DONE.out _ nf⟩, by simp [intOf]; omega⟩
        · have hs1' : (x.sort == 1) = false := beq_eq_false_iff_ne.2 hs1
          have nf : needs A f i = false := needs_sort f hip (by rw [HX.out]; exact hs1)
          go_wp2
          exact ⟨⟨i + 1, by omega, by simp, by rw [anyN_succ, nf, Bool.or_false], DONE.out _ nf⟩, by simp [intOf]; omega⟩
      · obtain rfl : i = N := by omega
        have a1 : ¬ (i : Int) < (i : Int) := by omega
        have HY := Aside0.mk (And.intro k2 (And.intro kg (And.intro kA kB)))
        clear hy k2 kg kA kB hmk
        cases ha : anyN A f i
        · have hfix := anyN_false (A := A) (f := f) (by rw [HN.out]; exact ha)
          go_wp2
          go_ret
          refine ⟨g, rfl, ?_, by omega, HY.out.2.2.2⟩
          have e := longF_of (A := A) (j := j) (by rw [HF.out]; exact hfix) (by rw [HN.out]; exact HJ.out)
          rw [← e, HF.out]
          exact HY.out.2.1
        · obtain ⟨i', hi'⟩ := anyN_true ha
          have h2 := HY.out.1
          rw [nxt_end, show stepL A f = itL A (j + 1) by rw [← HF.out]; rfl] at h2
          have hm2 := cntV_is (c := i) (m := i) h2
          have hj2 := itL_more (A := A) (j := j) (i := i') (by rw [HN.out]; exact HJ.out) (by rw [HF.out]; exact hi')
          rw [HN.out] at hj2
          obtain ⟨x1, x2⟩ := needs_lt hi'
          rw [HN.out] at x1
          have hlt2 := cntT_lt (f := itL A j) (g := itL A (j + 1)) (n := i) (fun k hk => stepL_le k hk) x1 (by rw [HF.out]; exact x2) (by show stepL A (itL A j) i' = true; rw [HF.out]; unfold stepL; rw [hi']; simp)
          have hle := cntT_le (itL A (j + 1)) i
          have HH := Aside0.mk (And.intro h2 (And.intro hj2 (And.intro hm2 (And.intro hlt2 hle))))
          clear h2 hm2 hj2 x1 x2 hlt2 hle
          go_wp2
          refine ⟨⟨j + 1, g2, rfl, ⟨HH.out.1, by omega, HH.out.2.1, HY.out.2.2.2, HY.out.2.2.1⟩⟩, ?_⟩
          rw [HH.out.2.2.1, HM.out]
          have := HH.out.2.2.2.1
          have := HH.out.2.2.2.2
          omega
end Go.Proofs.Ytciehejifdbpoaa.Ap
end
section
set_option linter.unusedSimpArgs false
set_option linter.unusedVariables false
namespace Go.Proofs.Ytciehejifdbpoaa.Ap
open Go.RowKit Go.Maps Go.Proofs.Ytciehejifdbpoaa.Grow Go.Proofs.Ytciehejifdbpoaa.Rv Go.Proofs.Ytciehejifdbpoaa.As
open Go.Proofs.YtciehejifdbpoaaW.PrintWords Go.Proofs.YtciehejifdbpoaaW.PrintLast Go.Proofs.YtciehejifdbpoaaW.PrintMore

/-- The reference's place of a label. -/
def plR (A : AsmS) (ms : List Int) (label : Int) : Int :=
  if knownB ms.length label = false then -1 else if ms.getD label.toNat 0 < 0 then -1 else posL A (longF A) (ms.getD label.toNat 0).toNat
set_option maxHeartbeats 8000000 in
set_option maxRecDepth 100000 in
theorem refPlace_calls {w : World} {b : Nat} {lv mv : Value} {A : AsmS} {ms : List Int} (h : CodeIs w b lv mv A.ps ms) (T : Tie A ms) (hn : A.ps.length < 100000000) (label : Int) :
    Calls Try.prog 34 #[.agg #[lv, mv], .int .i64 label] w fun e w' => e = .returned (.int .i64 (plR A ms label)) ∧ Below w.heap.size w w' := by
  obtain ⟨o, c2, hmv⟩ := row_slice h.marks
  obtain ⟨o1, c1, hlv⟩ := row_slice h.row
  have H := Aside0.mk h
  have HT := Aside0.mk T
  clear h T
  subst hmv
  subst hlv
  obtain ⟨R, hR⟩ : ∃ R, plR A ms label = R := ⟨_, rfl⟩
  rw [hR]
  unfold plR at hR
  obtain ⟨N, hN⟩ : ∃ N, A.ps.length = N := ⟨_, rfl⟩
  have HN := Aside0.mk hN
  rw [hN] at hn ⊢
  go_enter Try.func34, Try.ntmps34
  go_wp2_with fail
  have kA := heap_alloc_last w (.cells #[.slice o1 N c1, .slice o ms.length c2] 53)
  have BW := Aside0.mk (below_alloc (Below.refl w.heap.size w) (.cells #[.slice o1 N c1, .slice o ms.length c2] 53))
  have hs : w.heap.size < (w.alloc (.cells #[.slice o1 N c1, .slice o ms.length c2] 53)).heap.size := by simp
  generalize w.alloc _ = W at *
  refine (known_calls _ o ms.length c2 label _).mono ?_
  rintro e w5 ⟨rfl, hbk⟩
  have kA5 := (hbk.block w.heap.size hs).trans kA
  have BW5 := Aside0.mk (BW.out.trans (hbk.mono (Nat.le_of_lt hs)))
  have q1 := blk_cell kA5
  have z1 := blk_lt kA5
  have K5 := Aside0.mk kA5
  clear kA hbk kA5 BW hs
  cases hk : knownB ms.length label
  · rw [hk] at hR
    have hR : R = -1 := hR.symm
    subst hR
    go_wp2
    go_ret
    exact ⟨by simp, BW5.out⟩
  · rw [hk] at hR
    have hkk := hk
    unfold knownB at hkk
    simp only [Bool.and_eq_true, decide_eq_true_eq] at hkk
    obtain ⟨k, rfl⟩ : ∃ k : Nat, label = (k : Int) := ⟨label.toNat, by omega⟩
    have hkl : k < ms.length := by omega
    have hkl' : (k : Int) < (ms.length : Int) := by omega
    have hk0 : (0 : Int) ≤ (k : Int) := by omega
    obtain ⟨gm, cm, e2, -, hgm, hcm, -⟩ := row_cells H.out.marks (by omega)
    obtain ⟨rfl, rfl⟩ : o = some ⟨gm, 0, none⟩ ∧ c2 = cm := by simpa using e2
    have cM := (BW5.out.cell (p := ⟨gm, k, none⟩) hgm).trans ((hcm k (by omega)).trans (ints_get ms k))
    rw [List.getElem?_eq_getElem hkl] at cM
    simp only [Option.map_some] at cM
    obtain ⟨M, hM⟩ : ∃ M, ms[k] = M := ⟨_, rfl⟩
    rw [hM] at cM
    have hgd : ms.getD k 0 = M := by rw [List.getD_eq_getElem?_getD, List.getElem?_eq_getElem hkl, Option.getD_some, hM]
    have hR : (if M < 0 then (-1 : Int) else posL A (longF A) M.toNat) = R := by rw [← hR, Int.toNat_natCast, ← hgd]; rfl
    have HTOP := Aside0.mk (HT.out.top k hkl)
    rw [hgd] at HTOP
    have zgm := Nat.lt_of_lt_of_le hgm BW5.out.size
    clear hcm e2 hkk hk hgd hM
    by_cases hM0 : M < 0
    · have hR : R = -1 := by rw [← hR, if_pos hM0]
      subst hR
      go_wp2
      go_ret
      exact ⟨by simp, BW5.out⟩
    · obtain ⟨Mn, rfl⟩ := Int.eq_ofNat_of_zero_le (show 0 ≤ M by omega)
      rw [if_neg hM0, Int.toNat_natCast] at hR
      have hMn : Mn ≤ A.ps.length := by have := HTOP.out; omega
      go_wp2_with fail
      have kA := K5.out
      have vB := BW5.out
      have LT : ∀ w6, Below w5.heap.size w5 w6 → Calls Try.prog 71 #[.agg #[.slice o1 N c1, .slice (some ⟨gm, 0, none⟩) ms.length c2]] w6 fun e w' => ∃ v, e = .returned v ∧ Below w6.heap.size w6 w' ∧ ∃ g, v = .slice (some ⟨g, 0, none⟩) N N ∧ w'.heap[g]? = some (boolsO N (longF A)) := fun w6 hB => by
        have hb5 := vB.trans (hB.mono vB.size)
        have := Long_calls (H.out.below hb5) HT.out (by rw [HN.out]; exact hn)
        rw [HN.out] at this
        exact this.mono fun e w' ⟨g, h1, h2, h3, h4⟩ => ⟨_, h1, h4, g, rfl, h2⟩
      have AT : ∀ w6, Below w5.heap.size w5 w6 → ∀ g, w6.heap[g]? = some (boolsO N (longF A)) → Calls Try.prog 72 #[.agg #[.slice o1 N c1, .slice (some ⟨gm, 0, none⟩) ms.length c2], .slice (some ⟨g, 0, none⟩) N N, .int .i64 (Mn : Int)] w6 fun e w' => e = .returned (.int .i64 R) ∧ Below w6.heap.size w6 w' := fun w6 hB g hg => by
        have hb5 := vB.trans (hB.mono vB.size)
        have := at_calls (H.out.below hb5) (f := longF A) (g := g) (by rw [HN.out]; exact hg) (by rw [HN.out]; exact hn) hMn
        rw [HN.out, show posF (withL A.ps (longF A)) Mn = R from hR] at this
        exact this
      have LT := Aside0.mk LT
      have AT := Aside0.mk AT
      refine wp_region_grow2 [17, 18, 19, 20, 21, 22, 23, 24, 25, 4] (fun j v w1 => match j with
        | 0 => v = .agg #[.slice o1 N c1, .slice (some ⟨gm, 0, none⟩) ms.length c2]
        | 1 => v = .agg #[.slice o1 N c1, .slice (some ⟨gm, 0, none⟩) ms.length c2]
        | 2 => ∃ g, v = .slice (some ⟨g, 0, none⟩) N N ∧ w1.heap[g]? = some (boolsO N (longF A))
        | 3 => v = .pointer (some ⟨w.heap.size, 1, none⟩)
        | 4 => v = .slice (some ⟨gm, 0, none⟩) ms.length c2
        | 5 => v = .int .i64 (k : Int)
        | 6 => v = .pointer (some ⟨gm, k, none⟩)
        | 7 => v = .int .i64 (Mn : Int)
        | 8 => v = .int .i64 R
        | 9 => v = .int .i64 R
        | _ => True) (by kernel_rfl) (by kernel_rfl) ?_ ?_ ?_
      · intro j v w1 w2 hv hb
        rcases j with _ | _ | _ | _ | _ | _ | _ | _ | _ | _ | j <;> first | exact hv | trivial | (obtain ⟨g, rfl, hg⟩ := hv; exact ⟨g, rfl, blk_below hg hb⟩)
      · refine ⟨?_, ?_, ?_, ?_, ?_, ?_, ?_, ?_, ?_, ?_, trivial⟩
        all_goals
          intro a w6 hB5 hoth hdep
          have p0 := blk_cell (blk_below kA hB5)
          have z0 := blk_lt (blk_below kA hB5)
          have pm := (hB5.cell (p := ⟨gm, k, none⟩) (by simp; omega)).trans cM
          have h1 := hoth 1 (by decide)
          have h2 := hoth 2 (by decide)
          clear hoth
          simp [bd1, bd2, bd3, bd5] at hdep h1 h2
          simp only [StepTo, Oper.grows]
          go_simp
          all_goals first
            | exact Below.refl _ _
            | exact ⟨Below.refl _ _, LT.out w6 hB5⟩
            | exact ⟨Below.refl _ _, hdep⟩
            | (obtain ⟨d0, ⟨g, d1, dg⟩, d2⟩ := hdep; rw [d1]; exact ⟨Below.refl _ _, AT.out w6 hB5 g dg⟩)
      · intro v w6 hB5 hv
        have q9 : v 9 = _ := hv 9 (by decide)
        simp only [fillF, q9, Act.put, List.setIfInBounds_toArray, List.set_cons_zero, List.set_cons_succ, List.length_cons, List.length_nil, Nat.reduceAdd, List.drop_succ_cons, List.drop_zero]
        clear hv
        have BB := vB.trans (hB5.mono vB.size)
        go_wp2
        go_ret
        exact ⟨by simp, BB⟩
end Go.Proofs.Ytciehejifdbpoaa.Ap
end
