import Derived.Test.YtpfcdhjknmijjaaGreatCo26
import Derived.Deep.RegionHeld3
import Derived.Deep.AppendLies
import Derived.Deep.MidRow
import Derived.Test.YtpfcdhjknmijjaaGreatCo27
section
set_option linter.unusedSimpArgs false
set_option linter.unusedVariables false
namespace Go.Proofs.YtpfcdhjknmijjaaGreat.Em
open Go.RowKit Go.Maps Go.Proofs.YtpfcdhjknmijjaaGreat.Ve Go.Proofs.YtpfcdhjknmijjaaGreat.Grow Go.Proofs.YtpfcdhjknmijjaaGreat.Rv Go.Proofs.YtpfcdhjknmijjaaGreat.As Go.Proofs.YtpfcdhjknmijjaaGreat.PEmitFinds
open Go.Proofs.YtpfcdhjknmijjaaGreatW.PrintWords Go.Proofs.YtpfcdhjknmijjaaGreatW.PrintLast Go.Proofs.YtpfcdhjknmijjaaGreatW.PrintMore

/-! ### The code of a program, as a function -/
def labL (n : Nat) : List Int := (List.range n).map Int.ofNat
def endsE (n : Nat) : Ends := ⟨((n + 0 : Nat) : Int), ((n + 1 : Nat) : Int), ((n + 2 : Nat) : Int), ((n + 3 : Nat) : Int), ((n + 4 : Nat) : Int), ((n + 5 : Nat) : Int), ((n + 6 : Nat) : Int), ((n + 7 : Nat) : Int)⟩
def instsA (E : Ends) (ls : List Int) : List S61 → Nat → AsmS → AsmS
  | [], _, A => A
  | x :: r, i, A => instsA E ls r (i + 1) (run A (instC E ls (i : Int) x A.labels))
def A8 (n : Nat) : AsmS := ⟨[], ((n + 8 : Nat) : Int), fun _ => none, 0⟩
def codeA (l : List S61) (st sl : Nat) : AsmS :=
  run (run (instsA (endsE l.length) (labL l.length) l 0 (run (A8 l.length) (enterC (endsE l.length) (labL l.length) l.length sl st))) (backC (endsE l.length))) (matchC (endsE l.length) sl)
def textT (A : AsmS) : ByteArray × Int := match textL A A.ps.length with
  | some bs => (strOf bs, 0)
  | none => (⟨#[]⟩, 290)
theorem textV_T (A : AsmS) : textV A = .tuple #[.string (textT A).1, .int .i64 (textT A).2] := by
  unfold textV textT
  cases textL A A.ps.length <;> rfl
def codeT (l : List S61) (st sl : Nat) : ByteArray × Int :=
  if (textT (settleF (codeA l st sl))).2 ≠ 0 ∨ 1048576 < (textT (settleF (codeA l st sl))).1.size then (⟨#[]⟩, 110) else ((textT (settleF (codeA l st sl))).1, 0)

/-! ### While labels are made -/
structure MkB (w : World) (b p m g : Nat) (v : Value) (E : Ends) (L : List Int) (A : AsmS) : Prop where
  asm : AsmAt w b p A
  cells : w.heap[m]? = some (.cells (makerC p g v E) 76 (0, 0))
  row : w.ownsRow b 3 1 v L.length (L.map (Value.int .i64))
  le : b ≤ m
theorem own_no {w : World} {b : Nat} {v : Value} {n : Nat} {xs : List Value} (h : w.ownsRow b 3 1 v n xs) : ∀ k, v.ownBlock = some k → b ≤ k ∧ k < w.heap.size ∧ ¬ Tagged w.heap[k]? ∧ ∃ c, w.heap[k]? = some (.cells c 3 (0, 0)) := by
  intro k hk
  rcases h.2 with ⟨rfl, _⟩ | ⟨g, cap, cur, rfl, hg, hh, _⟩
  · cases hk
  · cases hk
    exact ⟨hg, blk_lt hh, tag_no hh (by decide) (by decide), _, hh⟩
section
variable {w w' : World} {b p m g : Nat} {v : Value} {E : Ends} {L : List Int} {A A' : AsmS}
theorem MkB.step (h : MkB w b p m g v E L A) (hA : AsmAt w' b p A') (hF : Fr b w w') : MkB w' b p m g v E L A' :=
  ⟨hA, (hF.block m (blk_lt h.cells) (.inr (tag_no h.cells (by decide) (by decide)))).trans h.cells, As.row_kept h.row fun k hk => hF.block k (own_no h.row k hk).2.1 (.inr (own_no h.row k hk).2.2.1), h.le⟩
theorem MkB.below (h : MkB w b p m g v E L A) (hb : Below w.heap.size w w') : MkB w' b p m g v E L A := h.step (h.asm.below hb) (Fr.of_below hb)
theorem MkB.ne (h : MkB w b p m g v E L A) : v.ownBlock ≠ some m := fun e => by
  obtain ⟨_, _, _, c, hc⟩ := own_no h.row m e
  rw [h.cells] at hc; injection hc with hc; injection hc with _ hc; exact absurd hc (by decide)
theorem MkB.asm_grown (h : MkB w b p m g v E L A) (hg : w.grownBy w' v.ownBlock) : AsmAt w' b p A := h.asm.kept fun k hk ht => hg.block k hk fun e => (own_no h.row k e.symm).2.2.1 ht
/-- The slice of labels is written. -/
theorem MkB.push {w1 : World} {v1 : Value} {z : Int} (h : MkB w b p m g v E L A) (hg : w.grownBy w1 v.ownBlock) (hr : w1.ownsRow b 3 1 v1 (L.length + 1) (L.map (Value.int .i64) ++ [.int .i64 z])) :
    MkB (w1.setCell ⟨m, 2, none⟩ v1) b p m g v1 E (L ++ [z]) A := by
  have hm1 : w1.heap[m]? = some (.cells (makerC p g v E) 76 (0, 0)) := (hg.block m (blk_lt h.cells) fun e => h.ne e.symm).trans h.cells
  have hA1 := h.asm_grown hg
  refine ⟨hA1.kept fun k hk ht => heap_setCell_other _ _ _ _ fun e => ?_, ?_, ?_, h.le⟩
  · subst e; exact tag_no hm1 (by decide) (by decide) ht
  · rw [heap_setCell_same w1 m 2 _ 76 v1 hm1]; rfl
  · have hr2 := row_kept (w' := w1.setCell ⟨m, 2, none⟩ v1) hr fun k hk => heap_setCell_other _ _ _ _ fun e => by
      have e2 : k = m := e
      subst e2
      obtain ⟨_, _, _, c, hc⟩ := own_no hr k hk
      rw [hm1] at hc; injection hc with hc; injection hc with _ hc; exact absurd hc (by decide)
    simpa using hr2
end
theorem bld76 (p g : Nat) (w : World) : (Instr.build 76 #[(0, .pointer (some ⟨p, 0, none⟩)), (1, .pointer (some ⟨g, 0, none⟩))]).run Tryz.prog w = .ok (.agg (makerC p g (.slice none 0 0) ⟨0, 0, 0, 0, 0, 0, 0, 0⟩)) w := by kernel_rfl
theorem labL_len (n : Nat) : (labL n).length = n := by simp [labL]
theorem labL_succ (n : Nat) : labL (n + 1) = labL n ++ [(n : Int)] := by unfold labL; rw [List.range_succ, List.map_append]; rfl
def endsV (E : Ends) : List Value := [.int .i64 E.start, .int .i64 E.fail, .int .i64 E.restore, .int .i64 E.empty, .int .i64 E.mtch, .int .i64 E.take, .int .i64 E.after, .int .i64 E.done]
/-- The ends are written into the maker. -/
def endsW (w : World) (m : Nat) (E : Ends) : World := w.setCells m 3 (endsV E)
theorem info74 : (Tryz.prog.info? 74).map (·.size) = some 8 := by kernel_rfl
theorem ends_store {w : World} {m p g : Nat} {v : Value} {E0 : Ends} (h : w.heap[m]? = some (.cells (makerC p g v E0) 76 (0, 0))) (a0 a1 a2 a3 a4 a5 a6 a7 : Int) :
    (Instr.storeAt 74 (.pointer (some ⟨m, 3, none⟩)) (.agg #[.int .i64 a0, .int .i64 a1, .int .i64 a2, .int .i64 a3, .int .i64 a4, .int .i64 a5, .int .i64 a6, .int .i64 a7])).run Tryz.prog w = .ok () (endsW w m ⟨a0, a1, a2, a3, a4, a5, a6, a7⟩) := by
  refine run_storeAt_mid w m 3 74 #[.int .i64 a0, .int .i64 a1, .int .i64 a2, .int .i64 a3, .int .i64 a4, .int .i64 a5, .int .i64 a6, .int .i64 a7] ?_ (by rw [info74]; rfl) (by simp [Value.oneCell'])
  intro j hj
  have hj8 : j < 8 := hj
  refine ⟨?_, frozen_of_row w m _ _ 76 h⟩
  rw [blk_cell h (3 + j)]
  have : j = 0 ∨ j = 1 ∨ j = 2 ∨ j = 3 ∨ j = 4 ∨ j = 5 ∨ j = 6 ∨ j = 7 := by omega
  rcases this with rfl | rfl | rfl | rfl | rfl | rfl | rfl | rfl <;> rfl
theorem endsW_row {w : World} {m p g : Nat} {v : Value} {E0 : Ends} (h : w.heap[m]? = some (.cells (makerC p g v E0) 76 (0, 0))) (E : Ends) : (endsW w m E).heap[m]? = some (.cells (makerC p g v E) 76 (0, 0)) := by
  obtain ⟨cur, h1, h2, h3⟩ := setCells_row (endsV E) 3 w _ h (by show 3 + 8 ≤ 11; omega)
  have : cur = makerC p g v E := Array.toList_inj.1 h3
  rw [← this]; exact h1
theorem endsW_far (w : World) (m : Nat) (E : Ends) {k : Nat} (hk : k ≠ m) : (endsW w m E).heap[k]? = w.heap[k]? := setCells_far _ _ _ hk
theorem endsW_below {w w1 : World} {b m : Nat} (h : Below b w w1) (hm : b ≤ m) (E : Ends) : Below b w (endsW w1 m E) := by
  obtain ⟨h1, h2, h3, h4⟩ := setCells_same m (endsV E) 3 w1
  exact ⟨h1.trans h.os, h2.trans h.tape, h3.trans h.output, by unfold endsW; rw [h4]; exact h.size, fun k hk => (endsW_far w1 m E (by omega)).trans (h.block k hk)⟩
theorem moves_store {o : Oper} {a : Act} {w w' : World} {R : Value → World → Prop} (ty : TypeId) (x y : Operand) (u v : Value) (ho : o.op = .store ty x y) (hx : a.eval x = u) (hy : a.eval y = v) (hr : (Instr.storeAt ty u v).run Tryz.prog w = .ok () w') (h : R undef w') : Oper.moves Tryz.prog o a w R := by
  unfold Oper.moves execOp
  simp only [ho, hx, hy, Sem.run_bind, Sem.run_pure, Result.andThen_ok, hr]
  exact h
/-! ### What the lists of commands keep -/
def Cmd.labOk : Cmd → Prop
  | .br _ _ _ lab => I64 lab
  | .jmp _ lab => I64 lab
  | .adr _ lab => I64 lab
  | .mrk lab => I64 lab
  | _ => True
theorem good_pushIf {A : AsmS} (h : As.Good A) (c : Int) {x : Pc} (hx : I64 x.label) (hl : A.ps.length + 1 < 1000000000) : As.Good (A.pushIf c x) := by
  unfold AsmS.pushIf; split
  · exact good_push h hx hl
  · exact h
theorem good_step {A : AsmS} (h : As.Good A) (c : Cmd) (hc : c.labOk) (hl : A.ps.length + 8 < 1000000000) : As.Good (c.step A) := by
  cases c with
  | op x => exact good_pushIf h _ (good_plain x) (by omega)
  | br => exact good_pushIf h _ hc (by omega)
  | jmp => exact good_pushIf h _ hc (by omega)
  | adr => exact good_pushIf h _ hc (by omega)
  | mrk l =>
    show As.Good (A.markIf (mkC A l) l)
    unfold AsmS.markIf; split
    · exact good_mark h l
    · exact h
  | num rd n => exact good_puts h _ (by have := numIf_len rd n (regOk rd); omega)
  | new => exact good_label h _
theorem good_run (l : List Cmd) : ∀ {A : AsmS} {k : Nat}, As.Good A → Small A k → (∀ c ∈ l, c.labOk) → k + 8 * l.length < 900000000 → As.Good (run A l) := by
  induction l with
  | nil => intro A k h _ _ _; exact h
  | cons c l ih =>
    intro A k h hS hc hk
    simp only [List.length_cons] at hk
    exact ih (k := k + 8) (good_step h c (hc c (List.mem_cons_self ..)) (by have := hS.ps; omega)) (hS.step c) (fun c' h' => hc c' (List.mem_cons_of_mem _ h')) (by omega)
theorem endsE_all {n : Nat} (hn : n ≤ 4000) : ∀ x ∈ (endsE n).all, I64 x := by
  intro x hx
  simp only [Ends.all, endsE, List.mem_cons, List.not_mem_nil, or_false] at hx
  unfold I64
  rcases hx with rfl | rfl | rfl | rfl | rfl | rfl | rfl | rfl <;> omega
theorem labL_all {n : Nat} (hn : n ≤ 4000) : ∀ z ∈ labL n, I64 z := by
  intro z hz
  unfold labL at hz
  obtain ⟨k, hk, rfl⟩ := List.mem_map.1 hz
  rw [List.mem_range] at hk
  unfold I64
  show -9223372036854775808 ≤ (k : Int) ∧ (k : Int) < 9223372036854775808
  omega
theorem rd_ok {ls : List Int} (h : ∀ z ∈ ls, I64 z) (i : Int) : I64 (rd ls i) := by
  unfold rd
  rw [List.getD_eq_getElem?_getD]
  cases hq : ls[i.toNat]? with
  | none => unfold I64; decide
  | some z => exact h z (List.mem_of_getElem? hq)
theorem insts_snoc (E : Ends) (ls : List Int) (x : S61) : ∀ (l : List S61) (i : Nat) (A : AsmS), instsA E ls (l ++ [x]) i A = run (instsA E ls l i A) (instC E ls ((i + l.length : Nat) : Int) x (instsA E ls l i A).labels)
  | [], i, A => rfl
  | y :: l, i, A => by
    show instsA E ls (l ++ [x]) (i + 1) (run A (instC E ls (i : Int) y A.labels)) = _
    rw [insts_snoc E ls x l (i + 1), show i + 1 + l.length = i + (y :: l).length by simp; omega]
    rfl
theorem instB_len (E : Ends) (ls : List Int) (x : S61) (L : Int) : (instB E ls x L).length ≤ 21 := by
  have := assert_len E x.f1 L
  unfold instB
  repeat' split
  all_goals simp [jobC]
  omega
theorem instC_len (E : Ends) (ls : List Int) (i : Int) (x : S61) (L : Int) : (instC E ls i x L).length ≤ 36 := by
  have := instB_len E ls x L
  simp [instC, markC]
  omega
section
variable {E : Ends} {ls : List Int} (hE : ∀ x ∈ E.all, I64 x) (hls : ∀ z ∈ ls, I64 z)
include hE
theorem endOk : I64 E.start ∧ I64 E.fail ∧ I64 E.restore ∧ I64 E.empty ∧ I64 E.mtch ∧ I64 E.take ∧ I64 E.after ∧ I64 E.done :=
  ⟨hE _ (by simp [Ends.all]), hE _ (by simp [Ends.all]), hE _ (by simp [Ends.all]), hE _ (by simp [Ends.all]), hE _ (by simp [Ends.all]), hE _ (by simp [Ends.all]), hE _ (by simp [Ends.all]), hE _ (by simp [Ends.all])⟩
theorem markC_ok (i : Int) : ∀ c ∈ markC E i, c.labOk := by
  obtain ⟨e0, e1, e2, e3, e4, e5, e6, e7⟩ := endOk hE
  intro c hc
  simp only [markC, List.mem_cons, List.not_mem_nil, or_false] at hc
  rcases hc with rfl | rfl | rfl | rfl | rfl | rfl | rfl | rfl | rfl | rfl | rfl | rfl | rfl <;> first | trivial | assumption
theorem backC_ok : ∀ c ∈ backC E, c.labOk := by
  obtain ⟨e0, e1, e2, e3, e4, e5, e6, e7⟩ := endOk hE
  intro c hc
  simp only [backC, List.mem_cons, List.not_mem_nil, or_false] at hc
  repeat' (rcases hc with rfl | hc)
  all_goals first | trivial | assumption | (subst hc; first | trivial | assumption)
theorem matchC_ok (n : Nat) : ∀ c ∈ matchC E n, c.labOk := by
  obtain ⟨e0, e1, e2, e3, e4, e5, e6, e7⟩ := endOk hE
  intro c hc
  simp only [matchC, matchH, matchT, List.mem_append, List.mem_cons, List.not_mem_nil, or_false, List.mem_flatMap, copyC] at hc
  rcases hc with (hc | ⟨j, _, hc⟩) | hc
  all_goals repeat' (rcases hc with rfl | hc)
  all_goals first | trivial | assumption | (subst hc; first | trivial | assumption)
theorem assertC_ok (kind : Int) {L : Int} (h0 : 0 ≤ L) (h1 : L < 800000000) : ∀ c ∈ assertC E kind L, c.labOk := by
  obtain ⟨e0, e1, e2, e3, e4, e5, e6, e7⟩ := endOk hE
  have hL : ∀ j : Nat, j < 2 → I64 (L + (j : Int)) := fun j hj => by unfold I64; omega
  have hL0 : I64 L := by unfold I64; omega
  have hW : ∀ c ∈ wordsC L, c.labOk := by
    intro c hc
    unfold wordsC wordsN at hc
    obtain ⟨j, hj, hc⟩ := List.mem_flatMap.1 hc
    rw [List.mem_range] at hj
    have := hL j hj
    simp only [sideC, List.mem_cons, List.not_mem_nil, or_false] at hc
    rcases hc with rfl | rfl | rfl | rfl | rfl | rfl | rfl | rfl <;> first | trivial | assumption
  intro c hc
  unfold assertC at hc
  repeat' split at hc
  all_goals simp only [lineC, List.mem_append, List.mem_cons, List.not_mem_nil, or_false, or_assoc] at hc
  all_goals repeat' (rcases hc with rfl | hc)
  all_goals first | trivial | assumption | (subst hc; first | trivial | assumption) | exact hW _ hc | (rcases hc with hc | hc; exact hW _ hc; subst hc; assumption)
include hls
theorem enterC_ok (len n s0 : Nat) : ∀ c ∈ enterC E ls len n s0, c.labOk := by
  obtain ⟨e0, e1, e2, e3, e4, e5, e6, e7⟩ := endOk hE
  have := rd_ok hls (s0 : Int)
  intro c hc
  simp only [enterC, List.mem_cons, List.not_mem_nil, or_false] at hc
  repeat' (rcases hc with rfl | hc)
  all_goals first | trivial | assumption | (subst hc; first | trivial | assumption)
theorem instC_ok (i : Int) (x : S61) {L : Int} (h0 : 0 ≤ L) (h1 : L < 800000000) : ∀ c ∈ instC E ls i x L, c.labOk := by
  obtain ⟨e0, e1, e2, e3, e4, e5, e6, e7⟩ := endOk hE
  have r1 := rd_ok hls i
  have r3 := rd_ok hls x.f3
  have r4 := rd_ok hls x.f4
  intro c hc
  rw [instC, List.mem_cons, List.mem_append] at hc
  rcases hc with rfl | hc | hc
  · exact r1
  · exact markC_ok hE i c hc
  · unfold instB at hc
    repeat' split at hc
    all_goals simp only [jobC, List.mem_append, List.mem_cons, List.not_mem_nil, or_false, or_assoc] at hc
    all_goals repeat' (rcases hc with rfl | hc)
    all_goals first | trivial | assumption | (subst hc; first | trivial | assumption) | exact assertC_ok hE x.f1 h0 h1 _ hc | (rcases hc with hc | hc; exact assertC_ok hE x.f1 h0 h1 _ hc; subst hc; assumption)
end
/-! ### The maker, when all labels are made -/
theorem mk_of {w0 w W : World} {p m g n : Nat} {va : Option Addr} {vc : Nat} {A : AsmS} {l : List S61} {st sl : Int} {out : List Int} (M : MkB W w.heap.size p m g (.slice va n vc) (endsE n) (labL n) A) (hn : 1 ≤ n) (hB : Below w.heap.size w W) (hI : IsS63 w0 w g l st sl out) (h0 : Below w0.heap.size w0 w) :
    MkAt W w.heap.size p m g (endsE n) (labL n) l st sl A := by
  have hc := M.cells
  have hrow := M.row
  refine ⟨M.asm, hB.size, ?_, w0, out, ?_, h0.trans (hB.mono h0.size), h0.size⟩
  · rcases hrow.2 with ⟨e, h⟩ | ⟨q, cap, cur, e, hg, hh, _, _, hs, ht⟩
    · rw [labL_len] at h; omega
    · rw [labL_len] at e
      have e1 : va = some ⟨q, 0, none⟩ := by injection e
      have e2 : vc = cap := by injection e
      subst e1 e2
      refine ⟨q, vc, by rw [labL_len]; exact hc, cur, hh, fun j z hz => ?_⟩
      have h1 : ((labL n).map (Value.int .i64))[j]? = some (.int .i64 z) := by rw [List.getElem?_map, hz]; rfl
      rw [← ht, List.getElem?_take] at h1
      split at h1
      · simpa using h1
      · cases h1
  · exact hI.below hB
theorem ways_at {l : List S61} {st sl : Int} (hV : ValidP l st sl) {i : Nat} (hi : i < l.length) : FitsP (rd_T61 l (i : Int)) ∧ ((rd_T61 l (i : Int)).f0 ≠ 5 → (rd_T61 l (i : Int)).f0 ≠ 6 → (rd_T61 l (i : Int)).f3 < (l.length : Int)) ∧ ((rd_T61 l (i : Int)).f0 = 2 → (rd_T61 l (i : Int)).f4 < (l.length : Int)) ∧
    ((rd_T61 l (i : Int)).f0 = 1 ∨ (rd_T61 l (i : Int)).f0 = 2 ∨ (rd_T61 l (i : Int)).f0 = 3 ∨ (rd_T61 l (i : Int)).f0 = 4 ∨ (rd_T61 l (i : Int)).f0 = 5 ∨ (rd_T61 l (i : Int)).f0 = 6) := by
  have hm := mem_rd_T61 hi
  have hF := hV.chk.fits _ hm
  have hT := hV.tgt _ hm
  generalize rd_T61 l (i : Int) = x at *
  have ho := hF.op
  refine ⟨hF, fun h5 h6 => hT _ ?_, fun h2 => hT _ ?_, by omega⟩
  · unfold leadsL
    have : x.f0 = 1 ∨ x.f0 = 2 ∨ x.f0 = 3 ∨ x.f0 = 4 := by omega
    rcases this with h | h | h | h <;> simp [h]
  · unfold leadsL; simp [h2]
theorem small8 {n : Nat} (hn : n ≤ 4000) : Small (A8 n) 5000 := ⟨by simp [A8], by simp [A8], by show 0 ≤ ((n + 8 : Nat) : Int); omega, by show ((n + 8 : Nat) : Int) ≤ 5000; omega⟩
theorem good8 (n : Nat) : As.Good (A8 n) := ⟨(fun _ h => absurd h (by simp [A8])), (fun _ _ h => absurd h (by simp [A8])), (by simp [A8])⟩
theorem enter_len (E : Ends) (ls : List Int) (a b c : Nat) : (enterC E ls a b c).length = 21 := rfl
theorem insts_small {E : Ends} {ls : List Int} {A : AsmS} {k : Nat} (h : Small A k) (l : List S61) (i : Nat) : Small (instsA E ls l i A) (k + 288 * l.length) := by
  induction l generalizing i A k with
  | nil => exact h
  | cons x l ih => exact (ih (k := k + 288) ((h.run _).mono (by have := instC_len E ls i x A.labels; omega)) (i + 1)).mono (by simp; omega)
theorem insts_good {E : Ends} {ls : List Int} (hE : ∀ x ∈ E.all, I64 x) (hls : ∀ z ∈ ls, I64 z) {A : AsmS} {k : Nat} (h : Small A k) (hG : As.Good A) (l : List S61) (i : Nat) (hk : k + 288 * l.length < 700000000) : As.Good (instsA E ls l i A) := by
  induction l generalizing i A k with
  | nil => exact hG
  | cons x l ih =>
    simp only [List.length_cons] at hk
    have hc := instC_len E ls i x A.labels
    exact ih (k := k + 288) ((h.run _).mono (by omega)) (good_run _ hG h (instC_ok hE hls _ x h.lab0 (by have := h.lab; omega)) (by omega)) (i + 1) (by omega)
theorem match_len (E : Ends) (n : Nat) : (matchC E n).length ≤ 2 * n + 20 := by
  unfold matchC
  rw [List.length_append, List.length_append, copy_len, show (matchH E n).length = 5 from rfl, show (matchT E n).length = 7 from rfl]; omega
theorem code_good {l : List S61} (hl : l.length ≤ 4000) (st sl : Nat) (hs : sl ≤ 64) : As.Good (codeA l st sl) := by
  unfold codeA
  have hE := endsE_all hl
  have hls := labL_all hl
  have h1 := (small8 hl).run (enterC (endsE l.length) (labL l.length) l.length sl st)
  have g1 := good_run _ (good8 l.length) (small8 hl) (enterC_ok hE hls l.length sl st) (by rw [enter_len]; omega)
  rw [enter_len] at h1
  have h2 := insts_small (E := endsE l.length) (ls := labL l.length) h1 l 0
  have g2 := insts_good hE hls h1 g1 l 0 (by omega)
  have h3 := h2.run (backC (endsE l.length))
  have g3 := good_run _ g2 h2 (backC_ok hE) (by rw [show (backC (endsE l.length)).length = 20 from rfl]; omega)
  rw [show (backC (endsE l.length)).length = 20 from rfl] at h3
  have := match_len (endsE l.length) sl
  exact good_run _ g3 h3 (matchC_ok hE sl) (by omega)
theorem strOf_size (bs : List Int) : (strOf bs).size = bs.length := by
  unfold strOf
  have : ∀ (bs : List Int) (r : ByteArray), (bs.foldl (fun r n => r.push (UInt8.ofNat n.toNat)) r).size = r.size + bs.length := by
    intro bs
    induction bs with
    | nil => intro r; rfl
    | cons b bs ih => intro r; rw [List.foldl_cons, ih, ByteArray.size_push, List.length_cons]; omega
  rw [this]; simp
end Go.Proofs.YtpfcdhjknmijjaaGreat.Em
end
