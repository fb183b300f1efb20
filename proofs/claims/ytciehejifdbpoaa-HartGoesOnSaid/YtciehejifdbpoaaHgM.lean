import Derived.Test.YtciehejifdbpoaaHr1
import Derived.WalkKit
import Derived.ProofKit
import Derived.OpenShut
import Derived.ShutString
import Derived.ChangeOld
import Derived.Below
set_option linter.unusedSimpArgs false
set_option linter.unusedVariables false
namespace Go.Proofs.Ytciehejifdbpoaa.Ht
open Go.RowKit Go.Maps Go.Proofs.Ytciehejifdbpoaa.Grow Go.Proofs.Ytciehejifdbpoaa.Rv Go.Proofs.Ytciehejifdbpoaa.As Go.Proofs.Ytciehejifdbpoaa.PHartQuotients
open Go.Proofs.YtciehejifdbpoaaW.PrintWords Go.Proofs.YtciehejifdbpoaaW.PrintLast Go.Proofs.YtciehejifdbpoaaW.PrintMore

/-! ### A machine as the law says it -/
structure HowS where
  ws : List Int
  data : ByteArray
  regs : List Int
def howC (wv : Value) (H : HowS) : Array Value := (wv :: .string H.data :: H.regs.map (Value.int .u64)).toArray
/-- The words lie there. -/
structure WordsAt (w : World) (wv : Value) (ws : List Int) : Prop where
  form : ∃ a cap, wv = .slice a ws.length cap
  cells : 0 < ws.length → ∀ a cap, wv = .slice (some a) ws.length cap → a.spot = none ∧ a.block < w.heap.size ∧ ∀ i, i < ws.length → w.cell? ⟨a.block, a.off + i, none⟩ = some (.int .u32 (ws.getD i 0))
  some_ : 0 < ws.length → ∃ a cap, wv = .slice (some a) ws.length cap
  u32 : ∀ x ∈ ws, U32 x
theorem WordsAt.below {w w' : World} {wv : Value} {ws : List Int} (h : WordsAt w wv ws) (hb : Below w.heap.size w w') : WordsAt w' wv ws :=
  ⟨h.form, fun hp a cap e => by
    obtain ⟨h1, h2, h3⟩ := h.cells hp a cap e
    exact ⟨h1, Nat.lt_of_lt_of_le h2 hb.size, fun i hi => (hb.cell (show (⟨a.block, a.off + i, none⟩ : Addr).block < _ from h2)).trans (h3 i hi)⟩, h.some_, h.u32⟩
/-- The bytes of words. -/
def wordsB (ws : List Int) : List Int := ws.flatMap encB.wordB
theorem wordsB_len (ws : List Int) : (wordsB ws).length = 4 * ws.length := by
  induction ws with
  | nil => rfl
  | cons x xs ih => show (encB.wordB x ++ wordsB xs).length = _; rw [List.length_append, ih]; simp [encB.wordB]; omega
theorem wordsB_take {ws : List Int} {k : Nat} (hk : k < ws.length) : wordsB (ws.take (k + 1)) = wordsB (ws.take k) ++ encB.wordB (ws.getD k 0) := by
  unfold wordsB
  rw [List.take_succ_eq_append_getElem hk, List.flatMap_append, List.getD_eq_getElem?_getD, List.getElem?_eq_getElem hk]
  simp
def regV (base : Int) (s : ByteArray) (rights : Int) : List Value := [.int .u64 base, .string s, .int .i64 rights]
theorem row_tag5 {w : World} {B n g : Nat} {v : Value} {xs : List Value} {c : Array Value} (h : w.ownsRow B 5 1 v n xs) (hg : w.heap[g]? = some (.cells c 75 (0, 0))) : some g ≠ v.ownBlock := by
  intro e
  rcases h.2 with ⟨rfl, _⟩ | ⟨q, cap, cur, rfl, _, hh, _⟩
  · cases e
  · cases e
    rw [hg] at hh; cases hh
set_option maxHeartbeats 8000000 in
set_option maxRecDepth 100000 in
theorem regions_calls {w : World} {wv : Value} {H : HowS} (hw : WordsAt w wv H.ws) (h0 : 0 < H.ws.length) (h1 : H.ws.length ≤ 100) :
    Calls Try.prog 75 #[.agg (howC wv H)] w fun e w' => ∃ g, e = .returned (.slice (some ⟨g, 0, none⟩) 2 2) ∧ w.heap.size ≤ g ∧ w'.heap[g]? = some (.cells (regV 4096 (strOf (wordsB H.ws)) 4 ++ regV 8192 H.data 3).toArray 92 (0, 0)) ∧ Below w.heap.size w w' := by
  obtain ⟨⟨wb, wo, ws⟩, cap, rfl⟩ := hw.some_ h0
  obtain ⟨rfl, hlt, hcell⟩ := hw.cells h0 _ _ rfl
  obtain ⟨hc, hhc⟩ : ∃ hc, howC (.slice (some ⟨wb, wo, none⟩) H.ws.length cap) H = hc := ⟨_, rfl⟩
  have a0 : hc[0]? = some (.slice (some ⟨wb, wo, none⟩) H.ws.length cap) := by rw [← hhc]; rfl
  have a1 : hc[1]? = some (.string H.data) := by rw [← hhc]; rfl
  rw [hhc]
  obtain ⟨n, hn⟩ : ∃ n, H.ws.length = n := ⟨_, rfl⟩
  rw [hn] at a0 h0 h1 hcell
  obtain ⟨D, hD⟩ : ∃ D, H.data = D := ⟨_, rfl⟩
  rw [hD] at a1 ⊢
  obtain ⟨i0, hi, hz0, hz1, hz2⟩ := info_parts Ht.info5
  have hbx := heap_alloc_last w (.cells hc 75)
  have bx := blk_cell hbx
  have b0 := (bx 0).trans a0
  have b1 := (bx 1).trans a1
  have HB0 := below_alloc (Below.refl w.heap.size w) (.cells hc 75)
  have HC := Aside0.mk hcell
  have HW0 := Aside0.mk hw.u32
  clear hhc hw bx
  obtain ⟨w2, hrun, hown, hgr⟩ := run_make_own (P := Try.prog) (w.alloc (.cells hc 75)) w.heap.size 130 5 i0 (.int .u8 0) 1 Ht.under130 hi hz0 hz1 .i64 .i64 (4 * n) (by rw [hz2]; omega) (by unfold maxLen; omega) (by simp)
  rw [show ((4 * n : Nat) : Int) = 4 * (n : Int) by omega] at hrun
  have hb2 : Below w.heap.size w w2 := HB0.trans ⟨hgr.os, hgr.tape, hgr.output, hgr.size, fun k hk => hgr.block k (by simp; omega) (by simp)⟩
  have h2x := (hgr.block w.heap.size (by simp) (by simp)).trans hbx
  have hz1' := blk_lt h2x
  have bx2 := blk_cell h2x
  have e0 := (bx2 0).trans a0
  have e1 := (bx2 1).trans a1
  have OWN := Aside0.mk (show w2.ownsRow w.heap.size 5 1 (.slice (some ⟨w.heap.size + 1, 0, none⟩) 0 (4 * n)) 0 [] by simpa using hown)
  have HB2 := Aside0.mk hb2
  have HX2 := Aside0.mk h2x
  have A1 := Aside0.mk a1
  have HLT := Aside0.mk hlt
  clear hown hgr hb2 h2x HB0 bx2 hbx a0 a1
  go_enter Try.func75, Try.ntmps75
  go_wp2_with fail
  go_loopw [3, 5, 14] (fun v3 _ v14 wr => ∃ k : Nat, k ≤ n ∧ v14 = .int .i64 k ∧ Aside0 (wr.ownsRow w.heap.size 5 1 v3 (4 * k) ((wordsB (H.ws.take k)).map (Value.int .u8)) ∧ Below w.heap.size w wr ∧ wr.heap[w.heap.size]? = some (.cells hc 75 (0, 0)))) (fun _ _ v14 _ => n - (intOf v14).toNat)
  case atStart => exact ⟨0, by omega, rfl, ⟨OWN.out, HB2.out, HX2.out⟩⟩
  case round =>
    obtain ⟨k, hk, rfl, hx⟩ := hrel
    clear b0 b1 e0 e1 hrun
    by_cases hlt2 : k < n
    · obtain ⟨ho, hbw, hxw⟩ := hx.out
      have c := (hbw.cell (show (⟨wb, wo + k, none⟩ : Addr).block < _ from HLT.out)).trans (HC.out k hlt2)
      have zc := Nat.lt_of_lt_of_le HLT.out hbw.size
      have hu : U32 (H.ws.getD k 0) := by
        rw [List.getD_eq_getElem?_getD, List.getElem?_eq_getElem (by omega)]
        exact HW0.out _ (List.getElem_mem _)
      have TK := Aside0.mk (wordsB_take (ws := H.ws) (k := k) (by omega))
      obtain ⟨W, hW⟩ : ∃ W, H.ws.getD k 0 = W := ⟨_, rfl⟩
      rw [hW] at c hu TK
      have ne3 := row_ne ho
      have OWN3 := Aside0.mk ho
      have B3 := Aside0.mk hbw
      have X3 := Aside0.mk hxw
      have hbs := hbw.size
      have k0 : (0 : Int) ≤ (k : Int) := by omega
      clear hW ho hbw hxw
      have lk := wordsB_len (H.ws.take k)
      go_wp2_with (first | (at_builtin; refine wpList_append_own _ rfl (.tmp 18) (.tmp 30) 130 rfl w.heap.size 5 i0 (.int .u8 0) 1 1 Ht.under130 hi hz0 hz1 hz2 rfl (by decide) _ (4 * k) _ rfl (OWN3.out.alloc _) ⟨wr.heap.size, 0, none⟩ 4 4 [.int .u8 (W % 256), .int .u8 (W / 256 % 256), .int .u8 (W / 65536 % 256), .int .u8 (W / 16777216 % 256)] rfl rfl (World.news_of_block (cs := #[.int .u8 (W % 256), .int .u8 (W / 256 % 256), .int .u8 (W / 65536 % 256), .int .u8 (W / 16777216 % 256)]) (t := 5) (fr := (0, 0)) (heap_alloc_last wr _)) four_one (by unfold maxLen; omega) (by omega) (by simp; omega) ?_; intro v' w5 hown' hgrow _; have OWN5 := Aside0.mk hown'; have X5 := Aside0.mk ((hgrow.block w.heap.size (by have := blk_lt X3.out; simp; omega) (row_tag5 OWN3.out X3.out)).trans (blk_alloc X3.out _)); have B5 := Aside0.mk ((below_alloc B3.out _).grown hgrow (by simp; omega) (own_ge OWN3.out)); clear hown' hgrow))
      go_roundw
      case rel => exact ⟨k + 1, by omega, by go_num, ⟨by rw [TK.out, List.map_append]; exact OWN5.out, B5.out, X5.out⟩⟩
      case measure => simp [intOf]; omega
    · obtain rfl : k = n := by omega
      obtain ⟨ho, hbw, hxw⟩ := hx.out
      have htk : H.ws.take k = H.ws := List.take_of_length_le (by omega)
      rw [htk] at ho
      have lk := wordsB_len H.ws
      have hcv := own_string ho (by rw [lk, hn])
      have B3 := Aside0.mk hbw
      have b1 := (blk_cell hxw 1).trans A1.out
      have zx := blk_lt hxw
      have hbs := hbw.size
      clear ho hxw hx hbw
      go_wp2
      refine bodyPost_ret (v := .slice (some ⟨wr.heap.size, 0, none⟩) 2 2) (by simp [results, Try.results75, go_sem]) rfl ⟨_, rfl, hbs, ?_, below_alloc B3.out _⟩
      exact heap_alloc_last _ _
end Go.Proofs.Ytciehejifdbpoaa.Ht

set_option linter.unusedSimpArgs false
set_option linter.unusedVariables false
namespace Go.Proofs.Ytciehejifdbpoaa.Ht
open Go.RowKit Go.Maps Go.Proofs.Ytciehejifdbpoaa.Grow Go.Proofs.Ytciehejifdbpoaa.Rv Go.Proofs.Ytciehejifdbpoaa.As Go.Proofs.Ytciehejifdbpoaa.PHartQuotients
open Go.Proofs.YtciehejifdbpoaaW.PrintWords Go.Proofs.YtciehejifdbpoaaW.PrintLast Go.Proofs.YtciehejifdbpoaaW.PrintMore

def stC (mv : Value) (pc : Int) (regs : List Int) : Array Value := (mv :: .int .u64 pc :: regs.map (Value.int .u64)).toArray
theorem stC_size (mv : Value) (pc : Int) {regs : List Int} (h : regs.length = 32) : (stC mv pc regs).size = 34 := by simp [stC, h]
abbrev zC : Array Value := stC (.slice none 0 0) 0 (List.replicate 32 0)
theorem info80 : (Try.prog.info? 80).map (·.size) = some 34 := by kernel_rfl
theorem info75 : (Try.prog.info? 75).map (·.size) = some 34 := by kernel_rfl
theorem st80 (w : World) (g : Nat) (old cells : Array Value) (hg : w.heap[g]? = some (.cells old 80 (0, 0))) (ho : old.size = 34) (hs : cells.size = 34) (h1 : cells.all (·.oneCell') = true) :
    (Instr.storeAt 80 (.pointer (some ⟨g, 0, none⟩)) (.agg cells)).run Try.prog w = .ok () (w.setRow g cells) := by
  have := run_storeVar_row (P := Try.prog) w g 80 80 old cells hg (by rw [info80, hs]) (by rw [ho, hs]) h1
  simp only [Instr.storeAt, Instr.sureAddr, Sem.run_bind, Sem.run_pure, Result.andThen_ok, this]
theorem al80 (w : World) : (Instr.alloc 80 true (.tuple #[])).run Try.prog w = .ok (.pointer (some ⟨w.heap.size, 0, none⟩)) (w.alloc (.cells zC 80)) := by kernel_rfl
theorem wpList_alloc80 {w : World} {ops : Array Oper} {rest : List Oper} {o : Oper} {a : Act} {Q : Exit → Act → World → Prop} (hgd : o.guard = none) (ho : o.op = .alloc 80)
    (h : wpList Try.prog ops Q rest (a.put o.dst (.pointer (some ⟨w.heap.size, 0, none⟩))) (w.alloc (.cells zC 80))) : wpList Try.prog ops Q (o :: rest) a w := by
  refine wpList_plain hgd fun K hK => ?_
  unfold Oper.wp execOp
  simp only [ho, Sem.run_bind, al80, Sem.run_pure, Result.andThen_ok]
  exact hK _ _ h
theorem wpList_store80 {w : World} {ops : Array Oper} {rest : List Oper} {o : Oper} {a : Act} {Q : Exit → Act → World → Prop} (hgd : o.guard = none) (x y : Operand) (ho : o.op = .store 80 x y)
    (g : Nat) (cells old : Array Value) (hx : a.eval x = .pointer (some ⟨g, 0, none⟩)) (hy : a.eval y = .agg cells) (hg : w.heap[g]? = some (.cells old 80 (0, 0))) (hc : cells.size = 34) (hold : old.size = 34) (h1 : cells.all (·.oneCell') = true)
    (h : wpList Try.prog ops Q rest (a.put o.dst undef) (w.setRow g cells)) : wpList Try.prog ops Q (o :: rest) a w :=
  wpList_store_row hgd 80 x y ho g cells hx hy 80 old hg (by rw [info80, hc]) (by rw [hold, hc]) h1 h
theorem wpList_build80 {w : World} {ops : Array Oper} {rest : List Oper} {o : Oper} {a : Act} {Q : Exit → Act → World → Prop} (hgd : o.guard = none) (ho : o.op = .build 80 #[])
    (h : wpList Try.prog ops Q rest (a.put o.dst (.agg zC)) w) : wpList Try.prog ops Q (o :: rest) a w := by
  refine wpList_plain hgd fun K hK => ?_
  have hb : ∀ w, (Instr.build 80 (Array.map (fun (x : Nat × Operand) => (x.1, a.eval x.2)) #[])).run Try.prog w = .ok (.agg zC) w := fun w => by kernel_rfl
  unfold Oper.wp execOp
  simp only [ho, Sem.run_bind, hb, Sem.run_pure, Result.andThen_ok]
  exact hK _ _ h
theorem bd80 (w : World) : (Instr.build 80 #[]).run Try.prog w = .ok (.agg zC) w := by kernel_rfl
theorem under80 : ∃ fs, Try.prog.underlying 80 = some (.struct fs) := ⟨_, Try.underlying80⟩
theorem under75 : ∃ fs, Try.prog.underlying 75 = some (.struct fs) := ⟨_, Try.underlying75⟩
theorem res37 {tmps : Array Value} {w : World} {g : Nat} {cs : Array Value} {v2 v3 : Value} (h2 : tmps.getD 2 undef = v2) (h3 : tmps.getD 3 undef = v3) (h4 : tmps.getD 4 undef = .pointer (some ⟨g, 0, none⟩)) (hg : w.heap[g]? = some (.cells cs 80 (0, 0))) (hs : cs.size = 34) :
    (results Try.f37 tmps).run Try.prog w = .ok (.tuple #[v2, v3, .agg cs]) w := by
  obtain ⟨fs, hu⟩ := under80
  have h2' : tmps[2]?.getD undef = v2 := by simpa using h2
  have h3' : tmps[3]?.getD undef = v3 := by simpa using h3
  have h4' : tmps[4]?.getD undef = .pointer (some ⟨g, 0, none⟩) := by simpa using h4
  have hl := run_loadVar_row (P := Try.prog) w g 80 80 cs (0, 0) _ hg hu rfl (by rw [info80, hs])
  simp [results, Try.results37, h2', h3', h4', asAddr, hl]
set_option maxHeartbeats 8000000 in
set_option maxRecDepth 100000 in
theorem made_bad {w : World} {wv : Value} {H : HowS} (hw : WordsAt w wv H.ws) (hbad : H.ws.length = 0 ∨ 100 < H.ws.length ∨ H.data.size = 0 ∨ 500 < H.data.size) :
    Calls Try.prog 37 #[.agg (howC wv H)] w fun e w' => e = .returned (.tuple #[.pointer none, .pointer none, .agg (stC (.slice none 0 0) 0 (List.replicate 32 0))]) ∧ Below w.heap.size w w' := by
  obtain ⟨wa, cap, rfl⟩ := hw.form
  obtain ⟨hc, hhc⟩ : ∃ hc, howC (.slice wa H.ws.length cap) H = hc := ⟨_, rfl⟩
  have a0 : hc[0]? = some (.slice wa H.ws.length cap) := by rw [← hhc]; rfl
  have a1 : hc[1]? = some (.string H.data) := by rw [← hhc]; rfl
  rw [hhc]
  have hbx := heap_alloc_last w (.cells hc 75)
  have b0 : ∀ o, ((w.alloc (.cells hc 75)).alloc o).cell? ⟨w.heap.size, 0, none⟩ = some (.slice wa H.ws.length cap) := fun o => (blk_cell (blk_alloc hbx o) 0).trans a0
  have b1 : ∀ o, ((w.alloc (.cells hc 75)).alloc o).cell? ⟨w.heap.size, 1, none⟩ = some (.string H.data) := fun o => (blk_cell (blk_alloc hbx o) 1).trans a1
  obtain ⟨N, hN⟩ : ∃ N, H.ws.length = N := ⟨_, rfl⟩
  obtain ⟨M, hM⟩ : ∃ M, H.data.size = M := ⟨_, rfl⟩
  rw [hN] at b0 hbad
  rw [hM] at hbad
  have hcs : N = 0 ∨ (0 < N ∧ 100 < N) ∨ (0 < N ∧ N ≤ 100 ∧ M = 0) ∨ (0 < N ∧ N ≤ 100 ∧ 0 < M ∧ 500 < M) := by omega
  have zx : w.heap.size < (w.alloc (.cells hc 75)).heap.size := blk_lt hbx
  clear hhc hw a0 a1 hbx
  have zs : zC.size = 34 := stC_size _ _ (by simp)
  have zo : zC.all (·.oneCell') = true := by kernel_rfl
  have hz80 := heap_alloc_at (w.alloc (.cells hc 75)) (.cells zC 80) (n := w.heap.size + 1) (by simp)
  clear hbad hN
  go_enter Try.func37, Try.ntmps37
  rcases hcs with rfl | ⟨q1, q2⟩ | ⟨q1, q2, rfl⟩ | ⟨q1, q2, q3, q4⟩
  all_goals
    go_wp2_with (first | (refine wpList_alloc80 rfl rfl ?_) | (refine wpList_build80 rfl rfl ?_) | (refine wpList_store80 rfl _ _ rfl (w.heap.size + 1) zC zC rfl rfl hz80 zs zs zo ?_))
    have hW := setRow_heap _ (w.heap.size + 1) _ zC 80 (0, 0) hz80
    have BW : Below w.heap.size w (((w.alloc (.cells hc 75)).alloc (.cells zC 80)).setRow (w.heap.size + 1) zC) := below_setRow (below_alloc (below_alloc (Below.refl _ _) _) _) (by omega) _
    refine bodyPost_ret (v := .tuple #[.pointer none, .pointer none, .agg zC]) (res37 (g := w.heap.size + 1) rfl rfl rfl hW zs) rfl ⟨rfl, BW⟩
end Go.Proofs.Ytciehejifdbpoaa.Ht

set_option linter.unusedSimpArgs false
set_option linter.unusedVariables false
namespace Go.Proofs.Ytciehejifdbpoaa.Ht
open Go.RowKit Go.Maps Go.Proofs.Ytciehejifdbpoaa.Grow Go.Proofs.Ytciehejifdbpoaa.Rv Go.Proofs.Ytciehejifdbpoaa.As Go.Proofs.Ytciehejifdbpoaa.PHartQuotients
open Go.Proofs.YtciehejifdbpoaaW.PrintWords Go.Proofs.YtciehejifdbpoaaW.PrintLast Go.Proofs.YtciehejifdbpoaaW.PrintMore

theorem wpList_load75 {w : World} {ops : Array Oper} {rest : List Oper} {o : Oper} {a : Act} {Q : Exit → Act → World → Prop} (hgd : o.guard = none) (x : Operand) (ho : o.op = .load 75 x)
    (g : Nat) (cs : Array Value) (hx : a.eval x = .pointer (some ⟨g, 0, none⟩)) (hg : w.heap[g]? = some (.cells cs 75 (0, 0))) (hc : cs.size = 34)
    (h : wpList Try.prog ops Q rest (a.put o.dst (.agg cs)) w) : wpList Try.prog ops Q (o :: rest) a w := by
  obtain ⟨fs, hu⟩ := under75
  exact wpList_load_row hgd 75 x ho g hx 75 cs (0, 0) _ hg hu rfl (by rw [info75, hc]) h
theorem wpList_build80b {w : World} {ops : Array Oper} {rest : List Oper} {o : Oper} {a : Act} {Q : Exit → Act → World → Prop} (hgd : o.guard = none) (x : Operand) (pc : Operand) (ho : o.op = .build 80 #[(0, x), (1, pc)]) (g : Nat) (R : List Int) (hR : R = List.replicate 32 0)
    (hx : a.eval x = .slice (some ⟨g, 0, none⟩) 2 2) (hp : a.eval pc = .int .u64 4096)
    (h : wpList Try.prog ops Q rest (a.put o.dst (.agg (stC (.slice (some ⟨g, 0, none⟩) 2 2) 4096 R))) w) : wpList Try.prog ops Q (o :: rest) a w := by
  subst hR
  refine wpList_plain hgd fun K hK => ?_
  have hb : ∀ w, (Instr.build 80 #[(0, .slice (some ⟨g, 0, none⟩) 2 2), (1, .int .u64 4096)]).run Try.prog w = .ok (.agg (stC (.slice (some ⟨g, 0, none⟩) 2 2) 4096 (List.replicate 32 0))) w := fun w => by kernel_rfl
  unfold Oper.wp execOp
  simp only [ho, List.map_toArray, List.map_cons, List.map_nil, hx, hp, Sem.run_bind, hb, Sem.run_pure, Result.andThen_ok]
  exact hK _ _ h
/-- The registers that are set, up to one. -/
def partR (regs : List Int) (i : Nat) : List Int := (List.range 32).map fun j => if 1 ≤ j ∧ j < i then regs.getD j 0 else 0
theorem partR_len (regs : List Int) (i : Nat) : (partR regs i).length = 32 := by simp [partR]
theorem partR_1 (regs : List Int) : partR regs 1 = List.replicate 32 0 := by
  apply List.ext_getElem
  · simp [partR]
  · intro j h1 h2
    simp only [partR, List.getElem_map, List.getElem_range, List.getElem_replicate]
    rw [if_neg (by omega)]
theorem partR_set (regs : List Int) (i : Nat) (h1 : 1 ≤ i) (h2 : i < 32) : (partR regs i).set i (regs.getD i 0) = partR regs (i + 1) := by
  apply List.ext_getElem
  · simp [partR]
  · intro j h3 h4
    rw [List.getElem_set]
    simp only [partR, List.getElem_map, List.getElem_range]
    by_cases e : i = j
    · subst e; rw [if_pos rfl, if_pos (by omega)]
    · rw [if_neg e]
      by_cases hj : 1 ≤ j ∧ j < i
      · rw [if_pos hj, if_pos (by omega)]
      · rw [if_neg hj, if_neg (by omega)]
def regsL (H : HowS) : List RegIn := [⟨4096, strOf (wordsB H.ws), 4⟩, ⟨8192, H.data, 3⟩]
def madeS (H : HowS) (i : Nat) : HartS := ⟨memOf (regsL H), 4096, partR H.regs i⟩
structure HowOk (H : HowS) : Prop where
  w0 : 0 < H.ws.length
  w1 : H.ws.length ≤ 100
  d0 : 0 < H.data.size
  d1 : H.data.size ≤ 500
theorem regsL_ok {H : HowS} (h : HowOk H) : RegsOk (regsL H) := by
  have hl : (strOf (wordsB H.ws)).size = 4 * H.ws.length := by rw [strOf_size, wordsB_len]
  obtain ⟨h1, h2, h3, h4⟩ := h
  intro k hk
  have : k = 0 ∨ k = 1 := by simp [regsL] at hk; omega
  rcases this with rfl | rfl
  · refine ⟨?_, ?_, by show (0 : Int) ≤ 4; decide, by show (4 : Int) ≤ 7; decide, by show (0 : Int) ≤ 4096; decide, by show (0 : Int) ≤ 4096; decide, ?_⟩
    · show 0 < (strOf (wordsB H.ws)).size; omega
    · show (strOf (wordsB H.ws)).size < _; omega
    · show (4096 : Int) + ((strOf (wordsB H.ws)).size : Int) ≤ _; omega
  · refine ⟨h3, ?_, by show (0 : Int) ≤ 3; decide, by show (3 : Int) ≤ 7; decide, by show (0 : Int) ≤ 8192; decide, ?_, ?_⟩
    · show H.data.size < _; omega
    · show (4096 : Int) + ((strOf (wordsB H.ws)).size : Int) ≤ 8192; omega
    · show (8192 : Int) + (H.data.size : Int) ≤ _; omega
theorem madeS_put (H : HowS) (i : Nat) (h1 : 1 ≤ i) (h2 : i < 32) : (madeS H i).put (i : Int) (H.regs.getD i 0) = madeS H (i + 1) := by
  unfold HartS.put
  rw [if_pos (by omega)]
  unfold madeS
  simp only [Int.toNat_natCast, partR_set H.regs i h1 h2]
theorem howC_size (wv : Value) {H : HowS} (h : H.regs.length = 32) : (howC wv H).size = 34 := by simp [howC, h]
theorem stC_one (g : Nat) (pc : Int) (regs : List Int) : (stC (.slice (some ⟨g, 0, none⟩) 2 2) pc regs).all (·.oneCell') = true := by
  rw [Array.all_eq_true_iff_forall_mem]
  intro v hv
  simp only [stC, List.mem_toArray, List.mem_cons, List.mem_map] at hv
  rcases hv with rfl | rfl | ⟨x, _, rfl⟩ <;> rfl
theorem HartIs.types {w : World} {p n : Nat} {B : HB} {S : HartS} (h : HartIs w p B n S) {k : Nat} {cs : Array Value} {t : TypeId} (hk : w.heap[k]? = some (.cells cs t (0, 0))) (h1 : t ≠ 146) (h2 : t ≠ 169) (h3 : t ≠ 5) (h4 : t ≠ 171) :
    k ≠ p ∧ k ≠ B.M ∧ k ≠ B.mp ∧ k ≠ B.q ∧ k ∉ B.gs := by
  obtain ⟨cap, m1⟩ := h.mem.head
  obtain ⟨cur, m2, _⟩ := h.mem.row
  obtain ⟨f, s1, s2⟩ := h.seen
  obtain ⟨es, c, sb⟩ := s1.block
  have hh := h.head
  refine ⟨?_, ?_, ?_, ?_, ?_⟩
  · rintro rfl; rw [hk] at hh; simp at hh; exact h1 hh.2
  · rintro rfl; rw [hk] at sb; simp at sb
  · rintro rfl; rw [hk] at m1; simp at m1; exact h2 m1.2
  · rintro rfl; rw [hk] at m2; simp at m2; exact h4 m2.2
  · intro hg
    obtain ⟨i, hi, rfl⟩ := List.mem_iff_getElem.1 hg
    have mb := h.mem.bytes i (by rw [← h.mem.len]; exact hi) hi
    rw [hk] at mb; simp at mb; exact h3 mb.2
theorem HartIs.notF {w : World} {p n : Nat} {B : HB} {S : HartS} (h : HartIs w p B n S) {k : Nat} {cs : Array Value} {t : TypeId} (hk : w.heap[k]? = some (.cells cs t (0, 0))) (h1 : t ≠ 146) (h2 : t ≠ 169) (h3 : t ≠ 5) (h4 : t ≠ 171) : ¬ HF p B k := by
  obtain ⟨a, b, c, d, e⟩ := h.types hk h1 h2 h3 h4
  rintro (rfl | rfl | rfl | hg)
  · exact a rfl
  · exact b rfl
  · exact c rfl
  · exact e hg
theorem HartIs.setOther {w : World} {p n : Nat} {B : HB} {S : HartS} (h : HartIs w p B n S) {k : Nat} {cs : Array Value} {t : TypeId} (hk : w.heap[k]? = some (.cells cs t (0, 0))) (h1 : t ≠ 146) (h2 : t ≠ 169) (h3 : t ≠ 5) (h4 : t ≠ 171) (o : Nat) (v : Value) : HartIs (w.setCell ⟨k, o, none⟩ v) p B n S := by
  obtain ⟨a, b, c, d, e⟩ := h.types hk h1 h2 h3 h4
  obtain ⟨cap, m1⟩ := h.mem.head
  obtain ⟨cur, m2, m3⟩ := h.mem.row
  obtain ⟨f, s1, s2⟩ := h.seen
  have nb : ∀ j, j ≠ k → (w.setCell ⟨k, o, none⟩ v).heap[j]? = w.heap[j]? := fun j hj => heap_setCell_other _ _ _ _ hj
  refine ⟨(nb _ (Ne.symm a)).trans h.head, h.len, ⟨⟨cap, (nb _ (Ne.symm c)).trans m1⟩, ⟨cur, (nb _ (Ne.symm d)).trans m2, m3⟩, h.mem.len, fun j hj hj' => (nb _ fun e' => e ?_).trans (h.mem.bytes j hj hj')⟩, h.nd, f, s1.kept (nb _ (Ne.symm b)), s2⟩
  rw [← e']; exact List.getElem_mem hj'
theorem HartIs.setRowOther {w : World} {p n : Nat} {B : HB} {S : HartS} (h : HartIs w p B n S) {k : Nat} {cs : Array Value} {t : TypeId} (hk : w.heap[k]? = some (.cells cs t (0, 0))) (h1 : t ≠ 146) (h2 : t ≠ 169) (h3 : t ≠ 5) (h4 : t ≠ 171) (new : Array Value) : HartIs (w.setRow k new) p B n S := by
  obtain ⟨a, b, c, d, e⟩ := h.types hk h1 h2 h3 h4
  obtain ⟨cap, m1⟩ := h.mem.head
  obtain ⟨cur, m2, m3⟩ := h.mem.row
  obtain ⟨f, s1, s2⟩ := h.seen
  have nb : ∀ j, j ≠ k → (w.setRow k new).heap[j]? = w.heap[j]? := fun j hj => setRow_other w k j new hj
  refine ⟨(nb _ (Ne.symm a)).trans h.head, h.len, ⟨⟨cap, (nb _ (Ne.symm c)).trans m1⟩, ⟨cur, (nb _ (Ne.symm d)).trans m2, m3⟩, h.mem.len, fun j hj hj' => (nb _ fun e' => e ?_).trans (h.mem.bytes j hj hj')⟩, h.nd, f, s1.kept (nb _ (Ne.symm b)), s2⟩
  rw [← e']; exact List.getElem_mem hj'
theorem load80 (w : World) (g : Nat) (cs : Array Value) (hg : w.heap[g]? = some (.cells cs 80 (0, 0))) (hs : cs.size = 34) : (Instr.loadAt 80 (.pointer (some ⟨g, 0, none⟩))).run Try.prog w = .ok (.agg cs) w := by
  obtain ⟨fs, hu⟩ := under80
  have hl := run_loadVar_row (P := Try.prog) w g 80 80 cs (0, 0) _ hg hu rfl (by rw [info80, hs])
  simp only [Instr.loadAt, Instr.sureAddr, Sem.run_bind, Sem.run_pure, Result.andThen_ok, hl]
theorem stC_set (mv : Value) (pc : Int) (regs : List Int) (i : Nat) (x : Int) : (stC mv pc regs).setIfInBounds (2 + i) (.int .u64 x) = stC mv pc (regs.set i x) := by
  unfold stC
  rw [Nat.add_comm 2 i]
  simp only [List.setIfInBounds_toArray, List.set_cons_succ, List.map_set]
theorem Keep.at_ {F : Nat → Prop} {w w' : World} (h : Keep F w w') {k : Nat} {o : Obj} (hk : w.heap[k]? = some o) (hF : ¬ F k) : w'.heap[k]? = some o := (h.block k (blk_lt hk) hF).trans hk
set_option maxHeartbeats 8000000 in
set_option maxRecDepth 100000 in
theorem made_good {w : World} {wv : Value} {H : HowS} (hw : WordsAt w wv H.ws) (hok : HowOk H) (hr : H.regs.length = 32) :
    Calls Try.prog 37 #[.agg (howC wv H)] w fun e w' => ∃ p B g, e = .returned (.tuple #[.pointer (some ⟨p, 0, none⟩), .pointer (some ⟨B.mp, 0, none⟩), .agg (stC (.slice (some ⟨g, 0, none⟩) 2 2) 4096 (madeS H 32).regs)]) ∧
      HartIs w' p B 0 (madeS H 32) ∧ (∀ k, HF p B k → w.heap.size ≤ k) ∧ w.heap.size ≤ g ∧ w'.heap[g]? = some (.cells (regV 4096 (strOf (wordsB H.ws)) 4 ++ regV 8192 H.data 3).toArray 92 (0, 0)) ∧ Below w.heap.size w w' := by
  obtain ⟨wa, cap, rfl⟩ := hw.form
  have HW := Aside0.mk hw
  have HOK := Aside0.mk hok
  have h34 := howC_size (.slice wa H.ws.length cap) hr
  obtain ⟨hc, hhc⟩ : ∃ hc, howC (.slice wa H.ws.length cap) H = hc := ⟨_, rfl⟩
  have a0 : hc[0]? = some (.slice wa H.ws.length cap) := by rw [← hhc]; rfl
  have a1 : hc[1]? = some (.string H.data) := by rw [← hhc]; rfl
  have ar : ∀ i, i < 32 → hc[2 + i]? = some (.int .u64 (H.regs.getD i 0)) := fun i hi => by
    rw [← hhc]
    simp [howC, List.getD_eq_getElem?_getD, Nat.add_comm 2 i, List.getElem?_eq_getElem (show i < H.regs.length by omega)]
  have RC0 := Aside0.mk (fun (w9 : World) (hb9 : Below w.heap.size w w9) => regions_calls (hw.below hb9) hok.w0 hok.w1)
  rw [hhc] at h34 RC0
  rw [hhc]
  have hbx := heap_alloc_last w (.cells hc 75)
  have b0 : ∀ o, ((w.alloc (.cells hc 75)).alloc o).cell? ⟨w.heap.size, 0, none⟩ = some (.slice wa H.ws.length cap) := fun o => (blk_cell (blk_alloc hbx o) 0).trans a0
  have b1 : ∀ o, ((w.alloc (.cells hc 75)).alloc o).cell? ⟨w.heap.size, 1, none⟩ = some (.string H.data) := fun o => (blk_cell (blk_alloc hbx o) 1).trans a1
  obtain ⟨w0, w1, d0, d1⟩ := hok
  obtain ⟨N, hN⟩ : ∃ N, H.ws.length = N := ⟨_, rfl⟩
  obtain ⟨M, hM⟩ : ∃ M, H.data.size = M := ⟨_, rfl⟩
  rw [hN] at b0 w0 w1
  rw [hM] at d0 d1
  have zx : w.heap.size < (w.alloc (.cells hc 75)).heap.size := blk_lt hbx
  have zs : zC.size = 34 := stC_size _ _ (by simp)
  have zo : zC.all (·.oneCell') = true := by kernel_rfl
  have hz80 := heap_alloc_at (w.alloc (.cells hc 75)) (.cells zC 80) (n := w.heap.size + 1) (by simp)
  have hx2 := blk_alloc hbx (.cells zC 80)
  have AR := Aside0.mk ar
  clear hhc hw a0 a1 hN ar
  have e1 : ((N : Int) == 0) = false := beq_eq_false_iff_ne.2 (by omega)
  have e2 : ¬ (100 < (N : Int)) := by omega
  have e3 : ((M : Int) == 0) = false := beq_eq_false_iff_ne.2 (by omega)
  have e4 : ¬ (500 < (M : Int)) := by omega
  have e5 : (N == 0) = false := beq_eq_false_iff_ne.2 (by omega)
  have e6 : (M == 0) = false := beq_eq_false_iff_ne.2 (by omega)
  go_enter Try.func37, Try.ntmps37
  go_wp2_with (first | (refine wpList_alloc80 rfl rfl ?_) | (refine wpList_load75 rfl _ rfl w.heap.size hc rfl hx2 h34 ?_))
  have B2 := below_alloc (below_alloc (Below.refl w.heap.size w) (.cells hc 75)) (.cells zC 80)
  generalize (w.alloc (.cells hc 75)).alloc (.cells zC 80) = w2 at *
  refine (RC0.out w2 B2).mono ?_
  rintro e w3 ⟨g, rfl, hg0, hgc, hb3⟩
  have B3 := Aside0.mk (B2.trans (hb3.mono B2.size))
  have hxx := blk_below hx2 hb3
  have hzz := blk_below hz80 hb3
  have HXX := Aside0.mk hxx
  have HZZ := Aside0.mk hzz
  have hzg := blk_lt hgc
  have RO := Aside0.mk (regsL_ok HOK.out)
  have MC := Aside0.mk (MemNew_calls (w := w3) (L := g) (off := 0) (cap := 2) (regsL H) RO.out (by simp [regsL])
    (fun i h => by
      have hi : i = 0 ∨ i = 1 := by simp [regsL] at h; omega
      have c := blk_cell hgc
      rcases hi with rfl | rfl
      · exact ⟨c 0, c 1, c 2⟩
      · exact ⟨c 3, c 4, c 5⟩) hzg)
  clear hb3 hgc hxx hzz hx2 hz80 b0 b1 zx hbx
  go_wp2_with fail
  refine MC.out.mono ?_
  rintro e w4 ⟨⟨mp, pv, gs, rfl, hmp, hS⟩, hb4⟩
  obtain ⟨q, hM2, hq⟩ := hS.mem (by simp [regsL])
  have NC := Aside0.mk (New_calls hM2 hS.nd 4096)
  have hge := fun g hg => (hS.ge g hg).1
  have b3s := B3.out.size
  have B4 := Aside0.mk (B3.out.trans (hb4.mono b3s))
  have b4s := B4.out.size
  have HX4 := Aside0.mk (blk_below HXX.out hb4)
  have HZ4 := Aside0.mk (blk_below HZZ.out hb4)
  clear hS hM2 MC hb4 HXX HZZ
  go_wp2_with fail
  refine NC.out.mono ?_
  rintro e w5 ⟨rfl, h5, hb5⟩
  have HFB : ∀ k, HF (w4.heap.size + 1) ⟨mp, q, w4.heap.size, gs⟩ k → w.heap.size ≤ k := by
    rintro k (rfl | rfl | rfl | hk)
    · omega
    · exact b4s
    · exact Nat.le_trans b3s hmp
    · exact Nat.le_trans b3s (hge k hk)
  have HFB := Aside0.mk HFB
  have B5 := Aside0.mk (B4.out.trans (hb5.mono b4s))
  have b5s := B5.out.size
  have hx5 := blk_below HX4.out hb5
  have hz5 := blk_below HZ4.out hb5
  have H5 := Aside0.mk (show HartIs w5 (w4.heap.size + 1) ⟨mp, q, w4.heap.size, gs⟩ 0 (madeS H 1) by unfold madeS; rw [partR_1]; exact h5)
  clear NC hge hb5 h5 HX4 HZ4
  go_wp2_with (first | (refine wpList_load75 rfl _ rfl w.heap.size hc rfl hx5 h34 ?_))
  refine (RC0.out w5 B5.out).mono ?_
  rintro e w6 ⟨g6, rfl, hg6, hgc6, hb6⟩
  have b6s := Nat.le_trans b5s hb6.size
  have B6 := Aside0.mk (B5.out.trans (hb6.mono b5s))
  have hx6 := blk_below hx5 hb6
  have hz6 := blk_below hz5 hb6
  have H6 := Aside0.mk (H5.out.below hb6)
  have hal := heap_alloc_last w6 (.cells zC 80)
  obtain ⟨R1, hR1⟩ : ∃ R1, partR H.regs 1 = R1 := ⟨_, rfl⟩
  have hR2 : R1 = List.replicate 32 0 := by rw [← hR1, partR_1]
  have so := stC_one g6 4096 R1
  have ss := stC_size (.slice (some ⟨g6, 0, none⟩) 2 2) 4096 (regs := R1) (by rw [hR2]; simp)
  have HR1 := Aside0.mk hR1
  have HR2 := Aside0.mk hR2
  clear hR1 hR2
  have HX6 := Aside0.mk hx6
  have HZ6 := Aside0.mk hz6
  have HG6 := Aside0.mk hgc6
  clear hb6 hx5 hz5 H5 hx6 hz6 hgc6
  go_wp2_with (first | (refine wpList_build80b rfl _ _ rfl g6 R1 HR2.out rfl rfl ?_) | (refine wpList_alloc80 rfl rfl ?_) | (refine wpList_store80 rfl _ _ rfl w6.heap.size (stC (.slice (some ⟨g6, 0, none⟩) 2 2) 4096 R1) zC rfl rfl hal ss zs so ?_))
  have h7s := setRow_heap _ w6.heap.size zC (stC (.slice (some ⟨g6, 0, none⟩) 2 2) 4096 R1) 80 (0, 0) hal
  have b7 : Below w6.heap.size w6 ((w6.alloc (.cells zC 80)).setRow w6.heap.size (stC (.slice (some ⟨g6, 0, none⟩) 2 2) 4096 R1)) := below_setRow (below_alloc (Below.refl _ _) _) (Nat.le_refl _) _
  have z8a := Aside0.mk (blk_lt HZ6.out)
  have HX7 := Aside0.mk (blk_below HX6.out b7)
  have HZ7 := Aside0.mk (blk_below HZ6.out b7)
  have HG7 := Aside0.mk (blk_below HG6.out b7)
  have H7 := Aside0.mk (H6.out.below b7)
  have B7 := Aside0.mk (B6.out.trans (b7.mono b6s))
  have S7 := Aside0.mk h7s
  clear so ss h7s b7 hal HX6 HZ6 HG6 H6
  generalize (w6.alloc (.cells zC 80)).setRow w6.heap.size (stC (.slice (some ⟨g6, 0, none⟩) 2 2) 4096 R1) = w7 at *
  obtain ⟨s8, hs8⟩ : ∃ s8, w6.heap.size = s8 := ⟨_, rfl⟩
  rw [hs8] at S7 z8a ⊢
  rw [← HR1.out] at S7
  clear hs8
  go_loopw [9] (fun v9 wr => ∃ i : Nat, 1 ≤ i ∧ i ≤ 32 ∧ v9 = .int .i64 i ∧ Aside0 (HartIs wr (w4.heap.size + 1) ⟨mp, q, w4.heap.size, gs⟩ 0 (madeS H i) ∧ wr.heap[s8]? = some (.cells (stC (.slice (some ⟨g6, 0, none⟩) 2 2) 4096 (partR H.regs i)) 80 (0, 0)) ∧ wr.heap[w.heap.size]? = some (.cells hc 75 (0, 0)) ∧ wr.heap[w.heap.size + 1]? = some (.cells zC 80 (0, 0)) ∧ wr.heap[g6]? = some (.cells (regV 4096 (strOf (wordsB H.ws)) 4 ++ regV 8192 H.data 3).toArray 92 (0, 0)) ∧ Below w.heap.size w wr)) (fun v9 _ => 32 - (intOf v9).toNat)
  case atStart => exact ⟨1, by omega, by omega, rfl, ⟨H7.out, S7.out, HX7.out, HZ7.out, HG7.out, B7.out⟩⟩
  case round =>
    obtain ⟨i, hi1, hi2, rfl, hx⟩ := hrel
    by_cases hlt : i < 32
    · obtain ⟨r1, r2, r3, r4, r5, r6⟩ := hx.out
      have c := (blk_cell r3 (2 + i)).trans (AR.out i hlt)
      have zc := blk_lt r3
      have c8 : ∃ y, wr.cell? ⟨s8, 2 + i, none⟩ = some y := ⟨_, (blk_cell r2 (2 + i)).trans (Array.getElem?_eq_getElem (by rw [stC_size _ _ (partR_len _ _)]; omega))⟩
      obtain ⟨y, c8⟩ := c8
      have z8 := blk_lt r2
      have f8 := frozen_of_row wr s8 (2 + i) _ 80 r2
      have SET := Aside0.mk (madeS_put H i hi1 hlt)
      have PRT := Aside0.mk (partR_set H.regs i hi1 hlt)
      obtain ⟨V, hV⟩ : ∃ V, H.regs.getD i 0 = V := ⟨_, rfl⟩
      rw [hV] at c SET PRT
      have i0 : (0 : Int) ≤ (i : Int) := by omega
      have i1 : (i : Int) < 32 := by omega
      have hq1 := heap_setCell_same wr s8 (2 + i) _ 80 (.int .u64 V) r2
      rw [stC_set, PRT.out] at hq1
      have n1 : w.heap.size ≠ s8 := by rintro e; rw [← e, r3] at r2; simp at r2
      have n2 : w.heap.size + 1 ≠ s8 := Nat.ne_of_lt z8a.out
      have n3 : g6 ≠ s8 := by rintro rfl; rw [r5] at r2; simp at r2
      have q3 := (heap_setCell_other wr ⟨s8, 2 + i, none⟩ w.heap.size (.int .u64 V) n1).trans r3
      have q4 := (heap_setCell_other wr ⟨s8, 2 + i, none⟩ (w.heap.size + 1) (.int .u64 V) n2).trans r4
      have q5 := (heap_setCell_other wr ⟨s8, 2 + i, none⟩ g6 (.int .u64 V) n3).trans r5
      have qh := r1.setOther r2 (by decide) (by decide) (by decide) (by decide) (2 + i) (.int .u64 V)
      have qb : Below w.heap.size w (wr.setCell ⟨s8, 2 + i, none⟩ (.int .u64 V)) := r6.setCell (p := ⟨s8, 2 + i, none⟩) (by have := z8a.out; show w.heap.size ≤ s8; omega) _
      have Q := Aside0.mk (And.intro qh (And.intro hq1 (And.intro q3 (And.intro q4 (And.intro q5 qb)))))
      have SC := Aside0.mk (Set_calls qh (i : Int) V)
      have cq := (blk_cell q3 (2 + i)).trans (by rw [AR.out i hlt, hV])
      have zq := blk_lt q3
      clear hV r1 r2 r3 r4 r5 r6 hq1 q3 q4 q5 qh qb n1 n2 n3
      go_wp2_with fail
      refine SC.out.mono ?_
      rintro e w9 ⟨rfl, h9, k9⟩
      rw [SET.out] at h9
      obtain ⟨u1, u2, u3, u4, u5, u6⟩ := Q.out
      have v2 := k9.at_ u2 (u1.notF u2 (by decide) (by decide) (by decide) (by decide))
      have v3 := k9.at_ u3 (u1.notF u3 (by decide) (by decide) (by decide) (by decide))
      have v4 := k9.at_ u4 (u1.notF u4 (by decide) (by decide) (by decide) (by decide))
      have v5 := k9.at_ u5 (u1.notF u5 (by decide) (by decide) (by decide) (by decide))
      have HV := Aside0.mk (And.intro h9 (And.intro v2 (And.intro v3 (And.intro v4 (And.intro v5 (u6.trans (k9.below u6.size HFB.out)))))))
      clear u1 u2 u3 u4 u5 u6 v2 v3 v4 v5 h9 k9 SC Q c zc c8 z8 f8 cq zq
      go_wp2
      go_roundw
      case rel => exact ⟨i + 1, by omega, by omega, by go_num, ⟨HV.out⟩⟩
      case measure => simp [intOf]; omega
    · obtain rfl : i = 32 := by omega
      obtain ⟨r1, r2, r3, r4, r5, r6⟩ := hx.out
      have e50 : (madeS H 32).put 0 5 = madeS H 32 := if_neg (by decide)
      have e532 : (madeS H 32).put 32 5 = madeS H 32 := if_neg (by decide)
      have SC0 := Set_calls r1 0 5
      rw [e50] at SC0
      have SC0 := Aside0.mk SC0
      have Q := Aside0.mk hx.out
      have E2 := Aside0.mk e532
      clear r1 r2 r3 r4 r5 r6 e50 e532
      rw [show ((32 : Nat) : Int) = 32 from rfl]
      go_wp2_with fail
      refine SC0.out.mono ?_
      rintro e w8 ⟨rfl, h8, k8⟩
      obtain ⟨u1, u2, u3, u4, u5, u6⟩ := Q.out
      have v2 := k8.at_ u2 (u1.notF u2 (by decide) (by decide) (by decide) (by decide))
      have v4 := k8.at_ u4 (u1.notF u4 (by decide) (by decide) (by decide) (by decide))
      have v5 := k8.at_ u5 (u1.notF u5 (by decide) (by decide) (by decide) (by decide))
      have B8 := u6.trans (k8.below u6.size HFB.out)
      have SC1 := Set_calls h8 32 5
      rw [E2.out] at SC1
      have SC1 := Aside0.mk SC1
      have Q8 := Aside0.mk (And.intro h8 (And.intro v2 (And.intro v4 (And.intro v5 B8))))
      clear u1 u2 u3 u4 u5 u6 v2 v4 v5 h8 k8 B8 SC0 Q hx
      go_wp2_with fail
      refine SC1.out.mono ?_
      rintro e w9 ⟨rfl, h9, k9⟩
      obtain ⟨u1, u2, u4, u5, u6⟩ := Q8.out
      have v2 := k9.at_ u2 (u1.notF u2 (by decide) (by decide) (by decide) (by decide))
      have v4 := k9.at_ u4 (u1.notF u4 (by decide) (by decide) (by decide) (by decide))
      have v5 := k9.at_ u5 (u1.notF u5 (by decide) (by decide) (by decide) (by decide))
      have B9 := u6.trans (k9.below u6.size HFB.out)
      have V2 := Aside0.mk v2
      have Q9 := Aside0.mk (And.intro h9 (And.intro v4 (And.intro v5 B9)))
      clear u1 u2 u4 u5 u6 v2 v4 v5 h9 k9 B9 SC1 Q8
      go_wp2_with fail
      obtain ⟨RG, hRG⟩ : ∃ RG, stC (.slice (some ⟨g6, 0, none⟩) 2 2) 4096 (partR H.regs 32) = RG := ⟨_, rfl⟩
      have rs : RG.size = 34 := by rw [← hRG]; exact stC_size _ _ (partR_len _ _)
      have ro : RG.all (·.oneCell') = true := by rw [← hRG]; exact stC_one _ _ _
      rw [hRG] at V2
      refine wp_region_grow2 [73, 74, 75, 2, 3] (fun j v w1 => match j with
        | 0 => v = .pointer (some ⟨w4.heap.size + 1, 0, none⟩)
        | 1 => v = .pointer (some ⟨mp, 0, none⟩)
        | 2 => v = .agg RG
        | 3 => v = .pointer (some ⟨w4.heap.size + 1, 0, none⟩)
        | 4 => v = .pointer (some ⟨mp, 0, none⟩)
        | _ => True) (by kernel_rfl) (by kernel_rfl) ?_ ?_ ?_
      · intro j v w1 w2 hv hb
        rcases j with _ | _ | _ | _ | _ | j <;> first | exact hv | trivial
      · refine ⟨?_, ?_, ?_, ?_, ?_, trivial⟩
        all_goals
          intro a w5 hB hoth hdep
          have q7 := hoth 7 (by decide)
          have q5 := hoth 5 (by decide)
          have q8 := hoth 8 (by decide)
          have q8' := q8
          have hv2 := blk_below V2.out hB
          have hl := load80 w5 s8 RG hv2 rs
          clear hoth hB V2 Q9 HFB RO HX7 HZ7 HG7 H7 B7 S7 RC0 B2 B3 HW HOK AR hv2
          simp [bd1, bd2, bd3, bd5, bd6] at hdep q5 q7 q8
          simp only [StepTo, Oper.grows]
          first
            | (have hx : a.eval (.tmp 8) = .pointer (some ⟨s8, 0, none⟩) := q8'
               unfold execOp
               simp only [hx, Sem.run_bind, hl, Sem.run_pure, Result.andThen_ok]
               exact ⟨Below.refl _ _, trivial⟩)
            | (go_simp; all_goals first | exact Below.refl _ _ | exact ⟨Below.refl _ _, rfl⟩ | exact ⟨Below.refl _ _, hdep.1⟩)
      · intro v w5 hB hv
        have q2 : v 2 = _ := hv 2 (by decide)
        have q3 : v 3 = _ := hv 3 (by decide)
        have q4 : v 4 = _ := hv 4 (by decide)
        simp only [fillF, q2, q3, q4, Act.put, List.setIfInBounds_toArray, List.set_cons_zero, List.set_cons_succ, List.length_cons, List.length_nil, Nat.reduceAdd, List.drop_succ_cons, List.drop_zero]
        obtain ⟨u1, u4, u5, u6⟩ := Q9.out
        have h4 := blk_below u4 hB
        have h5 := blk_below u5 hB
        have h1 := u1.below hB
        have b6 := u6.trans (hB.mono u6.size)
        refine wpList_store80 rfl _ _ rfl (w.heap.size + 1) RG zC rfl rfl h4 rs zs ro ?_
        have hR := setRow_heap _ (w.heap.size + 1) zC RG 80 (0, 0) h4
        have hgk : g6 ≠ w.heap.size + 1 := by rintro rfl; rw [h5] at h4; simp at h4
        have hG5 := (setRow_other w5 (w.heap.size + 1) g6 RG hgk).trans h5
        have hH5 := h1.setRowOther h4 (by decide) (by decide) (by decide) (by decide) RG
        have hB5 := below_setRow b6 (show w.heap.size ≤ w.heap.size + 1 by omega) RG
        clear u1 u4 u5 u6 h4 h5 h1 b6 hv hB q2 q3 q4
        generalize w5.setRow (w.heap.size + 1) RG = wz at *
        go_wp2
        refine bodyPost_ret (v := .tuple #[.pointer (some ⟨w4.heap.size + 1, 0, none⟩), .pointer (some ⟨mp, 0, none⟩), .agg RG]) (res37 (g := w.heap.size + 1) rfl rfl rfl hR rs) rfl ⟨w4.heap.size + 1, ⟨mp, q, w4.heap.size, gs⟩, g6, ?_, hH5, HFB.out, ?_, hG5, hB5⟩
        · rw [← hRG]; rfl
        · exact Nat.le_trans b5s hg6
end Go.Proofs.Ytciehejifdbpoaa.Ht

set_option linter.unusedSimpArgs false
set_option linter.unusedVariables false
namespace Go.Proofs.Ytciehejifdbpoaa.Ht
open Go.RowKit Go.Maps Go.Proofs.Ytciehejifdbpoaa.Grow Go.Proofs.Ytciehejifdbpoaa.Rv Go.Proofs.Ytciehejifdbpoaa.As Go.Proofs.Ytciehejifdbpoaa.PHartQuotients
open Go.Proofs.YtciehejifdbpoaaW.PrintWords Go.Proofs.YtciehejifdbpoaaW.PrintLast Go.Proofs.YtciehejifdbpoaaW.PrintMore

/-! ### Two machines beside each other -/
theorem HartIs.hf_lt {w : World} {p n : Nat} {B : HB} {S : HartS} (h : HartIs w p B n S) : ∀ k, HF p B k → k < w.heap.size := by
  rintro k (rfl | rfl | rfl | hk)
  · exact h.lt
  · exact h.M_lt
  · obtain ⟨cap, m1⟩ := h.mem.head; exact blk_lt m1
  · obtain ⟨i, hi, rfl⟩ := List.mem_iff_getElem.1 hk
    exact blk_lt (h.mem.bytes i (by rw [← h.mem.len]; exact hi) hi)
theorem HartIs.keepOther {w w' : World} {pa na pb nb : Nat} {Ba Bb : HB} {Sa Sb : HartS} (ha : HartIs w pa Ba na Sa) (hb : HartIs w pb Bb nb Sb) (hd : ∀ k, HF pb Bb k → ¬ HF pa Ba k) (k : Keep (HF pa Ba) w w') : HartIs w' pb Bb nb Sb := by
  obtain ⟨cap, m1⟩ := hb.mem.head
  obtain ⟨cur, m2, m3⟩ := hb.mem.row
  obtain ⟨f, s1, s2⟩ := hb.seen
  refine ⟨k.at_ hb.head (hd _ (.inl rfl)), hb.len, ⟨⟨cap, k.at_ m1 (hd _ (.inr (.inr (.inl rfl))))⟩, ⟨cur, k.at_ m2 ?_, m3⟩, hb.mem.len, fun j hj hj' => k.at_ (hb.mem.bytes j hj hj') (hd _ (.inr (.inr (.inr (List.getElem_mem hj')))))⟩, hb.nd, f, s1.kept (k.block _ hb.M_lt (hd _ (.inr (.inl rfl)))), s2⟩
  have hh := ha.head
  obtain ⟨cap', a1⟩ := ha.mem.head
  obtain ⟨f', t1, _⟩ := ha.seen
  obtain ⟨es, c, sb⟩ := t1.block
  rintro (e | e | e | e)
  · rw [e, hh] at m2; simp at m2
  · rw [e, sb] at m2; simp at m2
  · rw [e, a1] at m2; simp at m2
  · obtain ⟨i, hi, e'⟩ := List.mem_iff_getElem.1 e
    have mb := ha.mem.bytes i (by rw [← ha.mem.len]; exact hi) hi
    rw [e', m2] at mb; simp at mb

/-! ### Runs that go on -/
theorem nextF_code (S : HartS) : (nextF S).2 = 0 ∨ (nextF S).2 = 260 ∨ (nextF S).2 = 270 := by
  unfold nextF
  split
  · split
    · exact .inl rfl
    · exact .inr (.inl rfl)
  · rename_i h
    unfold fetchF at h ⊢
    split
    · split
      · exact .inr (.inr rfl)
      · exact .inl rfl
    · exact .inr (.inr rfl)
theorem loadF_code (S : MemS) (a n : Int) : (loadF S a n).2 ≠ 280 := by
  unfold loadF
  split
  · split <;> (dsimp only; decide)
  · dsimp only; decide
theorem storeF_code (S : MemS) (a n x : Int) : (storeF S a n x).2 ≠ 280 := by
  unfold storeF
  split
  · split <;> (dsimp only; decide)
  · dsimp only; decide
theorem execF_code (S : HartS) (d : Done) (a b i nx : Int) : (execF S d a b i nx).2 ≠ 280 ∧ ((execF S d a b i nx).2 ≠ 0 → (execF S d a b i nx).1 = S) := by
  unfold execF
  split
  · exact ⟨by dsimp only; decide, fun _ => rfl⟩
  · unfold loadS
    split
    · exact ⟨by dsimp only; decide, fun h => absurd rfl h⟩
    · exact ⟨loadF_code _ _ _, fun _ => rfl⟩
  · unfold storeS
    split
    · exact ⟨by dsimp only; decide, fun h => absurd rfl h⟩
    · exact ⟨storeF_code _ _ _ _, fun _ => rfl⟩
  all_goals exact ⟨by dsimp only; decide, fun h => absurd rfl h⟩
theorem stepF_code (S : HartS) : (stepF S).2 ≠ 280 ∧ ((stepF S).2 ≠ 0 → (stepF S).1 = S) := by
  unfold stepF
  split
  · exact execF_code _ _ _ _ _ _
  · exact ⟨by rcases nextF_code S with h | h | h <;> rw [h] <;> decide, fun _ => rfl⟩
theorem run_shift (stop : Int) : ∀ (k s t : Nat) (S : HartS), runF stop k (s + t) S = ((runF stop k s S).1, (runF stop k s S).2.1 + t, (runF stop k s S).2.2)
  | 0, s, t, S => by
    by_cases h : S.pc = stop
    · rw [runF_stop h, runF_stop h]
    · rw [runF_fuel h, runF_fuel h]
  | k + 1, s, t, S => by
    by_cases h : S.pc = stop
    · rw [runF_stop h, runF_stop h]
    · by_cases h0 : (stepF S).2 = 0
      · rw [runF_step h h0, runF_step h h0, show s + t + 1 = s + 1 + t by omega, run_shift stop k (s + 1) t]
      · rw [runF_err h h0, runF_err h h0]
theorem run_split (stop : Int) : ∀ (f m s : Nat) (S : HartS), runF stop (f + m) s S = if (runF stop f s S).2.2 = 280 then runF stop m (runF stop f s S).2.1 (runF stop f s S).1 else runF stop f s S
  | 0, m, s, S => by
    rw [Nat.zero_add]
    by_cases h : S.pc = stop
    · rw [runF_stop h, runF_stop h, if_neg (by dsimp only; decide)]
    · rw [runF_fuel h, if_pos rfl]
  | f + 1, m, s, S => by
    rw [show f + 1 + m = (f + m) + 1 by omega]
    by_cases h : S.pc = stop
    · rw [runF_stop h, runF_stop h, if_neg (by dsimp only; decide)]
    · by_cases h0 : (stepF S).2 = 0
      · rw [runF_step h h0, runF_step h h0]; exact run_split stop f m (s + 1) _
      · rw [runF_err h h0, runF_err h h0, if_neg (stepF_code S).1]
theorem run_count (stop : Int) : ∀ (k s : Nat) (S : HartS), s ≤ (runF stop k s S).2.1 ∧ (runF stop k s S).2.1 ≤ s + k
  | 0, s, S => by
    by_cases h : S.pc = stop
    · rw [runF_stop h]; exact ⟨Nat.le_refl _, Nat.le_refl _⟩
    · rw [runF_fuel h]; exact ⟨Nat.le_refl _, Nat.le_refl _⟩
  | k + 1, s, S => by
    by_cases h : S.pc = stop
    · rw [runF_stop h]; exact ⟨Nat.le_refl _, Nat.le_add_right _ _⟩
    · by_cases h0 : (stepF S).2 = 0
      · rw [runF_step h h0]
        have := run_count stop k (s + 1) (stepF S).1
        omega
      · rw [runF_err h h0]; exact ⟨Nat.le_refl _, Nat.le_add_right _ _⟩
theorem run_end (stop : Int) : ∀ (k s : Nat) (S : HartS), (runF stop k s S).2.2 = 0 ↔ (runF stop k s S).1.pc = stop
  | 0, s, S => by
    by_cases h : S.pc = stop
    · rw [runF_stop h]; exact ⟨fun _ => h, fun _ => rfl⟩
    · rw [runF_fuel h]; exact ⟨fun e => absurd (show (280 : Int) = 0 from e) (by decide), fun e => absurd e h⟩
  | k + 1, s, S => by
    by_cases h : S.pc = stop
    · rw [runF_stop h]; exact ⟨fun _ => h, fun _ => rfl⟩
    · by_cases h0 : (stepF S).2 = 0
      · rw [runF_step h h0]; exact run_end stop k (s + 1) _
      · rw [runF_err h h0]
        have e := (stepF_code S).2 h0
        show (stepF S).2 = 0 ↔ (stepF S).1.pc = stop
        rw [e]
        exact ⟨fun e => absurd e h0, fun e => absurd e h⟩
theorem madeS_good {H : HowS} (h : HowOk H) (hr : ∀ x ∈ H.regs, U64 x) : GoodH (madeS H 32) := by
  have hm := memOf_good (regsL_ok h) (by simp [regsL])
  refine ⟨hm.1, hm.2, ⟨by show (0 : Int) ≤ 4096; decide, by show (4096 : Int) < 18446744073709551616; decide⟩, fun x hx => ?_, partR_len _ _, ?_⟩
  · obtain ⟨j, _, rfl⟩ := List.mem_map.1 (show x ∈ (List.range 32).map fun j => if 1 ≤ j ∧ j < 32 then H.regs.getD j 0 else 0 from hx)
    split
    · rw [List.getD_eq_getElem?_getD]
      by_cases hj : j < H.regs.length
      · rw [List.getElem?_eq_getElem hj]; exact hr _ (List.getElem_mem hj)
      · rw [List.getElem?_eq_none (by omega)]; exact ⟨by decide, by decide⟩
    · exact ⟨by decide, by decide⟩
  · show (partR H.regs 32).getD 0 0 = 0
    simp [partR]
end Go.Proofs.Ytciehejifdbpoaa.Ht

set_option linter.unusedSimpArgs false
set_option linter.unusedVariables false
namespace Go.Proofs.Ytciehejifdbpoaa.Ht
open Go.RowKit Go.Maps Go.Proofs.Ytciehejifdbpoaa.Grow Go.Proofs.Ytciehejifdbpoaa.Rv Go.Proofs.Ytciehejifdbpoaa.As Go.Proofs.Ytciehejifdbpoaa.PHartQuotients
open Go.Proofs.YtciehejifdbpoaaW.PrintWords Go.Proofs.YtciehejifdbpoaaW.PrintLast Go.Proofs.YtciehejifdbpoaaW.PrintMore

theorem made_bad' {w : World} {wv : Value} {H : HowS} (hw : WordsAt w wv H.ws) (hbad : H.ws.length = 0 ∨ 100 < H.ws.length ∨ H.data.size = 0 ∨ 500 < H.data.size) {hc : Array Value} (hhc : howC wv H = hc) :
    Calls Try.prog 37 #[.agg hc] w fun e w' => ∃ RG : Array Value, RG.size = 34 ∧ RG.all (·.oneCell') = true ∧ e = .returned (.tuple #[.pointer none, .pointer none, .agg RG]) ∧ Below w.heap.size w w' := by
  subst hhc
  exact (made_bad hw hbad).mono fun e w' h => ⟨_, stC_size _ _ (by simp), by kernel_rfl, h.1, h.2⟩
theorem made_good' {w : World} {wv : Value} {H : HowS} (hw : WordsAt w wv H.ws) (hok : HowOk H) (hr : H.regs.length = 32) {hc : Array Value} (hhc : howC wv H = hc) :
    Calls Try.prog 37 #[.agg hc] w fun e w' => ∃ (p : Nat) (B : HB) (RG : Array Value), RG.size = 34 ∧ RG.all (·.oneCell') = true ∧ e = .returned (.tuple #[.pointer (some ⟨p, 0, none⟩), .pointer (some ⟨B.mp, 0, none⟩), .agg RG]) ∧
      HartIs w' p B 0 (madeS H 32) ∧ (∀ k, HF p B k → w.heap.size ≤ k) ∧ Below w.heap.size w w' := by
  subst hhc
  exact (made_good hw hok hr).mono fun e w' h => by
    obtain ⟨p, B, g, h1, h2, h3, _, _, h6⟩ := h
    exact ⟨p, B, _, stC_size _ _ (partR_len _ _), stC_one _ _ _, h1, h2, h3, h6⟩
set_option maxHeartbeats 8000000 in
set_option maxRecDepth 100000 in
theorem goes_bad {w : World} {wv : Value} {H : HowS} (hw : WordsAt w wv H.ws) (hr : H.regs.length = 32) (hbad : H.ws.length = 0 ∨ 100 < H.ws.length ∨ H.data.size = 0 ∨ 500 < H.data.size) (F M : Int) :
    Calls Try.prog 11 #[.agg (howC wv H), .int .i64 F, .int .i64 M] w fun e w' => e = .returned (.bool true) ∧ Below w.heap.size w w' := by
  have h34 := howC_size wv hr
  obtain ⟨hc, hhc⟩ : ∃ hc, howC wv H = hc := ⟨_, rfl⟩
  have MB := Aside0.mk (fun (w9 : World) (hb9 : Below w.heap.size w w9) => made_bad' (hw.below hb9) hbad hhc)
  rw [hhc] at h34 ⊢
  have hbx := heap_alloc_last w (.cells hc 75)
  have Ba := below_alloc (Below.refl w.heap.size w) (.cells hc 75)
  have zs : zC.size = 34 := stC_size _ _ (by simp)
  have zo : zC.all (·.oneCell') = true := by kernel_rfl
  clear hhc hw hbad
  go_enter Try.func11, Try.ntmps11
  go_wp2_with fail
  refine (hworks_calls _).mono ?_
  rintro e w1 ⟨rfl, hb1⟩
  have HX1 := blk_below hbx hb1
  have B1' := Ba.trans (hb1.mono Ba.size)
  have BB1 := Aside0.mk B1'
  clear hbx Ba hb1 B1'
  go_wp2_with (first | (refine wpList_load75 rfl _ rfl w.heap.size hc rfl HX1 h34 ?_))
  refine (MB.out w1 BB1.out).mono ?_
  rintro e w2 ⟨R1, rs1, ro1, rfl, hb2⟩
  have HX2 := blk_below HX1 hb2
  have BB2 := Aside0.mk (BB1.out.trans (hb2.mono BB1.out.size))
  have hal1 := heap_alloc_last w2 (.cells zC 80)
  have n2 : w.heap.size ≠ w2.heap.size := Nat.ne_of_lt (blk_lt HX2)
  have HX2' := (setRow_other (w2.alloc (.cells zC 80)) w2.heap.size w.heap.size R1 n2).trans (blk_alloc HX2 (.cells zC 80))
  have bn1 : Below w2.heap.size w2 ((w2.alloc (.cells zC 80)).setRow w2.heap.size R1) := below_setRow (below_alloc (Below.refl _ _) _) (Nat.le_refl _) R1
  clear HX1 hb2
  go_wp2_with (first | (refine wpList_alloc80 rfl rfl ?_) | (refine wpList_store80 rfl _ _ rfl w2.heap.size R1 zC rfl rfl hal1 rs1 zs ro1 ?_) | (refine wpList_load75 rfl _ rfl w.heap.size hc rfl HX2' h34 ?_))
  have BX2 := Aside0.mk (BB2.out.trans (bn1.mono BB2.out.size))
  clear bn1 hal1 HX2 BB2
  generalize (w2.alloc (.cells zC 80)).setRow w2.heap.size R1 = x2 at *
  refine (MB.out x2 BX2.out).mono ?_
  rintro e w3 ⟨R2, rs2, ro2, rfl, hb3⟩
  have HX3 := blk_below HX2' hb3
  have BB3 := Aside0.mk (BX2.out.trans (hb3.mono BX2.out.size))
  have hal2 := heap_alloc_last w3 (.cells zC 80)
  have n3 : w.heap.size ≠ w3.heap.size := Nat.ne_of_lt (blk_lt HX3)
  have HX3' := (setRow_other (w3.alloc (.cells zC 80)) w3.heap.size w.heap.size R2 n3).trans (blk_alloc HX3 (.cells zC 80))
  have bn2 : Below w3.heap.size w3 ((w3.alloc (.cells zC 80)).setRow w3.heap.size R2) := below_setRow (below_alloc (Below.refl _ _) _) (Nat.le_refl _) R2
  clear HX2' hb3
  go_wp2_with (first | (refine wpList_alloc80 rfl rfl ?_) | (refine wpList_store80 rfl _ _ rfl w3.heap.size R2 zC rfl rfl hal2 rs2 zs ro2 ?_) | (refine wpList_load75 rfl _ rfl w.heap.size hc rfl HX3' h34 ?_))
  have BX3 := Aside0.mk (BB3.out.trans (bn2.mono BB3.out.size))
  clear bn2 hal2 HX3 BB3
  generalize (w3.alloc (.cells zC 80)).setRow w3.heap.size R2 = x3 at *
  refine (MB.out x3 BX3.out).mono ?_
  rintro e w4 ⟨R3, rs3, ro3, rfl, hb4⟩
  have HX4 := blk_below HX3' hb4
  have BB4 := Aside0.mk (BX3.out.trans (hb4.mono BX3.out.size))
  have hal3 := heap_alloc_last w4 (.cells zC 80)
  have n4 : w.heap.size ≠ w4.heap.size := Nat.ne_of_lt (blk_lt HX4)
  have HX4' := (setRow_other (w4.alloc (.cells zC 80)) w4.heap.size w.heap.size R3 n4).trans (blk_alloc HX4 (.cells zC 80))
  have bn3 : Below w4.heap.size w4 ((w4.alloc (.cells zC 80)).setRow w4.heap.size R3) := below_setRow (below_alloc (Below.refl _ _) _) (Nat.le_refl _) R3
  clear HX3' hb4
  go_wp2_with (first | (refine wpList_alloc80 rfl rfl ?_) | (refine wpList_store80 rfl _ _ rfl w4.heap.size R3 zC rfl rfl hal3 rs3 zs ro3 ?_))
  exact bodyPost_ret (v := .bool true) (by simp [results, Try.results11, go_sem]) rfl ⟨rfl, BB4.out.trans (bn3.mono BB4.out.size)⟩
set_option maxHeartbeats 8000000 in
set_option maxRecDepth 100000 in
theorem goes_out {w : World} {wv : Value} {H : HowS} (hw : WordsAt w wv H.ws) (hr : H.regs.length = 32) (hok : HowOk H) (hru : ∀ x ∈ H.regs, U64 x) (F M : Int) (hout : ¬ (0 ≤ F ∧ F ≤ 50 ∧ 0 ≤ M ∧ M ≤ 50)) :
    Calls Try.prog 11 #[.agg (howC wv H), .int .i64 F, .int .i64 M] w fun e w' => e = .returned (.bool true) ∧ Below w.heap.size w w' := by
  have h34 := howC_size wv hr
  obtain ⟨wa, cap, rfl⟩ := hw.form
  obtain ⟨hc, hhc⟩ : ∃ hc, howC (.slice wa H.ws.length cap) H = hc := ⟨_, rfl⟩
  have MB := Aside0.mk (fun (w9 : World) (hb9 : Below w.heap.size w w9) => made_good' (hw.below hb9) hok hr hhc)
  rw [hhc] at h34 ⊢
  have hbx := heap_alloc_last w (.cells hc 75)
  have Ba := below_alloc (Below.refl w.heap.size w) (.cells hc 75)
  have zs : zC.size = 34 := stC_size _ _ (by simp)
  have zo : zC.all (·.oneCell') = true := by kernel_rfl
  have A0' := Aside0.mk (show hc[0]? = some (.slice wa H.ws.length cap) by rw [← hhc]; rfl)
  have MG := Aside0.mk (madeS_good hok hru)
  obtain ⟨N, hN⟩ : ∃ N, H.ws.length = N := ⟨_, rfl⟩
  obtain ⟨k1, k2, _, _⟩ := hok
  rw [hN] at A0' k1 k2
  obtain ⟨S0, hS0⟩ : ∃ S0, madeS H 32 = S0 := ⟨_, rfl⟩
  rw [hS0] at MB MG
  clear hhc hw hru hS0 hN
  go_enter Try.func11, Try.ntmps11
  go_wp2_with fail
  refine (hworks_calls _).mono ?_
  rintro e w1 ⟨rfl, hb1⟩
  have HX1 := blk_below hbx hb1
  have B1' := Ba.trans (hb1.mono Ba.size)
  have BB1 := Aside0.mk B1'
  clear hbx Ba hb1 B1'
  go_wp2_with (first | (refine wpList_load75 rfl _ rfl w.heap.size hc rfl HX1 h34 ?_))
  refine (MB.out w1 BB1.out).mono ?_
  rintro e w2 ⟨p1, B1, R1, rs1, ro1, rfl, hH1, hF1, hb2⟩
  have HX2 := blk_below HX1 hb2
  have BB2 := Aside0.mk (BB1.out.trans (hb2.mono BB1.out.size))
  have hal1 := heap_alloc_last w2 (.cells zC 80)
  have n2 : w.heap.size ≠ w2.heap.size := Nat.ne_of_lt (blk_lt HX2)
  have HX2' := (setRow_other (w2.alloc (.cells zC 80)) w2.heap.size w.heap.size R1 n2).trans (blk_alloc HX2 (.cells zC 80))
  have bn1 : Below w2.heap.size w2 ((w2.alloc (.cells zC 80)).setRow w2.heap.size R1) := below_setRow (below_alloc (Below.refl _ _) _) (Nat.le_refl _) R1
  have H1 := Aside0.mk hH1
  have F1 := Aside0.mk hF1
  clear hH1 hF1
  clear HX1 hb2
  go_wp2_with (first | (refine wpList_alloc80 rfl rfl ?_) | (refine wpList_store80 rfl _ _ rfl w2.heap.size R1 zC rfl rfl hal1 rs1 zs ro1 ?_) | (refine wpList_load75 rfl _ rfl w.heap.size hc rfl HX2' h34 ?_))
  have BX2 := Aside0.mk (BB2.out.trans (bn1.mono BB2.out.size))
  replace H1 := Aside0.mk (H1.out.below bn1)
  clear bn1 hal1 HX2 BB2
  generalize (w2.alloc (.cells zC 80)).setRow w2.heap.size R1 = x2 at *
  refine (MB.out x2 BX2.out).mono ?_
  rintro e w3 ⟨p2, B2, R2, rs2, ro2, rfl, hH2, hF2, hb3⟩
  have HX3 := blk_below HX2' hb3
  have BB3 := Aside0.mk (BX2.out.trans (hb3.mono BX2.out.size))
  have hal2 := heap_alloc_last w3 (.cells zC 80)
  have n3 : w.heap.size ≠ w3.heap.size := Nat.ne_of_lt (blk_lt HX3)
  have HX3' := (setRow_other (w3.alloc (.cells zC 80)) w3.heap.size w.heap.size R2 n3).trans (blk_alloc HX3 (.cells zC 80))
  have bn2 : Below w3.heap.size w3 ((w3.alloc (.cells zC 80)).setRow w3.heap.size R2) := below_setRow (below_alloc (Below.refl _ _) _) (Nat.le_refl _) R2
  have H2 := Aside0.mk hH2
  have F2 := Aside0.mk hF2
  replace H1 := Aside0.mk (H1.out.below hb3)
  clear hH2 hF2
  clear HX2' hb3
  go_wp2_with (first | (refine wpList_alloc80 rfl rfl ?_) | (refine wpList_store80 rfl _ _ rfl w3.heap.size R2 zC rfl rfl hal2 rs2 zs ro2 ?_) | (refine wpList_load75 rfl _ rfl w.heap.size hc rfl HX3' h34 ?_))
  have BX3 := Aside0.mk (BB3.out.trans (bn2.mono BB3.out.size))
  replace H1 := Aside0.mk (H1.out.below bn2)
  replace H2 := Aside0.mk (H2.out.below bn2)
  clear bn2 hal2 HX3 BB3
  generalize (w3.alloc (.cells zC 80)).setRow w3.heap.size R2 = x3 at *
  refine (MB.out x3 BX3.out).mono ?_
  rintro e w4 ⟨p3, B3, R3, rs3, ro3, rfl, hH3, hF3, hb4⟩
  have HX4 := blk_below HX3' hb4
  have BB4 := Aside0.mk (BX3.out.trans (hb4.mono BX3.out.size))
  have hal3 := heap_alloc_last w4 (.cells zC 80)
  have n4 : w.heap.size ≠ w4.heap.size := Nat.ne_of_lt (blk_lt HX4)
  have HX4' := (setRow_other (w4.alloc (.cells zC 80)) w4.heap.size w.heap.size R3 n4).trans (blk_alloc HX4 (.cells zC 80))
  have bn3 : Below w4.heap.size w4 ((w4.alloc (.cells zC 80)).setRow w4.heap.size R3) := below_setRow (below_alloc (Below.refl _ _) _) (Nat.le_refl _) R3
  have H3 := Aside0.mk hH3
  have F3 := Aside0.mk hF3
  replace H1 := Aside0.mk (H1.out.below hb4)
  replace H2 := Aside0.mk (H2.out.below hb4)
  clear hH3 hF3
  clear HX3' hb4
  have hcs : F < 0 ∨ (0 ≤ F ∧ M < 0) ∨ (0 ≤ F ∧ 0 ≤ M ∧ 50 < F) ∨ (0 ≤ F ∧ 0 ≤ M ∧ F ≤ 50 ∧ 50 < M) := by omega
  clear hout
  rcases hcs with f1 | ⟨f1, f2⟩ | ⟨f1, f2, f3⟩ | ⟨f1, f2, f3, f4⟩
  all_goals
    go_wp2_with (first | (refine wpList_alloc80 rfl rfl ?_) | (refine wpList_store80 rfl _ _ rfl w4.heap.size R3 zC rfl rfl hal3 rs3 zs ro3 ?_))
    exact bodyPost_ret (v := .bool true) (by simp [results, Try.results11, go_sem]) rfl ⟨rfl, BB4.out.trans (bn3.mono BB4.out.size)⟩
theorem reg_zero {S : HartS} (h : GoodH S) : S.reg 0 = 0 := by
  unfold HartS.reg
  rw [if_pos (by decide)]
  exact h.zero
set_option maxHeartbeats 8000000 in
set_option maxRecDepth 100000 in
theorem goes_good {w : World} {wv : Value} {H : HowS} (hw : WordsAt w wv H.ws) (hr : H.regs.length = 32) (hok : HowOk H) (hru : ∀ x ∈ H.regs, U64 x) (F M : Int) (f0 : 0 ≤ F) (f1 : F ≤ 50) (m0 : 0 ≤ M) (m1 : M ≤ 50) :
    Calls Try.prog 11 #[.agg (howC wv H), .int .i64 F, .int .i64 M] w fun e w' => e = .returned (.bool true) ∧ Below w.heap.size w w' := by
  have h34 := howC_size wv hr
  obtain ⟨wa, cap, rfl⟩ := hw.form
  obtain ⟨hc, hhc⟩ : ∃ hc, howC (.slice wa H.ws.length cap) H = hc := ⟨_, rfl⟩
  have MB := Aside0.mk (fun (w9 : World) (hb9 : Below w.heap.size w w9) => made_good' (hw.below hb9) hok hr hhc)
  rw [hhc] at h34 ⊢
  have hbx := heap_alloc_last w (.cells hc 75)
  have Ba := below_alloc (Below.refl w.heap.size w) (.cells hc 75)
  have zs : zC.size = 34 := stC_size _ _ (by simp)
  have zo : zC.all (·.oneCell') = true := by kernel_rfl
  have A0' := Aside0.mk (show hc[0]? = some (.slice wa H.ws.length cap) by rw [← hhc]; rfl)
  have MG := Aside0.mk (madeS_good hok hru)
  obtain ⟨N, hN⟩ : ∃ N, H.ws.length = N := ⟨_, rfl⟩
  obtain ⟨k1, k2, _, _⟩ := hok
  rw [hN] at A0' k1 k2
  obtain ⟨S0, hS0⟩ : ∃ S0, madeS H 32 = S0 := ⟨_, rfl⟩
  rw [hS0] at MB MG
  clear hhc hw hru hS0 hN
  go_enter Try.func11, Try.ntmps11
  go_wp2_with fail
  refine (hworks_calls _).mono ?_
  rintro e w1 ⟨rfl, hb1⟩
  have HX1 := blk_below hbx hb1
  have B1' := Ba.trans (hb1.mono Ba.size)
  have BB1 := Aside0.mk B1'
  have s1 := Aside0.mk B1'.size
  clear hbx Ba hb1 B1'
  go_wp2_with (first | (refine wpList_load75 rfl _ rfl w.heap.size hc rfl HX1 h34 ?_))
  refine (MB.out w1 BB1.out).mono ?_
  rintro e w2 ⟨p1, B1, R1, rs1, ro1, rfl, hH1, hF1, hb2⟩
  have HX2 := blk_below HX1 hb2
  have BB2 := Aside0.mk (BB1.out.trans (hb2.mono BB1.out.size))
  have hal1 := heap_alloc_last w2 (.cells zC 80)
  have n2 : w.heap.size ≠ w2.heap.size := Nat.ne_of_lt (blk_lt HX2)
  have HX2' := (setRow_other (w2.alloc (.cells zC 80)) w2.heap.size w.heap.size R1 n2).trans (blk_alloc HX2 (.cells zC 80))
  have bn1 : Below w2.heap.size w2 ((w2.alloc (.cells zC 80)).setRow w2.heap.size R1) := below_setRow (below_alloc (Below.refl _ _) _) (Nat.le_refl _) R1
  have H1 := Aside0.mk hH1
  have F1 := Aside0.mk hF1
  clear hH1 hF1
  clear HX1 hb2
  go_wp2_with (first | (refine wpList_alloc80 rfl rfl ?_) | (refine wpList_store80 rfl _ _ rfl w2.heap.size R1 zC rfl rfl hal1 rs1 zs ro1 ?_) | (refine wpList_load75 rfl _ rfl w.heap.size hc rfl HX2' h34 ?_))
  have BX2 := Aside0.mk (BB2.out.trans (bn1.mono BB2.out.size))
  replace H1 := Aside0.mk (H1.out.below bn1)
  clear bn1 hal1 HX2 BB2
  generalize (w2.alloc (.cells zC 80)).setRow w2.heap.size R1 = x2 at *
  have L12 := Aside0.mk H1.out.hf_lt
  refine (MB.out x2 BX2.out).mono ?_
  rintro e w3 ⟨p2, B2, R2, rs2, ro2, rfl, hH2, hF2, hb3⟩
  have HX3 := blk_below HX2' hb3
  have BB3 := Aside0.mk (BX2.out.trans (hb3.mono BX2.out.size))
  have hal2 := heap_alloc_last w3 (.cells zC 80)
  have n3 : w.heap.size ≠ w3.heap.size := Nat.ne_of_lt (blk_lt HX3)
  have HX3' := (setRow_other (w3.alloc (.cells zC 80)) w3.heap.size w.heap.size R2 n3).trans (blk_alloc HX3 (.cells zC 80))
  have bn2 : Below w3.heap.size w3 ((w3.alloc (.cells zC 80)).setRow w3.heap.size R2) := below_setRow (below_alloc (Below.refl _ _) _) (Nat.le_refl _) R2
  have H2 := Aside0.mk hH2
  have F2 := Aside0.mk hF2
  replace H1 := Aside0.mk (H1.out.below hb3)
  clear hH2 hF2
  clear HX2' hb3
  go_wp2_with (first | (refine wpList_alloc80 rfl rfl ?_) | (refine wpList_store80 rfl _ _ rfl w3.heap.size R2 zC rfl rfl hal2 rs2 zs ro2 ?_) | (refine wpList_load75 rfl _ rfl w.heap.size hc rfl HX3' h34 ?_))
  have BX3 := Aside0.mk (BB3.out.trans (bn2.mono BB3.out.size))
  replace H1 := Aside0.mk (H1.out.below bn2)
  replace H2 := Aside0.mk (H2.out.below bn2)
  clear bn2 hal2 HX3 BB3
  generalize (w3.alloc (.cells zC 80)).setRow w3.heap.size R2 = x3 at *
  have L13 := Aside0.mk H1.out.hf_lt
  have L23 := Aside0.mk H2.out.hf_lt
  refine (MB.out x3 BX3.out).mono ?_
  rintro e w4 ⟨p3, B3, R3, rs3, ro3, rfl, hH3, hF3, hb4⟩
  have HX4 := blk_below HX3' hb4
  have BB4 := Aside0.mk (BX3.out.trans (hb4.mono BX3.out.size))
  have hal3 := heap_alloc_last w4 (.cells zC 80)
  have n4 : w.heap.size ≠ w4.heap.size := Nat.ne_of_lt (blk_lt HX4)
  have HX4' := (setRow_other (w4.alloc (.cells zC 80)) w4.heap.size w.heap.size R3 n4).trans (blk_alloc HX4 (.cells zC 80))
  have bn3 : Below w4.heap.size w4 ((w4.alloc (.cells zC 80)).setRow w4.heap.size R3) := below_setRow (below_alloc (Below.refl _ _) _) (Nat.le_refl _) R3
  have H3 := Aside0.mk hH3
  have F3 := Aside0.mk hF3
  replace H1 := Aside0.mk (H1.out.below hb4)
  replace H2 := Aside0.mk (H2.out.below hb4)
  clear hH3 hF3
  clear HX3' hb4
  have c0 := (blk_cell HX4' 0).trans A0'.out
  have zx := blk_lt HX4'
  have e1 : ¬ (F < 0) := by omega
  have e2 : ¬ (M < 0) := by omega
  have e3 : ¬ (50 < F) := by omega
  have e4 : ¬ (50 < M) := by omega
  have u1 : IntKind.u64.wrap (4096 + 4 * (N : Int)) = 4096 + 4 * (N : Int) := by rw [IntKind.wrap_u64]; omega
  go_wp2_with (first | (refine wpList_alloc80 rfl rfl ?_) | (refine wpList_store80 rfl _ _ rfl w4.heap.size R3 zC rfl rfl hal3 rs3 zs ro3 ?_))
  have BX4 := Aside0.mk (BB4.out.trans (bn3.mono BB4.out.size))
  replace H1 := Aside0.mk (H1.out.below bn3)
  replace H2 := Aside0.mk (H2.out.below bn3)
  replace H3 := Aside0.mk (H3.out.below bn3)
  clear bn3 hal3 HX4 BB4
  generalize (w4.alloc (.cells zC 80)).setRow w4.heap.size R3 = x4 at *
  have D12 := Aside0.mk (show ∀ t, HF p2 B2 t → ¬ HF p1 B1 t from fun t h2 h1 => by have := L12.out t h1; have := F2.out t h2; omega)
  have D13 := Aside0.mk (show ∀ t, HF p3 B3 t → ¬ HF p1 B1 t from fun t h2 h1 => by have := L13.out t h1; have := F3.out t h2; omega)
  have D23 := Aside0.mk (show ∀ t, HF p3 B3 t → ¬ HF p2 B2 t from fun t h2 h1 => by have := L23.out t h1; have := F3.out t h2; omega)
  have D21 := Aside0.mk (show ∀ t, HF p1 B1 t → ¬ HF p2 B2 t from fun t h1 h2 => D12.out t h2 h1)
  have D31 := Aside0.mk (show ∀ t, HF p1 B1 t → ¬ HF p3 B3 t from fun t h1 h2 => D13.out t h2 h1)
  have D32 := Aside0.mk (show ∀ t, HF p2 B2 t → ¬ HF p3 B3 t from fun t h1 h2 => D23.out t h2 h1)
  have G1 := Aside0.mk (show ∀ t, HF p1 B1 t → w.heap.size ≤ t from fun t h => Nat.le_trans s1.out (F1.out t h))
  have G2 := Aside0.mk (show ∀ t, HF p2 B2 t → w.heap.size ≤ t from fun t h => Nat.le_trans BX2.out.size (F2.out t h))
  have G3 := Aside0.mk (show ∀ t, HF p3 B3 t → w.heap.size ≤ t from fun t h => Nat.le_trans BX3.out.size (F3.out t h))
  clear F1 F2 F3 L12 L13 L23 s1 MB A0'
  obtain ⟨f, rfl⟩ := Int.eq_ofNat_of_zero_le f0
  obtain ⟨m, rfl⟩ := Int.eq_ofNat_of_zero_le m0
  obtain ⟨ST, hST⟩ : ∃ ST, 4096 + 4 * (N : Int) = ST := ⟨_, rfl⟩
  rw [hST]
  obtain ⟨⟨SB, NB, EB⟩, hRB⟩ : ∃ r, runF ST (f + m) 0 S0 = r := ⟨_, rfl⟩
  obtain ⟨⟨S1, n1, e1'⟩, hRA⟩ : ∃ r, runF ST f 0 S0 = r := ⟨_, rfl⟩
  have hsp := run_split ST f m 0 S0
  have hc1 := (run_count ST f 0 S0).2
  have hcB := (run_count ST (f + m) 0 S0).2
  have hend := run_end ST (f + m) 0 S0
  rw [hRB, hRA] at hsp
  rw [hRA] at hc1
  rw [hRB] at hcB hend
  simp only at hsp hc1 hcB hend
  have RC := Run_calls H1.out MG.out ST (f : Int) (by omega) (by decide)
  rw [Int.toNat_natCast, hRA] at RC
  have RC := Aside0.mk RC
  have HRB := Aside0.mk hRB
  have HSP := Aside0.mk hsp
  have HEND := Aside0.mk hend
  clear hST hRB hRA hsp hend zx c0
  go_wp2_with fail
  refine RC.out.mono ?_
  rintro e w5 ⟨rfl, ⟨k5, hk5, h5⟩, g5, kp5⟩
  have H2b := H1.out.keepOther H2.out D12.out kp5
  have H3b := H1.out.keepOther H3.out D13.out kp5
  have B5 := BX4.out.trans (kp5.below BX4.out.size G1.out)
  have HA := Aside0.mk (And.intro h5 (And.intro g5 (And.intro hk5 (And.intro H2b (And.intro H3b B5)))))
  clear h5 g5 hk5 kp5 H2b H3b B5 RC H1 H2 H3 BX2 BX3 BX4
  refine Or.elim (Classical.em (e1' = 280)) (fun he => ?_) (fun he => ?_)
  subst he
  obtain ⟨h5, g5, hk5, H2b, H3b, B5⟩ := HA.out
  obtain ⟨⟨S2, n2, e2'⟩, hR2⟩ : ∃ r, runF ST m 0 S1 = r := ⟨_, rfl⟩
  have hs2 := HSP.out
  rw [if_pos rfl] at hs2
  have hsh := run_shift ST m 0 n1 S1
  rw [Nat.zero_add, hR2] at hsh
  rw [hsh] at hs2
  simp only [Prod.mk.injEq] at hs2
  obtain ⟨q1, q2, q3⟩ := hs2
  subst q1
  subst q3
  have hc2 := (run_count ST m 0 S1).2
  rw [hR2] at hc2
  simp only at hc2
  have RC := Run_calls h5 g5 ST (m : Int) (by omega) (by omega)
  rw [Int.toNat_natCast, hR2] at RC
  have RC := Aside0.mk RC
  have hNN : (n1 : Int) + (n2 : Int) = (NB : Int) := by omega
  clear h5 g5 hk5 H2b H3b B5 hR2 hsh HSP
  go_wp2_with fail
  refine RC.out.mono ?_
  rintro e w6 ⟨rfl, ⟨k6, hk6, h6⟩, g6, kp6⟩
  obtain ⟨h5, g5, hk5, H2b, H3b, B5⟩ := HA.out
  have H2c := h5.keepOther H2b D12.out kp6
  have H3c := h5.keepOther H3b D13.out kp6
  have B6 := Aside0.mk (B5.trans (kp6.below B5.size G1.out))
  have HC := Aside0.mk (And.intro h6 (And.intro H2c H3c))
  clear h6 g6 hk6 kp6 H2c H3c B5 RC h5 g5 hk5 H2b H3b HA
  go_wp2_with fail
  rotate_left
  obtain ⟨h5, g5, hk5, H2b, H3b, B5⟩ := HA.out
  have hs2 := HSP.out
  rw [if_neg he] at hs2
  simp only [Prod.mk.injEq] at hs2
  obtain ⟨q1, q2, q3⟩ := hs2
  subst q1
  subst q2
  subst q3
  have B6 := Aside0.mk B5
  have HC := Aside0.mk (And.intro h5 (And.intro H2b H3b))
  clear h5 g5 hk5 H2b H3b B5 HSP HA
  go_wp2_with fail
  all_goals
    obtain ⟨h1, h2, h3⟩ := HC.out
    have RC := Run_calls h2 MG.out ST ((f + m : Nat) : Int) (by omega) (by decide)
    rw [Int.toNat_natCast, HRB.out, show ((f + m : Nat) : Int) = (f : Int) + (m : Int) by omega] at RC
    refine RC.mono ?_
    rintro e w7 ⟨rfl, ⟨k7, hk7, h7⟩, g7, kp7⟩
    have h1b := h2.keepOther h1 D21.out kp7
    have h3b := h2.keepOther h3 D23.out kp7
    have B7 := Aside0.mk (B6.out.trans (kp7.below B6.out.size G2.out))
    have HD := Aside0.mk (And.intro h1b (And.intro h7 h3b))
    have GSB := Aside0.mk g7
    clear h1 h2 h3 h1b h3b h7 hk7 kp7 RC HC B6 g7
    go_wp2_with fail
    go_loopw [23, 24] (fun v23 v24 wr => ∃ (s mm : Nat) (g : Int) (Sc : HartS), v23 = .int .i64 s ∧ v24 = .int .i64 g ∧ s ≤ f + m ∧ Aside0 ((∃ ka, HartIs wr p1 B1 ka SB) ∧ (∃ kb, HartIs wr p2 B2 kb SB) ∧ HartIs wr p3 B3 mm Sc ∧ GoodH Sc ∧ mm ≤ s + 1 ∧ (g = 0 → mm ≤ s) ∧ Below w.heap.size w wr ∧ ((g = 0 ∧ runF ST (f + m - s) s Sc = (SB, NB, EB)) ∨ (g ≠ 0 ∧ (Sc, s, g) = (SB, NB, EB))))) (fun v23 v24 _ => if intOf v24 = 0 then (f + m + 1) - (intOf v23).toNat else 0)
    case atStart => exact ⟨0, 0, 0, S0, rfl, rfl, by omega, ⟨⟨_, HD.out.1⟩, ⟨_, HD.out.2.1⟩, HD.out.2.2, MG.out, by omega, fun _ => by omega, B7.out, .inl ⟨rfl, HRB.out⟩⟩⟩
    case round =>
      obtain ⟨s, mm, g, Sc, rfl, rfl, hs, hx⟩ := hrel
      obtain ⟨⟨ka, x1⟩, ⟨kb, x2⟩, x3, xG, xm, xm0, xB, xr⟩ := hx.out
      by_cases hg : g = 0
      · subst hg
        have hr : runF ST (f + m - s) s Sc = (SB, NB, EB) := by
          rcases xr with h | h
          · exact h.2
          · exact absurd rfl h.1
        have PCC := PC_calls x3
        obtain ⟨PCv, hPC⟩ : ∃ v, Sc.pc = v := ⟨_, rfl⟩
        rw [hPC] at PCC
        have PCC := Aside0.mk PCC
        have X1 := Aside0.mk x1
        have X2 := Aside0.mk x2
        have X3 := Aside0.mk x3
        have XB := Aside0.mk xB
        have XM := Aside0.mk (xm0 rfl)
        have XG := Aside0.mk xG
        have HR := Aside0.mk hr
        have HPC := Aside0.mk hPC
        clear x1 x2 x3 xB xm xm0 xG xr hr hPC hx
        go_wp2_with fail
        refine PCC.out.mono ?_
        rintro e w8 ⟨rfl, rfl⟩
        by_cases hst : PCv = ST
        · have q := HR.out
          have HPZ := Aside0.mk (show Sc.pc = ST from HPC.out.trans hst)
          rw [runF_stop (by rw [HPC.out, hst])] at q
          simp only [Prod.mk.injEq] at q
          obtain ⟨q1, q2, q3⟩ := q
          subst q1
          subst q2
          subst q3
          have HXX := Aside0.mk (And.intro X1.out (And.intro X2.out (And.intro X3.out XB.out)))
          clear HR PCC X1 X2 X3 XB XM HPC HD B7
          go_wp2_with fail
          obtain ⟨z1, z2, z3, zB⟩ := HXX.out
          have P1 := Aside0.mk (PC_calls z1)
          have P2 := Aside0.mk (PC_calls z2)
          have P3 := Aside0.mk (PC_calls z3)
          have Q1 := Aside0.mk (fun i => Reg_calls z1 i)
          have Q2 := Aside0.mk (fun i => Reg_calls z2 i)
          have Q3 := Aside0.mk (fun i => Reg_calls z3 i)
          have ZB := Aside0.mk zB
          have Z0 := Aside0.mk (reg_zero GSB.out)
          clear z1 z2 z3 zB HXX GSB
          refine P1.out.mono ?_
          rintro e y1 ⟨rfl, rfl⟩
          go_wp2_with fail
          refine P2.out.mono ?_
          rintro e y2 ⟨rfl, rfl⟩
          go_wp2_with fail
          refine P1.out.mono ?_
          rintro e y3 ⟨rfl, rfl⟩
          go_wp2_with fail
          refine P3.out.mono ?_
          rintro e y4 ⟨rfl, rfl⟩
          go_wp2_with fail
          go_loopw [25, 162] (fun _ v162 wq => ∃ i : Nat, i ≤ 32 ∧ v162 = .int .i64 i ∧ wq = y4) (fun _ v162 _ => 32 - (intOf v162).toNat)
          case atStart => exact ⟨0, by omega, rfl, rfl⟩
          case round =>
            obtain ⟨i, hi, rfl, hwq⟩ := hrel
            subst hwq
            by_cases hlt : i < 32
            · go_wp2_with fail
              refine (Q1.out _).mono ?_
              rintro e t1 ⟨rfl, rfl⟩
              go_wp2_with fail
              refine (Q2.out _).mono ?_
              rintro e t2 ⟨rfl, rfl⟩
              go_wp2_with fail
              refine (Q1.out _).mono ?_
              rintro e t3 ⟨rfl, rfl⟩
              go_wp2_with fail
              refine (Q3.out _).mono ?_
              rintro e t4 ⟨rfl, rfl⟩
              go_wp2
              go_roundw
              case rel => first | exact ⟨i + 1, by omega, by go_num, rfl⟩ | exact ⟨i + 1, by omega, by go_num, trivial⟩
              case measure => simp [intOf]; omega
            · obtain rfl : i = 32 := by omega
              rw [show ((32 : Nat) : Int) = 32 from rfl]
              have R0 := Q1.out 0
              rw [Z0.out] at R0
              have R0 := Aside0.mk R0
              go_wp2_with fail
              refine R0.out.mono ?_
              rintro e t1 ⟨rfl, rfl⟩
              have PP := P1.out
              rw [HPZ.out] at PP
              have PP := Aside0.mk PP
              go_wp2_with fail
              refine PP.out.mono ?_
              rintro e t2 ⟨rfl, rfl⟩
              go_wp2
              go_ret
              exact ⟨by simp, ZB.out⟩
        · by_cases hf : s < f + m
          · have hfi : (s : Int) < (f : Int) + (m : Int) := by omega
            have hst' : ¬ Sc.pc = ST := by rw [HPC.out]; exact hst
            obtain ⟨k', hk'⟩ : ∃ k', f + m - s = k' + 1 := ⟨f + m - s - 1, by omega⟩
            have SC := Aside0.mk (Step_calls X3.out XG.out (show mm < maxLen by have := XM.out; unfold maxLen; omega))
            have HST := Aside0.mk hst'
            clear PCC hst'
            go_wp2_with fail
            refine SC.out.mono ?_
            rintro e w9 ⟨rfl, ⟨m9, hm9, h9⟩, k9⟩
            have y1 := X3.out.keepOther X1.out D31.out k9
            have y2 := X3.out.keepOther X2.out D32.out k9
            have yB := XB.out.trans (k9.below XB.out.size G3.out)
            have YG := Aside0.mk (stepF_good XG.out)
            have Y := Aside0.mk (And.intro y1 (And.intro y2 (And.intro h9 yB)))
            have HM9 := Aside0.mk hm9
            clear y1 y2 h9 yB k9 SC X1 X2 X3 XB HD B7 hm9
            obtain ⟨E, hE⟩ : ∃ E, (stepF Sc).2 = E := ⟨_, rfl⟩
            rw [hE]
            have q := HR.out
            rw [hk'] at q
            by_cases h0 : E = 0
            · subst h0
              rw [runF_step HST.out hE] at q
              have Q := Aside0.mk q
              clear q hE HR
              go_wp2
              go_roundw
              case rel => exact ⟨s + 1, m9, 0, (stepF Sc).1, by go_num, rfl, by omega, ⟨⟨ka, Y.out.1⟩, ⟨kb, Y.out.2.1⟩, Y.out.2.2.1, YG.out, by have := HM9.out; have := XM.out; omega, fun _ => by have := HM9.out; have := XM.out; omega, Y.out.2.2.2, .inl ⟨rfl, by rw [show f + m - (s + 1) = k' by omega]; exact Q.out⟩⟩⟩
              case measure => simp [intOf]; omega
            · rw [runF_err HST.out (by rw [hE]; exact h0), hE] at q
              have Q := Aside0.mk q
              have h0b : (E == 0) = false := beq_eq_false_iff_ne.2 h0
              clear q hE HR
              go_wp2
              go_roundw
              case rel => exact ⟨s, m9, E, (stepF Sc).1, rfl, rfl, by omega, ⟨⟨ka, Y.out.1⟩, ⟨kb, Y.out.2.1⟩, Y.out.2.2.1, YG.out, by have := HM9.out; have := XM.out; omega, fun e => absurd e h0, Y.out.2.2.2, .inr ⟨h0, Q.out⟩⟩⟩
              case measure => first | (simp [intOf, h0]; done) | (simp [intOf, h0]; omega)
          · have q := HR.out
            have HPZ := Aside0.mk (show ¬ Sc.pc = ST by rw [HPC.out]; exact hst)
            rw [show f + m - s = 0 by omega, runF_fuel (by rw [HPC.out]; exact hst)] at q
            simp only [Prod.mk.injEq] at q
            obtain ⟨q1, q2, q3⟩ := q
            subst q1
            subst q2
            subst q3
            have hfi : ¬ ((s : Int) < (f : Int) + (m : Int)) := by omega
            have HXX := Aside0.mk (And.intro X1.out (And.intro X2.out (And.intro X3.out XB.out)))
            clear HR PCC X1 X2 X3 XB XM HPC HD B7
            first | exact absurd rfl he | skip
            all_goals
              go_wp2_with fail
              obtain ⟨z1, z2, z3, zB⟩ := HXX.out
              have P1 := Aside0.mk (PC_calls z1)
              have P2 := Aside0.mk (PC_calls z2)
              have P3 := Aside0.mk (PC_calls z3)
              have Q1 := Aside0.mk (fun i => Reg_calls z1 i)
              have Q2 := Aside0.mk (fun i => Reg_calls z2 i)
              have Q3 := Aside0.mk (fun i => Reg_calls z3 i)
              have ZB := Aside0.mk zB
              have Z0 := Aside0.mk (reg_zero GSB.out)
              clear z1 z2 z3 zB HXX GSB
              refine P1.out.mono ?_
              rintro e y1 ⟨rfl, rfl⟩
              go_wp2_with fail
              refine P2.out.mono ?_
              rintro e y2 ⟨rfl, rfl⟩
              go_wp2_with fail
              refine P1.out.mono ?_
              rintro e y3 ⟨rfl, rfl⟩
              go_wp2_with fail
              refine P3.out.mono ?_
              rintro e y4 ⟨rfl, rfl⟩
              go_wp2_with fail
              go_loopw [25, 162] (fun _ v162 wq => ∃ i : Nat, i ≤ 32 ∧ v162 = .int .i64 i ∧ wq = y4) (fun _ v162 _ => 32 - (intOf v162).toNat)
              case atStart => exact ⟨0, by omega, rfl, rfl⟩
              case round =>
                obtain ⟨i, hi, rfl, hwq⟩ := hrel
                subst hwq
                by_cases hlt : i < 32
                · go_wp2_with fail
                  refine (Q1.out _).mono ?_
                  rintro e t1 ⟨rfl, rfl⟩
                  go_wp2_with fail
                  refine (Q2.out _).mono ?_
                  rintro e t2 ⟨rfl, rfl⟩
                  go_wp2_with fail
                  refine (Q1.out _).mono ?_
                  rintro e t3 ⟨rfl, rfl⟩
                  go_wp2_with fail
                  refine (Q3.out _).mono ?_
                  rintro e t4 ⟨rfl, rfl⟩
                  go_wp2
                  go_roundw
                  case rel => first | exact ⟨i + 1, by omega, by go_num, rfl⟩ | exact ⟨i + 1, by omega, by go_num, trivial⟩
                  case measure => simp [intOf]; omega
                · obtain rfl : i = 32 := by omega
                  rw [show ((32 : Nat) : Int) = 32 from rfl]
                  have R0 := Q1.out 0
                  rw [Z0.out] at R0
                  have R0 := Aside0.mk R0
                  go_wp2_with fail
                  refine R0.out.mono ?_
                  rintro e t1 ⟨rfl, rfl⟩
                  have PP := P1.out
                  obtain ⟨PV, hPV⟩ : ∃ v, Sc.pc = v := ⟨_, rfl⟩
                  have hp : (PV == ST) = false := beq_eq_false_iff_ne.2 fun h => HPZ.out (hPV.trans h)
                  rw [hPV] at PP
                  have PP := Aside0.mk PP
                  clear hPV
                  go_wp2_with fail
                  refine PP.out.mono ?_
                  rintro e t2 ⟨rfl, rfl⟩
                  go_wp2
                  go_ret
                  exact ⟨by simp, ZB.out⟩
      · have q : (Sc, s, g) = (SB, NB, EB) := by
          rcases xr with h | h
          · exact absurd h.1 hg
          · exact h.2
        simp only [Prod.mk.injEq] at q
        obtain ⟨q1, q2, q3⟩ := q
        have HPZ := Aside0.mk (show ¬ Sc.pc = ST from fun h => hg (by rw [q3]; exact HEND.out.2 (by rw [← q1]; exact h)))
        subst q1
        subst q2
        subst q3
        have hgb : (g == 0) = false := beq_eq_false_iff_ne.2 hg
        have HXX := Aside0.mk (And.intro x1 (And.intro x2 (And.intro x3 xB)))
        clear x1 x2 x3 xB xm xm0 xG xr HD B7 hx
        go_wp2_with fail
        obtain ⟨z1, z2, z3, zB⟩ := HXX.out
        have P1 := Aside0.mk (PC_calls z1)
        have P2 := Aside0.mk (PC_calls z2)
        have P3 := Aside0.mk (PC_calls z3)
        have Q1 := Aside0.mk (fun i => Reg_calls z1 i)
        have Q2 := Aside0.mk (fun i => Reg_calls z2 i)
        have Q3 := Aside0.mk (fun i => Reg_calls z3 i)
        have ZB := Aside0.mk zB
        have Z0 := Aside0.mk (reg_zero GSB.out)
        clear z1 z2 z3 zB HXX GSB
        refine P1.out.mono ?_
        rintro e y1 ⟨rfl, rfl⟩
        go_wp2_with fail
        refine P2.out.mono ?_
        rintro e y2 ⟨rfl, rfl⟩
        go_wp2_with fail
        refine P1.out.mono ?_
        rintro e y3 ⟨rfl, rfl⟩
        go_wp2_with fail
        refine P3.out.mono ?_
        rintro e y4 ⟨rfl, rfl⟩
        go_wp2_with fail
        go_loopw [25, 162] (fun _ v162 wq => ∃ i : Nat, i ≤ 32 ∧ v162 = .int .i64 i ∧ wq = y4) (fun _ v162 _ => 32 - (intOf v162).toNat)
        case atStart => exact ⟨0, by omega, rfl, rfl⟩
        case round =>
          obtain ⟨i, hi, rfl, hwq⟩ := hrel
          subst hwq
          by_cases hlt : i < 32
          · go_wp2_with fail
            refine (Q1.out _).mono ?_
            rintro e t1 ⟨rfl, rfl⟩
            go_wp2_with fail
            refine (Q2.out _).mono ?_
            rintro e t2 ⟨rfl, rfl⟩
            go_wp2_with fail
            refine (Q1.out _).mono ?_
            rintro e t3 ⟨rfl, rfl⟩
            go_wp2_with fail
            refine (Q3.out _).mono ?_
            rintro e t4 ⟨rfl, rfl⟩
            go_wp2
            go_roundw
            case rel => first | exact ⟨i + 1, by omega, by go_num, rfl⟩ | exact ⟨i + 1, by omega, by go_num, trivial⟩
            case measure => simp [intOf]; omega
          · obtain rfl : i = 32 := by omega
            rw [show ((32 : Nat) : Int) = 32 from rfl]
            have R0 := Q1.out 0
            rw [Z0.out] at R0
            have R0 := Aside0.mk R0
            go_wp2_with fail
            refine R0.out.mono ?_
            rintro e t1 ⟨rfl, rfl⟩
            have PP := P1.out
            obtain ⟨PV, hPV⟩ : ∃ v, Sc.pc = v := ⟨_, rfl⟩
            have hp : (PV == ST) = false := beq_eq_false_iff_ne.2 fun h => HPZ.out (hPV.trans h)
            rw [hPV] at PP
            have PP := Aside0.mk PP
            clear hPV
            go_wp2_with fail
            refine PP.out.mono ?_
            rintro e t2 ⟨rfl, rfl⟩
            go_wp2
            go_ret
            exact ⟨by simp, ZB.out⟩
theorem goes_walk {w : World} {wv : Value} {H : HowS} (hw : WordsAt w wv H.ws) (hr : H.regs.length = 32) (hru : ∀ x ∈ H.regs, U64 x) (F M : Int) :
    Calls Try.prog 11 #[.agg (howC wv H), .int .i64 F, .int .i64 M] w fun e w' => e = .returned (.bool true) ∧ Below w.heap.size w w' := by
  by_cases hok : HowOk H
  · by_cases hin : 0 ≤ F ∧ F ≤ 50 ∧ 0 ≤ M ∧ M ≤ 50
    · exact goes_good hw hr hok hru F M hin.1 hin.2.1 hin.2.2.1 hin.2.2.2
    · exact goes_out hw hr hok hru F M hin
  · refine goes_bad hw hr ?_ F M
    refine Classical.byContradiction fun h => hok ⟨?_, ?_, ?_, ?_⟩ <;> omega
end Go.Proofs.Ytciehejifdbpoaa.Ht

namespace Go.Proofs.Ytciehejifdbpoaa.Ht
open Go.ChangeShapes Go.WideShapes Go.ChangeAt Go.RowKit

theorem ints_of : ∀ l : List Value, (∀ i, i < l.length → ∃ z, l[i]? = some (.int .u64 z) ∧ U64 z) → ∃ zs : List Int, l = zs.map (Value.int .u64) ∧ ∀ z ∈ zs, U64 z
  | [], _ => ⟨[], rfl, fun z h => by cases h⟩
  | v :: l, h => by
    obtain ⟨z, hz, hu⟩ := h 0 (by simp)
    have hv : v = .int .u64 z := by simpa using hz
    obtain ⟨zs, rfl, hzs⟩ := ints_of l fun i hi => by
      obtain ⟨y, hy, hyu⟩ := h (i + 1) (by simpa using hi)
      exact ⟨y, by simpa using hy, hyu⟩
    exact ⟨z :: zs, by rw [hv]; rfl, fun y hy => by
      rcases List.mem_cons.1 hy with rfl | hy
      · exact hu
      · exact hzs y hy⟩
theorem u64_wf {a : Int} (h : (Lit.int .u64 a).wf = true) : U64 a := by
  have e1 : IntKind.u64.min = 0 := rfl
  have e2 : IntKind.u64.max = 18446744073709551615 := rfl
  simp only [Lit.wf, Bool.and_eq_true, decide_eq_true_eq] at h
  exact ⟨by omega, by omega⟩
theorem u32_wf {a : Int} (h : (Lit.int .u32 a).wf = true) : U32 a := by
  have e1 : IntKind.u32.min = 0 := rfl
  have e2 : IntKind.u32.max = 4294967295 := rfl
  simp only [Lit.wf, Bool.and_eq_true, decide_eq_true_eq] at h
  exact ⟨by omega, by omega⟩
theorem cell_block_lt {w : World} {a : Addr} {v : Value} (h : w.cell? a = some v) : a.block < w.heap.size := by
  unfold World.cell? at h
  by_cases hlt : a.block < w.heap.size
  · exact hlt
  · rw [Array.getElem?_eq_none (by omega)] at h
    simp at h
set_option maxRecDepth 100000 in
/-- A machine that came in, by its cells. -/
theorem open75 {H : Type} {enc : TypeId × Value → H} {w : World} {base b0 : Nat} {spare : Nat → Bool} {held : Bool} {r : Reach} {v : Value} {d : DataW H} {p : List MemPlace}
    (hv : Value.okWide Try.prog w r b0 75 v) (h : DataW.Trod enc Try.prog w base spare held 75 v d p) :
    ∃ (wv : Value) (X : HowS), v = .agg (howC wv X) ∧ WordsAt w wv X.ws ∧ X.regs.length = 32 ∧ ∀ x ∈ X.regs, U64 x := by
  obtain ⟨⟨l⟩, rfl, hsz⟩ := okWide_struct Try.underlying75 hv
  have c75 : Try.prog.cellsOf 75 = 34 := by kernel_rfl
  have c72 : Try.prog.cellsOf 72 = 1 := by kernel_rfl
  have c9 : Try.prog.cellsOf 9 = 1 := by kernel_rfl
  have c73 : Try.prog.cellsOf 73 = 32 := by kernel_rfl
  have c22 : Try.prog.cellsOf 22 = 1 := by kernel_rfl
  have c65 : Try.prog.cellsOf 65 = 1 := by kernel_rfl
  have hl : l.length = 34 := by simpa using hsz.trans c75
  obtain ⟨fuel, hf⟩ := h
  obtain ⟨xs, n, _, _, _, hxl, hg⟩ := DataW.trod_struct Try.underlying75 hf
  have q : ∀ j, j < 3 → ∃ x, xs[j]? = some x := fun j hj => ⟨xs[j]'(by rw [hxl]; exact hj), by simp⟩
  obtain ⟨x0, e0⟩ := q 0 (by decide)
  obtain ⟨x1, e1⟩ := q 1 (by decide)
  obtain ⟨x2, e2⟩ := q 2 (by decide)
  have g0 := (hg 0 _ rfl).trans e0
  have g1 := (hg 1 _ rfl).trans e1
  have g2 := (hg 2 _ rfl).trans e2
  obtain ⟨s, z1, _, _⟩ := DataW.trod_string (by kernel_rfl) g1
  obtain ⟨ys, m, _, _, _, hyl, hy⟩ := DataW.trod_array (n := 32) (e := 65) (by kernel_rfl) g2
  match l, hl with
  | v0 :: v1 :: rs, hl =>
    have hrs : rs.length = 32 := by simpa using hl
    simp [Value.cells, c9] at z1
    obtain ⟨zs, hzs, hzu⟩ := ints_of rs fun i hi => by
      obtain ⟨y, ey⟩ : ∃ y, ys[i]? = some y := ⟨ys[i]'(by rw [hyl]; omega), by simp⟩
      have gi := (hy i (by omega)).trans ey
      obtain ⟨z, hz, _, hw⟩ := DataW.trod_int (k := .u64) (by kernel_rfl) gi
      simp [Value.cells, c73, c65] at hz
      refine ⟨z, ?_, u64_wf hw⟩
      have h0 := congrArg (fun k => k[0]?) hz
      simpa [List.getElem?_take, hi, show i < 32 by omega] using h0
    subst hzs
    have hzl : zs.length = 32 := by simpa using hrs
    subst z1
    have g0' := g0
    simp [Value.cells, c72] at g0'
    rcases Go.ChangeShapes.open_ints (k := .u32) (e := 22) (by kernel_rfl) (by kernel_rfl) c22 g0' with ⟨hcs, _⟩ | ⟨a, len, cap, ws, hcs, _, hle, hmax, hall, _, cell, wf⟩
    · have hv0 : v0 = .slice none 0 0 := by simpa using hcs
      subst hv0
      exact ⟨_, ⟨[], s, zs⟩, rfl, ⟨⟨none, 0, rfl⟩, fun h => absurd h (by simp), fun h => absurd h (by simp), fun x h => by cases h⟩, hzl, hzu⟩
    · have hv0 : v0 = .slice (some a) len cap := by simpa using hcs
      subst hv0
      have hlen : len ≤ ws.length := by rw [hall]; split <;> omega
      have htl : (ws.take len).length = len := by rw [List.length_take]; omega
      refine ⟨_, ⟨ws.take len, s, zs⟩, rfl, ⟨⟨some a, cap, by simp only [htl]⟩, fun h0 b c e => ?_, fun _ => ⟨a, cap, by simp only [htl]⟩, fun x hx => u32_wf (wf x (List.mem_of_mem_take hx))⟩, hzl, hzu⟩
      simp only [htl] at h0 e ⊢
      have e' : a = b := by
        simp only [Value.slice.injEq, Option.some.injEq] at e
        exact e.1
      subst e'
      obtain ⟨b', off, rfl, hc⟩ := ints_at cell (by omega)
      refine ⟨rfl, ?_, fun i hi => ?_⟩
      · exact cell_block_lt (hc 0 (by omega))
      · rw [hc i (by omega)]
        simp [List.getD_eq_getElem?_getD, List.getElem?_take, hi]
end Go.Proofs.Ytciehejifdbpoaa.Ht
