import Derived.Test.YtciehejifdbpoaaRvA
import Derived.Test.YtciehejifdbpoaaGrow
namespace Go.Proofs.Ytciehejifdbpoaa.Rv
open Go.RowKit Go.Proofs.Ytciehejifdbpoaa.Grow
open Go.Proofs.YtciehejifdbpoaaW.PrintWords Go.Proofs.YtciehejifdbpoaaW.PrintLast Go.Proofs.YtciehejifdbpoaaW.PrintMore
open Go.Proofs.Ytciehejifdbpoaa.PRvcodeDecodes

def NoM (x : Int) (k : Nat) : Prop := ∀ j, j < k → Go.bits .and .u32 x (ownI (kd j).2.1) ≠ (kd j).2.2
theorem fld0 : ∀ (a b c : Value) (w : World), (Instr.field 107 (.agg #[a, b, c]) 0).run Try.prog w = .ok a w := fun _ _ _ _ => by kernel_rfl
theorem fld1 : ∀ (a b c : Value) (w : World), (Instr.field 107 (.agg #[a, b, c]) 1).run Try.prog w = .ok b w := fun _ _ _ _ => by kernel_rfl
theorem fld2 : ∀ (a b c : Value) (w : World), (Instr.field 107 (.agg #[a, b, c]) 2).run Try.prog w = .ok c w := fun _ _ _ _ => by kernel_rfl

/-- A block of five cells that was laid in 'w.alloc ..' still stands in a world above it. -/
theorem own5 {w wr : World} {a b c d e : Value} {t : TypeId} (h : Below (w.heap.size + 1) (w.alloc (Obj.cells #[a, b, c, d, e] t)) wr) :
    wr.cell? ⟨w.heap.size, 0, none⟩ = some a ∧ wr.cell? ⟨w.heap.size, 1, none⟩ = some b ∧ wr.cell? ⟨w.heap.size, 2, none⟩ = some c ∧ wr.cell? ⟨w.heap.size, 3, none⟩ = some d ∧ wr.cell? ⟨w.heap.size, 4, none⟩ = some e ∧
    (∀ o, wr.frozen? ⟨w.heap.size, o, none⟩ = false) ∧ (∀ j, w.heap.size < wr.heap.size + j) ∧ w.heap.size < wr.heap.size := by
  have hb := h.block w.heap.size (by omega)
  rw [heap_alloc_last] at hb
  have hs := h.size
  simp at hs
  refine ⟨?_, ?_, ?_, ?_, ?_, ?_, fun j => by omega, by omega⟩ <;> simp [World.cell?, World.frozen?, hb]

theorem wrapu (a : Int) : 0 ≤ IntKind.u64.wrap a := by rw [IntKind.wrap_u64]; omega
theorem heap_alloc_at (w : World) (o : Obj) {n : Nat} (h : n = w.heap.size) : (w.alloc o).heap[n]? = some o := by subst h; exact heap_alloc_last w o
def gat (f x : Int) : Int := (rvcode_gather.f f x).getD 0
theorem gather_some (f x : Int) : ∃ r, rvcode_gather.f f x = some r := by
  unfold rvcode_gather.f rvcode_cut.f
  by_cases h1 : f = 1
  · rw [if_pos h1]; exact ⟨_, rfl⟩
  by_cases h2 : f = 2
  · rw [if_neg h1, if_pos h2, if_pos (wrapu _), if_pos (wrapu _)]; exact ⟨_, rfl⟩
  by_cases h3 : f = 3
  · rw [if_neg h1, if_neg h2, if_pos h3, if_pos (wrapu _), if_pos (wrapu _)]; exact ⟨_, rfl⟩
  by_cases h4 : f = 4
  · rw [if_neg h1, if_neg h2, if_neg h3, if_pos h4, if_pos (wrapu _), if_pos (wrapu _)]; exact ⟨_, rfl⟩
  by_cases h5 : f = 5
  · rw [if_neg h1, if_neg h2, if_neg h3, if_neg h4, if_pos h5]; simp only [if_pos (wrapu _)]; exact ⟨_, rfl⟩
  by_cases h6 : f = 6
  · rw [if_neg h1, if_neg h2, if_neg h3, if_neg h4, if_neg h5, if_pos h6]; exact ⟨_, rfl⟩
  by_cases h7 : f = 7
  · rw [if_neg h1, if_neg h2, if_neg h3, if_neg h4, if_neg h5, if_neg h6, if_pos h7]; simp only [if_pos (wrapu _)]; exact ⟨_, rfl⟩
  rw [if_neg h1, if_neg h2, if_neg h3, if_neg h4, if_neg h5, if_neg h6, if_neg h7]; exact ⟨_, rfl⟩
theorem gather_any (f x : Int) (w : World) : Calls Try.prog 55 #[.int .i64 f, .int .u32 x] w fun e w' => e = .returned (.int .i64 (gat f x)) ∧ ∃ n, w' = w.drewN n := by
  have h : rvcode_gather.f f x = some (gat f x) := by
    unfold gat
    obtain ⟨r, hr⟩ := gather_some f x
    rw [hr]; rfl
  exact (rvcode_gather.calls f x _ w h).mono fun _ _ ⟨he, hd⟩ => ⟨he, hd.out⟩
def cutI (x a b : Int) : Int := (rvcode_cut.f x a b).getD 0
theorem cut_any (x a b : Int) (w : World) : Calls Try.prog 56 #[.int .u32 x, .int .i64 a, .int .i64 b] w fun e w' => e = .returned (.int .u32 (cutI x a b)) ∧ ∃ n, w' = w.drewN n := by
  have h : rvcode_cut.f x a b = some (cutI x a b) := by
    unfold cutI rvcode_cut.f
    rw [if_pos (wrapu _), if_pos (wrapu _)]
    rfl
  exact (rvcode_cut.calls x a b _ w h).mono fun _ _ ⟨he, hd⟩ => ⟨he, hd.out⟩

/-- A register that a form has, read off a word. -/
def rgN (has : Bool) (x a : Int) : Int := if has then wrap64 (cutI x a 5) else 0
def opV (n : ByteArray) (rd ra rb imm : Int) : Value := .agg #[.string n, .int .i64 rd, .int .i64 ra, .int .i64 rb, .int .i64 imm]

theorem NoM_succ {x : Int} {k : Nat} (h : NoM x k) (hk : Go.bits .and .u32 x (ownI (kd k).2.1) ≠ (kd k).2.2) : NoM x (k + 1) := fun j hj => by
  by_cases e : j = k
  · subst e; exact hk
  · exact h j (by omega)

/-- What 'Decode' answers: the first kind whose bits a word has. -/
def DecPost (x : Int) (w : World) (e : Ending) (w' : World) : Prop :=
  ((NoM x 64 ∧ e = .returned (.tuple #[opV ⟨#[]⟩ 0 0 0 0, .int .i64 260])) ∨
   (∃ k, k < 64 ∧ NoM x k ∧ Go.bits .and .u32 x (ownI (kd k).2.1) = (kd k).2.2 ∧
      e = .returned (.tuple #[opV (kd k).1 (rgN (prt (kd k).2.1).1 x 7) (rgN (prt (kd k).2.1).2.1 x 15) (rgN (prt (kd k).2.1).2.2.1 x 20) (gat (kd k).2.1 x), .int .i64 0]))) ∧
  Below w.heap.size w w'

set_option maxHeartbeats 1000000 in
set_option maxRecDepth 100000 in
theorem decode_calls (x : Int) (w : World) : Calls Try.prog 15 #[.int .u32 x] w (DecPost x w) := by
  have f0 := fld0
  have f1 := fld1
  have f2 := fld2
  go_enter Try.func15, Try.ntmps15
  go_wp2
  go_loopw [4] (fun i wr => ∃ k : Nat, k ≤ 64 ∧ i = .int .i64 k ∧ NoM x k ∧ Below (w.heap.size + 1) (w.alloc (Obj.cells #[Value.string ⟨#[]⟩, Value.int IntKind.i64 0, Value.int IntKind.i64 0, Value.int IntKind.i64 0, Value.int IntKind.i64 0] 24)) wr) (fun i _ => 64 - (intOf i).toNat)
  case atStart => exact ⟨0, by omega, rfl, fun j h => absurd h (by omega), Below.refl _ _⟩
  case round =>
    obtain ⟨k, hk, rfl, hn, hb0⟩ := hrel
    obtain ⟨c0, c1, c2, c3, c4, hfr, hsz, hsz0⟩ := own5 hb0
    have hb0w : Below w.heap.size w wr := ((Below.refl _ _).alloc (Nat.le_refl _) _).trans (hb0.mono (by omega))
    have hblk := (hb0.block w.heap.size (by omega)).trans (heap_alloc_last w _)
    by_cases hlt : k < 64
    · have hix := fun w1 => index_table k hlt w1
      by_cases hm : Go.bits .and .u32 x (ownI (kd k).2.1) = (kd k).2.2
      · have hm1 := bne_eq_false_iff_eq.mpr hm
        clear hm
        have hk64 : ((k : Int) == 64) = false := beq_eq_false_iff_ne.mpr (by omega)
        go_wp2_with (first | (go_at_call 52; refine (table_any _).mono ?_; rintro e w' ⟨rfl, rfl⟩) | (go_at_call 53; refine (own_any _ _).mono ?_; rintro e w' ⟨rfl, n, rfl⟩) | (go_at_call 54; refine (parts_any _ _).mono ?_; rintro e w' ⟨rfl, o, rfl⟩))
        generalize hW : (World.alloc _ _) = W0
        refine wp_region_grow [39, 40, 41, 42, 43, 44, 45, 7] (fun j v w1 => match j with
          | 0 => v = .pointer (some ⟨wr.heap.size + 1 + 1 + 1 + 1 + 1, 0, none⟩)
          | 1 => v = .string (kd k).1
          | 2 => v = .pointer (some ⟨wr.heap.size + 1 + 1 + 1 + 1 + 1, 1, none⟩)
          | 3 => v = .int .i64 (kd k).2.1
          | 4 => v = .int .u32 x
          | 5 => v = .int .i64 (gat (kd k).2.1 x)
          | 6 => v = .agg #[.string (kd k).1, .int .i64 0, .int .i64 0, .int .i64 0, .int .i64 (gat (kd k).2.1 x)]
          | 7 => ∃ b, v = .pointer (some ⟨b, 0, none⟩) ∧ W0.heap.size ≤ b ∧ w1.heap[b]? = some (.cells #[Value.string ⟨#[]⟩, Value.int IntKind.i64 0, Value.int IntKind.i64 0, Value.int IntKind.i64 0, Value.int IntKind.i64 0] 24 (0, 0))
          | _ => True) (by kernel_rfl) (by kernel_rfl) ?_ ?_ ?_
        · intro j v w1 w2 hv hb
          rcases j with _ | _ | _ | _ | _ | _ | _ | _ | j
          · exact hv
          · exact hv
          · exact hv
          · exact hv
          · exact hv
          · exact hv
          · exact hv
          · obtain ⟨b, h1, h2, h3⟩ := hv
            exact ⟨b, h1, h2, (hb.block b (blk_lt h3)).trans h3⟩
          · trivial
        · have hW5 : W0.heap[wr.heap.size + 1 + 1 + 1 + 1 + 1]? = some (.cells #[Value.string (kd k).1, .int .i64 (kd k).2.1, .int .u32 (kd k).2.2] 107 (0, 0)) := by
            rw [← hW]
            exact blk_alloc (blk_alloc (heap_alloc_at _ _ (by simp)) _) _
          clear c0 c1 c2 c3 c4 hfr hsz hsz0 hix f0 f1 f2 hm1 hk64
          refine ⟨?_, ?_, ?_, ?_, ?_, ?_, ?_, ?_, trivial⟩
          all_goals
            intro a w1 hB hoth hdep
            have hb5 := (hB.block _ (blk_lt hW5)).trans hW5
            have p0 := blk_cell hb5 0
            have p1 := blk_cell hb5 1
            have h5 := hoth 5 (by decide)
            have h0 := hoth 0 (by decide)
            clear hoth
            simp at hdep h5 h0 p0 p1
            simp only [StepTo, Oper.grows]
            go_simp
            first
              | exact Below.refl _ _
              | (refine ⟨Below.refl _ _, (gather_any _ _ _).mono ?_⟩; rintro e w' ⟨rfl, n, rfl⟩; exact ⟨rfl, pw_below_drewN (Below.refl _ _) _⟩)
              | exact ⟨below_alloc (Below.refl _ _) _, hB.size, (Array.getElem?_eq_some_iff.1 (heap_alloc_last _ _)).2⟩
        · intro v w1 hB hv
          have q0 : v 0 = _ := hv 0 (by decide)
          have q1 : v 1 = _ := hv 1 (by decide)
          have q2 : v 2 = _ := hv 2 (by decide)
          have q3 : v 3 = _ := hv 3 (by decide)
          have q4 : v 4 = _ := hv 4 (by decide)
          have q5 : v 5 = _ := hv 5 (by decide)
          have q6 : v 6 = _ := hv 6 (by decide)
          obtain ⟨b, q7, hb7, hc7⟩ := hv 7 (by decide)
          simp only [fillF, q0, q1, q2, q3, q4, q5, q6, q7, Act.put, List.setIfInBounds_toArray, List.set_cons_zero, List.set_cons_succ, List.length_cons, List.length_nil, Nat.reduceAdd, List.drop_succ_cons, List.drop_zero]
          refine wpList_store_row rfl 24 (.tmp 7) (.tmp 45) rfl b _ rfl rfl 24 _ hc7 (by kernel_rfl) (by rfl) (by simp [Value.oneCell']) ?_
          have hz : w.heap.size < W0.heap.size := by rw [← hW]; simp; omega
          have hBw : Below w.heap.size w W0 := by
            rw [← hW]
            repeat (first | exact hb0w | apply below_alloc | apply pw_below_drewN)
          have hW6 : W0.heap[wr.heap.size + 1 + 1 + 1 + 1 + 1 + 1 + 1]? = some (.cells #[.bool (prt (kd k).2.1).1, .bool (prt (kd k).2.1).2.1, .bool (prt (kd k).2.1).2.2.1, .int .i64 (prt (kd k).2.1).2.2.2.1, .int .i64 (prt (kd k).2.1).2.2.2.2.1, .int .i64 (prt (kd k).2.1).2.2.2.2.2] 112 (0, 0)) := by
            rw [← hW]
            exact heap_alloc_at _ _ (by simp)
          have hWb : W0.heap[w.heap.size]? = some (.cells #[Value.string ⟨#[]⟩, Value.int IntKind.i64 0, Value.int IntKind.i64 0, Value.int IntKind.i64 0, Value.int IntKind.i64 0] 24 (0, 0)) := by
            rw [← hW]
            repeat (first | exact hblk | refine blk_alloc ?_ _ | refine blk_drewN ?_ _)
          have g6 := blk_lt hW6
          have e6 := (setRow_other w1 b _ #[.string (kd k).1, .int .i64 0, .int .i64 0, .int .i64 0, .int .i64 (gat (kd k).2.1 x)] (by omega)).trans ((hB.block _ g6).trans hW6)
          have e2 := (setRow_other w1 b _ #[.string (kd k).1, .int .i64 0, .int .i64 0, .int .i64 0, .int .i64 (gat (kd k).2.1 x)] (by omega)).trans ((hB.block _ hz).trans hWb)
          have e7 := setRow_heap w1 b _ #[.string (kd k).1, .int .i64 0, .int .i64 0, .int .i64 0, .int .i64 (gat (kd k).2.1 x)] 24 (0, 0) hc7
          have hB2 : Below w.heap.size w (w1.setRow b #[.string (kd k).1, .int .i64 0, .int .i64 0, .int .i64 0, .int .i64 (gat (kd k).2.1 x)]) := by
            have h1 := hBw.trans (hB.mono (Nat.le_of_lt hz))
            exact ⟨h1.os, h1.tape, h1.output, by simpa using h1.size, fun i hi => (setRow_other w1 b i _ (by omega)).trans (h1.block i hi)⟩
          have n0 : w.heap.size ≤ b := by omega
          have n1 : b ≠ w.heap.size := by omega
          have n2 : w.heap.size ≠ b := by omega
          have n3 : b ≠ wr.heap.size + 1 + 1 + 1 + 1 + 1 + 1 + 1 := by omega
          have n4 : wr.heap.size + 1 + 1 + 1 + 1 + 1 + 1 + 1 ≠ b := by omega
          have n5 : w.heap.size ≠ wr.heap.size + 1 + 1 + 1 + 1 + 1 + 1 + 1 := by omega
          generalize w1.setRow b _ = W2 at *
          clear hW hB hv hc7 hb7 hz hBw hW6 hWb g6 W0 w1 c0 c1 c2 c3 c4 hfr hsz hsz0 hb0 hb0w hblk hix hlt hk
          have p6 := blk_cell e6
          have p2 := blk_cell e2
          have p7 := blk_cell e7
          have z2 := blk_frozen e2
          have z7 := blk_frozen e7
          clear q0 q1 q2 q3 q4 q5 q6 q7
          go_wp2_with (first | (go_at_call 56; refine (cut_any _ _ _ _).mono ?_; rintro e w' ⟨rfl, n, rfl⟩))
          all_goals
            refine bodyPost_ret (v := .tuple #[opV (kd k).1 (rgN (prt (kd k).2.1).1 x 7) (rgN (prt (kd k).2.1).2.1 x 15) (rgN (prt (kd k).2.1).2.2.1 x 20) (gat (kd k).2.1 x), .int .i64 0]) ?_ rfl
              ⟨.inr ⟨k, by omega, hn, bne_eq_false_iff_eq.mp hm1, rfl⟩, ?_⟩
            · simp only [results, Try.results15, opV, rgN]
              go_simp
            · (with_reducible repeat (first | exact hB2 | refine Below.setCell ?_ ?_ _ | refine pw_below_drewN ?_ _)) <;> first | exact Nat.le_refl _ | exact n0
      · have hm1 := bne_iff_ne.mpr hm
        clear c0 c1 c2 c3 c4 hfr
        go_wp2_with (first | (go_at_call 52; refine (table_any _).mono ?_; rintro e w' ⟨rfl, rfl⟩) | (go_at_call 53; refine (own_any _ _).mono ?_; rintro e w' ⟨rfl, n, rfl⟩))
        go_roundw
        case rel => exact ⟨k + 1, by omega, by go_num, NoM_succ hn hm, by
          refine hb0.trans ((?_ : Below wr.heap.size wr _).mono hsz0)
          repeat (first | exact Below.refl _ _ | apply below_alloc | refine pw_below_drewN ?_ _)⟩
        case measure => simp [intOf]; omega
    · have hk64 : ((k : Int) == 64) = true := beq_iff_eq.mpr (by omega)
      go_wp2_with (first | (go_at_call 52; refine (table_any _).mono ?_; rintro e w' ⟨rfl, rfl⟩) | (go_at_call 53; refine (own_any _ _).mono ?_; rintro e w' ⟨rfl, n, rfl⟩))
      refine bodyPost_ret (v := .tuple #[opV ⟨#[]⟩ 0 0 0 0, .int .i64 260]) ?_ rfl ⟨.inl ⟨by rwa [show k = 64 from by omega] at hn, rfl⟩, ?_⟩
      · simp only [results, Try.results15, opV]
        go_simp
      · (with_reducible repeat (first | exact hb0w | refine Below.setCell ?_ ?_ _ | refine pw_below_drewN ?_ _ | apply below_alloc)) <;> exact Nat.le_refl _
end Go.Proofs.Ytciehejifdbpoaa.Rv
