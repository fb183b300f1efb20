import Derived.Test.YtciehejifdbpoaaRvDec
namespace Go.Proofs.Ytciehejifdbpoaa.Rv
open Go.RowKit Go.Proofs.Ytciehejifdbpoaa.Grow
open Go.Proofs.YtciehejifdbpoaaW.PrintWords Go.Proofs.YtciehejifdbpoaaW.PrintLast Go.Proofs.YtciehejifdbpoaaW.PrintMore
open Go.Proofs.Ytciehejifdbpoaa.PRvcodeDecodes

def regB (n : Int) (has : Bool) : Bool := n == 0 || (has && decide (n > 0) && decide (n < 32))
theorem register_any (n : Int) (has : Bool) (w : World) : Calls Try.prog 58 #[.int .i64 n, .bool has] w fun e w' => e = .returned (.bool (regB n has)) ∧ ∃ m, w' = w.drewN m := by
  have h : rvcode_register.f n has = some (regB n has) := by
    unfold rvcode_register.f regB
    by_cases h0 : n = 0
    · subst h0; rfl
    · rw [if_neg h0]
      have : (n == 0) = false := beq_eq_false_iff_ne.mpr h0
      rw [this]
      cases has
      · simp
      · by_cases hp : n > 0 <;> simp [hp]
  exact (rvcode_register.calls n has _ w h).mono fun _ _ ⟨he, hd⟩ => ⟨he, hd.out⟩

def sct (f x : Int) : Int := (rvcode_scatter.f 3 f x).getD 0
theorem scatter_some (f x : Int) : ∃ r, rvcode_scatter.f 3 f x = some r := by
  have key : ∀ b : Bool, ∃ r, rvcode_scatter.j0 3 x f b = some r := by
    intro b
    cases b
    · unfold rvcode_scatter.j0 rvcode_cut.f
      simp only [if_pos (wrapu _), Option.bind_some, Bool.false_eq_true, if_false]
      by_cases h4 : f = 4
      · rw [if_pos h4]; exact ⟨_, rfl⟩
      by_cases h5 : f = 5
      · rw [if_neg h4, if_pos h5]; exact ⟨_, rfl⟩
      by_cases h6 : f = 6
      · rw [if_neg h4, if_neg h5, if_pos h6]; exact ⟨_, rfl⟩
      by_cases h7 : f = 7
      · rw [if_neg h4, if_neg h5, if_neg h6, if_pos h7]; exact ⟨_, rfl⟩
      rw [if_neg h4, if_neg h5, if_neg h6, if_neg h7]; exact ⟨_, rfl⟩
    · exact ⟨_, rfl⟩
  unfold rvcode_scatter.f
  by_cases h1 : f = 1
  · rw [if_pos h1]; exact key _
  · rw [if_neg h1]
    by_cases h2 : f = 2
    · rw [if_pos h2]; exact key _
    · rw [if_neg h2]; exact key _
theorem scatter_any (f x : Int) (w : World) : Calls Try.prog 59 #[.int .i64 f, .int .u32 x] w fun e w' => e = .returned (.int .u32 (sct f x)) ∧ ∃ n, w' = w.drewN n := by
  have h : rvcode_scatter.f 3 f x = some (sct f x) := by
    unfold sct
    obtain ⟨r, hr⟩ := scatter_some f x
    rw [hr]; rfl
  exact (rvcode_scatter.calls 3 f x _ w h).mono fun _ _ ⟨he, hd⟩ => ⟨he, hd.out⟩

theorem toList_inj {a b : ByteArray} (h : a.toList = b.toList) : a = b := by
  rw [ByteArray.toList_eq, ByteArray.toList_eq] at h
  cases a; cases b
  simp only at h
  exact congrArg ByteArray.mk (Array.toList_inj.1 h)

def NoN (nm : ByteArray) (k : Nat) : Prop := ∀ j, j < k → (kd j).1 ≠ nm
theorem NoN_succ {nm : ByteArray} {k : Nat} (h : NoN nm k) (hk : (kd k).1 ≠ nm) : NoN nm (k + 1) := fun j hj => by
  by_cases e : j = k
  · subst e; exact hk
  · exact h j (by omega)


theorem prt_by (f : Int) : ¬ (prt f).2.2.2.2.2 = 0 := by
  unfold prt
  repeat' split
  all_goals decide

/-- May an instruction's parts be so? -/
def encOk (f rd ra rb imm : Int) : Bool :=
  regB rd (prt f).1 && regB ra (prt f).2.1 && regB rb (prt f).2.2.1 && decide ((prt f).2.2.2.1 ≤ imm) && decide (imm ≤ (prt f).2.2.2.2.1) && (imm.tmod (prt f).2.2.2.2.2 == 0)

theorem encOk_iff {f rd ra rb imm : Int} : encOk f rd ra rb imm = true ↔ regB rd (prt f).1 = true ∧ regB ra (prt f).2.1 = true ∧ regB rb (prt f).2.2.1 = true ∧ (prt f).2.2.2.1 ≤ imm ∧ imm ≤ (prt f).2.2.2.2.1 ∧
    (imm.tmod (prt f).2.2.2.2.2 != 0) = false := by
  simp [encOk, and_assoc]

/-- The word of an instruction. -/
def wordOf (bits f rd ra rb imm : Int) : Int :=
  Go.bits .or .u32 (Go.bits .or .u32 (Go.bits .or .u32 (Go.bits .or .u32 bits (IntKind.u32.wrap (IntKind.u32.wrap rd * 128))) (IntKind.u32.wrap (IntKind.u32.wrap ra * 32768))) (IntKind.u32.wrap (IntKind.u32.wrap rb * 1048576))) (sct f (IntKind.u32.wrap imm))

/-- What 'Encode' answers. -/
def EncPost (nm : ByteArray) (rd ra rb imm : Int) (w : World) (e : Ending) (w' : World) : Prop :=
  ((NoN nm 64 ∧ e = .returned (.tuple #[.int .u32 0, .int .i64 260])) ∨
   (∃ k, k < 64 ∧ NoN nm k ∧ (kd k).1 = nm ∧
     ((encOk (kd k).2.1 rd ra rb imm = false ∧ e = .returned (.tuple #[.int .u32 0, .int .i64 260])) ∨
      (encOk (kd k).2.1 rd ra rb imm = true ∧ e = .returned (.tuple #[.int .u32 (wordOf (kd k).2.2 (kd k).2.1 rd ra rb imm), .int .i64 0]))))) ∧
  Below w.heap.size w w'

set_option maxHeartbeats 1000000 in
set_option maxRecDepth 100000 in
theorem encode_calls (nm : ByteArray) (rd ra rb imm : Int) (w : World) : Calls Try.prog 17 #[opV nm rd ra rb imm] w (EncPost nm rd ra rb imm w) := by
  have f0 := fld0
  have f1 := fld1
  have f2 := fld2
  go_enter Try.func17, Try.ntmps17
  unfold opV
  go_wp2
  go_loopw [4] (fun i wr => ∃ k : Nat, k ≤ 64 ∧ i = .int .i64 k ∧ NoN nm k ∧ Below (w.heap.size + 1) (w.alloc (Obj.cells #[Value.string nm, Value.int IntKind.i64 rd, Value.int IntKind.i64 ra, Value.int IntKind.i64 rb, Value.int IntKind.i64 imm] 24)) wr) (fun i _ => 64 - (intOf i).toNat)
  case atStart => exact ⟨0, by omega, rfl, fun j h => absurd h (by omega), Below.refl _ _⟩
  case round =>
    obtain ⟨k, hk, rfl, hn, hb0⟩ := hrel
    have hb0w : Below w.heap.size w wr := ((Below.refl _ _).alloc (Nat.le_refl _) _).trans (hb0.mono (by omega))
    have hblk := (hb0.block w.heap.size (by omega)).trans (heap_alloc_last w _)
    have hsz0 := blk_lt hblk
    by_cases hlt : k < 64
    · have hix := fun w1 => index_table k hlt w1
      go_wp2_with fail
      refine wp_region_grow [7, 8, 9, 10, 11, 12, 13, 14, 15, 16, 17, 18, 19] (fun j v w1 => match j with
        | 0 => v = .int .i64 k
        | 1 => v = tableV
        | 2 => v = .int .i64 64
        | 3 => v = .bool true
        | 4 => v = .bool true
        | 5 => v = tableV
        | 6 => v = .int .i64 k
        | 7 => v = .agg #[.string (kd k).1, .int .i64 (kd k).2.1, .int .u32 (kd k).2.2]
        | 8 => v = .string (kd k).1
        | 9 => v = .pointer (some ⟨w.heap.size, 0, none⟩)
        | 10 => v = .string nm
        | 11 => v = .bool (!((kd k).1.toList == nm.toList))
        | 12 => v = .bool (!((kd k).1.toList == nm.toList))
        | _ => True) (by kernel_rfl) (by kernel_rfl) ?_ ?_ ?_
      · intro j v w1 w2 hv hb
        rcases j with _ | _ | _ | _ | _ | _ | _ | _ | _ | _ | _ | _ | _ | j <;> first | exact hv | trivial
      · refine ⟨?_, ?_, ?_, ?_, ?_, ?_, ?_, ?_, ?_, ?_, ?_, ?_, ?_, trivial⟩
        all_goals
          intro a w1 hB hoth hdep
          have hb := (hB.block _ (blk_lt hblk)).trans hblk
          have p0 := blk_cell hb 0
          have h4 := hoth 4 (by decide)
          have h1 := hoth 1 (by decide)
          clear hoth
          simp at hdep h4 h1 p0
          simp only [StepTo, Oper.grows]
          go_simp
          all_goals first
            | exact Below.refl _ _
            | (refine ⟨Below.refl _ _, (table_any _).mono ?_⟩; rintro e w' ⟨rfl, rfl⟩; exact ⟨rfl, below_alloc (Below.refl _ _) _⟩)
            | exact ⟨Below.refl _ _, by omega⟩
      · intro v w1 hB hv
        have q0 : v 0 = _ := hv 0 (by decide)
        have q1 : v 1 = _ := hv 1 (by decide)
        have q2 : v 2 = _ := hv 2 (by decide)
        have q3 : v 3 = _ := hv 3 (by decide)
        have q4 : v 4 = _ := hv 4 (by decide)
        have q5 : v 5 = _ := hv 5 (by decide)
        have q6 : v 6 = _ := hv 6 (by decide)
        have q7 : v 7 = _ := hv 7 (by decide)
        have q8 : v 8 = _ := hv 8 (by decide)
        have q9 : v 9 = _ := hv 9 (by decide)
        have q10 : v 10 = _ := hv 10 (by decide)
        have q11 : v 11 = _ := hv 11 (by decide)
        have q12 : v 12 = _ := hv 12 (by decide)
        simp only [fillF, q0, q1, q2, q3, q4, q5, q6, q7, q8, q9, q10, q11, q12, Act.put, List.setIfInBounds_toArray, List.set_cons_zero, List.set_cons_succ, List.length_cons, List.length_nil, Nat.reduceAdd, List.drop_succ_cons, List.drop_zero]
        clear q0 q1 q2 q3 q4 q5 q6 q7 q8 q9 q10 q11 q12 hv
        have hb1 := (hB.block _ (blk_lt hblk)).trans hblk
        have hbw := hb0w.trans (hB.mono (Nat.le_of_lt hsz0))
        have hz1 := blk_lt hb1
        have hz : ∀ j, w.heap.size < w1.heap.size + j := fun j => by omega
        have p1 := blk_cell hb1
        by_cases hm : (kd k).1 = nm
        · have hs : (!((kd k).1.toList == nm.toList)) = false := by rw [hm]; simp
          have hk64 : ((k : Int) == 64) = false := beq_eq_false_iff_ne.mpr (by omega)
          have hby := prt_by (kd k).2.1
          rw [hs]
          clear hs hb0 hb0w hblk hsz0 hB
          have hbx := Aside0.mk hbw
          have hmx := Aside0.mk hm
          have hb1x := Aside0.mk hb1
          clear hbw hm hb1
          go_wp2_with (first | (go_at_call 52; refine (table_any _).mono ?_; rintro e w' ⟨rfl, rfl⟩) | (go_at_call 54; refine (parts_any _ _).mono ?_; rintro e w' ⟨rfl, o, rfl⟩) | (go_at_call 58; refine (register_any _ _ _).mono ?_; rintro e w' ⟨rfl, n, rfl⟩))
          rotate_left 1
          · have hbw := hbx.out
            have hb1 := hb1x.out
            obtain ⟨w1s, hw1s⟩ : ∃ n, n = w1.heap.size := ⟨_, rfl⟩
            simp only [← hw1s]
            generalize hW : (World.alloc _ _) = W0
            have hWx : W0.heap[w.heap.size]? = some (.cells #[.string nm, .int .i64 rd, .int .i64 ra, .int .i64 rb, .int .i64 imm] 24 (0, 0)) := by
              rw [← hW]
              (with_reducible repeat (first | exact hb1 | refine blk_alloc ?_ _ | refine blk_drewN ?_ _))
            have hbw0 : Below w.heap.size w W0 := by
              rw [← hW]
              (with_reducible repeat (first | exact hbw | apply below_alloc | refine pw_below_drewN ?_ _))
            have hzW : w.heap.size ≤ W0.heap.size := hbw0.size
            have hWk : W0.heap[w1s + 1 + 1]? = some (.cells #[.string (kd k).1, .int .i64 (kd k).2.1, .int .u32 (kd k).2.2] 107 (0, 0)) := by
              rw [← hW]
              (with_reducible repeat (first | exact heap_alloc_at _ _ (by simp [hw1s]) | refine blk_alloc ?_ _ | refine blk_drewN ?_ _))
            refine wp_region_grow [76, 77, 78, 79, 80, 81, 82, 83, 84, 85, 86, 87, 88, 89, 90, 91, 92, 93, 94, 95, 96, 97, 98, 99] (fun j v w1 => match j with
              | 0 => v = .pointer (some ⟨w1s + 1 + 1, 2, none⟩)
              | 1 => v = .int .u32 ((kd k).2.2)
              | 2 => v = .pointer (some ⟨w.heap.size, 1, none⟩)
              | 3 => v = .int .i64 (rd)
              | 4 => v = .int .u32 (IntKind.u32.wrap rd)
              | 5 => v = .int .u32 (IntKind.u32.wrap (IntKind.u32.wrap rd * 128))
              | 6 => v = .int .u32 (Go.bits .or .u32 (kd k).2.2 (IntKind.u32.wrap (IntKind.u32.wrap rd * 128)))
              | 7 => v = .pointer (some ⟨w.heap.size, 2, none⟩)
              | 8 => v = .int .i64 (ra)
              | 9 => v = .int .u32 (IntKind.u32.wrap ra)
              | 10 => v = .int .u32 (IntKind.u32.wrap (IntKind.u32.wrap ra * 32768))
              | 11 => v = .int .u32 (Go.bits .or .u32 (Go.bits .or .u32 (kd k).2.2 (IntKind.u32.wrap (IntKind.u32.wrap rd * 128))) (IntKind.u32.wrap (IntKind.u32.wrap ra * 32768)))
              | 12 => v = .pointer (some ⟨w.heap.size, 3, none⟩)
              | 13 => v = .int .i64 (rb)
              | 14 => v = .int .u32 (IntKind.u32.wrap rb)
              | 15 => v = .int .u32 (IntKind.u32.wrap (IntKind.u32.wrap rb * 1048576))
              | 16 => v = .int .u32 (Go.bits .or .u32 (Go.bits .or .u32 (Go.bits .or .u32 (kd k).2.2 (IntKind.u32.wrap (IntKind.u32.wrap rd * 128))) (IntKind.u32.wrap (IntKind.u32.wrap ra * 32768))) (IntKind.u32.wrap (IntKind.u32.wrap rb * 1048576)))
              | 17 => v = .pointer (some ⟨w1s + 1 + 1, 1, none⟩)
              | 18 => v = .int .i64 ((kd k).2.1)
              | 19 => v = .pointer (some ⟨w.heap.size, 4, none⟩)
              | 20 => v = .int .i64 (imm)
              | 21 => v = .int .u32 (IntKind.u32.wrap imm)
              | 22 => v = .int .u32 (sct (kd k).2.1 (IntKind.u32.wrap imm))
              | 23 => v = .int .u32 (Go.bits .or .u32 (Go.bits .or .u32 (Go.bits .or .u32 (Go.bits .or .u32 (kd k).2.2 (IntKind.u32.wrap (IntKind.u32.wrap rd * 128))) (IntKind.u32.wrap (IntKind.u32.wrap ra * 32768))) (IntKind.u32.wrap (IntKind.u32.wrap rb * 1048576))) (sct (kd k).2.1 (IntKind.u32.wrap imm)))
              | _ => True) (by kernel_rfl) (by kernel_rfl) ?_ ?_ ?_
            · intro j v w1 w2 hv hb
              rcases j with _ | _ | _ | _ | _ | _ | _ | _ | _ | _ | _ | _ | _ | _ | _ | _ | _ | _ | _ | _ | _ | _ | _ | _ | j <;> first | exact hv | trivial
            · clear hW f0 f1 f2 hz hix p1 hw1s
              refine ⟨?_, ?_, ?_, ?_, ?_, ?_, ?_, ?_, ?_, ?_, ?_, ?_, ?_, ?_, ?_, ?_, ?_, ?_, ?_, ?_, ?_, ?_, ?_, ?_, trivial⟩
              all_goals
                intro a w2 hB hoth hdep
                have px := blk_cell ((hB.block _ (blk_lt hWx)).trans hWx)
                have pk := blk_cell ((hB.block _ (blk_lt hWk)).trans hWk)
                have h1 := hoth 1 (by decide)
                have h5 := hoth 5 (by decide)
                clear hoth
                simp at hdep h5 h1
                simp only [StepTo, Oper.grows]
                go_simp
                all_goals first
                  | exact Below.refl _ _
                  | exact ⟨Below.refl _ _, rfl⟩
                  | (refine ⟨Below.refl _ _, (scatter_any _ _ _).mono ?_⟩; rintro e w' ⟨rfl, n, rfl⟩; exact ⟨rfl, pw_below_drewN (Below.refl _ _) _⟩)
            · intro v w2 hB hv
              have q0 : v 0 = _ := hv 0 (by decide)
              have q1 : v 1 = _ := hv 1 (by decide)
              have q2 : v 2 = _ := hv 2 (by decide)
              have q3 : v 3 = _ := hv 3 (by decide)
              have q4 : v 4 = _ := hv 4 (by decide)
              have q5 : v 5 = _ := hv 5 (by decide)
              have q6 : v 6 = _ := hv 6 (by decide)
              have q7 : v 7 = _ := hv 7 (by decide)
              have q8 : v 8 = _ := hv 8 (by decide)
              have q9 : v 9 = _ := hv 9 (by decide)
              have q10 : v 10 = _ := hv 10 (by decide)
              have q11 : v 11 = _ := hv 11 (by decide)
              have q12 : v 12 = _ := hv 12 (by decide)
              have q13 : v 13 = _ := hv 13 (by decide)
              have q14 : v 14 = _ := hv 14 (by decide)
              have q15 : v 15 = _ := hv 15 (by decide)
              have q16 : v 16 = _ := hv 16 (by decide)
              have q17 : v 17 = _ := hv 17 (by decide)
              have q18 : v 18 = _ := hv 18 (by decide)
              have q19 : v 19 = _ := hv 19 (by decide)
              have q20 : v 20 = _ := hv 20 (by decide)
              have q21 : v 21 = _ := hv 21 (by decide)
              have q22 : v 22 = _ := hv 22 (by decide)
              have q23 : v 23 = _ := hv 23 (by decide)
              simp only [fillF, q0, q1, q2, q3, q4, q5, q6, q7, q8, q9, q10, q11, q12, q13, q14, q15, q16, q17, q18, q19, q20, q21, q22, q23, Act.put, List.setIfInBounds_toArray, List.set_cons_zero, List.set_cons_succ, List.length_cons, List.length_nil, Nat.reduceAdd, List.drop_succ_cons, List.drop_zero]
              clear q0 q1 q2 q3 q4 q5 q6 q7 q8 q9 q10 q11 q12 q13 q14 q15 q16 q17 q18 q19 q20 q21 q22 q23 hv
              go_wp2
              go_ret2
              exact ⟨.inr ⟨k, hlt, hn, hmx.out, .inr ⟨encOk_iff.2 ⟨by assumption, by assumption, by assumption, by assumption, by assumption, And.right (by assumption : ((prt (kd k).2.1).2.2.2.1 ≤ imm ∧ imm ≤ (prt (kd k).2.1).2.2.2.2.1) ∧ (imm.tmod (prt (kd k).2.1).2.2.2.2.2 != 0) = false)⟩, rfl⟩⟩, (pw_below_drewN hbw0 _).trans (hB.mono hzW)⟩
          all_goals
            go_ret2
            refine ⟨.inr ⟨k, hlt, hn, hmx.out, .inl ⟨Bool.eq_false_iff.2 (fun h => ?_), rfl⟩⟩, ?_⟩
            · obtain ⟨h1, h2, h3, h4, h5, h6⟩ := encOk_iff.1 h
              first
                | exact absurd h1 (by assumption)
                | exact absurd h2 (by assumption)
                | exact absurd h3 (by assumption)
                | omega
                | (have ht : (imm < (prt (kd k).2.1).2.2.2.1 ∨ (prt (kd k).2.1).2.2.2.2.1 < imm) ∨ (imm.tmod (prt (kd k).2.1).2.2.2.2.2 != 0) = true := by assumption
                   rcases ht with (ht | ht) | ht
                   · omega
                   · omega
                   · rw [h6] at ht; cases ht)
            · (with_reducible repeat (first | exact hbx.out | apply below_alloc | refine pw_below_drewN ?_ _))
        · have hs : (!((kd k).1.toList == nm.toList)) = true := by
            have : ((kd k).1.toList == nm.toList) = false := beq_eq_false_iff_ne.mpr (fun e => hm (toList_inj e))
            rw [this]; rfl
          rw [hs]
          have hb2 := hb0.trans (hB.mono hsz0)
          clear hs hb0 hb0w hblk hsz0 hB hb1 hbw hz1 hz p1 hix
          go_wp2
          go_roundw
          case rel => exact ⟨k + 1, by omega, by go_num, NoN_succ hn hm, hb2⟩
          case measure => simp [intOf]; omega
    · go_wp2_with fail
      refine wp_region_grow [7, 8, 9, 10, 11, 12, 13, 14, 15, 16, 17, 18, 19] (fun j v w1 => match j with
        | 0 => v = .int .i64 k
        | 1 => v = tableV
        | 2 => v = .int .i64 64
        | 3 => v = .bool false
        | 4 => v = .bool false
        | 5 => v = undef
        | 6 => v = undef
        | 7 => v = undef
        | 8 => v = undef
        | 9 => v = undef
        | 10 => v = undef
        | 11 => v = undef
        | 12 => v = .bool false
        | _ => True) (by kernel_rfl) (by kernel_rfl) ?_ ?_ ?_
      · intro j v w1 w2 hv hb
        rcases j with _ | _ | _ | _ | _ | _ | _ | _ | _ | _ | _ | _ | _ | j <;> first | exact hv | trivial
      · refine ⟨?_, ?_, ?_, ?_, ?_, ?_, ?_, ?_, ?_, ?_, ?_, ?_, ?_, trivial⟩
        all_goals
          intro a w1 hB hoth hdep
          have hb := (hB.block _ (blk_lt hblk)).trans hblk
          have p0 := blk_cell hb 0
          have h4 := hoth 4 (by decide)
          have h1 := hoth 1 (by decide)
          clear hoth
          simp at hdep h4 h1 p0
          simp only [StepTo, Oper.grows]
          go_simp
          all_goals first
            | exact Below.refl _ _
            | (refine ⟨Below.refl _ _, (table_any _).mono ?_⟩; rintro e w' ⟨rfl, rfl⟩; exact ⟨rfl, below_alloc (Below.refl _ _) _⟩)
            | exact ⟨Below.refl _ _, by omega⟩
      · intro v w1 hB hv
        have q0 : v 0 = _ := hv 0 (by decide)
        have q1 : v 1 = _ := hv 1 (by decide)
        have q2 : v 2 = _ := hv 2 (by decide)
        have q3 : v 3 = _ := hv 3 (by decide)
        have q4 : v 4 = _ := hv 4 (by decide)
        have q5 : v 5 = _ := hv 5 (by decide)
        have q6 : v 6 = _ := hv 6 (by decide)
        have q7 : v 7 = _ := hv 7 (by decide)
        have q8 : v 8 = _ := hv 8 (by decide)
        have q9 : v 9 = _ := hv 9 (by decide)
        have q10 : v 10 = _ := hv 10 (by decide)
        have q11 : v 11 = _ := hv 11 (by decide)
        have q12 : v 12 = _ := hv 12 (by decide)
        simp only [fillF, q0, q1, q2, q3, q4, q5, q6, q7, q8, q9, q10, q11, q12, Act.put, List.setIfInBounds_toArray, List.set_cons_zero, List.set_cons_succ, List.length_cons, List.length_nil, Nat.reduceAdd, List.drop_succ_cons, List.drop_zero]
        clear q0 q1 q2 q3 q4 q5 q6 q7 q8 q9 q10 q11 q12 hv
        have hb1 := (hB.block _ (blk_lt hblk)).trans hblk
        have hbw := hb0w.trans (hB.mono (Nat.le_of_lt hsz0))
        have hz1 := blk_lt hb1
        have hz : ∀ j, w.heap.size < w1.heap.size + j := fun j => by omega
        have p1 := blk_cell hb1
        have hk64 : ((k : Int) == 64) = true := beq_iff_eq.mpr (by omega)
        have hkk : k = 64 := by omega
        clear hb0 hb0w hblk hsz0 hB hb1
        have hkx := Aside0.mk hkk
        clear hkk
        go_wp2_with (first | (go_at_call 52; refine (table_any _).mono ?_; rintro e w' ⟨rfl, rfl⟩))
        go_ret2
        exact ⟨.inl ⟨by rw [hkx.out] at hn; exact hn, rfl⟩, below_alloc hbw _⟩
end Go.Proofs.Ytciehejifdbpoaa.Rv
