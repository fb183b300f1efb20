import Derived.Test.YtpfcdhjknmijjaaGreatCo3
import Derived.Test.YtpfcdhjknmijjaaGreatCo4
import Derived.Laws.CopyOwn
import Derived.Deep.WholeRow
section
set_option linter.unusedSimpArgs false
set_option linter.unusedVariables false
namespace Go.Proofs.YtpfcdhjknmijjaaGreat.Ve
open Go.RowKit Go.Proofs.YtpfcdhjknmijjaaGreat.Grow Go.Proofs.YtpfcdhjknmijjaaGreat.PEmitFinds
open Go.Proofs.YtpfcdhjknmijjaaGreatW.PrintWords Go.Proofs.YtpfcdhjknmijjaaGreatW.PrintLast Go.Proofs.YtpfcdhjknmijjaaGreatW.PrintMore

/-! ### Whether an instruction's fields fit -/
def instV (x : S61) : Value := .agg #[.int .i64 x.f0, .int .i64 x.f1, .int .i64 x.f2, .int .i64 x.f3, .int .i64 x.f4]
def ownV (op : Int) : Array Bool := if op = 1 then #[true, true, true, false] else if op = 2 then #[false, false, true, true] else if op = 3 then #[true, false, true, false] else if op = 4 then #[true, false, true, false] else #[false, false, false, false]
def wordsC : Array Value := #[.string ⟨#[]⟩, .bool false, .bool false, .bool false, .bool false, .string ⟨#[98, 121, 116, 101]⟩, .bool true, .bool true, .bool true, .bool false,
  .string ⟨#[115, 112, 108, 105, 116]⟩, .bool false, .bool false, .bool true, .bool true, .string ⟨#[99, 97, 112]⟩, .bool true, .bool false, .bool true, .bool false,
  .string ⟨#[97, 115, 115, 101, 114, 116]⟩, .bool true, .bool false, .bool true, .bool false, .string ⟨#[109, 97, 116, 99, 104]⟩, .bool false, .bool false, .bool false, .bool false,
  .string ⟨#[102, 97, 105, 108]⟩, .bool false, .bool false, .bool false, .bool false]
def wordsV : Value := .agg wordsC
def words0 : Array Value := (List.replicate 7 [Value.string ⟨#[]⟩, .bool false, .bool false, .bool false, .bool false]).flatten.toArray
set_option maxHeartbeats 1000000 in
set_option maxRecDepth 100000 in
theorem words_calls (w : World) : Calls Tryz.prog 184 #[] w fun e w' => e = .returned wordsV ∧ Below w.heap.size w w' := by
  have hal := heap_alloc_new w (.cells words0 261)
  have B1 := below_alloc (Below.refl w.heap.size w) (.cells words0 261)
  go_enter Tryz.func184, Tryz.ntmps184
  go_wp2_with (first | (refine wpList_store_row rfl 261 (.tmp 0) (.tmp 13) rfl w.heap.size wordsC rfl rfl 261 words0 hal (by kernel_rfl) (by kernel_rfl) (by kernel_rfl) ?_))
  refine bodyPost_ret (v := wordsV) ?_ rfl ⟨rfl, below_setRow B1 (Nat.le_refl _) _⟩
  exact results_cell_row (fn := Tryz.f184) rfl _ _ w.heap.size 261 wordsC (0, 0) (.array 7 260) rfl (setRow_heap _ _ _ _ _ _ hal) (by kernel_rfl) rfl (by kernel_rfl)
def wordS : Nat → ByteArray
  | 1 => ⟨#[98, 121, 116, 101]⟩
  | 2 => ⟨#[115, 112, 108, 105, 116]⟩
  | 3 => ⟨#[99, 97, 112]⟩
  | 4 => ⟨#[97, 115, 115, 101, 114, 116]⟩
  | 5 => ⟨#[109, 97, 116, 99, 104]⟩
  | 6 => ⟨#[102, 97, 105, 108]⟩
  | _ => ⟨#[]⟩
def oB (k : Nat) (j : Nat) : Bool := (ownV k).getD j false
theorem words_index : ∀ (k : Nat), k < 7 → ∀ w : World, (Instr.index 261 wordsV (.int .i64 (k : Int))).run Tryz.prog w = .ok (.agg #[.string (wordS k), .bool (oB k 0), .bool (oB k 1), .bool (oB k 2), .bool (oB k 3)]) w
  | 0, _, _ => by kernel_rfl
  | 1, _, _ => by kernel_rfl
  | 2, _, _ => by kernel_rfl
  | 3, _, _ => by kernel_rfl
  | 4, _, _ => by kernel_rfl
  | 5, _, _ => by kernel_rfl
  | 6, _, _ => by kernel_rfl
  | n + 7, h, _ => absurd h (by omega)
theorem field_260 (a b c d e : Value) (w : World) : (Instr.field 260 (.agg #[a, b, c, d, e]) 1).run Tryz.prog w = .ok (.agg #[b, c, d, e]) w := by kernel_rfl
def SomeB (Q : Prop) (w : World) (e : Ending) (w' : World) : Prop := ∃ b : Bool, e = .returned (.bool b) ∧ (b = true ↔ Q) ∧ Below w.heap.size w w'
theorem SomeB.of {Q : Prop} {w w' : World} {b : Bool} (hq : b = true ↔ Q) (hb : Below w.heap.size w w') : SomeB Q w (.returned (.bool b)) w' := ⟨b, rfl, hq, hb⟩
theorem SomeB.no {Q : Prop} {w w' : World} (hq : ¬ Q) (hb : Below w.heap.size w w') : SomeB Q w (.returned (.bool false)) w' := ⟨false, rfl, ⟨fun h => (by cases h), fun h => absurd h hq⟩, hb⟩
def placeB (n : Int) : Bool := decide (0 ≤ n) && decide (n < 4000)
theorem bd1 (k : Nat) : Region.binds .any ⟨k, .data⟩ = true := rfl
theorem bd2 (k : Nat) : Region.binds .any ⟨k, .guard⟩ = true := rfl
theorem bd3 (k : Nat) : Region.binds .any ⟨k, .chain⟩ = true := rfl
theorem bd5 (k : Nat) : Region.binds .any ⟨k, .phase⟩ = true := rfl
theorem place_calls (n : Int) (w : World) : Calls Tryz.prog 105 #[.int .i64 n] w fun e w' => e = .returned (.bool (placeB n)) ∧ Below w.heap.size w w' :=
  (prog_place.calls n (placeB n) w (by
    unfold prog_place.f placeB
    by_cases h : n ≥ 0
    · rw [if_pos h, decide_eq_true (show 0 ≤ n from h), Bool.true_and]
    · rw [if_neg h, decide_eq_false (show ¬ 0 ≤ n from h), Bool.false_and])).mono fun _ _ h => ⟨h.1, h.2.below⟩
/-- What instructions fit. -/
def nF (x : S61) (j : Nat) : Int := if j = 0 then x.f1 else if j = 1 then x.f2 else if j = 2 then x.f3 else x.f4
def hitB (x : S61) (j : Nat) : Bool := !oB x.f0.toNat j && (nF x j != 0)
def zeroB (x : S61) : Bool := !hitB x 0 && !hitB x 1 && !hitB x 2 && !hitB x 3
def caseB (x : S61) : Bool := if x.f0 = 1 then decide (0 ≤ x.f1) && decide (x.f1 ≤ x.f2) && decide (x.f2 ≤ 255) else if x.f0 = 3 then decide (0 ≤ x.f1) && decide (x.f1 < 64) else if x.f0 = 4 then decide (1 ≤ x.f1) && decide (x.f1 ≤ 6) else true
def fitsB (x : S61) : Bool := decide (1 ≤ x.f0) && decide (x.f0 ≤ 6) && placeB x.f3 && placeB x.f4 && zeroB x && caseB x
structure FitsP (x : S61) : Prop where
  all : fitsB x = true
theorem FitsP.op {x : S61} (h : FitsP x) : 1 ≤ x.f0 ∧ x.f0 ≤ 6 := by have := h.all; simp [fitsB] at this; omega
theorem FitsP.x_ {x : S61} (h : FitsP x) : 0 ≤ x.f3 ∧ x.f3 < 4000 := by have := h.all; simp [fitsB, placeB] at this; omega
theorem FitsP.y_ {x : S61} (h : FitsP x) : 0 ≤ x.f4 ∧ x.f4 < 4000 := by have := h.all; simp [fitsB, placeB] at this; omega
theorem FitsP.b_ {x : S61} (h : FitsP x) (e : x.f0 = 1) : 0 ≤ x.f1 ∧ x.f1 ≤ x.f2 ∧ x.f2 ≤ 255 := by have := h.all; simp [fitsB, caseB, e] at this; omega
theorem FitsP.c_ {x : S61} (h : FitsP x) (e : x.f0 = 3) : 0 ≤ x.f1 ∧ x.f1 < 64 := by have := h.all; simp [fitsB, caseB, e] at this; omega
theorem FitsP.a_ {x : S61} (h : FitsP x) (e : x.f0 = 4) : 1 ≤ x.f1 ∧ x.f1 ≤ 6 := by have := h.all; simp [fitsB, caseB, e] at this; omega
theorem zero_all {x : S61} : zeroB x = true ↔ ∀ j, j < 4 → hitB x j = false := by
  unfold zeroB
  simp only [Bool.and_eq_true, Bool.not_eq_true']
  refine ⟨fun ⟨⟨⟨a, b⟩, c⟩, d⟩ j hj => ?_, fun h => ⟨⟨⟨h 0 (by omega), h 1 (by omega)⟩, h 2 (by omega)⟩, h 3 (by omega)⟩⟩
  have : j = 0 ∨ j = 1 ∨ j = 2 ∨ j = 3 := by omega
  rcases this with rfl | rfl | rfl | rfl <;> assumption
set_option maxHeartbeats 1000000 in
theorem fits1_calls (n : Int) (b : Bool) (w : World) : Calls Tryz.prog 157 #[.agg #[.int .i64 n, .bool b]] w (SomeB ((!b && (n != 0)) = true) w) := by
  unfold SomeB
  cases b
  · by_cases hn : n = 0
    · subst hn
      go_enter Tryz.func157, Tryz.ntmps157
      go_wp2_with fail
      refine bodyPost_ret (v := .bool false) (by simp [results, Tryz.results157, go_sem]) rfl ⟨_, rfl, by simp, below_alloc (Below.refl _ _) _⟩
    · have hn' : (n != 0) = true := bne_iff_ne.2 hn
      have HN := Aside0.mk hn'
      clear hn
      go_enter Tryz.func157, Tryz.ntmps157
      go_wp2_with fail
      refine bodyPost_ret (v := .bool true) (by simp [results, Tryz.results157, go_sem]) rfl ⟨_, rfl, by simp [HN.out], below_alloc (Below.refl _ _) _⟩
  · go_enter Tryz.func157, Tryz.ntmps157
    go_wp2_with fail
    refine bodyPost_ret (v := .bool false) (by simp [results, Tryz.results157, go_sem]) rfl ⟨_, rfl, by simp, below_alloc (Below.refl _ _) _⟩
def fieldsC (x : S61) (k : Nat) : Array Value := #[.int .i64 x.f1, .bool (oB k 0), .int .i64 x.f2, .bool (oB k 1), .int .i64 x.f3, .bool (oB k 2), .int .i64 x.f4, .bool (oB k 3)]
set_option maxHeartbeats 1000000 in
theorem fields_calls (x : S61) (k : Nat) (hk : x.f0 = k) (h7 : k < 7) (w : World) : Calls Tryz.prog 156 #[instV x] w fun e w' => ∃ g, e = .returned (.slice (some ⟨g, 0, none⟩) 4 4) ∧ w'.heap[g]? = some (.cells (fieldsC x k) 230 (0, 0)) ∧ Below w.heap.size w w' := by
  unfold instV fieldsC
  obtain ⟨f0, f1, f2, f3, f4⟩ := x
  obtain rfl : f0 = (k : Int) := hk
  have WI := Aside0.mk (words_index k h7)
  have FI := Aside0.mk field_260
  have hbx := heap_alloc_new w (.cells #[.int .i64 k, .int .i64 f1, .int .i64 f2, .int .i64 f3, .int .i64 f4] 61)
  have B1 := below_alloc (Below.refl w.heap.size w) (.cells #[.int .i64 k, .int .i64 f1, .int .i64 f2, .int .i64 f3, .int .i64 f4] 61)
  go_enter Tryz.func156, Tryz.ntmps156
  go_wp2_with fail
  generalize w.alloc (.cells #[.int .i64 k, .int .i64 f1, .int .i64 f2, .int .i64 f3, .int .i64 f4] 61) = w1 at *
  refine wp_region_grow2 [4, 5, 6, 7, 8, 3] (fun j v w2 => match j with
    | 0 => v = wordsV
    | 1 => v = .pointer (some ⟨w.heap.size, 0, none⟩)
    | 2 => v = .int .i64 k
    | 3 => v = .agg #[.string (wordS k), .bool (oB k 0), .bool (oB k 1), .bool (oB k 2), .bool (oB k 3)]
    | 4 => v = .agg #[.bool (oB k 0), .bool (oB k 1), .bool (oB k 2), .bool (oB k 3)]
    | 5 => ∃ g, v = .pointer (some ⟨g, 0, none⟩) ∧ w1.heap.size ≤ g ∧ w2.heap[g]? = some (.cells #[.bool false, .bool false, .bool false, .bool false] 258 (0, 0))
    | _ => True) (by kernel_rfl) (by kernel_rfl) ?_ ?_ ?_
  · intro j v w2 w3 hv hb
    rcases j with _ | _ | _ | _ | _ | _ | j <;> first | exact hv | trivial | (obtain ⟨g, rfl, hw, hg⟩ := hv; exact ⟨g, rfl, hw, blk_below hg hb⟩)
  · refine ⟨?_, ?_, ?_, ?_, ?_, ?_, trivial⟩
    all_goals
      intro a w5 hB hoth hdep
      have p0 := blk_cell (blk_below hbx hB) 0
      have z0 := blk_lt (blk_below hbx hB)
      have h1 := hoth 1 (by decide)
      have hsz := Aside0.mk hB.size
      clear hoth hB
      simp [bd1, bd2, bd3, bd5] at hdep h1
      have wi := WI.out
      have fi := FI.out
      simp only [StepTo, Oper.grows]
      go_simp
      all_goals first
        | with_reducible exact Below.refl _ _
        | with_reducible exact ⟨Below.refl _ _, words_calls _⟩
        | exact ⟨below_alloc (Below.refl _ _) _, hsz.out, (Array.getElem?_eq_some_iff.1 (heap_alloc_new _ _)).2⟩
       
  · intro v w5 hB hV
    obtain ⟨g, q5, hg, hg5⟩ : ∃ g, v 5 = .pointer (some ⟨g, 0, none⟩) ∧ w1.heap.size ≤ g ∧ w5.heap[g]? = some (.cells #[.bool false, .bool false, .bool false, .bool false] 258 (0, 0)) := hV 5 (by decide)
    have q4 : v 4 = .agg #[.bool (oB k 0), .bool (oB k 1), .bool (oB k 2), .bool (oB k 3)] := hV 4 (by decide)
    have B5 := Aside0.mk (B1.trans (hB.mono B1.size))
    have hne : w.heap.size ≠ g := Nat.ne_of_lt (Nat.lt_of_lt_of_le (blk_lt hbx) hg)
    have b5 := blk_below hbx hB
    clear hV hB
    simp only [fillF, q4, q5, Act.put, List.setIfInBounds_toArray, List.set_cons_zero, List.set_cons_succ, List.length_cons, List.length_nil, Nat.reduceAdd, List.drop_succ_cons, List.drop_zero]
    refine wpList_store_row rfl 258 (.tmp 3) (.tmp 8) rfl g #[.bool (oB k 0), .bool (oB k 1), .bool (oB k 2), .bool (oB k 3)] rfl rfl 258 #[.bool false, .bool false, .bool false, .bool false] hg5 (by kernel_rfl) (by first | rfl | simp [Value.oneCell']) (by first | rfl | simp [Value.oneCell']) ?_
    have c1 := (setRow_other w5 g w.heap.size #[.bool (oB k 0), .bool (oB k 1), .bool (oB k 2), .bool (oB k 3)] hne).trans b5
    have c2 := setRow_heap w5 g _ #[.bool (oB k 0), .bool (oB k 1), .bool (oB k 2), .bool (oB k 3)] 258 (0, 0) hg5
    have B6 := Aside0.mk (below_setRow B5.out (Nat.le_trans B1.size hg) #[.bool (oB k 0), .bool (oB k 1), .bool (oB k 2), .bool (oB k 3)])
    generalize w5.setRow g #[.bool (oB k 0), .bool (oB k 1), .bool (oB k 2), .bool (oB k 3)] = w6 at *
    have k0 := blk_cell c1 1
    have k1 := blk_cell c1 2
    have k2 := blk_cell c1 3
    have k3 := blk_cell c1 4
    have d0 := blk_cell c2 0
    have d1 := blk_cell c2 1
    have d2 := blk_cell c2 2
    have d3 := blk_cell c2 3
    have z1 := blk_lt c1
    have z2 := blk_lt c2
    clear c1 c2 b5 hg5 q4 q5 hbx B1 WI FI hg hne
    go_wp2
    refine bodyPost_ret (v := .slice (some ⟨w6.heap.size, 0, none⟩) 4 4) (by simp [results, Tryz.results156, go_sem]) rfl ⟨_, rfl, heap_alloc_new _ _, below_alloc B6.out _⟩
theorem fld {x : S61} {k : Nat} (hk : x.f0 = k) : ∀ j, j < 4 → ∃ n b, (fieldsC x k)[j * 2]? = some (.int .i64 n) ∧ (fieldsC x k)[j * 2 + 1]? = some (.bool b) ∧ (!b && (n != 0)) = hitB x j := by
  have e : x.f0.toNat = k := by omega
  intro j hj
  unfold hitB
  rw [e]
  have : j = 0 ∨ j = 1 ∨ j = 2 ∨ j = 3 := by omega
  rcases this with rfl | rfl | rfl | rfl <;> exact ⟨_, _, rfl, rfl, rfl⟩
def IntR (Q : Prop) (w : World) (e : Ending) (w' : World) : Prop := ∃ r : Int, e = .returned (.int .i64 r) ∧ (r < 0 ↔ Q) ∧ Below w.heap.size w w'
theorem IntR.hit {Q : Prop} {w w' : World} {r : Int} (h0 : 0 ≤ r) (hq : ¬ Q) (hb : Below w.heap.size w w') : IntR Q w (.returned (.int .i64 r)) w' := ⟨r, rfl, ⟨fun h => absurd h (by omega), fun h => absurd h hq⟩, hb⟩
theorem IntR.miss {Q : Prop} {w w' : World} {r : Int} (h0 : r < 0) (hq : Q) (hb : Below w.heap.size w w') : IntR Q w (.returned (.int .i64 r)) w' := ⟨r, rfl, ⟨fun _ => hq, fun _ => h0⟩, hb⟩
set_option maxHeartbeats 1000000 in
set_option maxRecDepth 100000 in
theorem ifields_calls {w : World} {g : Nat} {x : S61} {k : Nat} (hk : x.f0 = k) (h : w.heap[g]? = some (.cells (fieldsC x k) 230 (0, 0))) :
    Calls Tryz.prog 183 #[.slice (some ⟨g, 0, none⟩) 4 4, .func (.func 157) #[] #[]] w (IntR (∀ j, j < 4 → hitB x j = false) w) := by
  have H := Aside0.mk h
  have FL := Aside0.mk (fld (x := x) hk)
  clear h hk
  go_enter Tryz.func183, Tryz.ntmps183
  go_wp2
  go_loopw [8] (fun i wr => ∃ j : Nat, j ≤ 4 ∧ i = .int .i64 j ∧ Aside0 (∀ q, q < j → hitB x q = false) ∧ Aside0 (Below w.heap.size w wr)) (fun i _ => 4 - (intOf i).toNat)
  case atStart => exact ⟨0, by omega, rfl, ⟨fun q hq => absurd hq (by omega)⟩, ⟨Below.refl _ _⟩⟩
  case round =>
    obtain ⟨j, hj, rfl, hQ, hB⟩ := hrel
    by_cases hlt : j < 4
    · obtain ⟨n, b, f0, f1, f2⟩ := FL.out j hlt
      have F2 := Aside0.mk f2
      have h2 := blk_below H.out hB.out
      have c0 := (blk_cell h2 (j * 2)).trans f0
      have c1 := (blk_cell h2 (j * 2 + 1)).trans f1
      have z2 := blk_lt h2
      have HLT := Aside0.mk hlt
      have j0 : (0 : Int) ≤ (j : Int) := by omega
      have j1 : (j : Int) < 4 := by omega
      clear h2 f0 f1 f2
      go_wp2_with fail
      refine (fits1_calls n b _).mono ?_
      rintro e w2 ⟨b2, rfl, hq2, hb2⟩
      have B2 := Aside0.mk (hB.out.trans (hb2.mono hB.out.size))
      have HQ2 := Aside0.mk hq2
      clear hb2 c0 c1 z2 hq2
      cases b2
      · go_wp2
        go_roundw
        case rel => exact ⟨j + 1, by have := HLT.out; omega, by go_num, ⟨fun q hq => by
          by_cases e : q = j
          · subst e; rw [← F2.out]; have := HQ2.out; cases h : (!b && (n != 0)) <;> simp_all
          · exact hQ.out q (by omega)⟩, ⟨B2.out⟩⟩
        case measure => simp [intOf]; have := HLT.out; omega
      · go_wp2
        go_ret
        exact IntR.hit (by omega) (fun h => by have := h j HLT.out; rw [← F2.out, HQ2.out.1 (by simp)] at this; cases this) B2.out
    · obtain rfl : j = 4 := by omega
      go_wp2
      go_ret
      exact IntR.miss (by omega) hQ.out hB.out
set_option maxHeartbeats 1000000 in
theorem cfields_calls {w : World} {g : Nat} {x : S61} {k : Nat} (hk : x.f0 = k) (h : w.heap[g]? = some (.cells (fieldsC x k) 230 (0, 0))) :
    Calls Tryz.prog 155 #[.slice (some ⟨g, 0, none⟩) 4 4, .func (.func 157) #[] #[]] w (SomeB (zeroB x = false) w) := by
  have IC := Aside0.mk (ifields_calls hk h)
  clear h hk
  go_enter Tryz.func155, Tryz.ntmps155
  go_wp2_with fail
  refine IC.out.mono ?_
  rintro e w1 ⟨r, rfl, hr, hb⟩
  have HB := Aside0.mk hb
  have HR := Aside0.mk (hr.trans zero_all.symm)
  clear hb IC hr
  go_wp2
  go_ret
  refine SomeB.of ?_ HB.out
  have := HR.out
  cases hz : zeroB x <;> rw [hz] at this <;> simp at this ⊢ <;> omega
theorem fits_iff {f0 f1 f2 f3 f4 : Int} (o1 : 1 ≤ f0) (o2 : f0 ≤ 6) (p3 : placeB f3 = true) (p4 : placeB f4 = true) (z : zeroB ⟨f0, f1, f2, f3, f4⟩ = true) : FitsP ⟨f0, f1, f2, f3, f4⟩ ↔ caseB ⟨f0, f1, f2, f3, f4⟩ = true := by
  refine ⟨fun h => ?_, fun h => ⟨?_⟩⟩
  · have := h.all; simp [fitsB] at this; exact this.2
  · simp [fitsB, o1, o2, p3, p4, z, h]
theorem fits_no3 {x : S61} (h : placeB x.f3 = false) : ¬ FitsP x := fun hf => by have := hf.all; simp [fitsB, h] at this
theorem fits_no4 {x : S61} (h : placeB x.f4 = false) : ¬ FitsP x := fun hf => by have := hf.all; simp [fitsB, h] at this
theorem fits_noz {x : S61} (h : zeroB x = false) : ¬ FitsP x := fun hf => by have := hf.all; simp [fitsB, h] at this
set_option maxHeartbeats 2000000 in
set_option maxRecDepth 100000 in
theorem fits_calls (x : S61) (w : World) : Calls Tryz.prog 108 #[instV x] w (SomeB (FitsP x) w) := by
  by_cases hop : 1 ≤ x.f0 ∧ x.f0 ≤ 6
  · obtain ⟨k, hk⟩ := Int.eq_ofNat_of_zero_le (show 0 ≤ x.f0 by omega)
    have hk7 : k < 7 := by omega
    have FC := Aside0.mk (fun w9 => fields_calls x k hk hk7 w9)
    have CF := Aside0.mk (fun (w9 : World) (g : Nat) (h : w9.heap[g]? = some (.cells (fieldsC x k) 230 (0, 0))) => cfields_calls hk h)
    unfold instV at *
    obtain ⟨f0, f1, f2, f3, f4⟩ := x
    obtain rfl : f0 = (k : Int) := hk
    obtain ⟨o1, o2⟩ : 1 ≤ (k : Int) ∧ (k : Int) ≤ 6 := hop
    have O1 := Aside0.mk o1
    have O2 := Aside0.mk o2
    have hbx := heap_alloc_new w (.cells #[.int .i64 k, .int .i64 f1, .int .i64 f2, .int .i64 f3, .int .i64 f4] 61)
    have B1 := Aside0.mk (below_alloc (Below.refl w.heap.size w) (.cells #[.int .i64 k, .int .i64 f1, .int .i64 f2, .int .i64 f3, .int .i64 f4] 61))
    go_enter Tryz.func108, Tryz.ntmps108
    go_wp2_with fail
    refine (place_calls _ _).mono ?_
    rintro e w2 ⟨rfl, hb2⟩
    have h2 := blk_below hbx hb2
    have B2 := Aside0.mk (B1.out.trans (hb2.mono B1.out.size))
    clear hbx hb2
    cases hp3 : placeB f3
    · have P3 := Aside0.mk hp3
      clear hp3
      go_wp2
      go_ret
      exact SomeB.no (fits_no3 P3.out) B2.out
    have P3 := Aside0.mk hp3
    have c4 := blk_cell h2 4
    have z2 := blk_lt h2
    clear hp3
    go_wp2_with fail
    refine (place_calls _ _).mono ?_
    rintro e w3 ⟨rfl, hb3⟩
    have h3 := blk_below h2 hb3
    have B3 := Aside0.mk (B2.out.trans (hb3.mono B2.out.size))
    clear h2 hb3 c4 z2
    cases hp4 : placeB f4
    · have P4 := Aside0.mk hp4
      clear hp4
      go_wp2
      go_ret
      exact SomeB.no (fits_no4 P4.out) B3.out
    have P4 := Aside0.mk hp4
    have c0 := blk_cell h3 0
    have c1 := blk_cell h3 1
    have c2 := blk_cell h3 2
    have c3 := blk_cell h3 3
    have c4 := blk_cell h3 4
    have z3 := blk_lt h3
    clear hp4
    go_wp2_with fail
    refine (FC.out _).mono ?_
    rintro e w4 ⟨g, rfl, hg, hb4⟩
    have h4 := blk_below h3 hb4
    have B4 := Aside0.mk (B3.out.trans (hb4.mono B3.out.size))
    have HG := Aside0.mk hg
    clear h3 hb4 c0 c1 c2 c3 c4 z3 hg
    go_wp2_with fail
    refine (CF.out _ g HG.out).mono ?_
    rintro e w5 ⟨b, rfl, hz, hb5⟩
    have h5 := blk_below h4 hb5
    have B5 := Aside0.mk (B4.out.trans (hb5.mono B4.out.size))
    have HZ := Aside0.mk hz
    clear h4 hb5 HG hz
    cases b
    · have FI := Aside0.mk (fits_iff O1.out O2.out P3.out P4.out (by cases h : zeroB ⟨(k : Int), f1, f2, f3, f4⟩; exact absurd (HZ.out.2 h) (by simp); rfl))
      have c0 := blk_cell h5 0
      have c1 := blk_cell h5 1
      have c2 := blk_cell h5 2
      have z5 := blk_lt h5
      clear h5 HZ P3 P4
      have hk6 : k = 1 ∨ k = 2 ∨ k = 3 ∨ k = 4 ∨ k = 5 ∨ k = 6 := by omega
      rcases hk6 with rfl | rfl | rfl | rfl | rfl | rfl
      · by_cases d0 : 0 ≤ f1
        · by_cases d1 : f1 ≤ f2
          · by_cases d2 : f2 ≤ 255
            · go_wp2
              go_ret
              exact SomeB.of ⟨fun _ => FI.out.2 (by simp [caseB, *]), fun _ => by first | rfl | simp [*]⟩ B5.out
            · go_wp2
              go_ret
              exact SomeB.of ⟨fun h => absurd (of_decide_eq_true h) (by omega), fun h => absurd (h.b_ rfl) (by show ¬ (0 ≤ f1 ∧ f1 ≤ f2 ∧ f2 ≤ 255); omega)⟩ B5.out
          · have d1' : decide (f1 ≤ f2) = false := decide_eq_false d1
            go_wp2
            go_ret
            exact SomeB.no (fun h => absurd (h.b_ rfl) (by show ¬ (0 ≤ f1 ∧ f1 ≤ f2 ∧ f2 ≤ 255); omega)) B5.out
        · have d0' : decide (0 ≤ f1) = false := decide_eq_false d0
          go_wp2
          go_ret
          exact SomeB.no (fun h => absurd (h.b_ rfl) (by show ¬ (0 ≤ f1 ∧ f1 ≤ f2 ∧ f2 ≤ 255); omega)) B5.out
      · go_wp2
        go_ret
        exact SomeB.of ⟨fun _ => FI.out.2 (by simp [caseB, *]), fun _ => by first | rfl | simp [*]⟩ B5.out
      · by_cases d0 : 0 ≤ f1
        · by_cases d1 : f1 < 64
          · go_wp2
            go_ret
            exact SomeB.of ⟨fun _ => FI.out.2 (by simp [caseB, *]), fun _ => by first | rfl | simp [*]⟩ B5.out
          · go_wp2
            go_ret
            exact SomeB.of ⟨fun h => absurd (of_decide_eq_true h) (by omega), fun h => absurd (h.c_ rfl) (by show ¬ (0 ≤ f1 ∧ f1 < 64); omega)⟩ B5.out
        · have d0' : decide (0 ≤ f1) = false := decide_eq_false (by omega)
          go_wp2
          go_ret
          exact SomeB.no (fun h => absurd (h.c_ rfl) (by show ¬ (0 ≤ f1 ∧ f1 < 64); omega)) B5.out
      · by_cases d0 : 1 ≤ f1
        · by_cases d1 : f1 ≤ 6
          · go_wp2
            go_ret
            exact SomeB.of ⟨fun _ => FI.out.2 (by simp [caseB, *]), fun _ => by first | rfl | simp [*]⟩ B5.out
          · go_wp2
            go_ret
            exact SomeB.of ⟨fun h => absurd (of_decide_eq_true h) (by omega), fun h => absurd (h.a_ rfl) (by show ¬ (1 ≤ f1 ∧ f1 ≤ 6); omega)⟩ B5.out
        · have d0' : decide (1 ≤ f1) = false := decide_eq_false (by omega)
          go_wp2
          go_ret
          exact SomeB.no (fun h => absurd (h.a_ rfl) (by show ¬ (1 ≤ f1 ∧ f1 ≤ 6); omega)) B5.out
      · go_wp2
        go_ret
        exact SomeB.of ⟨fun _ => FI.out.2 (by simp [caseB, *]), fun _ => by first | rfl | simp [*]⟩ B5.out
      · go_wp2
        go_ret
        exact SomeB.of ⟨fun _ => FI.out.2 (by simp [caseB, *]), fun _ => by first | rfl | simp [*]⟩ B5.out
    · go_wp2
      go_ret
      exact SomeB.no (fits_noz (HZ.out.1 (by simp))) B5.out
  · unfold instV
    have B1 := Aside0.mk (below_alloc (Below.refl w.heap.size w) (.cells #[.int .i64 x.f0, .int .i64 x.f1, .int .i64 x.f2, .int .i64 x.f3, .int .i64 x.f4] 61))
    have NO := Aside0.mk (show ¬ FitsP x from fun h => hop h.op)
    obtain ⟨Q, hQ⟩ : ∃ Q, FitsP x = Q := ⟨_, rfl⟩
    rw [hQ] at NO ⊢
    clear hQ
    obtain ⟨f0, f1, f2, f3, f4⟩ := x
    have ho : ¬ (1 ≤ f0 ∧ f0 ≤ 6) := hop
    by_cases h1 : f0 < 1
    · clear hop ho
      go_enter Tryz.func108, Tryz.ntmps108
      go_wp2
      go_ret
      exact SomeB.no NO.out B1.out
    · have h2 : 6 < f0 := by omega
      clear hop ho
      go_enter Tryz.func108, Tryz.ntmps108
      go_wp2
      go_ret
      exact SomeB.no NO.out B1.out
end Go.Proofs.YtpfcdhjknmijjaaGreat.Ve
end
