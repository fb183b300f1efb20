import Derived.Test.YtpfcdhjknmijjaaGreatCo18
import Derived.Test.YtpfcdhjknmijjaaGreatCo1
section
set_option linter.unusedSimpArgs false
set_option linter.unusedVariables false
namespace Go.Proofs.YtpfcdhjknmijjaaGreat.Grow
open Go.RowKit Go.Proofs.YtpfcdhjknmijjaaGreatW.PrintLast

/-! ### A region that draws its order, all of whose operations are shown once, out of what each waits for; some may write -/
def fillM (v : Nat → Value) (b : Nat → Bool) : Nat → List (Option Tmp) → Act → Act
  | _, [], a => a
  | k, d :: ds, a => fillM v b (k + 1) ds (if b k = true then a.put d (v k) else a)
theorem put_some_comm (a : Act) {d e : Option Tmp} (x y : Value) (h : ∀ t, d = some t → e ≠ some t) : (a.put d x).put e y = (a.put e y).put d x := Act.put_comm a x y h
theorem fillM_congr {v v' : Nat → Value} {b b' : Nat → Bool} : ∀ (dl : List (Option Tmp)) (k : Nat) (a : Act), (∀ j, k ≤ j → v j = v' j ∧ b j = b' j) → fillM v b k dl a = fillM v' b' k dl a
  | [], _, _, _ => rfl
  | d :: ds, k, a, h => by
    simp only [fillM]
    rw [(h k (Nat.le_refl _)).1, (h k (Nat.le_refl _)).2]
    exact fillM_congr ds (k + 1) _ fun j hj => h j (by omega)
theorem fillM_put {v : Nat → Value} {b : Nat → Bool} {e : Option Tmp} {y : Value} : ∀ (dl : List (Option Tmp)) (k : Nat) (a : Act), (∀ t, e = some t → some t ∉ dl) → (fillM v b k dl a).put e y = fillM v b k dl (a.put e y)
  | [], _, _, _ => rfl
  | d :: ds, k, a, h => by
    simp only [fillM]
    rw [fillM_put ds (k + 1) _ fun t ht hm => h t ht (List.mem_cons_of_mem _ hm)]
    split
    · rw [put_some_comm a (d := d) (e := e) _ _ fun t ht he => h t he (by rw [← ht]; exact List.mem_cons_self ..)]
    · rfl
theorem fillM_up {v : Nat → Value} {b : Nat → Bool} {x : Value} : ∀ (dl : List (Option Tmp)) (k j : Nat) (d : Option Tmp) (a : Act), (dl.filterMap id).Nodup → dl[j]? = some d → b (k + j) = false →
    (fillM v b k dl a).put d x = fillM (upd v (k + j) x) (up b (k + j)) k dl a
  | [], _, _, _, _, _, h, _ => by simp at h
  | e :: ds, k, 0, d, a, hn, h, hb => by
    obtain rfl : e = d := by simpa using h
    rw [Nat.add_zero] at hb ⊢
    have hnm : ∀ t, e = some t → some t ∉ ds := fun t ht hm => by
      subst ht
      simp only [List.filterMap_cons, id, List.nodup_cons] at hn
      exact hn.1 (List.mem_filterMap.2 ⟨_, hm, rfl⟩)
    simp only [fillM]
    rw [fillM_put ds (k + 1) _ hnm, if_neg (by rw [hb]; decide), if_pos (up_self b k), show upd v k x k = x by simp [upd]]
    exact fillM_congr ds (k + 1) _ fun j hj => ⟨by simp only [upd]; rw [if_neg (by omega)], (up_ne (by omega)).symm⟩
  | e :: ds, k, j + 1, d, a, hn, h, hb => by
    have hn' : (ds.filterMap id).Nodup := by
      cases e with
      | none => simpa using hn
      | some t => simp only [List.filterMap_cons, id, List.nodup_cons] at hn; exact hn.2
    simp only [fillM]
    rw [fillM_up ds (k + 1) j d _ hn' (by simpa using h) (by rw [show k + 1 + j = k + (j + 1) by omega]; exact hb), show k + 1 + j = k + (j + 1) by omega,
      up_ne (show k ≠ k + (j + 1) by omega), show upd v (k + (j + 1)) x k = v k by simp [upd]]
theorem fillM_other {v : Nat → Value} {b : Nat → Bool} {t : Tmp} : ∀ (dl : List (Option Tmp)) (k : Nat) (a : Act), some t ∉ dl → (fillM v b k dl a).tmps.getD t undef = a.tmps.getD t undef
  | [], _, _, _ => rfl
  | d :: ds, k, a, h => by
    simp only [fillM]
    rw [fillM_other ds _ _ fun hm => h (List.mem_cons_of_mem _ hm)]
    split
    · cases d with
      | none => rfl
      | some d => exact getD_put_ne _ _ _ _ fun he => h (by rw [he]; exact List.mem_cons_self ..)
    · rfl
theorem fillM_slot {v : Nat → Value} {b : Nat → Bool} : ∀ (dl : List (Option Tmp)) (k j : Nat) (t : Tmp) (a : Act), (dl.filterMap id).Nodup → dl[j]? = some (some t) → b (k + j) = true → t < a.tmps.size → (fillM v b k dl a).tmps.getD t undef = v (k + j)
  | [], _, _, _, _, _, h, _, _ => by simp at h
  | e :: ds, k, 0, t, a, hn, h, hb, hs => by
    obtain rfl : e = some t := by simpa using h
    rw [Nat.add_zero] at hb ⊢
    simp only [List.filterMap_cons, id, List.nodup_cons] at hn
    simp only [fillM]
    rw [fillM_other ds _ _ fun hm => hn.1 (List.mem_filterMap.2 ⟨_, hm, rfl⟩), if_pos hb, getD_put_eq _ _ _ hs]
  | e :: ds, k, j + 1, t, a, hn, h, hb, hs => by
    have hn' : (ds.filterMap id).Nodup := by
      cases e with
      | none => simpa using hn
      | some t => simp only [List.filterMap_cons, id, List.nodup_cons] at hn; exact hn.2
    simp only [fillM]
    rw [show k + (j + 1) = k + 1 + j by omega] at hb ⊢
    refine fillM_slot ds (k + 1) j t _ hn' (by simpa using h) hb ?_
    split
    · cases e with
      | none => exact hs
      | some e => rw [size_put]; exact hs
    · exact hs
theorem fillM_all {v : Nat → Value} {b : Nat → Bool} {n : Nat} : ∀ (dl : List (Option Tmp)) (k : Nat) (a : Act), k + dl.length ≤ n → (∀ j, j < n → b j = true) → fillM v b k dl a = fillM v (fun _ => true) k dl a
  | [], _, _, _, _ => rfl
  | d :: ds, k, a, hn, h => by
    simp only [fillM, List.length_cons] at hn ⊢
    rw [if_pos (h k (by omega)), if_true]
    exact fillM_all ds (k + 1) _ (by omega) h
/-- What an operation does to the world and yields. -/
def Oper.moves (P : Program) (o : Oper) (a : Act) (w : World) (R : Value → World → Prop) : Prop :=
  match (execOp a.eval o).run P w with
  | .ok (.value v) w' => R v w'
  | .ok .skip w' => R undef w'
  | .ok (.enter f args) w' => Calls P f args w' (fun e w'' => ∃ v, e = .returned v ∧ R v w'')
  | _ => False
theorem wp_of_moves {P : Program} {o : Oper} {a : Act} {w : World} {R : Value → World → Prop} {K : Act → World → Prop} {Q : Exit → Act → World → Prop} (h : Oper.moves P o a w R) (hk : ∀ v w', R v w' → K (a.put o.dst v) w') : Oper.wp P o a w K Q := by
  unfold Oper.moves at h
  unfold Oper.wp
  generalize (execOp a.eval o).run P w = r at *
  cases r with
  | halt x w' => exact h.elim
  | ok n w' =>
    cases n <;> simp only [] at h <;> try exact h.elim
    case value u => simp only [Oper.upon]; exact hk u w' h
    case skip => simp only [Oper.upon]; exact hk undef w' h
    case enter g args =>
      simp only [Oper.upon]
      refine h.mono fun e w'' ⟨u, he, hu⟩ => ?_
      subst he
      exact hk u w'' hu
theorem moves_of_grows {P : Program} {o : Oper} {a : Act} {w w0 : World} {V : Nat → (Nat → Value) → World → Prop} {R : Value → World → Prop} (hV : ∀ j v w w', V j v w → Below w.heap.size w w' → V j v w') (hb : Below w0.heap.size w0 w) (h : Oper.grows P o a w R) :
    Oper.moves P o a w fun u w' => R u w' ∧ Below w0.heap.size w0 w' ∧ ∀ j x, V j x w → V j x w' := by
  unfold Oper.grows at h
  unfold Oper.moves
  generalize (execOp a.eval o).run P w = r at *
  cases r with
  | halt x w' => exact h.elim
  | ok n w' =>
    cases n <;> simp only [] at h ⊢ <;> try exact h.elim
    case value u => exact ⟨h.2, hb.trans (h.1.mono hb.size), fun j x hx => hV _ _ _ _ hx h.1⟩
    case enter g args =>
      refine h.2.mono fun e w'' ⟨u, he, hbe, hu⟩ => ⟨u, he, hu, ?_⟩
      have hb2 : Below w.heap.size w w'' := h.1.trans (hbe.mono h.1.size)
      exact ⟨hb.trans (hb2.mono hb.size), fun j x hx => hV _ _ _ _ hx hb2⟩
def mixB (ops : Array Oper) (dl : List (Option Tmp)) (size : Nat) : Bool :=
  decide (dl.length = ops.size) && ((List.range ops.size).all fun i => ((ops[i]?).map fun o => decide (dl[i]? = some o.dst) && o.guard.isNone).getD false) && decide (dl.filterMap id).Nodup && dl.all fun d => d.all (decide <| · < size)
theorem wp_region_mix {P : Program} {Q : Exit → Act → World → Prop} {id : Nat} {a0 : Act} {w0 : World} {ops : Array Oper} {T : Bool × List (List Nat × List Nat)} {B : List Nat} (dl : List (Option Tmp)) (V : Nat → (Nat → Value) → World → Prop) (hm : P.follows .mixedOrders = true)
    (hT : rtab .any ops = T) (hw : waitsOk T.2 B = true) (hk : baseOk T.2 (List.range dl.length) = true) (hB : mixB ops dl a0.tmps.size = true)
    (hV : ∀ j v w w', V j v w → Below w.heap.size w w' → V j v w')
    (hloc : ∀ j i v u w, j < dl.length → i ≠ j → (B.getD j 0).testBit i = false → V j v w → V j (upd v i u) w)
    (hstep : ∀ i (hi : i < dl.length) o, ops[i]? = some o → ∀ (a : Act) (w : World) (v : Nat → Value), Below w0.heap.size w0 w → (∀ t, some t ∉ dl → a.tmps.getD t undef = a0.tmps.getD t undef) →
      (∀ j, (B.getD i 0).testBit j = true → j < dl.length → V j v w ∧ ∀ t, dl[j]? = some (some t) → a.tmps.getD t undef = v j) →
      Oper.grows P o a w (fun u w' => V i (upd v i u) w') ∨ Oper.moves P o a w fun u w' => V i (upd v i u) w' ∧ Below w0.heap.size w0 w' ∧ ∀ j x, V j x w → V j x w')
    (hend : ∀ (v : Nat → Value) (w : World), Below w0.heap.size w0 w → (∀ j, j < dl.length → V j v w) → Q .normal (fillM v (fun _ => true) 0 dl a0) w) :
    (Code.region id ops true).wp P Q a0 w0 := by
  simp only [mixB, Bool.and_eq_true, decide_eq_true_eq] at hB
  obtain ⟨⟨⟨hlen, hdst⟩, hnd⟩, hsz⟩ := hB
  have hTl : T.2.length = ops.size := by rw [← hT]; exact rtab_length
  have hcon : ∀ j, (List.range dl.length).contains j = true ↔ j < dl.length := fun j => by rw [List.contains_iff_mem]; exact List.mem_range
  refine start_ (n := dl.length) (S := fun _ => True) (ds := []) (Array.replicate dl.length false) hm hlen.symm rfl trivial (fun _ => ?_)
  refine inv_ (T := T) (B := B) (List.range dl.length) (fun b a w => Below w0.heap.size w0 w ∧ ∃ v : Nat → Value, (∀ j, j < dl.length → b j = true → V j v w ∧ ∀ i, (B.getD j 0).testBit i = true → i < dl.length → b i = true) ∧ a = fillM v b 0 dl a0) hT hw hk ?_ ?_ ?_ ?_
  · rw [hTl, ← hlen, Bool.and_eq_true, beq_iff_eq, beq_iff_eq]
    refine ⟨?_, List.length_range⟩
    apply List.ext_getElem
    · simp [lof]
    · intro j h1 h2
      have : j < dl.length := by simpa using h2
      simp [lof, this]
  · refine ⟨⟨rfl, rfl, rfl, Nat.le_refl _, fun _ _ => rfl⟩, fun _ => undef, (fun j _ h => by cases h), ?_⟩
    have : ∀ (l : List (Option Tmp)) k a, fillM (fun _ => undef) (fun _ => false) k l a = a := by
      intro l
      induction l with
      | nil => intro k a; rfl
      | cons d ds ih => intro k a; simp only [fillM]; rw [if_neg (by decide)]; exact ih _ _
    exact (this _ _ _).symm
  · intro i hi
    have hi : i < dl.length := List.mem_range.1 hi
    intro b a w hI hbi hwait _
    obtain ⟨hb, v, hv, rfl⟩ := hI
    obtain ⟨o, ho⟩ : ∃ o, ops[i]? = some o := ⟨ops[i]'(by omega), by simp⟩
    have h1 := List.all_eq_true.1 hdst i (List.mem_range.2 (by omega))
    rw [ho] at h1
    simp only [Option.map_some, Option.getD_some, Bool.and_eq_true, decide_eq_true_eq, Option.isNone_iff_eq_none] at h1
    obtain ⟨hd, hg⟩ := h1
    refine ⟨o, ho, fun K hK => ?_⟩
    rw [if_pos (by simp [Region.wanted, hg])]
    have hdone : ∀ j, (B.getD i 0).testBit j = true → j < dl.length → b j = true := fun j hj hjl => hwait j (by rw [Bool.and_eq_true]; exact ⟨(hcon j).2 hjl, hj⟩)
    have hs := hstep i hi o ho (fillM v b 0 dl a0) w v hb (fun t ht => fillM_other dl 0 a0 ht) (fun j hj hjl => by
      have hjd := hdone j hj hjl
      refine ⟨(hv j hjl hjd).1, fun t hjt => ?_⟩
      have ht : t < a0.tmps.size := by
        have := List.all_eq_true.1 hsz (some t) (List.mem_of_getElem? hjt)
        simpa using this
      rw [fillM_slot dl 0 j t a0 hnd hjt (by rw [Nat.zero_add]; exact hjd) ht, Nat.zero_add])
    have hmv : Oper.moves P o (fillM v b 0 dl a0) w fun u w' => V i (upd v i u) w' ∧ Below w0.heap.size w0 w' ∧ ∀ j x, V j x w → V j x w' := by
      rcases hs with h | h
      · exact moves_of_grows hV hb h
      · exact h
    refine wp_of_moves hmv fun u w' ⟨hu, hb', hold⟩ => hK.out _ _ ⟨hb', upd v i u, fun j hj hbj => ?_, ?_⟩
    · by_cases e : j = i
      · subst e
        refine ⟨hu, fun k hk hkl => ?_⟩
        by_cases ek : k = j
        · subst ek; exact up_self _ _
        · rw [up_ne ek]; exact hdone k hk hkl
      · rw [up_ne e] at hbj
        have hvj := hv j hj hbj
        refine ⟨hold _ _ (hloc j i v u w hj (Ne.symm e) ?_ hvj.1), fun k hk hkl => ?_⟩
        · cases hbt : (B.getD j 0).testBit i with
          | false => rfl
          | true =>
            have := hvj.2 i hbt hi
            rw [hbi] at this
            cases this
        · by_cases ek : k = i
          · subst ek; exact up_self _ _
          · rw [up_ne ek]; exact hvj.2 k hk hkl
    · have := fillM_up (v := v) (b := b) (x := u) dl 0 i o.dst a0 hnd hd (by rw [Nat.zero_add]; exact hbi)
      rw [Nat.zero_add] at this
      exact this
  · intro b a w hall ⟨hb, v, hv, ha⟩
    rw [ha, fillM_all dl 0 a0 (n := dl.length) (by omega) fun j hj => hall j ((hcon j).2 hj)]
    exact hend v w hb fun j hj => (hv j hj (hall j ((hcon j).2 hj))).1
theorem moves_mono {P : Program} {o : Oper} {a : Act} {w : World} {R R' : Value → World → Prop} (h : Oper.moves P o a w R) (hr : ∀ u w', R u w' → R' u w') : Oper.moves P o a w R' := by
  unfold Oper.moves at h ⊢
  generalize (execOp a.eval o).run P w = r at *
  cases r with
  | halt x w' => exact h.elim
  | ok n w' =>
    cases n <;> simp only [] at h ⊢ <;> try exact h.elim
    case value u => exact hr _ _ h
    case skip => exact hr _ _ h
    case enter g args => exact h.mono fun e w'' ⟨u, he, hu⟩ => ⟨u, he, hr _ _ hu⟩
/-- A region that draws its order, some of whose operations come in one order and change a state St; the others make memory at most. -/
theorem wp_region_chain {P : Program} {Q : Exit → Act → World → Prop} {id : Nat} {a0 : Act} {w0 : World} {ops : Array Oper} {T : Bool × List (List Nat × List Nat)} {B : List Nat} (dl : List (Option Tmp)) (V : Nat → (Nat → Value) → World → Prop) (eff : List Nat) (St : Nat → World → Prop) (hm : P.follows .mixedOrders = true)
    (hT : rtab .any ops = T) (hw : waitsOk T.2 B = true) (hk : baseOk T.2 (List.range dl.length) = true) (hB : mixB ops dl a0.tmps.size = true)
    (hV : ∀ j v w w', V j v w → Below w.heap.size w w' → V j v w')
    (hS0 : St 0 { w0 with drawn := w0.drawn + 1 }) (hS : ∀ k w w', St k w → Below w.heap.size w w' → St k w') (hef : ∀ q, q < eff.length → eff.getD q 0 < dl.length)
    (hch : ∀ r, r < eff.length → ∀ q, q < r → (B.getD (eff.getD r 0) 0).testBit (eff.getD q 0) = true) (hinj : ∀ q, q < eff.length → ∀ r, r < eff.length → eff.getD q 0 = eff.getD r 0 → q = r)
    (hloc : ∀ j i v u w, j < dl.length → i ≠ j → (B.getD j 0).testBit i = false → V j v w → V j (upd v i u) w)
    (hstep : ∀ i (hi : i < dl.length) o, ops[i]? = some o → ∀ (a : Act) (w : World) (v : Nat → Value), (∀ t, some t ∉ dl → a.tmps.getD t undef = a0.tmps.getD t undef) →
      (∀ j, (B.getD i 0).testBit j = true → j < dl.length → V j v w ∧ ∀ t, dl[j]? = some (some t) → a.tmps.getD t undef = v j) →
      (i ∉ eff ∧ ∀ k, k ≤ eff.length → St k w → Oper.grows P o a w (fun u w' => V i (upd v i u) w')) ∨
      (∃ q, q < eff.length ∧ eff.getD q 0 = i ∧ (St q w → Oper.moves P o a w fun u w' => V i (upd v i u) w' ∧ St (q + 1) w' ∧ ∀ j x, V j x w → V j x w')))
    (hend : ∀ (v : Nat → Value) (w : World), St eff.length w → (∀ j, j < dl.length → V j v w) → Q .normal (fillM v (fun _ => true) 0 dl a0) w) :
    (Code.region id ops true).wp P Q a0 w0 := by
  simp only [mixB, Bool.and_eq_true, decide_eq_true_eq] at hB
  obtain ⟨⟨⟨hlen, hdst⟩, hnd⟩, hsz⟩ := hB
  have hTl : T.2.length = ops.size := by rw [← hT]; exact rtab_length
  have hcon : ∀ j, (List.range dl.length).contains j = true ↔ j < dl.length := fun j => by rw [List.contains_iff_mem]; exact List.mem_range
  refine start_ (n := dl.length) (S := fun _ => True) (ds := []) (Array.replicate dl.length false) hm hlen.symm rfl trivial (fun _ => ?_)
  refine inv_ (T := T) (B := B) (List.range dl.length) (fun b a w => (∃ k, k ≤ eff.length ∧ (∀ q, q < eff.length → b (eff.getD q 0) = decide (q < k)) ∧ St k w) ∧ ∃ v : Nat → Value, (∀ j, j < dl.length → b j = true → V j v w ∧ ∀ i, (B.getD j 0).testBit i = true → i < dl.length → b i = true) ∧ a = fillM v b 0 dl a0) hT hw hk ?_ ?_ ?_ ?_
  · rw [hTl, ← hlen, Bool.and_eq_true, beq_iff_eq, beq_iff_eq]
    refine ⟨?_, List.length_range⟩
    apply List.ext_getElem
    · simp [lof]
    · intro j h1 h2
      have : j < dl.length := by simpa using h2
      simp [lof, this]
  · refine ⟨⟨0, Nat.zero_le _, fun q hq => by simp [lof], hS0⟩, fun _ => undef, (fun j _ h => by cases h), ?_⟩
    have : ∀ (l : List (Option Tmp)) k a, fillM (fun _ => undef) (fun _ => false) k l a = a := by
      intro l
      induction l with
      | nil => intro k a; rfl
      | cons d ds ih => intro k a; simp only [fillM]; rw [if_neg (by decide)]; exact ih _ _
    exact (this _ _ _).symm
  · intro i hi
    have hi : i < dl.length := List.mem_range.1 hi
    intro b a w hI hbi hwait _
    obtain ⟨hb, v, hv, rfl⟩ := hI
    obtain ⟨o, ho⟩ : ∃ o, ops[i]? = some o := ⟨ops[i]'(by omega), by simp⟩
    have h1 := List.all_eq_true.1 hdst i (List.mem_range.2 (by omega))
    rw [ho] at h1
    simp only [Option.map_some, Option.getD_some, Bool.and_eq_true, decide_eq_true_eq, Option.isNone_iff_eq_none] at h1
    obtain ⟨hd, hg⟩ := h1
    refine ⟨o, ho, fun K hK => ?_⟩
    rw [if_pos (by simp [Region.wanted, hg])]
    have hdone : ∀ j, (B.getD i 0).testBit j = true → j < dl.length → b j = true := fun j hj hjl => hwait j (by rw [Bool.and_eq_true]; exact ⟨(hcon j).2 hjl, hj⟩)
    have hs := hstep i hi o ho (fillM v b 0 dl a0) w v (fun t ht => fillM_other dl 0 a0 ht) (fun j hj hjl => by
      have hjd := hdone j hj hjl
      refine ⟨(hv j hjl hjd).1, fun t hjt => ?_⟩
      have ht : t < a0.tmps.size := by
        have := List.all_eq_true.1 hsz (some t) (List.mem_of_getElem? hjt)
        simpa using this
      rw [fillM_slot dl 0 j t a0 hnd hjt (by rw [Nat.zero_add]; exact hjd) ht, Nat.zero_add])
    have hmv : Oper.moves P o (fillM v b 0 dl a0) w fun u w' => V i (upd v i u) w' ∧ (∃ k, k ≤ eff.length ∧ (∀ q, q < eff.length → up b i (eff.getD q 0) = decide (q < k)) ∧ St k w') ∧ ∀ j x, V j x w → V j x w' := by
      obtain ⟨k, hk1, hk2, hk3⟩ := hb
      rcases hs with ⟨hne, h⟩ | ⟨q, hq, hqi, h⟩
      · have hg := h k hk1 hk3
        have hne2 : ∀ q, q < eff.length → eff.getD q 0 ≠ i := fun q hq e => hne (by rw [← e, List.getD_eq_getElem?_getD, List.getElem?_eq_getElem hq]; exact List.getElem_mem hq)
        have := moves_of_grows hV (Below.refl w.heap.size w) hg
        exact moves_mono this fun u w' ⟨h1, h2, h3⟩ => ⟨h1, ⟨k, hk1, fun q hq => by rw [up_ne (hne2 q hq)]; exact hk2 q hq, hS k w w' hk3 h2⟩, h3⟩
      · have hkq : k = q := by
          have h0 : b (eff.getD q 0) = false := by rw [hqi]; exact hbi
          rw [hk2 q hq] at h0
          have h1 : ¬ q < k := by simpa using h0
          rcases Nat.lt_or_ge k q with hlt | hge
          · have h2 := hdone (eff.getD k 0) (by rw [← hqi]; exact hch q hq k hlt) (hef k (by omega))
            rw [hk2 k (by omega)] at h2
            simp at h2
          · omega
        subst hkq
        refine moves_mono (h hk3) fun u w' ⟨h1, h2, h3⟩ => ⟨h1, ⟨k + 1, by omega, fun r hr => ?_, h2⟩, h3⟩
        by_cases e : r = k
        · subst e; rw [hqi, up_self]; simp
        · have hne : eff.getD r 0 ≠ i := fun e2 => e (hinj r hr k hq (by rw [hqi]; exact e2))
          rw [up_ne hne, hk2 r hr]
          by_cases h4 : r < k
          · rw [decide_eq_true h4, decide_eq_true (by omega)]
          · rw [decide_eq_false h4, decide_eq_false (by omega)]
    refine wp_of_moves hmv fun u w' ⟨hu, hb', hold⟩ => hK.out _ _ ⟨hb', upd v i u, fun j hj hbj => ?_, ?_⟩
    · by_cases e : j = i
      · subst e
        refine ⟨hu, fun k hk hkl => ?_⟩
        by_cases ek : k = j
        · subst ek; exact up_self _ _
        · rw [up_ne ek]; exact hdone k hk hkl
      · rw [up_ne e] at hbj
        have hvj := hv j hj hbj
        refine ⟨hold _ _ (hloc j i v u w hj (Ne.symm e) ?_ hvj.1), fun k hk hkl => ?_⟩
        · cases hbt : (B.getD j 0).testBit i with
          | false => rfl
          | true =>
            have := hvj.2 i hbt hi
            rw [hbi] at this
            cases this
        · by_cases ek : k = i
          · subst ek; exact up_self _ _
          · rw [up_ne ek]; exact hvj.2 k hk hkl
    · have := fillM_up (v := v) (b := b) (x := u) dl 0 i o.dst a0 hnd hd (by rw [Nat.zero_add]; exact hbi)
      rw [Nat.zero_add] at this
      exact this
  · intro b a w hall ⟨hb, v, hv, ha⟩
    rw [ha, fillM_all dl 0 a0 (n := dl.length) (by omega) fun j hj => hall j ((hcon j).2 hj)]
    obtain ⟨k, hk1, hk2, hk3⟩ := hb
    have hke : k = eff.length := by
      rcases Nat.lt_or_ge k eff.length with hlt | hge
      · have h2 := hk2 k hlt
        rw [hall _ ((hcon _).2 (hef k hlt))] at h2
        simp at h2
      · omega
    subst hke
    exact hend v w hk3 fun j hj => (hv j hj (hall j ((hcon j).2 hj))).1
end Go.Proofs.YtpfcdhjknmijjaaGreat.Grow
end
