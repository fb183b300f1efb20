import Derived.StillTail
import Derived.Below
section
namespace Go.Proofs.YtpfcdhjknmijjaaGreat.Grow
open Go.RowKit

section
variable {P : Program} {ops : Array Oper} {Q : Exit → Act → World → Prop}

/-- The frame with values laid into slots, one behind the other. -/
def fillF (a : Act) (v : Nat → Value) : Nat → List Tmp → Act
  | _, [] => a
  | k, d :: ds => fillF (a.put (some d) (v k)) v (k + 1) ds

def upd (v : Nat → Value) (k : Nat) (x : Value) : Nat → Value := fun j => if j = k then x else v j

theorem put_put_ne (a : Act) (d e : Tmp) (x y : Value) (h : d ≠ e) : (a.put (some d) x).put (some e) y = (a.put (some e) y).put (some d) x :=
  Act.put_comm a x y (fun t ht he => h (by cases ht; exact (Option.some.inj he).symm))

theorem fill_put (v : Nat → Value) (e : Tmp) (y : Value) : ∀ (dl : List Tmp) (k : Nat), e ∉ dl → ∀ a : Act, (fillF a v k dl).put (some e) y = fillF (a.put (some e) y) v k dl
  | [], _, _, _ => rfl
  | d :: ds, k, h, a => by
    simp only [fillF]
    rw [fill_put v e y ds (k + 1) (fun hm => h (List.mem_cons_of_mem _ hm)), put_put_ne _ _ _ _ _ (fun he => h (by rw [he]; exact List.mem_cons_self ..))]

theorem fill_congr (v u : Nat → Value) : ∀ (dl : List Tmp) (k : Nat) (a : Act), (∀ j, k ≤ j → v j = u j) → fillF a v k dl = fillF a u k dl
  | [], _, _, _ => rfl
  | d :: ds, k, a, h => by
    simp only [fillF]
    rw [h k (Nat.le_refl _), fill_congr v u ds (k + 1) _ (fun j hj => h j (by omega))]

theorem put_same (a : Act) (d : Tmp) (x y : Value) : (a.put (some d) x).put (some d) y = a.put (some d) y := by simp [Act.put]

theorem fill_upd (v : Nat → Value) (y : Value) : ∀ (dl : List Tmp) (k j : Nat) (d : Tmp) (a : Act), dl.Nodup → dl[j]? = some d → (fillF a v k dl).put (some d) y = fillF a (upd v (k + j) y) k dl
  | [], _, _, _, _, _, h => by simp at h
  | e :: ds, k, 0, d, a, hn, h => by
    have hed : e = d := by simpa using h
    subst hed
    obtain ⟨h1, h2⟩ := List.nodup_cons.1 hn
    simp only [fillF]
    rw [fill_put v e y ds (k + 1) h1, put_same, fill_congr v (upd v (k + 0) y) ds (k + 1) _ (fun j hj => by simp only [upd]; rw [if_neg (by omega)])]
    simp [upd]
  | e :: ds, k, j + 1, d, a, hn, h => by
    obtain ⟨h1, h2⟩ := List.nodup_cons.1 hn
    simp only [fillF]
    have hd : ds[j]? = some d := by simpa using h
    rw [fill_upd v y ds (k + 1) j d _ h2 hd, show k + 1 + j = k + (j + 1) by omega]
    have hk : upd v (k + (j + 1)) y k = v k := by simp only [upd]; rw [if_neg (by omega)]
    rw [hk]

theorem getD_put_ne (a : Act) (d t : Tmp) (x : Value) (h : d ≠ t) : (a.put (some d) x).tmps.getD t undef = a.tmps.getD t undef := by
  simp [Act.put, Array.getElem?_setIfInBounds_ne h]
theorem getD_put_eq (a : Act) (d : Tmp) (x : Value) (h : d < a.tmps.size) : (a.put (some d) x).tmps.getD d undef = x := by
  simp [Act.put, h]
theorem size_put (a : Act) (d : Tmp) (x : Value) : (a.put (some d) x).tmps.size = a.tmps.size := by simp [Act.put]
theorem size_fill (v : Nat → Value) : ∀ (dl : List Tmp) (k : Nat) (a : Act), (fillF a v k dl).tmps.size = a.tmps.size
  | [], _, _ => rfl
  | d :: ds, k, a => by simp only [fillF]; rw [size_fill v ds, size_put]

theorem fill_other (v : Nat → Value) (t : Tmp) : ∀ (dl : List Tmp) (k : Nat) (a : Act), t ∉ dl → (fillF a v k dl).tmps.getD t undef = a.tmps.getD t undef
  | [], _, _, _ => rfl
  | d :: ds, k, a, h => by
    simp only [fillF]
    rw [fill_other v t ds _ _ (fun hm => h (List.mem_cons_of_mem _ hm)), getD_put_ne _ _ _ _ (fun he => h (by rw [he]; exact List.mem_cons_self ..))]

theorem fill_slot (v : Nat → Value) : ∀ (dl : List Tmp) (k j : Nat) (d : Tmp) (a : Act), dl.Nodup → dl[j]? = some d → d < a.tmps.size → (fillF a v k dl).tmps.getD d undef = v (k + j)
  | [], _, _, _, _, _, h, _ => by simp at h
  | e :: ds, k, 0, d, a, hn, h, hs => by
    have hed : e = d := by simpa using h
    subst hed
    obtain ⟨h1, h2⟩ := List.nodup_cons.1 hn
    simp only [fillF]
    rw [fill_other v e ds _ _ h1, getD_put_eq _ _ _ hs]; rfl
  | e :: ds, k, j + 1, d, a, hn, h, hs => by
    obtain ⟨h1, h2⟩ := List.nodup_cons.1 hn
    simp only [fillF]
    have hd : ds[j]? = some d := by simpa using h
    rw [fill_slot v ds (k + 1) j d _ h2 hd (by rw [size_put]; exact hs), show k + 1 + j = k + (j + 1) by omega]

/-- Every frame is its own, with what its slots hold laid into them. -/
theorem fill_self : ∀ (dl : List Tmp) (k : Nat) (a : Act), (∀ (j : Nat) (d : Tmp), dl[j]? = some d → d < a.tmps.size) →
    fillF a (fun j => (dl[j - k]?).elim undef (fun d => a.tmps.getD d undef)) k dl = a
  | [], _, _, _ => rfl
  | d :: ds, k, a, h => by
    simp only [fillF]
    have hd : d < a.tmps.size := h 0 d (by simp)
    have e : a.put (some d) (((d :: ds)[k - k]?).elim undef (fun d => a.tmps.getD d undef)) = a := by
      simp only [Nat.sub_self, List.getElem?_cons_zero, Option.elim, Act.put]
      have : a.tmps.setIfInBounds d (a.tmps.getD d undef) = a.tmps := by
        apply Array.ext_getElem?
        intro i
        rw [Array.getElem?_setIfInBounds]
        split
        · rename_i e; subst e; simp [hd]
        · rfl
      rw [this]
    rw [e]
    have := fill_self ds (k + 1) a (fun j d hj => h (j + 1) d (by simpa using hj))
    conv => rhs; rw [← this]
    apply fill_congr
    intro j hj
    have : j - k = (j - (k + 1)) + 1 := by omega
    rw [this]; rfl

/-- An operation that leaves all that there is, and gives a value that is so. -/
def Oper.grows (P : Program) (o : Oper) (a : Act) (w : World) (R : Value → World → Prop) : Prop :=
  match (execOp a.eval o).run P w with
  | .ok (.value v) w' => Below w.heap.size w w' ∧ R v w'
  | .ok (.enter f args) w' => Below w.heap.size w w' ∧ Calls P f args w' (fun e w'' => ∃ v, e = .returned v ∧ Below w'.heap.size w' w'' ∧ R v w'')
  | _ => False

/-- The same, of one that may have a guard: its guard's slot is 'g'. -/
def StepTo (P : Program) (dl : List Tmp) (o : Oper) (a : Act) (w : World) (R : Value → World → Prop) : Prop :=
  match o.guard with
  | none => Oper.grows P o a w R
  | some (g, want) => ∀ d, dl[g]? = some d → (a.tmps.getD d undef = .bool want → Oper.grows P o a w R) ∧ (a.tmps.getD d undef ≠ .bool want → R undef w)

/-- What is to be shown of each operation of the list. -/
def StepsAll (P : Program) (a0 : Act) (w0 : World) (dl : List Tmp) (V : Nat → Value → World → Prop) : Nat → List Oper → Prop
  | _, [] => True
  | k, o :: l => (∀ (a : Act) (w : World), Below w0.heap.size w0 w → (∀ t, t ∉ dl → a.tmps.getD t undef = a0.tmps.getD t undef) →
      (∀ e ∈ o.after, ∀ d, dl[e.on]? = some d → V e.on (a.tmps.getD d undef) w) → StepTo P dl o a w (V k)) ∧ StepsAll P a0 w0 dl V (k + 1) l

/-- What the kernel reckons of a region: its first 'n' operations come in whatever order, the others behind them, one after the other. -/
def growB (ops : Array Oper) (dl : List Tmp) (size : Nat) : Bool :=
  let n := dl.length
  Region.noSelect ops && decide (n ≤ ops.size) && (decide (n = ops.size) || Region.sinkB .any ops n) && Region.chainB .any ops n &&
  Region.seqB .any ops (ops.size - n) n ((Array.range ops.size).map (decide <| · < n)) &&
  (ops.all fun o => o.after.all fun e => Region.binds .any e) &&
  ((List.range n).all fun i => ((ops[i]?).map fun o => o.after.all fun e => decide (e.on < i)).getD false) &&
  ((List.range n).all fun i => ((ops[i]?).map fun o => o.dst == dl[i]?).getD false) &&
  ((List.range n).all fun i => ((ops[i]?).map fun o => (match o.guard with | none => true | some (g, _) => o.after.any fun e => e.on == g)).getD false) &&
  decide dl.Nodup && dl.all (decide <| · < size)

theorem stepsAll_get {a0 : Act} {w0 : World} {dl : List Tmp} {V : Nat → Value → World → Prop} : ∀ (l : List Oper) (k j : Nat) (o : Oper), StepsAll P a0 w0 dl V k l → l[j]? = some o →
    ∀ (a : Act) (w : World), Below w0.heap.size w0 w → (∀ t, t ∉ dl → a.tmps.getD t undef = a0.tmps.getD t undef) →
      (∀ e ∈ o.after, ∀ d, dl[e.on]? = some d → V e.on (a.tmps.getD d undef) w) → StepTo P dl o a w (V (k + j))
  | [], _, _, _, _, h => by simp at h
  | o :: l, k, 0, o', hs, h => by
    have : o = o' := by simpa using h
    subst this
    exact hs.1
  | o :: l, k, j + 1, o', hs, h => by
    have := stepsAll_get l (k + 1) j o' hs.2 (by simpa using h)
    rwa [show k + 1 + j = k + (j + 1) by omega] at this

theorem wanted_guard {o : Oper} {g : Nat} {want : Bool} {a : Act} {d : Tmp} (hg : o.guard = some (g, want)) (hd : (ops[g]?).bind (·.dst) = some d) (hs : d < a.tmps.size) :
    Region.wanted o (yielded ops a.tmps) = true ↔ a.tmps.getD d undef = .bool want := by
  have hx : a.tmps[d]? = some (a.tmps.getD d undef) := by simp [hs]
  unfold Region.wanted yielded
  simp only [hg, hd, Option.bind_some, hx]
  cases hv : a.tmps.getD d undef <;> simp

theorem ready_ne {n : Nat} {listed : Array Bool} (hord : ((List.range n).all fun i => ((ops[i]?).map fun o => o.after.all fun e => decide (e.on < i)).getD false) = true)
    (hn : n ≤ ops.size) (hsz : listed.size = ops.size) : ∀ (j : Nat), j < n → listed.getD j false = false → Region.ready .any ops listed ≠ [] := by
  intro j
  induction j using Nat.strongRecOn with
  | _ j ih =>
    intro hj hl h0
    have hjs : j < ops.size := by omega
    have ho : ops[j]? = some ops[j] := by simp [hjs]
    by_cases hall : ∀ e ∈ ops[j].after, listed.getD e.on false = true
    · have : j ∈ Region.ready .any ops listed := by
        refine mem_ready.2 ⟨getD_in (by omega) hl, ops[j], ho, fun e he _ => hall e he⟩
      rw [h0] at this
      cases this
    · simp only [Classical.not_forall] at hall
      obtain ⟨e, he, hne⟩ := hall
      have h1 := List.all_eq_true.1 hord j (by simpa using hj)
      simp only [ho, Option.map_some, Option.getD_some] at h1
      have h2 := Array.all_eq_true_iff_forall_mem.1 h1 e he
      have h3 : e.on < j := by simpa using h2
      exact ih e.on h3 (by omega) (eq_false_of_ne_true hne) h0

/-- How many of the first 'n' have not come up. -/
def left (n : Nat) (listed : Array Bool) : Nat := ((List.range n).filter fun j => !listed.getD j false).length

theorem left_set {n i : Nat} {listed : Array Bool} (hi : i < n) (hs : i < listed.size) (hl : listed.getD i false = false) : left n (listed.setIfInBounds i true) + 1 = left n listed := by
  unfold left
  have key : ∀ (l : List Nat), l.Nodup → i ∈ l → (l.filter fun j => !(listed.setIfInBounds i true).getD j false).length + 1 = (l.filter fun j => !listed.getD j false).length := by
    intro l
    induction l with
    | nil => intro _ h; cases h
    | cons x xs ih =>
      intro hn hm
      obtain ⟨h1, h2⟩ := List.nodup_cons.1 hn
      by_cases hx : x = i
      · subst hx
        have e1 : (xs.filter fun j => !(listed.setIfInBounds x true).getD j false) = xs.filter fun j => !listed.getD j false := by
          apply List.filter_congr
          intro j hj
          rw [getD_set_ne false (fun e => h1 (by rw [e]; exact hj))]
        rw [List.filter_cons, List.filter_cons]
        have a1 : (listed.setIfInBounds x true).getD x false = true := by simp [hs]
        rw [a1, hl, e1]
        simp
      · have hm' : i ∈ xs := by
          rcases List.mem_cons.1 hm with h | h
          · exact absurd h.symm hx
          · exact h
        have := ih h2 hm'
        rw [List.filter_cons, List.filter_cons, getD_set_ne false (fun e => hx e.symm)]
        split <;> (try simp only [List.length_cons]) <;> omega
  exact key _ List.nodup_range (by simpa using hi)

theorem left_zero {n : Nat} {listed : Array Bool} (h : left n listed = 0) : ∀ j, j < n → listed.getD j false = true := by
  intro j hj
  unfold left at h
  have := List.filter_eq_nil_iff.1 (List.eq_nil_of_length_eq_zero h) j (by simpa using hj)
  simpa using this

theorem left_pos {n : Nat} {listed : Array Bool} (h : left n listed ≠ 0) : ∃ j, j < n ∧ listed.getD j false = false := by
  unfold left at h
  cases hf : (List.range n).filter fun j => !listed.getD j false with
  | nil => rw [hf] at h; exact absurd rfl h
  | cons x xs =>
    have hm : x ∈ (List.range n).filter fun j => !listed.getD j false := by rw [hf]; exact List.mem_cons_self ..
    obtain ⟨h1, h2⟩ := List.mem_filter.1 hm
    exact ⟨x, by simpa using h1, by simpa using h2⟩

theorem grow_any {a0 : Act} {w0 : World} {l : List Oper} (dl : List Tmp) (V : Nat → Value → World → Prop)
    (hB : growB l.toArray dl a0.tmps.size = true)
    (hV : ∀ j v w w', V j v w → Below w.heap.size w w' → V j v w')
    (hstep : StepsAll P a0 w0 dl V 0 (l.take dl.length))
    (hend : ∀ (v : Nat → Value) (w : World), Below w0.heap.size w0 w → (∀ j, j < dl.length → V j (v j) w) → wpList P l.toArray Q (l.drop dl.length) (fillF a0 v 0 dl) w) :
    ∀ (fuel : Nat) (listed : Array Bool) (v : Nat → Value) (w : World), HeadInv .any l.toArray dl.length listed → Below w0.heap.size w0 w →
      (∀ j, j < dl.length → listed.getD j false = true → V j (v j) w) → left dl.length listed + (l.length - dl.length) = fuel →
      wpAny P .any l.toArray Q fuel listed (fillF a0 v 0 dl) w := by
  simp only [growB, Bool.and_eq_true, decide_eq_true_eq, Bool.or_eq_true, List.size_toArray] at hB
  obtain ⟨⟨⟨⟨⟨⟨⟨⟨⟨⟨hsel, hn⟩, hsink⟩, hchain⟩, hseq⟩, hbinds⟩, hord⟩, hdst⟩, hgd⟩, hnd⟩, hsz⟩ := hB
  intro fuel
  induction fuel with
  | zero =>
    intro listed v w inv hb hv hf
    have h0 : left dl.length listed = 0 := by omega
    have hall := left_zero h0
    have hnl : l.length = dl.length := by omega
    have := wpAny_of_seq (P := P) (md := .any) (ops := l.toArray) (Q' := Q) (l.drop dl.length) dl.length listed (fillF a0 v 0 dl) w (fun j => by simp [List.getElem?_drop]) (by
      have : (l.drop dl.length).length = 0 := by simp; omega
      rw [this]
      simp only [Region.seqB, List.isEmpty_iff]
      cases hr : Region.ready .any l.toArray listed with
      | nil => rfl
      | cons i is =>
        have hm : i ∈ Region.ready .any l.toArray listed := by rw [hr]; exact List.mem_cons_self ..
        obtain ⟨h1, oi, hoi, _⟩ := mem_ready.1 hm
        have hi : i < l.length := by simpa using (Array.getElem?_eq_some_iff.1 hoi).1
        have := hall i (by omega)
        rw [getD_both h1] at this
        cases this) (hend v w hb (fun j hj => hv j hj (hall j hj)))
    have e0 : (l.drop dl.length).length = 0 := by simp; omega
    rwa [e0] at this
  | succ f ih =>
    intro listed v w inv hb hv hf
    by_cases h0 : left dl.length listed = 0
    · have hall := left_zero h0
      have hls : listed.size = l.length := by simpa using inv.size
      have heq : listed = ((Array.range l.length).map (decide <| · < dl.length)) := by
        apply Array.ext
        · simp [hls]
        · intro i h1 h2
          by_cases hi : i < dl.length
          · have := hall i hi
            simp [h1] at this
            simp [this, hi]
          · have := inv.tail i (by omega) (by simpa using (by omega : i < l.length))
            simp [h1] at this
            simp [this, hi]
      have hlen : (l.drop dl.length).length = f + 1 := by simp; omega
      have := wpAny_of_seq (P := P) (md := .any) (ops := l.toArray) (Q' := Q) (l.drop dl.length) dl.length listed (fillF a0 v 0 dl) w (fun j => by simp [List.getElem?_drop])
        (by rw [heq]; rw [show (l.drop dl.length).length = l.length - dl.length by simp]; exact hseq) (hend v w hb (fun j hj => hv j hj (hall j hj)))
      rwa [hlen] at this
    · obtain ⟨j, hj, hlj⟩ := left_pos h0
      have hls : listed.size = l.toArray.size := inv.size
      refine ⟨fun hnil => absurd hnil (ready_ne hord (by simpa using hn) hls j hj hlj), fun i hi => ?_⟩
      have hin : i < dl.length := by
        rcases Nat.lt_or_ge i dl.length with h | h
        · exact h
        · exfalso
          obtain ⟨_, oi, hoi, _⟩ := mem_ready.1 hi
          have his : i < l.length := by simpa using (Array.getElem?_eq_some_iff.1 hoi).1
          rcases hsink with hs | hs
          · omega
          · exact tail_waits hs hchain (by simp; omega) inv _ j rfl hj (getD_in (by rw [hls]; simp; omega) hlj) i h hi
      obtain ⟨hli, oi, hoi, hdeps⟩ := mem_ready.1 hi
      have hli' := getD_both hli
      have hol : l[i]? = some oi := by simpa using hoi
      -- its slot
      have hdi : ∃ d, dl[i]? = some d := ⟨dl[i], by simp [hin]⟩
      obtain ⟨d, hd⟩ := hdi
      have hodst : oi.dst = some d := by
        have h1 := List.all_eq_true.1 hdst i (by simpa using hin)
        simp only [hoi, Option.map_some, Option.getD_some, beq_iff_eq] at h1
        rw [h1, hd]
      have hdl : ∀ (k : Nat) (d : Tmp), dl[k]? = some d → d < a0.tmps.size := fun k d h => by
        have := List.all_eq_true.1 hsz d (List.mem_of_getElem? h)
        simpa using this
      -- what follows
      have hnext : ∀ (x : Value) (w' : World), Below w.heap.size w w' → V i x w' →
          wpAny P .any l.toArray Q f (listed.setIfInBounds i true) ((fillF a0 v 0 dl).put oi.dst x) w' := by
        intro x w' hb' hx
        rw [hodst, fill_upd v x dl 0 i d a0 hnd hd, Nat.zero_add]
        refine ih _ _ _ (inv.set hi hin) (hb.trans (hb'.mono (by have := hb.size; omega))) (fun k hk hl => ?_) ?_
        · simp only [upd]
          by_cases hki : k = i
          · rw [if_pos hki, hki]; exact hx
          · rw [if_neg hki]
            rw [getD_set_ne false (fun e => hki e.symm)] at hl
            exact hV _ _ _ _ (hv k hk hl) hb'
        · have := left_set (n := dl.length) hin (by rw [hls]; simp; omega) hli'
          omega
      -- its step
      have hafter : ∀ e ∈ oi.after, Region.binds .any e = true := fun e he => by
        have h1 := Array.all_eq_true_iff_forall_mem.1 hbinds oi (by rw [← Array.mem_toList_iff]; simpa using List.mem_of_getElem? hol)
        exact Array.all_eq_true_iff_forall_mem.1 h1 e he
      have hs := stepsAll_get (l.take dl.length) 0 i oi hstep (by simp [hin, hol]) (fillF a0 v 0 dl) w hb (fun t ht => fill_other v t dl 0 a0 ht) (fun e he d' hd' => by
        rw [fill_slot v dl 0 e.on d' a0 hnd hd' (hdl _ _ hd'), Nat.zero_add]
        refine hv e.on ?_ (hdeps e he (hafter e he))
        rcases Nat.lt_or_ge e.on dl.length with h | h
        · exact h
        · rw [List.getElem?_eq_none h] at hd'; cases hd')
      rw [Nat.zero_add] at hs
      have hgrow : Oper.grows P oi (fillF a0 v 0 dl) w (V i) → oi.wp P (fillF a0 v 0 dl) w (wpAny P .any l.toArray Q f (listed.setIfInBounds i true)) Q := by
        intro hg
        unfold Oper.grows at hg
        unfold Oper.wp
        generalize (execOp (fillF a0 v 0 dl).eval oi).run P w = r at *
        cases r with
        | halt x w' => exact hg.elim
        | ok n w' =>
          cases n <;> simp only [] at hg <;> try exact hg.elim
          case value u => simp only [Oper.upon]; exact hnext u w' hg.1 hg.2
          case enter g args =>
            simp only [Oper.upon]
            refine hg.2.mono fun e w'' ⟨u, he, hbe, hu⟩ => ?_
            subst he
            exact hnext u w'' (hg.1.trans (hbe.mono (by have := hg.1.size; omega))) hu
      unfold wpOp
      simp only [hoi]
      unfold StepTo at hs
      cases hg : oi.guard with
      | none =>
        simp only [hg] at hs
        rw [if_pos (by simp [Region.wanted, hg])]
        exact .inl (hgrow hs)
      | some gw =>
        obtain ⟨g, want⟩ := gw
        simp only [hg] at hs
        have hge : ∃ e ∈ oi.after, e.on = g := by
          have h1 := List.all_eq_true.1 hgd i (by simpa using hin)
          simp only [hoi, Option.map_some, Option.getD_some, hg] at h1
          obtain ⟨e, he, hb⟩ := Array.any_eq_true'.1 h1
          exact ⟨e, he, by simpa using hb⟩
        obtain ⟨e, he, hon⟩ := hge
        have hgi : g < i := by
          have h1 := List.all_eq_true.1 hord i (by simpa using hin)
          simp only [hoi, Option.map_some, Option.getD_some] at h1
          have := Array.all_eq_true_iff_forall_mem.1 h1 e he
          simp only [decide_eq_true_eq] at this
          omega
        have hgd' : dl[g]? = some (dl[g]'(by omega)) := by simp
        have hgdst : (l.toArray[g]?).bind (·.dst) = some (dl[g]'(by omega)) := by
          have h1 := List.all_eq_true.1 hdst g (by simp; omega)
          cases hog : l.toArray[g]? with
          | none => rw [hog] at h1; simp at h1
          | some og =>
            rw [hog] at h1
            simp only [Option.map_some, Option.getD_some, beq_iff_eq] at h1
            simp only [Option.bind_some]
            rw [h1, hgd']
        have hw := wanted_guard (a := fillF a0 v 0 dl) hg hgdst (by rw [size_fill]; exact hdl _ _ hgd')
        obtain ⟨h1, h2⟩ := hs _ hgd'
        by_cases hv' : (fillF a0 v 0 dl).tmps.getD (dl[g]'(by omega)) undef = .bool want
        · rw [if_pos (hw.2 hv')]
          exact .inl (hgrow (h1 hv'))
        · rw [if_neg (fun e => hv' (hw.1 e))]
          exact hnext undef w (Below.refl _ _) (h2 hv')

/-- A region that draws its order, whose first operations leave all that there is: each is shown once, out of what it waits for. -/
theorem wp_region_grow {id : Nat} {a0 : Act} {w0 : World} {l : List Oper} (dl : List Tmp) (V : Nat → Value → World → Prop) (hm : P.follows .mixedOrders = true)
    (hB : growB l.toArray dl a0.tmps.size = true)
    (hV : ∀ j v w w', V j v w → Below w.heap.size w w' → V j v w')
    (hstep : StepsAll P a0 w0 dl V 0 (l.take dl.length))
    (hend : ∀ (v : Nat → Value) (w : World), Below w0.heap.size w0 w → (∀ j, j < dl.length → V j (v j) w) → wpList P l.toArray Q (l.drop dl.length) (fillF a0 v 0 dl) w) :
    (Code.region id l.toArray true).wp P Q a0 w0 := by
  refine wp_region_any hm ?_
  have hB' := hB
  simp only [growB, Bool.and_eq_true, decide_eq_true_eq, Bool.or_eq_true, List.size_toArray] at hB'
  obtain ⟨⟨⟨⟨⟨⟨⟨⟨⟨⟨_, hn⟩, _⟩, _⟩, _⟩, _⟩, _⟩, _⟩, _⟩, _⟩, hsz⟩ := hB'
  have := grow_any dl V hB hV hstep hend l.toArray.size (Array.replicate l.toArray.size false) (fun j => (dl[j - 0]?).elim undef (fun d => a0.tmps.getD d undef)) { w0 with drawn := w0.drawn + 1 }
    ⟨by simp, fun j oj _ hl => (by rw [getD_replicate_false] at hl; cases hl), fun t _ ht => getD_in (by simpa using ht) (getD_replicate_false _ _)⟩
    ⟨rfl, rfl, rfl, Nat.le_refl _, fun _ _ => rfl⟩ (fun j _ hl => by rw [getD_replicate_false] at hl; cases hl) (by
      have : left dl.length (Array.replicate l.toArray.size false) = dl.length := by
        unfold left
        rw [List.filter_eq_self.2 (fun j _ => by rw [getD_replicate_false]; rfl)]
        simp
      rw [this]
      simp
      omega)
  rwa [fill_self dl 0 a0 (fun j d h => by
    have := List.all_eq_true.1 hsz d (List.mem_of_getElem? h)
    simpa using this)] at this

end
end Go.Proofs.YtpfcdhjknmijjaaGreat.Grow
end
section
namespace Go.Proofs.YtpfcdhjknmijjaaGreat.Grow
open Go.RowKit

section
variable {P : Program} {ops : Array Oper} {Q : Exit → Act → World → Prop}
/-! The law of Grow, where some edges bind in one compiler's mode alone: those are left out. -/
/-- What is to be shown of each operation of the list. -/
def StepsAll2 (P : Program) (a0 : Act) (w0 : World) (dl : List Tmp) (V : Nat → Value → World → Prop) : Nat → List Oper → Prop
  | _, [] => True
  | k, o :: l => (∀ (a : Act) (w : World), Below w0.heap.size w0 w → (∀ t, t ∉ dl → a.tmps.getD t undef = a0.tmps.getD t undef) →
      (∀ e ∈ o.after, Region.binds .any e = true → ∀ d, dl[e.on]? = some d → V e.on (a.tmps.getD d undef) w) → StepTo P dl o a w (V k)) ∧ StepsAll2 P a0 w0 dl V (k + 1) l

/-- What the kernel reckons of a region: its first 'n' operations come in whatever order, the others behind them, one after the other. -/
def growB2 (ops : Array Oper) (dl : List Tmp) (size : Nat) : Bool :=
  let n := dl.length
  Region.noSelect ops && decide (n ≤ ops.size) && (decide (n = ops.size) || Region.sinkB .any ops n) && Region.chainB .any ops n &&
  Region.seqB .any ops (ops.size - n) n ((Array.range ops.size).map (decide <| · < n)) &&
  ((List.range n).all fun i => ((ops[i]?).map fun o => o.after.all fun e => !Region.binds .any e || decide (e.on < i)).getD false) &&
  ((List.range n).all fun i => ((ops[i]?).map fun o => o.dst == dl[i]?).getD false) &&
  ((List.range n).all fun i => ((ops[i]?).map fun o => (match o.guard with | none => true | some (g, _) => o.after.any fun e => e.on == g && Region.binds .any e)).getD false) &&
  decide dl.Nodup && dl.all (decide <| · < size)

theorem stepsAll_get2 {a0 : Act} {w0 : World} {dl : List Tmp} {V : Nat → Value → World → Prop} : ∀ (l : List Oper) (k j : Nat) (o : Oper), StepsAll2 P a0 w0 dl V k l → l[j]? = some o →
    ∀ (a : Act) (w : World), Below w0.heap.size w0 w → (∀ t, t ∉ dl → a.tmps.getD t undef = a0.tmps.getD t undef) →
      (∀ e ∈ o.after, Region.binds .any e = true → ∀ d, dl[e.on]? = some d → V e.on (a.tmps.getD d undef) w) → StepTo P dl o a w (V (k + j))
  | [], _, _, _, _, h => by simp at h
  | o :: l, k, 0, o', hs, h => by
    have : o = o' := by simpa using h
    subst this
    exact hs.1
  | o :: l, k, j + 1, o', hs, h => by
    have := stepsAll_get2 l (k + 1) j o' hs.2 (by simpa using h)
    rwa [show k + 1 + j = k + (j + 1) by omega] at this

theorem ready_ne2 {n : Nat} {listed : Array Bool} (hord : ((List.range n).all fun i => ((ops[i]?).map fun o => o.after.all fun e => !Region.binds .any e || decide (e.on < i)).getD false) = true)
    (hn : n ≤ ops.size) (hsz : listed.size = ops.size) : ∀ (j : Nat), j < n → listed.getD j false = false → Region.ready .any ops listed ≠ [] := by
  intro j
  induction j using Nat.strongRecOn with
  | _ j ih =>
    intro hj hl h0
    have hjs : j < ops.size := by omega
    have ho : ops[j]? = some ops[j] := by simp [hjs]
    by_cases hall : ∀ e ∈ ops[j].after, Region.binds .any e = true → listed.getD e.on false = true
    · have : j ∈ Region.ready .any ops listed := by
        refine mem_ready.2 ⟨getD_in (by omega) hl, ops[j], ho, fun e he hb => hall e he hb⟩
      rw [h0] at this
      cases this
    · simp only [Classical.not_forall] at hall
      obtain ⟨e, he, hbd, hne⟩ := hall
      have h1 := List.all_eq_true.1 hord j (by simpa using hj)
      simp only [ho, Option.map_some, Option.getD_some] at h1
      have h2 := Array.all_eq_true_iff_forall_mem.1 h1 e he
      have h3 : e.on < j := by rw [hbd] at h2; simpa using h2
      exact ih e.on h3 (by omega) (eq_false_of_ne_true hne) h0

theorem grow_any2 {a0 : Act} {w0 : World} {l : List Oper} (dl : List Tmp) (V : Nat → Value → World → Prop)
    (hB : growB2 l.toArray dl a0.tmps.size = true)
    (hV : ∀ j v w w', V j v w → Below w.heap.size w w' → V j v w')
    (hstep : StepsAll2 P a0 w0 dl V 0 (l.take dl.length))
    (hend : ∀ (v : Nat → Value) (w : World), Below w0.heap.size w0 w → (∀ j, j < dl.length → V j (v j) w) → wpList P l.toArray Q (l.drop dl.length) (fillF a0 v 0 dl) w) :
    ∀ (fuel : Nat) (listed : Array Bool) (v : Nat → Value) (w : World), HeadInv .any l.toArray dl.length listed → Below w0.heap.size w0 w →
      (∀ j, j < dl.length → listed.getD j false = true → V j (v j) w) → left dl.length listed + (l.length - dl.length) = fuel →
      wpAny P .any l.toArray Q fuel listed (fillF a0 v 0 dl) w := by
  simp only [growB2, Bool.and_eq_true, decide_eq_true_eq, Bool.or_eq_true, List.size_toArray] at hB
  obtain ⟨⟨⟨⟨⟨⟨⟨⟨⟨hsel, hn⟩, hsink⟩, hchain⟩, hseq⟩, hord⟩, hdst⟩, hgd⟩, hnd⟩, hsz⟩ := hB
  intro fuel
  induction fuel with
  | zero =>
    intro listed v w inv hb hv hf
    have h0 : left dl.length listed = 0 := by omega
    have hall := left_zero h0
    have hnl : l.length = dl.length := by omega
    have := wpAny_of_seq (P := P) (md := .any) (ops := l.toArray) (Q' := Q) (l.drop dl.length) dl.length listed (fillF a0 v 0 dl) w (fun j => by simp [List.getElem?_drop]) (by
      have : (l.drop dl.length).length = 0 := by simp; omega
      rw [this]
      simp only [Region.seqB, List.isEmpty_iff]
      cases hr : Region.ready .any l.toArray listed with
      | nil => rfl
      | cons i is =>
        have hm : i ∈ Region.ready .any l.toArray listed := by rw [hr]; exact List.mem_cons_self ..
        obtain ⟨h1, oi, hoi, _⟩ := mem_ready.1 hm
        have hi : i < l.length := by simpa using (Array.getElem?_eq_some_iff.1 hoi).1
        have := hall i (by omega)
        rw [getD_both h1] at this
        cases this) (hend v w hb (fun j hj => hv j hj (hall j hj)))
    have e0 : (l.drop dl.length).length = 0 := by simp; omega
    rwa [e0] at this
  | succ f ih =>
    intro listed v w inv hb hv hf
    by_cases h0 : left dl.length listed = 0
    · have hall := left_zero h0
      have hls : listed.size = l.length := by simpa using inv.size
      have heq : listed = ((Array.range l.length).map (decide <| · < dl.length)) := by
        apply Array.ext
        · simp [hls]
        · intro i h1 h2
          by_cases hi : i < dl.length
          · have := hall i hi
            simp [h1] at this
            simp [this, hi]
          · have := inv.tail i (by omega) (by simpa using (by omega : i < l.length))
            simp [h1] at this
            simp [this, hi]
      have hlen : (l.drop dl.length).length = f + 1 := by simp; omega
      have := wpAny_of_seq (P := P) (md := .any) (ops := l.toArray) (Q' := Q) (l.drop dl.length) dl.length listed (fillF a0 v 0 dl) w (fun j => by simp [List.getElem?_drop])
        (by rw [heq]; rw [show (l.drop dl.length).length = l.length - dl.length by simp]; exact hseq) (hend v w hb (fun j hj => hv j hj (hall j hj)))
      rwa [hlen] at this
    · obtain ⟨j, hj, hlj⟩ := left_pos h0
      have hls : listed.size = l.toArray.size := inv.size
      refine ⟨fun hnil => absurd hnil (ready_ne2 hord (by simpa using hn) hls j hj hlj), fun i hi => ?_⟩
      have hin : i < dl.length := by
        rcases Nat.lt_or_ge i dl.length with h | h
        · exact h
        · exfalso
          obtain ⟨_, oi, hoi, _⟩ := mem_ready.1 hi
          have his : i < l.length := by simpa using (Array.getElem?_eq_some_iff.1 hoi).1
          rcases hsink with hs | hs
          · omega
          · exact tail_waits hs hchain (by simp; omega) inv _ j rfl hj (getD_in (by rw [hls]; simp; omega) hlj) i h hi
      obtain ⟨hli, oi, hoi, hdeps⟩ := mem_ready.1 hi
      have hli' := getD_both hli
      have hol : l[i]? = some oi := by simpa using hoi
      -- its slot
      have hdi : ∃ d, dl[i]? = some d := ⟨dl[i], by simp [hin]⟩
      obtain ⟨d, hd⟩ := hdi
      have hodst : oi.dst = some d := by
        have h1 := List.all_eq_true.1 hdst i (by simpa using hin)
        simp only [hoi, Option.map_some, Option.getD_some, beq_iff_eq] at h1
        rw [h1, hd]
      have hdl : ∀ (k : Nat) (d : Tmp), dl[k]? = some d → d < a0.tmps.size := fun k d h => by
        have := List.all_eq_true.1 hsz d (List.mem_of_getElem? h)
        simpa using this
      -- what follows
      have hnext : ∀ (x : Value) (w' : World), Below w.heap.size w w' → V i x w' →
          wpAny P .any l.toArray Q f (listed.setIfInBounds i true) ((fillF a0 v 0 dl).put oi.dst x) w' := by
        intro x w' hb' hx
        rw [hodst, fill_upd v x dl 0 i d a0 hnd hd, Nat.zero_add]
        refine ih _ _ _ (inv.set hi hin) (hb.trans (hb'.mono (by have := hb.size; omega))) (fun k hk hl => ?_) ?_
        · simp only [upd]
          by_cases hki : k = i
          · rw [if_pos hki, hki]; exact hx
          · rw [if_neg hki]
            rw [getD_set_ne false (fun e => hki e.symm)] at hl
            exact hV _ _ _ _ (hv k hk hl) hb'
        · have := left_set (n := dl.length) hin (by rw [hls]; simp; omega) hli'
          omega
      -- its step
      have hs := stepsAll_get2 (l.take dl.length) 0 i oi hstep (by simp [hin, hol]) (fillF a0 v 0 dl) w hb (fun t ht => fill_other v t dl 0 a0 ht) (fun e he hbd d' hd' => by
        rw [fill_slot v dl 0 e.on d' a0 hnd hd' (hdl _ _ hd'), Nat.zero_add]
        refine hv e.on ?_ (hdeps e he hbd)
        rcases Nat.lt_or_ge e.on dl.length with h | h
        · exact h
        · rw [List.getElem?_eq_none h] at hd'; cases hd')
      rw [Nat.zero_add] at hs
      have hgrow : Oper.grows P oi (fillF a0 v 0 dl) w (V i) → oi.wp P (fillF a0 v 0 dl) w (wpAny P .any l.toArray Q f (listed.setIfInBounds i true)) Q := by
        intro hg
        unfold Oper.grows at hg
        unfold Oper.wp
        generalize (execOp (fillF a0 v 0 dl).eval oi).run P w = r at *
        cases r with
        | halt x w' => exact hg.elim
        | ok n w' =>
          cases n <;> simp only [] at hg <;> try exact hg.elim
          case value u => simp only [Oper.upon]; exact hnext u w' hg.1 hg.2
          case enter g args =>
            simp only [Oper.upon]
            refine hg.2.mono fun e w'' ⟨u, he, hbe, hu⟩ => ?_
            subst he
            exact hnext u w'' (hg.1.trans (hbe.mono (by have := hg.1.size; omega))) hu
      unfold wpOp
      simp only [hoi]
      unfold StepTo at hs
      cases hg : oi.guard with
      | none =>
        simp only [hg] at hs
        rw [if_pos (by simp [Region.wanted, hg])]
        exact .inl (hgrow hs)
      | some gw =>
        obtain ⟨g, want⟩ := gw
        simp only [hg] at hs
        have hge : ∃ e ∈ oi.after, e.on = g ∧ Region.binds .any e = true := by
          have h1 := List.all_eq_true.1 hgd i (by simpa using hin)
          simp only [hoi, Option.map_some, Option.getD_some, hg] at h1
          obtain ⟨e, he, hb⟩ := Array.any_eq_true'.1 h1
          exact ⟨e, he, by simpa using hb⟩
        obtain ⟨e, he, hon, hbd⟩ := hge
        have hgi : g < i := by
          have h1 := List.all_eq_true.1 hord i (by simpa using hin)
          simp only [hoi, Option.map_some, Option.getD_some] at h1
          have := Array.all_eq_true_iff_forall_mem.1 h1 e he
          rw [hbd] at this
          simp only [Bool.not_true, Bool.false_or, decide_eq_true_eq] at this
          omega
        have hgd' : dl[g]? = some (dl[g]'(by omega)) := by simp
        have hgdst : (l.toArray[g]?).bind (·.dst) = some (dl[g]'(by omega)) := by
          have h1 := List.all_eq_true.1 hdst g (by simp; omega)
          cases hog : l.toArray[g]? with
          | none => rw [hog] at h1; simp at h1
          | some og =>
            rw [hog] at h1
            simp only [Option.map_some, Option.getD_some, beq_iff_eq] at h1
            simp only [Option.bind_some]
            rw [h1, hgd']
        have hw := wanted_guard (a := fillF a0 v 0 dl) hg hgdst (by rw [size_fill]; exact hdl _ _ hgd')
        obtain ⟨h1, h2⟩ := hs _ hgd'
        by_cases hv' : (fillF a0 v 0 dl).tmps.getD (dl[g]'(by omega)) undef = .bool want
        · rw [if_pos (hw.2 hv')]
          exact .inl (hgrow (h1 hv'))
        · rw [if_neg (fun e => hv' (hw.1 e))]
          exact hnext undef w (Below.refl _ _) (h2 hv')

/-- A region that draws its order, whose first operations leave all that there is: each is shown once, out of what it waits for. -/
theorem wp_region_grow2 {id : Nat} {a0 : Act} {w0 : World} {l : List Oper} (dl : List Tmp) (V : Nat → Value → World → Prop) (hm : P.follows .mixedOrders = true)
    (hB : growB2 l.toArray dl a0.tmps.size = true)
    (hV : ∀ j v w w', V j v w → Below w.heap.size w w' → V j v w')
    (hstep : StepsAll2 P a0 w0 dl V 0 (l.take dl.length))
    (hend : ∀ (v : Nat → Value) (w : World), Below w0.heap.size w0 w → (∀ j, j < dl.length → V j (v j) w) → wpList P l.toArray Q (l.drop dl.length) (fillF a0 v 0 dl) w) :
    (Code.region id l.toArray true).wp P Q a0 w0 := by
  refine wp_region_any hm ?_
  have hB' := hB
  simp only [growB2, Bool.and_eq_true, decide_eq_true_eq, Bool.or_eq_true, List.size_toArray] at hB'
  obtain ⟨⟨⟨⟨⟨⟨⟨⟨⟨_, hn⟩, _⟩, _⟩, _⟩, _⟩, _⟩, _⟩, _⟩, hsz⟩ := hB'
  have := grow_any2 dl V hB hV hstep hend l.toArray.size (Array.replicate l.toArray.size false) (fun j => (dl[j - 0]?).elim undef (fun d => a0.tmps.getD d undef)) { w0 with drawn := w0.drawn + 1 }
    ⟨by simp, fun j oj _ hl => (by rw [getD_replicate_false] at hl; cases hl), fun t _ ht => getD_in (by simpa using ht) (getD_replicate_false _ _)⟩
    ⟨rfl, rfl, rfl, Nat.le_refl _, fun _ _ => rfl⟩ (fun j _ hl => by rw [getD_replicate_false] at hl; cases hl) (by
      have : left dl.length (Array.replicate l.toArray.size false) = dl.length := by
        unfold left
        rw [List.filter_eq_self.2 (fun j _ => by rw [getD_replicate_false]; rfl)]
        simp
      rw [this]
      simp
      omega)
  rwa [fill_self dl 0 a0 (fun j d h => by
    have := List.all_eq_true.1 hsz d (List.mem_of_getElem? h)
    simpa using this)] at this

end
end Go.Proofs.YtpfcdhjknmijjaaGreat.Grow
end
