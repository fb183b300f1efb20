import Derived.Test.YtciehejifdbpoaaHy1
import Derived.StillTail
import Derived.Below
section
/- What the print of the kit gave for HartQuotients (its fourth text). -/
namespace Go.Proofs.Ytciehejifdbpoaa.PHartQuotients
open Go.RowKit Go.Proofs.YtciehejifdbpoaaW.PrintWords Go.Proofs.YtciehejifdbpoaaW.PrintLast Go.Proofs.YtciehejifdbpoaaW.PrintMore
attribute [local go_sem] max2_int min2_int max_two min_two max_three min_three max_four min_four   -- for this text's walks alone
set_option linter.unusedVariables false
set_option linter.unusedSimpArgs false

/-! ### hart_reckon: function 82 -/
def hart_reckon.f (k : Nat) (a0 : ByteArray) (a1 : Int) (a2 : Int) : Option (Int) := if 0 ≤ (wrap64 ((a0.size : Int) - 1)) then (if (wrap64 ((a0.size : Int) - 1)) < (a0.size : Int) then (if (bt a0 (wrap64 ((a0.size : Int) - 1))) = 119 then (if (wrap64 ((a0.size : Int) - 1)) ≤ (a0.size : Int) then ((hart_word.f k (a0.extract 0 ((wrap64 ((a0.size : Int) - 1)) : Int).toNat) a1 a2).bind fun t137 => ((hart_extend.f t137 32).bind fun t138 => (some t138))) else (none)) else ((hart_long.f k a0 a1 a2).bind fun t139 => (some t139))) else (none)) else (none)
set_option maxHeartbeats 8000000 in
set_option maxRecDepth 100000 in
theorem hart_reckon.calls (k : Nat) (a0 : ByteArray) (a1 : Int) (a2 : Int) (r : Int) (w : World) (h : hart_reckon.f k a0 a1 a2 = some r) :
    Calls Try.prog 82 #[.string a0, .int .u64 a1, .int .u64 a2] w fun e w' => e = .returned (.int .u64 r) ∧ Drawn0 w w' := by
  have H : (if 0 ≤ (wrap64 ((a0.size : Int) - 1)) then (if (wrap64 ((a0.size : Int) - 1)) < (a0.size : Int) then (if (bt a0 (wrap64 ((a0.size : Int) - 1))) = 119 then (if (wrap64 ((a0.size : Int) - 1)) ≤ (a0.size : Int) then ((hart_word.f k (a0.extract 0 ((wrap64 ((a0.size : Int) - 1)) : Int).toNat) a1 a2).bind fun t137 => ((hart_extend.f t137 32).bind fun t138 => (some t138))) else (none)) else ((hart_long.f k a0 a1 a2).bind fun t139 => (some t139))) else (none)) else (none)) = some r := h
  clear h
  obtain ⟨ji4, hji4⟩ : ∃ j_ : Int, (wrap64 ((a0.size : Int) - 1)) = j_ := ⟨_, rfl⟩
  replace H : (if 0 ≤ (ji4) then (if (ji4) < (a0.size : Int) then (if (bt a0 (ji4)) = 119 then (if (ji4) ≤ (a0.size : Int) then ((hart_word.f k (a0.extract 0 ((ji4) : Int).toNat) a1 a2).bind fun t137 => ((hart_extend.f t137 32).bind fun t138 => (some t138))) else (none)) else ((hart_long.f k a0 a1 a2).bind fun t139 => (some t139))) else (none)) else (none)) = some r := by first | (rw [hji4] at H; exact H) | (simp only [hji4] at H ⊢; exact H)
  have hji4w : (IntKind.i64.wrap ((a0.size : Int) - 1)) = ji4 := (i64_w _).trans hji4
  by_cases c5 : 0 ≤ (ji4)
  · rw [if_pos c5] at H
    have c5b0 : decide (0 ≤ (ji4)) = true := decide_eq_true c5
    clear c5
    by_cases c6 : (ji4) < (a0.size : Int)
    · rw [if_pos c6] at H
      have c6b0 : decide ((ji4) < (a0.size : Int)) = true := decide_eq_true c6
      clear c6
      by_cases c8 : (bt a0 (ji4)) = 119
      · rw [if_pos c8] at H
        have c8b0 : ((bt a0 (ji4)) == 119) = true := beq_iff_eq.mpr c8
        have c8b1 : ((bt a0 (ji4)) != 119) = false := bne_eq_false_iff_eq.mpr c8
        clear c8
        have c9b0 := eq_true (of_decide_eq_true (by first | (with_reducible assumption) | assumption) : 0 ≤ (ji4))
        by_cases c10 : (ji4) ≤ (a0.size : Int)
        · rw [if_pos c10] at H
          have c10b0 := eq_true c10
          have c10b1 : decide ((ji4) ≤ (a0.size : Int)) = true := decide_eq_true c10
          clear c10
          replace H := Option.bind_eq_some_iff.mp H
          obtain ⟨t137, A110, H⟩ := H
          replace H : ((hart_extend.f t137 32).bind fun t138 => (some t138)) = some r := H
          have A11 := Aside0.mk A110
          clear A110
          replace H := Option.bind_eq_some_iff.mp H
          obtain ⟨t138, A120, H⟩ := H
          replace H : (some t138) = some r := H
          have A12 := Aside0.mk A120
          clear A120
          obtain rfl := Option.some.inj H
          have p7 : 0 ≤ ((ji4) : Int) := of_decide_eq_true (by first | (with_reducible assumption) | assumption)
          have q7 : (ji4) < (a0.size : Int) := of_decide_eq_true (by first | (with_reducible assumption) | assumption)
          have hx7 := bt_at a0 (ji4)
          replace p7 := eq_true p7
          replace q7 := eq_true q7
          go_enter Try.func82, Try.ntmps82
          go_wp2_with (first | ((with_reducible refine gate_callee (f := 110) rfl ?_); refine goesL_ (some 21) rfl rfl Try.func110 (by kernel_rfl) rfl #[.string (a0.extract 0 ((ji4) : Int).toNat), .int .u64 a1, .int .u64 a2] rfl (by (try simp only [List.map_toArray, List.map_cons, List.map_nil]); first | done | (simp only [hji4]; rfl) | rfl | (simp only [List.length_drop, List.length_take]; rfl)) ?_; (with_reducible refine (hart_word.calls k (a0.extract 0 ((ji4) : Int).toNat) a1 a2 t137 _ A11.out).mono ?_); rintro e w' ⟨rfl, ⟨nd, rfl⟩⟩; refine ⟨_, rfl, ?_⟩) | ((with_reducible refine gate_callee (f := 79) rfl ?_); refine goesL_ (some 22) rfl rfl Try.func79 (by kernel_rfl) rfl #[.int .u64 t137, .int .i64 32] rfl (by (try simp only [List.map_toArray, List.map_cons, List.map_nil]); first | done | rfl | (simp only [List.length_drop, List.length_take]; rfl)) ?_; (with_reducible refine (hart_extend.calls t137 32 t138 _ A12.out).mono ?_); rintro e w' ⟨rfl, ⟨nd, rfl⟩⟩; refine ⟨_, rfl, ?_⟩))
          go_ret
          exact ⟨by first | rfl | (simp; done) | (simp only [← hji4] <;> (first | rfl | simp)) | (simp [*]; done), by repeat (first | exact Drawn0.refl _ | apply Drawn0.step)⟩
        · rw [if_neg c10] at H
          exact absurd H (by simp)
      · rw [if_neg c8] at H
        have c8b0 : ((bt a0 (ji4)) == 119) = false := beq_eq_false_iff_ne.mpr c8
        have c8b1 : ((bt a0 (ji4)) != 119) = true := bne_iff_ne.mpr c8
        replace H := Option.bind_eq_some_iff.mp H
        obtain ⟨t139, A130, H⟩ := H
        replace H : (some t139) = some r := H
        have A13 := Aside0.mk A130
        clear A130
        obtain rfl := Option.some.inj H
        have p7 : 0 ≤ ((ji4) : Int) := of_decide_eq_true (by first | (with_reducible assumption) | assumption)
        have q7 : (ji4) < (a0.size : Int) := of_decide_eq_true (by first | (with_reducible assumption) | assumption)
        have hx7 := bt_at a0 (ji4)
        replace p7 := eq_true p7
        replace q7 := eq_true q7
        go_enter Try.func82, Try.ntmps82
        go_wp2_with (first | ((with_reducible refine gate_callee (f := 111) rfl ?_); refine goesL_ (some 26) rfl rfl Try.func111 (by kernel_rfl) rfl #[.string a0, .int .u64 a1, .int .u64 a2] rfl (by (try simp only [List.map_toArray, List.map_cons, List.map_nil]); first | done | rfl | (simp only [List.length_drop, List.length_take]; rfl)) ?_; (with_reducible refine (hart_long.calls k a0 a1 a2 t139 _ A13.out).mono ?_); rintro e w' ⟨rfl, ⟨nd, rfl⟩⟩; refine ⟨_, rfl, ?_⟩))
        go_ret
        exact ⟨by first | rfl | (simp; done) | (simp only [← hji4] <;> (first | rfl | simp)) | (simp [*]; done), by repeat (first | exact Drawn0.refl _ | apply Drawn0.step)⟩
    · rw [if_neg c6] at H
      exact absurd H (by simp)
  · rw [if_neg c5] at H
    exact absurd H (by simp)

-- NOT PRINTED: function 40 (hart_Hart_Step)

-- NOT PRINTED: function 38 (hart_Hart_Run)

-- NOT PRINTED: function 39 (hart_Hart_PC)

-- NOT PRINTED: function 41 (hart_Hart_Reg)

/-! ### mem_within_int: function 92 -/
def mem_within_int.f (a0 : Int) (a1 : Int) (a2 : Int) : Option (Bool) := if a0 ≥ a1 then (some (decide (a0 ≤ a2))) else (some false)
set_option maxHeartbeats 8000000 in
set_option maxRecDepth 100000 in
theorem mem_within_int.calls (a0 : Int) (a1 : Int) (a2 : Int) (r : Bool) (w : World) (h : mem_within_int.f a0 a1 a2 = some r) :
    Calls Try.prog 92 #[.int .i64 a0, .int .i64 a1, .int .i64 a2] w fun e w' => e = .returned (.bool r) ∧ Drawn0 w w' := by
  have H : (if a0 ≥ a1 then (some (decide (a0 ≤ a2))) else (some false)) = some r := h
  clear h
  by_cases c4 : a0 ≥ a1
  · rw [if_pos c4] at H
    have c4b0 : decide (a1 ≤ a0) = true := decide_eq_true c4
    clear c4
    obtain rfl := Option.some.inj H
    go_enter Try.func92, Try.ntmps92
    go_wp2
    go_ret
    exact ⟨by first | rfl | (simp; done) | (simp [*]; done), by repeat (first | exact Drawn0.refl _ | apply Drawn0.step)⟩
  · rw [if_neg c4] at H
    have c4b0 : decide (a1 ≤ a0) = false := decide_eq_false c4
    clear c4
    obtain rfl := Option.some.inj H
    go_enter Try.func92, Try.ntmps92
    go_wp2
    go_ret
    exact ⟨by first | rfl | (simp; done) | (simp [*]; done), by repeat (first | exact Drawn0.refl _ | apply Drawn0.step)⟩

-- NOT PRINTED: function 48 (mem_New)

-- NOT PRINTED: function 49 (hart_New)

-- NOT PRINTED: function 36 (burinlaw28_ran)

-- NOT PRINTED: function 35 (burinlaw28_works)

-- NOT PRINTED: function 9 (burinlaw28_HartQuotients)

end Go.Proofs.Ytciehejifdbpoaa.PHartQuotients
end
section
namespace Go.Proofs.Ytciehejifdbpoaa.Grow
open Go.RowKit

section
variable {P : Program} {ops : Array Oper} {Q : Exit → Act → World → Prop}

/-- The frame with values laid into slots, one behind the other. -/
def fillF (a : Act) (v : Nat → Value) : Nat → List Tmp → Act
  | _, [] => a
  | k, d :: ds => fillF (a.put (some d) (v k)) v (k + 1) ds

def upd (v : Nat → Value) (k : Nat) (x : Value) : Nat → Value := fun j => if j = k then x else v j

theorem put_put_ne (a : Act) (d e : Tmp) (x y : Value) (h : d ≠ e) : (a.put (some d) x).put (some e) y = (a.put (some e) y).put (some d) x :=
  Act.put_comm a x y (fun t ht he => h (by cases ht; exact (Option.some.inj he).symm))

theorem fill_put (v : Nat → Value) (e : Tmp) (y : Value) : ∀ (dl : List Tmp) (k : Nat), e ∉ dl → ∀ a : Act, (fillF a v k dl).put (some e) y = fillF (a.put (some e) y) v k dl
  | [], _, _, _ => rfl
  | d :: ds, k, h, a => by
    simp only [fillF]
    rw [fill_put v e y ds (k + 1) (fun hm => h (List.mem_cons_of_mem _ hm)), put_put_ne _ _ _ _ _ (fun he => h (by rw [he]; exact List.mem_cons_self ..))]

theorem fill_congr (v u : Nat → Value) : ∀ (dl : List Tmp) (k : Nat) (a : Act), (∀ j, k ≤ j → v j = u j) → fillF a v k dl = fillF a u k dl
  | [], _, _, _ => rfl
  | d :: ds, k, a, h => by
    simp only [fillF]
    rw [h k (Nat.le_refl _), fill_congr v u ds (k + 1) _ (fun j hj => h j (by omega))]

theorem put_same (a : Act) (d : Tmp) (x y : Value) : (a.put (some d) x).put (some d) y = a.put (some d) y := by simp [Act.put]

theorem fill_upd (v : Nat → Value) (y : Value) : ∀ (dl : List Tmp) (k j : Nat) (d : Tmp) (a : Act), dl.Nodup → dl[j]? = some d → (fillF a v k dl).put (some d) y = fillF a (upd v (k + j) y) k dl
  | [], _, _, _, _, _, h => by simp at h
  | e :: ds, k, 0, d, a, hn, h => by
    have hed : e = d := by simpa using h
    subst hed
    obtain ⟨h1, h2⟩ := List.nodup_cons.1 hn
    simp only [fillF]
    rw [fill_put v e y ds (k + 1) h1, put_same, fill_congr v (upd v (k + 0) y) ds (k + 1) _ (fun j hj => by simp only [upd]; rw [if_neg (by omega)])]
    simp [upd]
  | e :: ds, k, j + 1, d, a, hn, h => by
    obtain ⟨h1, h2⟩ := List.nodup_cons.1 hn
    simp only [fillF]
    have hd : ds[j]? = some d := by simpa using h
    rw [fill_upd v y ds (k + 1) j d _ h2 hd, show k + 1 + j = k + (j + 1) by omega]
    have hk : upd v (k + (j + 1)) y k = v k := by simp only [upd]; rw [if_neg (by omega)]
    rw [hk]

theorem getD_put_ne (a : Act) (d t : Tmp) (x : Value) (h : d ≠ t) : (a.put (some d) x).tmps.getD t undef = a.tmps.getD t undef := by
  simp [Act.put, Array.getElem?_setIfInBounds_ne h]
theorem getD_put_eq (a : Act) (d : Tmp) (x : Value) (h : d < a.tmps.size) : (a.put (some d) x).tmps.getD d undef = x := by
  simp [Act.put, h]
theorem size_put (a : Act) (d : Tmp) (x : Value) : (a.put (some d) x).tmps.size = a.tmps.size := by simp [Act.put]
theorem size_fill (v : Nat → Value) : ∀ (dl : List Tmp) (k : Nat) (a : Act), (fillF a v k dl).tmps.size = a.tmps.size
  | [], _, _ => rfl
  | d :: ds, k, a => by simp only [fillF]; rw [size_fill v ds, size_put]

theorem fill_other (v : Nat → Value) (t : Tmp) : ∀ (dl : List Tmp) (k : Nat) (a : Act), t ∉ dl → (fillF a v k dl).tmps.getD t undef = a.tmps.getD t undef
  | [], _, _, _ => rfl
  | d :: ds, k, a, h => by
    simp only [fillF]
    rw [fill_other v t ds _ _ (fun hm => h (List.mem_cons_of_mem _ hm)), getD_put_ne _ _ _ _ (fun he => h (by rw [he]; exact List.mem_cons_self ..))]

theorem fill_slot (v : Nat → Value) : ∀ (dl : List Tmp) (k j : Nat) (d : Tmp) (a : Act), dl.Nodup → dl[j]? = some d → d < a.tmps.size → (fillF a v k dl).tmps.getD d undef = v (k + j)
  | [], _, _, _, _, _, h, _ => by simp at h
  | e :: ds, k, 0, d, a, hn, h, hs => by
    have hed : e = d := by simpa using h
    subst hed
    obtain ⟨h1, h2⟩ := List.nodup_cons.1 hn
    simp only [fillF]
    rw [fill_other v e ds _ _ h1, getD_put_eq _ _ _ hs]; rfl
  | e :: ds, k, j + 1, d, a, hn, h, hs => by
    obtain ⟨h1, h2⟩ := List.nodup_cons.1 hn
    simp only [fillF]
    have hd : ds[j]? = some d := by simpa using h
    rw [fill_slot v ds (k + 1) j d _ h2 hd (by rw [size_put]; exact hs), show k + 1 + j = k + (j + 1) by omega]

/-- Every frame is its own, with what its slots hold laid into them. -/
theorem fill_self : ∀ (dl : List Tmp) (k : Nat) (a : Act), (∀ (j : Nat) (d : Tmp), dl[j]? = some d → d < a.tmps.size) →
    fillF a (fun j => (dl[j - k]?).elim undef (fun d => a.tmps.getD d undef)) k dl = a
  | [], _, _, _ => rfl
  | d :: ds, k, a, h => by
    simp only [fillF]
    have hd : d < a.tmps.size := h 0 d (by simp)
    have e : a.put (some d) (((d :: ds)[k - k]?).elim undef (fun d => a.tmps.getD d undef)) = a := by
      simp only [Nat.sub_self, List.getElem?_cons_zero, Option.elim, Act.put]
      have : a.tmps.setIfInBounds d (a.tmps.getD d undef) = a.tmps := by
        apply Array.ext_getElem?
        intro i
        rw [Array.getElem?_setIfInBounds]
        split
        · rename_i e; subst e; simp [hd]
        · rfl
      rw [this]
    rw [e]
    have := fill_self ds (k + 1) a (fun j d hj => h (j + 1) d (by simpa using hj))
    conv => rhs; rw [← this]
    apply fill_congr
    intro j hj
    have : j - k = (j - (k + 1)) + 1 := by omega
    rw [this]; rfl

/-- An operation that leaves all that there is, and gives a value that is so. -/
def Oper.grows (P : Program) (o : Oper) (a : Act) (w : World) (R : Value → World → Prop) : Prop :=
  match (execOp a.eval o).run P w with
  | .ok (.value v) w' => Below w.heap.size w w' ∧ R v w'
  | .ok (.enter f args) w' => Below w.heap.size w w' ∧ Calls P f args w' (fun e w'' => ∃ v, e = .returned v ∧ Below w'.heap.size w' w'' ∧ R v w'')
  | _ => False

/-- The same, of one that may have a guard: its guard's slot is 'g'. -/
def StepTo (P : Program) (dl : List Tmp) (o : Oper) (a : Act) (w : World) (R : Value → World → Prop) : Prop :=
  match o.guard with
  | none => Oper.grows P o a w R
  | some (g, want) => ∀ d, dl[g]? = some d → (a.tmps.getD d undef = .bool want → Oper.grows P o a w R) ∧ (a.tmps.getD d undef ≠ .bool want → R undef w)

/-- What is to be shown of each operation of the list. -/
def StepsAll (P : Program) (a0 : Act) (w0 : World) (dl : List Tmp) (V : Nat → Value → World → Prop) : Nat → List Oper → Prop
  | _, [] => True
  | k, o :: l => (∀ (a : Act) (w : World), Below w0.heap.size w0 w → (∀ t, t ∉ dl → a.tmps.getD t undef = a0.tmps.getD t undef) →
      (∀ e ∈ o.after, ∀ d, dl[e.on]? = some d → V e.on (a.tmps.getD d undef) w) → StepTo P dl o a w (V k)) ∧ StepsAll P a0 w0 dl V (k + 1) l

/-- What the kernel reckons of a region: its first 'n' operations come in whatever order, the others behind them, one after the other. -/
def growB (ops : Array Oper) (dl : List Tmp) (size : Nat) : Bool :=
  let n := dl.length
  Region.noSelect ops && decide (n ≤ ops.size) && (decide (n = ops.size) || Region.sinkB .any ops n) && Region.chainB .any ops n &&
  Region.seqB .any ops (ops.size - n) n ((Array.range ops.size).map (decide <| · < n)) &&
  (ops.all fun o => o.after.all fun e => Region.binds .any e) &&
  ((List.range n).all fun i => ((ops[i]?).map fun o => o.after.all fun e => decide (e.on < i)).getD false) &&
  ((List.range n).all fun i => ((ops[i]?).map fun o => o.dst == dl[i]?).getD false) &&
  ((List.range n).all fun i => ((ops[i]?).map fun o => (match o.guard with | none => true | some (g, _) => o.after.any fun e => e.on == g)).getD false) &&
  decide dl.Nodup && dl.all (decide <| · < size)

theorem stepsAll_get {a0 : Act} {w0 : World} {dl : List Tmp} {V : Nat → Value → World → Prop} : ∀ (l : List Oper) (k j : Nat) (o : Oper), StepsAll P a0 w0 dl V k l → l[j]? = some o →
    ∀ (a : Act) (w : World), Below w0.heap.size w0 w → (∀ t, t ∉ dl → a.tmps.getD t undef = a0.tmps.getD t undef) →
      (∀ e ∈ o.after, ∀ d, dl[e.on]? = some d → V e.on (a.tmps.getD d undef) w) → StepTo P dl o a w (V (k + j))
  | [], _, _, _, _, h => by simp at h
  | o :: l, k, 0, o', hs, h => by
    have : o = o' := by simpa using h
    subst this
    exact hs.1
  | o :: l, k, j + 1, o', hs, h => by
    have := stepsAll_get l (k + 1) j o' hs.2 (by simpa using h)
    rwa [show k + 1 + j = k + (j + 1) by omega] at this

theorem wanted_guard {o : Oper} {g : Nat} {want : Bool} {a : Act} {d : Tmp} (hg : o.guard = some (g, want)) (hd : (ops[g]?).bind (·.dst) = some d) (hs : d < a.tmps.size) :
    Region.wanted o (yielded ops a.tmps) = true ↔ a.tmps.getD d undef = .bool want := by
  have hx : a.tmps[d]? = some (a.tmps.getD d undef) := by simp [hs]
  unfold Region.wanted yielded
  simp only [hg, hd, Option.bind_some, hx]
  cases hv : a.tmps.getD d undef <;> simp

theorem ready_ne {n : Nat} {listed : Array Bool} (hord : ((List.range n).all fun i => ((ops[i]?).map fun o => o.after.all fun e => decide (e.on < i)).getD false) = true)
    (hn : n ≤ ops.size) (hsz : listed.size = ops.size) : ∀ (j : Nat), j < n → listed.getD j false = false → Region.ready .any ops listed ≠ [] := by
  intro j
  induction j using Nat.strongRecOn with
  | _ j ih =>
    intro hj hl h0
    have hjs : j < ops.size := by omega
    have ho : ops[j]? = some ops[j] := by simp [hjs]
    by_cases hall : ∀ e ∈ ops[j].after, listed.getD e.on false = true
    · have : j ∈ Region.ready .any ops listed := by
        refine mem_ready.2 ⟨getD_in (by omega) hl, ops[j], ho, fun e he _ => hall e he⟩
      rw [h0] at this
      cases this
    · simp only [Classical.not_forall] at hall
      obtain ⟨e, he, hne⟩ := hall
      have h1 := List.all_eq_true.1 hord j (by simpa using hj)
      simp only [ho, Option.map_some, Option.getD_some] at h1
      have h2 := Array.all_eq_true_iff_forall_mem.1 h1 e he
      have h3 : e.on < j := by simpa using h2
      exact ih e.on h3 (by omega) (eq_false_of_ne_true hne) h0

/-- How many of the first 'n' have not come up. -/
def left (n : Nat) (listed : Array Bool) : Nat := ((List.range n).filter fun j => !listed.getD j false).length

theorem left_set {n i : Nat} {listed : Array Bool} (hi : i < n) (hs : i < listed.size) (hl : listed.getD i false = false) : left n (listed.setIfInBounds i true) + 1 = left n listed := by
  unfold left
  have key : ∀ (l : List Nat), l.Nodup → i ∈ l → (l.filter fun j => !(listed.setIfInBounds i true).getD j false).length + 1 = (l.filter fun j => !listed.getD j false).length := by
    intro l
    induction l with
    | nil => intro _ h; cases h
    | cons x xs ih =>
      intro hn hm
      obtain ⟨h1, h2⟩ := List.nodup_cons.1 hn
      by_cases hx : x = i
      · subst hx
        have e1 : (xs.filter fun j => !(listed.setIfInBounds x true).getD j false) = xs.filter fun j => !listed.getD j false := by
          apply List.filter_congr
          intro j hj
          rw [getD_set_ne false (fun e => h1 (by rw [e]; exact hj))]
        rw [List.filter_cons, List.filter_cons]
        have a1 : (listed.setIfInBounds x true).getD x false = true := by simp [hs]
        rw [a1, hl, e1]
        simp
      · have hm' : i ∈ xs := by
          rcases List.mem_cons.1 hm with h | h
          · exact absurd h.symm hx
          · exact h
        have := ih h2 hm'
        rw [List.filter_cons, List.filter_cons, getD_set_ne false (fun e => hx e.symm)]
        split <;> (try simp only [List.length_cons]) <;> omega
  exact key _ List.nodup_range (by simpa using hi)

theorem left_zero {n : Nat} {listed : Array Bool} (h : left n listed = 0) : ∀ j, j < n → listed.getD j false = true := by
  intro j hj
  unfold left at h
  have := List.filter_eq_nil_iff.1 (List.eq_nil_of_length_eq_zero h) j (by simpa using hj)
  simpa using this

theorem left_pos {n : Nat} {listed : Array Bool} (h : left n listed ≠ 0) : ∃ j, j < n ∧ listed.getD j false = false := by
  unfold left at h
  cases hf : (List.range n).filter fun j => !listed.getD j false with
  | nil => rw [hf] at h; exact absurd rfl h
  | cons x xs =>
    have hm : x ∈ (List.range n).filter fun j => !listed.getD j false := by rw [hf]; exact List.mem_cons_self ..
    obtain ⟨h1, h2⟩ := List.mem_filter.1 hm
    exact ⟨x, by simpa using h1, by simpa using h2⟩

theorem grow_any {a0 : Act} {w0 : World} {l : List Oper} (dl : List Tmp) (V : Nat → Value → World → Prop)
    (hB : growB l.toArray dl a0.tmps.size = true)
    (hV : ∀ j v w w', V j v w → Below w.heap.size w w' → V j v w')
    (hstep : StepsAll P a0 w0 dl V 0 (l.take dl.length))
    (hend : ∀ (v : Nat → Value) (w : World), Below w0.heap.size w0 w → (∀ j, j < dl.length → V j (v j) w) → wpList P l.toArray Q (l.drop dl.length) (fillF a0 v 0 dl) w) :
    ∀ (fuel : Nat) (listed : Array Bool) (v : Nat → Value) (w : World), HeadInv .any l.toArray dl.length listed → Below w0.heap.size w0 w →
      (∀ j, j < dl.length → listed.getD j false = true → V j (v j) w) → left dl.length listed + (l.length - dl.length) = fuel →
      wpAny P .any l.toArray Q fuel listed (fillF a0 v 0 dl) w := by
  simp only [growB, Bool.and_eq_true, decide_eq_true_eq, Bool.or_eq_true, List.size_toArray] at hB
  obtain ⟨⟨⟨⟨⟨⟨⟨⟨⟨⟨hsel, hn⟩, hsink⟩, hchain⟩, hseq⟩, hbinds⟩, hord⟩, hdst⟩, hgd⟩, hnd⟩, hsz⟩ := hB
  intro fuel
  induction fuel with
  | zero =>
    intro listed v w inv hb hv hf
    have h0 : left dl.length listed = 0 := by omega
    have hall := left_zero h0
    have hnl : l.length = dl.length := by omega
    have := wpAny_of_seq (P := P) (md := .any) (ops := l.toArray) (Q' := Q) (l.drop dl.length) dl.length listed (fillF a0 v 0 dl) w (fun j => by simp [List.getElem?_drop]) (by
      have : (l.drop dl.length).length = 0 := by simp; omega
      rw [this]
      simp only [Region.seqB, List.isEmpty_iff]
      cases hr : Region.ready .any l.toArray listed with
      | nil => rfl
      | cons i is =>
        have hm : i ∈ Region.ready .any l.toArray listed := by rw [hr]; exact List.mem_cons_self ..
        obtain ⟨h1, oi, hoi, _⟩ := mem_ready.1 hm
        have hi : i < l.length := by simpa using (Array.getElem?_eq_some_iff.1 hoi).1
        have := hall i (by omega)
        rw [getD_both h1] at this
        cases this) (hend v w hb (fun j hj => hv j hj (hall j hj)))
    have e0 : (l.drop dl.length).length = 0 := by simp; omega
    rwa [e0] at this
  | succ f ih =>
    intro listed v w inv hb hv hf
    by_cases h0 : left dl.length listed = 0
    · have hall := left_zero h0
      have hls : listed.size = l.length := by simpa using inv.size
      have heq : listed = ((Array.range l.length).map (decide <| · < dl.length)) := by
        apply Array.ext
        · simp [hls]
        · intro i h1 h2
          by_cases hi : i < dl.length
          · have := hall i hi
            simp [h1] at this
            simp [this, hi]
          · have := inv.tail i (by omega) (by simpa using (by omega : i < l.length))
            simp [h1] at this
            simp [this, hi]
      have hlen : (l.drop dl.length).length = f + 1 := by simp; omega
      have := wpAny_of_seq (P := P) (md := .any) (ops := l.toArray) (Q' := Q) (l.drop dl.length) dl.length listed (fillF a0 v 0 dl) w (fun j => by simp [List.getElem?_drop])
        (by rw [heq]; rw [show (l.drop dl.length).length = l.length - dl.length by simp]; exact hseq) (hend v w hb (fun j hj => hv j hj (hall j hj)))
      rwa [hlen] at this
    · obtain ⟨j, hj, hlj⟩ := left_pos h0
      have hls : listed.size = l.toArray.size := inv.size
      refine ⟨fun hnil => absurd hnil (ready_ne hord (by simpa using hn) hls j hj hlj), fun i hi => ?_⟩
      have hin : i < dl.length := by
        rcases Nat.lt_or_ge i dl.length with h | h
        · exact h
        · exfalso
          obtain ⟨_, oi, hoi, _⟩ := mem_ready.1 hi
          have his : i < l.length := by simpa using (Array.getElem?_eq_some_iff.1 hoi).1
          rcases hsink with hs | hs
          · omega
          · exact tail_waits hs hchain (by simp; omega) inv _ j rfl hj (getD_in (by rw [hls]; simp; omega) hlj) i h hi
      obtain ⟨hli, oi, hoi, hdeps⟩ := mem_ready.1 hi
      have hli' := getD_both hli
      have hol : l[i]? = some oi := by simpa using hoi
      -- its slot
      have hdi : ∃ d, dl[i]? = some d := ⟨dl[i], by simp [hin]⟩
      obtain ⟨d, hd⟩ := hdi
      have hodst : oi.dst = some d := by
        have h1 := List.all_eq_true.1 hdst i (by simpa using hin)
        simp only [hoi, Option.map_some, Option.getD_some, beq_iff_eq] at h1
        rw [h1, hd]
      have hdl : ∀ (k : Nat) (d : Tmp), dl[k]? = some d → d < a0.tmps.size := fun k d h => by
        have := List.all_eq_true.1 hsz d (List.mem_of_getElem? h)
        simpa using this
      -- what follows
      have hnext : ∀ (x : Value) (w' : World), Below w.heap.size w w' → V i x w' →
          wpAny P .any l.toArray Q f (listed.setIfInBounds i true) ((fillF a0 v 0 dl).put oi.dst x) w' := by
        intro x w' hb' hx
        rw [hodst, fill_upd v x dl 0 i d a0 hnd hd, Nat.zero_add]
        refine ih _ _ _ (inv.set hi hin) (hb.trans (hb'.mono (by have := hb.size; omega))) (fun k hk hl => ?_) ?_
        · simp only [upd]
          by_cases hki : k = i
          · rw [if_pos hki, hki]; exact hx
          · rw [if_neg hki]
            rw [getD_set_ne false (fun e => hki e.symm)] at hl
            exact hV _ _ _ _ (hv k hk hl) hb'
        · have := left_set (n := dl.length) hin (by rw [hls]; simp; omega) hli'
          omega
      -- its step
      have hafter : ∀ e ∈ oi.after, Region.binds .any e = true := fun e he => by
        have h1 := Array.all_eq_true_iff_forall_mem.1 hbinds oi (by rw [← Array.mem_toList_iff]; simpa using List.mem_of_getElem? hol)
        exact Array.all_eq_true_iff_forall_mem.1 h1 e he
      have hs := stepsAll_get (l.take dl.length) 0 i oi hstep (by simp [hin, hol]) (fillF a0 v 0 dl) w hb (fun t ht => fill_other v t dl 0 a0 ht) (fun e he d' hd' => by
        rw [fill_slot v dl 0 e.on d' a0 hnd hd' (hdl _ _ hd'), Nat.zero_add]
        refine hv e.on ?_ (hdeps e he (hafter e he))
        rcases Nat.lt_or_ge e.on dl.length with h | h
        · exact h
        · rw [List.getElem?_eq_none h] at hd'; cases hd')
      rw [Nat.zero_add] at hs
      have hgrow : Oper.grows P oi (fillF a0 v 0 dl) w (V i) → oi.wp P (fillF a0 v 0 dl) w (wpAny P .any l.toArray Q f (listed.setIfInBounds i true)) Q := by
        intro hg
        unfold Oper.grows at hg
        unfold Oper.wp
        generalize (execOp (fillF a0 v 0 dl).eval oi).run P w = r at *
        cases r with
        | halt x w' => exact hg.elim
        | ok n w' =>
          cases n <;> simp only [] at hg <;> try exact hg.elim
          case value u => simp only [Oper.upon]; exact hnext u w' hg.1 hg.2
          case enter g args =>
            simp only [Oper.upon]
            refine hg.2.mono fun e w'' ⟨u, he, hbe, hu⟩ => ?_
            subst he
            exact hnext u w'' (hg.1.trans (hbe.mono (by have := hg.1.size; omega))) hu
      unfold wpOp
      simp only [hoi]
      unfold StepTo at hs
      cases hg : oi.guard with
      | none =>
        simp only [hg] at hs
        rw [if_pos (by simp [Region.wanted, hg])]
        exact .inl (hgrow hs)
      | some gw =>
        obtain ⟨g, want⟩ := gw
        simp only [hg] at hs
        have hge : ∃ e ∈ oi.after, e.on = g := by
          have h1 := List.all_eq_true.1 hgd i (by simpa using hin)
          simp only [hoi, Option.map_some, Option.getD_some, hg] at h1
          obtain ⟨e, he, hb⟩ := Array.any_eq_true'.1 h1
          exact ⟨e, he, by simpa using hb⟩
        obtain ⟨e, he, hon⟩ := hge
        have hgi : g < i := by
          have h1 := List.all_eq_true.1 hord i (by simpa using hin)
          simp only [hoi, Option.map_some, Option.getD_some] at h1
          have := Array.all_eq_true_iff_forall_mem.1 h1 e he
          simp only [decide_eq_true_eq] at this
          omega
        have hgd' : dl[g]? = some (dl[g]'(by omega)) := by simp
        have hgdst : (l.toArray[g]?).bind (·.dst) = some (dl[g]'(by omega)) := by
          have h1 := List.all_eq_true.1 hdst g (by simp; omega)
          cases hog : l.toArray[g]? with
          | none => rw [hog] at h1; simp at h1
          | some og =>
            rw [hog] at h1
            simp only [Option.map_some, Option.getD_some, beq_iff_eq] at h1
            simp only [Option.bind_some]
            rw [h1, hgd']
        have hw := wanted_guard (a := fillF a0 v 0 dl) hg hgdst (by rw [size_fill]; exact hdl _ _ hgd')
        obtain ⟨h1, h2⟩ := hs _ hgd'
        by_cases hv' : (fillF a0 v 0 dl).tmps.getD (dl[g]'(by omega)) undef = .bool want
        · rw [if_pos (hw.2 hv')]
          exact .inl (hgrow (h1 hv'))
        · rw [if_neg (fun e => hv' (hw.1 e))]
          exact hnext undef w (Below.refl _ _) (h2 hv')

/-- A region that draws its order, whose first operations leave all that there is: each is shown once, out of what it waits for. -/
theorem wp_region_grow {id : Nat} {a0 : Act} {w0 : World} {l : List Oper} (dl : List Tmp) (V : Nat → Value → World → Prop) (hm : P.follows .mixedOrders = true)
    (hB : growB l.toArray dl a0.tmps.size = true)
    (hV : ∀ j v w w', V j v w → Below w.heap.size w w' → V j v w')
    (hstep : StepsAll P a0 w0 dl V 0 (l.take dl.length))
    (hend : ∀ (v : Nat → Value) (w : World), Below w0.heap.size w0 w → (∀ j, j < dl.length → V j (v j) w) → wpList P l.toArray Q (l.drop dl.length) (fillF a0 v 0 dl) w) :
    (Code.region id l.toArray true).wp P Q a0 w0 := by
  refine wp_region_any hm ?_
  have hB' := hB
  simp only [growB, Bool.and_eq_true, decide_eq_true_eq, Bool.or_eq_true, List.size_toArray] at hB'
  obtain ⟨⟨⟨⟨⟨⟨⟨⟨⟨⟨_, hn⟩, _⟩, _⟩, _⟩, _⟩, _⟩, _⟩, _⟩, _⟩, hsz⟩ := hB'
  have := grow_any dl V hB hV hstep hend l.toArray.size (Array.replicate l.toArray.size false) (fun j => (dl[j - 0]?).elim undef (fun d => a0.tmps.getD d undef)) { w0 with drawn := w0.drawn + 1 }
    ⟨by simp, fun j oj _ hl => (by rw [getD_replicate_false] at hl; cases hl), fun t _ ht => getD_in (by simpa using ht) (getD_replicate_false _ _)⟩
    ⟨rfl, rfl, rfl, Nat.le_refl _, fun _ _ => rfl⟩ (fun j _ hl => by rw [getD_replicate_false] at hl; cases hl) (by
      have : left dl.length (Array.replicate l.toArray.size false) = dl.length := by
        unfold left
        rw [List.filter_eq_self.2 (fun j _ => by rw [getD_replicate_false]; rfl)]
        simp
      rw [this]
      simp
      omega)
  rwa [fill_self dl 0 a0 (fun j d h => by
    have := List.all_eq_true.1 hsz d (List.mem_of_getElem? h)
    simpa using this)] at this

end
end Go.Proofs.Ytciehejifdbpoaa.Grow
end
section
namespace Go.Proofs.Ytciehejifdbpoaa.PHartQuotients
open Go.RowKit Go.Proofs.YtciehejifdbpoaaW.PrintWords Go.Proofs.YtciehejifdbpoaaW.PrintLast Go.Proofs.YtciehejifdbpoaaW.PrintMore
attribute [local go_sem] max2_int min2_int max_two min_two max_three min_three max_four min_four   -- for this text's walks alone
set_option linter.unusedVariables false
set_option linter.unusedSimpArgs false

-- NOT PRINTED: function 52 (rvcode_table)

/-! ### rvcode_form_parts: function 54 -/
/-! ### rvcode_register: function 58 -/
def rvcode_register.f (a0 : Int) (a1 : Bool) : Option (Bool) := if a0 = 0 then (some true) else (if a1 = true then (if a0 > 0 then (some (decide (a0 < 32))) else (some false)) else (some false))
set_option maxHeartbeats 8000000 in
set_option maxRecDepth 100000 in
theorem rvcode_register.calls (a0 : Int) (a1 : Bool) (r : Bool) (w : World) (h : rvcode_register.f a0 a1 = some r) :
    Calls Try.prog 58 #[.int .i64 a0, .bool a1] w fun e w' => e = .returned (.bool r) ∧ Drawn0 w w' := by
  have H : (if a0 = 0 then (some true) else (if a1 = true then (if a0 > 0 then (some (decide (a0 < 32))) else (some false)) else (some false))) = some r := h
  clear h
  by_cases c3 : a0 = 0
  · rw [if_pos c3] at H
    have c3b0 : (a0 == 0) = true := beq_iff_eq.mpr c3
    have c3b1 : (a0 != 0) = false := bne_eq_false_iff_eq.mpr c3
    clear c3
    obtain rfl := Option.some.inj H
    go_enter Try.func58, Try.ntmps58
    go_wp2
    go_ret
    exact ⟨by first | rfl | (simp; done) | (simp [*]; done), by repeat (first | exact Drawn0.refl _ | apply Drawn0.step)⟩
  · rw [if_neg c3] at H
    have c3b0 : (a0 == 0) = false := beq_eq_false_iff_ne.mpr c3
    have c3b1 : (a0 != 0) = true := bne_iff_ne.mpr c3
    by_cases c4 : a1 = true
    · subst c4
      have H1 : (if a0 > 0 then (some (decide (a0 < 32))) else (some false)) = some r := by rw [if_pos rfl] at H; exact H
      clear H
      have H := H1
      clear H1
      by_cases c5 : a0 > 0
      · rw [if_pos c5] at H
        have c5b0 : decide (0 < a0) = true := decide_eq_true c5
        clear c5
        obtain rfl := Option.some.inj H
        go_enter Try.func58, Try.ntmps58
        go_wp2
        go_ret
        exact ⟨by first | rfl | (simp; done) | (simp [*]; done), by repeat (first | exact Drawn0.refl _ | apply Drawn0.step)⟩
      · rw [if_neg c5] at H
        have c5b0 : decide (0 < a0) = false := decide_eq_false c5
        clear c5
        obtain rfl := Option.some.inj H
        go_enter Try.func58, Try.ntmps58
        go_wp2
        go_ret
        exact ⟨by first | rfl | (simp; done) | (simp [*]; done), by repeat (first | exact Drawn0.refl _ | apply Drawn0.step)⟩
    · replace c4 := Bool.eq_false_iff.mpr c4
      subst c4
      have H1 : (some false) = some r := by rw [if_neg (show ¬ (false = true) by decide)] at H; exact H
      clear H
      have H := H1
      clear H1
      obtain rfl := Option.some.inj H
      go_enter Try.func58, Try.ntmps58
      go_wp2
      go_ret
      exact ⟨by first | rfl | (simp; done) | (simp [*]; done), by repeat (first | exact Drawn0.refl _ | apply Drawn0.step)⟩

/-! ### rvcode_cut: function 56 -/
def rvcode_cut.f (a0 : Int) (a1 : Int) (a2 : Int) : Option (Int) := if 0 ≤ (IntKind.u64.wrap (a1)) then (if 0 ≤ (IntKind.u64.wrap (a2)) then (some (Go.bits .and .u32 (shr .u32 a0 (IntKind.u64.wrap (a1))) (((shl .u32 1 (IntKind.u64.wrap (a2))) - 1) % 4294967296))) else (none)) else (none)
set_option maxHeartbeats 8000000 in
set_option maxRecDepth 100000 in
theorem rvcode_cut.calls (a0 : Int) (a1 : Int) (a2 : Int) (r : Int) (w : World) (h : rvcode_cut.f a0 a1 a2 = some r) :
    Calls Try.prog 56 #[.int .u32 a0, .int .i64 a1, .int .i64 a2] w fun e w' => e = .returned (.int .u32 r) ∧ Drawn0 w w' := by
  have H : (if 0 ≤ (IntKind.u64.wrap (a1)) then (if 0 ≤ (IntKind.u64.wrap (a2)) then (some (Go.bits .and .u32 (shr .u32 a0 (IntKind.u64.wrap (a1))) (((shl .u32 1 (IntKind.u64.wrap (a2))) - 1) % 4294967296))) else (none)) else (none)) = some r := h
  clear h
  obtain ⟨ji4, hji4⟩ : ∃ j_ : Int, (IntKind.u64.wrap (a1)) = j_ := ⟨_, rfl⟩
  replace H : (if 0 ≤ (ji4) then (if 0 ≤ (IntKind.u64.wrap (a2)) then (some (Go.bits .and .u32 (shr .u32 a0 (ji4)) (((shl .u32 1 (IntKind.u64.wrap (a2))) - 1) % 4294967296))) else (none)) else (none)) = some r := by first | (rw [hji4] at H; exact H) | (simp only [hji4] at H ⊢; exact H)
  by_cases c5 : 0 ≤ (ji4)
  · rw [if_pos c5] at H
    have c5b0 := eq_true c5
    have c5b1 : decide (0 ≤ (ji4)) = true := decide_eq_true c5
    clear c5
    obtain ⟨ji6, hji6⟩ : ∃ j_ : Int, (shr .u32 a0 (ji4)) = j_ := ⟨_, rfl⟩
    replace H : (if 0 ≤ (IntKind.u64.wrap (a2)) then (some (Go.bits .and .u32 (ji6) (((shl .u32 1 (IntKind.u64.wrap (a2))) - 1) % 4294967296))) else (none)) = some r := by first | (rw [hji6] at H; exact H) | (simp only [hji6] at H ⊢; exact H)
    have hji6_ : (a0 / 2 ^ min (ji4).toNat 32) = ji6 := hji6
    have hji6z : (ji4) ≤ 32 → (a0 / 2 ^ (ji4).toNat) = ji6 := shr_small hji6
    obtain ⟨ji7, hji7⟩ : ∃ j_ : Int, (IntKind.u64.wrap (a2)) = j_ := ⟨_, rfl⟩
    replace H : (if 0 ≤ (ji7) then (some (Go.bits .and .u32 (ji6) (((shl .u32 1 (ji7)) - 1) % 4294967296))) else (none)) = some r := by first | (rw [hji7] at H; exact H) | (simp only [hji7] at H ⊢; exact H)
    by_cases c8 : 0 ≤ (ji7)
    · rw [if_pos c8] at H
      have c8b0 := eq_true c8
      have c8b1 : decide (0 ≤ (ji7)) = true := decide_eq_true c8
      clear c8
      obtain ⟨ji9, hji9⟩ : ∃ j_ : Int, (shl .u32 1 (ji7)) = j_ := ⟨_, rfl⟩
      replace H : (some (Go.bits .and .u32 (ji6) (((ji9) - 1) % 4294967296))) = some r := by first | (rw [hji9] at H; exact H) | (simp only [hji9] at H ⊢; exact H)
      have hji9_ : (IntKind.u32.wrap (1 * 2 ^ min (ji7).toNat 32)) = ji9 := hji9
      have hji9z : (ji7) ≤ 32 → (IntKind.u32.wrap (1 * 2 ^ (ji7).toNat)) = ji9 := shl_small hji9
      have hji9u : (IntKind.u32.wrap (2 ^ min (ji7).toNat 32)) = ji9 := by have h_ := hji9_; rw [Int.one_mul] at h_; exact h_
      have hji9v : (ji7) ≤ 32 → (IntKind.u32.wrap (2 ^ (ji7).toNat)) = ji9 := fun hle_ => by have h_ := hji9z hle_; rw [Int.one_mul] at h_; exact h_
      obtain rfl := Option.some.inj H
      go_enter Try.func56, Try.ntmps56
      go_wp2
      go_ret
      exact ⟨by first | rfl | (simp; done) | (simp only [← hji4, ← hji6, ← hji7, ← hji9] <;> (first | rfl | simp)) | (simp [*]; done), by repeat (first | exact Drawn0.refl _ | apply Drawn0.step)⟩
    · rw [if_neg c8] at H
      exact absurd H (by simp)
  · rw [if_neg c5] at H
    exact absurd H (by simp)

/-! ### rvcode_scatter: function 59 -/
def rvcode_scatter.j0 : Nat → Int → Int → Bool → Option (Int)
  | 0, _, _, _ => none
  | k + 1, x1, x5, x6 => if x6 = true then (some ((x1 * 1048576) % 4294967296)) else (if x5 = 4 then ((rvcode_cut.f x1 0 5).bind fun t102 => ((rvcode_cut.f x1 5 7).bind fun t103 => (some (Go.bits .or .u32 ((t102 * 128) % 4294967296) ((t103 * 33554432) % 4294967296))))) else (if x5 = 5 then ((rvcode_cut.f x1 11 1).bind fun t104 => ((rvcode_cut.f x1 1 4).bind fun t105 => ((rvcode_cut.f x1 5 6).bind fun t106 => ((rvcode_cut.f x1 12 1).bind fun t107 => (some (Go.bits .or .u32 (Go.bits .or .u32 (Go.bits .or .u32 ((t104 * 128) % 4294967296) ((t105 * 256) % 4294967296)) ((t106 * 33554432) % 4294967296)) ((t107 * 2147483648) % 4294967296))))))) else (if x5 = 6 then (some ((x1 * 4096) % 4294967296)) else (if x5 = 7 then ((rvcode_cut.f x1 12 8).bind fun t108 => ((rvcode_cut.f x1 11 1).bind fun t109 => ((rvcode_cut.f x1 1 10).bind fun t110 => ((rvcode_cut.f x1 20 1).bind fun t111 => (some (Go.bits .or .u32 (Go.bits .or .u32 (Go.bits .or .u32 ((t108 * 4096) % 4294967296) ((t109 * 1048576) % 4294967296)) ((t110 * 2097152) % 4294967296)) ((t111 * 2147483648) % 4294967296))))))) else (some 0)))))
def rvcode_scatter.f (k : Nat) (a0 : Int) (a1 : Int) : Option (Int) := if a0 = 1 then (rvcode_scatter.j0 k a1 a0 (a0 == 1)) else (if a0 = 2 then (rvcode_scatter.j0 k a1 a0 (a0 == 2)) else (rvcode_scatter.j0 k a1 a0 (a0 == 3)))
set_option maxHeartbeats 8000000 in
set_option maxRecDepth 100000 in
theorem rvcode_scatter.calls (k : Nat) (a0 : Int) (a1 : Int) (r : Int) (w : World) (h : rvcode_scatter.f k a0 a1 = some r) :
    Calls Try.prog 59 #[.int .i64 a0, .int .u32 a1] w fun e w' => e = .returned (.int .u32 r) ∧ Drawn0 w w' := by
  have H : (if a0 = 1 then (rvcode_scatter.j0 k a1 a0 (a0 == 1)) else (if a0 = 2 then (rvcode_scatter.j0 k a1 a0 (a0 == 2)) else (rvcode_scatter.j0 k a1 a0 (a0 == 3)))) = some r := h
  clear h
  have HC3 := Aside0.mk H
  clear H
  go_enter Try.func59, Try.ntmps59
  go_upto_if 6 with (fail)
  go_cut [6] (fun v6 wc => ∃ (kq : Nat) (x6_2 : Bool), v6 = .bool x6_2 ∧ Aside0 (rvcode_scatter.j0 kq a1 a0 x6_2 = some r) ∧ Aside0 (kq ≤ k) ∧ Drawn0 w wc)
  case first =>
    have H := HC3.out
    clear HC3
    by_cases c4 : a0 = 1
    · rw [if_pos c4] at H
      have c4b0 : (a0 == 1) = true := beq_iff_eq.mpr c4
      have c4b1 : (a0 != 1) = false := bne_eq_false_iff_eq.mpr c4
      clear c4
      (first | rw [c4b0] | (simp only [i64_w, i32_w]; rw [c4b0]) | skip)
      have H' := Aside0.mk H
      clear H
      go_wp2
      go_meet
      case rel => exact ⟨_, ((a0 == 1)), (by first | rfl | (simp; done) | (simp [*]; done)), H', ⟨by first | omega | exact Nat.le_refl _⟩, by repeat (first | exact Drawn0.refl _ | apply Drawn0.step)⟩
    · rw [if_neg c4] at H
      have c4b0 : (a0 == 1) = false := beq_eq_false_iff_ne.mpr c4
      have c4b1 : (a0 != 1) = true := bne_iff_ne.mpr c4
      (first | rw [c4b0] | (simp only [i64_w, i32_w]; rw [c4b0]) | skip)
      by_cases c5 : a0 = 2
      · rw [if_pos c5] at H
        have c5b0 : (a0 == 2) = true := beq_iff_eq.mpr c5
        have c5b1 : (a0 != 2) = false := bne_eq_false_iff_eq.mpr c5
        clear c5
        have H' := Aside0.mk H
        clear H
        go_wp2
        go_meet
        case rel => exact ⟨_, ((a0 == 2)), (by first | rfl | (simp; done) | (simp [*]; done)), H', ⟨by first | omega | exact Nat.le_refl _⟩, by repeat (first | exact Drawn0.refl _ | apply Drawn0.step)⟩
      · rw [if_neg c5] at H
        have c5b0 : (a0 == 2) = false := beq_eq_false_iff_ne.mpr c5
        have c5b1 : (a0 != 2) = true := bne_iff_ne.mpr c5
        have H' := Aside0.mk H
        clear H
        go_wp2
        go_meet
        case rel => exact ⟨_, ((a0 == 3)), (by first | rfl | (simp; done) | (simp [*]; done)), H', ⟨by first | omega | exact Nat.le_refl _⟩, by repeat (first | exact Drawn0.refl _ | apply Drawn0.step)⟩
  case rest =>
    clear HC3
    try clear p2
    try clear c4
    try clear c4b0
    try clear c4b1
    try clear c5
    try clear c5b0
    try clear c5b1
    obtain ⟨kq, x6_2, rfl, HA, HJ2, ⟨mc2, rfl⟩⟩ := hcut
    cases kq with
    | zero => exact absurd HA.out (by simp [rvcode_scatter.j0])
    | succ kj2 =>
      have H := HA.out
      clear HA
      simp only [rvcode_scatter.j0] at H
      by_cases c6 : x6_2 = true
      · subst c6
        have H1 : (some ((a1 * 1048576) % 4294967296)) = some r := by rw [if_pos rfl] at H; exact H
        clear H
        have H := H1
        clear H1
        obtain rfl := Option.some.inj H
        go_wp2
        go_ret
        exact ⟨by first | rfl | (simp; done) | (simp [*]; done), by repeat (first | exact Drawn0.refl _ | apply Drawn0.step)⟩
      · replace c6 := Bool.eq_false_iff.mpr c6
        subst c6
        have H1 : (if a0 = 4 then ((rvcode_cut.f a1 0 5).bind fun t102 => ((rvcode_cut.f a1 5 7).bind fun t103 => (some (Go.bits .or .u32 ((t102 * 128) % 4294967296) ((t103 * 33554432) % 4294967296))))) else (if a0 = 5 then ((rvcode_cut.f a1 11 1).bind fun t104 => ((rvcode_cut.f a1 1 4).bind fun t105 => ((rvcode_cut.f a1 5 6).bind fun t106 => ((rvcode_cut.f a1 12 1).bind fun t107 => (some (Go.bits .or .u32 (Go.bits .or .u32 (Go.bits .or .u32 ((t104 * 128) % 4294967296) ((t105 * 256) % 4294967296)) ((t106 * 33554432) % 4294967296)) ((t107 * 2147483648) % 4294967296))))))) else (if a0 = 6 then (some ((a1 * 4096) % 4294967296)) else (if a0 = 7 then ((rvcode_cut.f a1 12 8).bind fun t108 => ((rvcode_cut.f a1 11 1).bind fun t109 => ((rvcode_cut.f a1 1 10).bind fun t110 => ((rvcode_cut.f a1 20 1).bind fun t111 => (some (Go.bits .or .u32 (Go.bits .or .u32 (Go.bits .or .u32 ((t108 * 4096) % 4294967296) ((t109 * 1048576) % 4294967296)) ((t110 * 2097152) % 4294967296)) ((t111 * 2147483648) % 4294967296))))))) else (some 0))))) = some r := by rw [if_neg (show ¬ (false = true) by decide)] at H; exact H
        clear H
        have H := H1
        clear H1
        by_cases c7 : a0 = 4
        · rw [if_pos c7] at H
          have c7b0 : (a0 == 4) = true := beq_iff_eq.mpr c7
          have c7b1 : (a0 != 4) = false := bne_eq_false_iff_eq.mpr c7
          clear c7
          replace H := Option.bind_eq_some_iff.mp H
          obtain ⟨t102, A80, H⟩ := H
          replace H : ((rvcode_cut.f a1 5 7).bind fun t103 => (some (Go.bits .or .u32 ((t102 * 128) % 4294967296) ((t103 * 33554432) % 4294967296)))) = some r := H
          have A8 := Aside0.mk A80
          clear A80
          replace H := Option.bind_eq_some_iff.mp H
          obtain ⟨t103, A90, H⟩ := H
          replace H : (some (Go.bits .or .u32 ((t102 * 128) % 4294967296) ((t103 * 33554432) % 4294967296))) = some r := H
          have A9 := Aside0.mk A90
          clear A90
          obtain rfl := Option.some.inj H
          go_wp2_with (first | ((with_reducible refine gate_callee (f := 56) rfl ?_); refine goesL_ (some 15) rfl rfl Try.func56 (by kernel_rfl) rfl #[.int .u32 a1, .int .i64 0, .int .i64 5] rfl (by (try simp only [List.map_toArray, List.map_cons, List.map_nil]); first | done | rfl | (simp only [List.length_drop, List.length_take]; rfl)) ?_; (with_reducible refine (rvcode_cut.calls a1 0 5 t102 _ A8.out).mono ?_); rintro e w' ⟨rfl, ⟨nd, rfl⟩⟩; refine ⟨_, rfl, ?_⟩) | ((with_reducible refine gate_callee (f := 56) rfl ?_); refine goesL_ (some 18) rfl rfl Try.func56 (by kernel_rfl) rfl #[.int .u32 a1, .int .i64 5, .int .i64 7] rfl (by (try simp only [List.map_toArray, List.map_cons, List.map_nil]); first | done | rfl | (simp only [List.length_drop, List.length_take]; rfl)) ?_; (with_reducible refine (rvcode_cut.calls a1 5 7 t103 _ A9.out).mono ?_); rintro e w' ⟨rfl, ⟨nd, rfl⟩⟩; refine ⟨_, rfl, ?_⟩))
          go_ret
          exact ⟨by first | rfl | (simp; done) | (simp [*]; done), by repeat (first | exact Drawn0.refl _ | apply Drawn0.step)⟩
        · rw [if_neg c7] at H
          have c7b0 : (a0 == 4) = false := beq_eq_false_iff_ne.mpr c7
          have c7b1 : (a0 != 4) = true := bne_iff_ne.mpr c7
          by_cases c10 : a0 = 5
          · rw [if_pos c10] at H
            have c10b0 : (a0 == 5) = true := beq_iff_eq.mpr c10
            have c10b1 : (a0 != 5) = false := bne_eq_false_iff_eq.mpr c10
            clear c10
            replace H := Option.bind_eq_some_iff.mp H
            obtain ⟨t104, A110, H⟩ := H
            replace H : ((rvcode_cut.f a1 1 4).bind fun t105 => ((rvcode_cut.f a1 5 6).bind fun t106 => ((rvcode_cut.f a1 12 1).bind fun t107 => (some (Go.bits .or .u32 (Go.bits .or .u32 (Go.bits .or .u32 ((t104 * 128) % 4294967296) ((t105 * 256) % 4294967296)) ((t106 * 33554432) % 4294967296)) ((t107 * 2147483648) % 4294967296)))))) = some r := H
            have A11 := Aside0.mk A110
            clear A110
            replace H := Option.bind_eq_some_iff.mp H
            obtain ⟨t105, A120, H⟩ := H
            replace H : ((rvcode_cut.f a1 5 6).bind fun t106 => ((rvcode_cut.f a1 12 1).bind fun t107 => (some (Go.bits .or .u32 (Go.bits .or .u32 (Go.bits .or .u32 ((t104 * 128) % 4294967296) ((t105 * 256) % 4294967296)) ((t106 * 33554432) % 4294967296)) ((t107 * 2147483648) % 4294967296))))) = some r := H
            have A12 := Aside0.mk A120
            clear A120
            replace H := Option.bind_eq_some_iff.mp H
            obtain ⟨t106, A130, H⟩ := H
            replace H : ((rvcode_cut.f a1 12 1).bind fun t107 => (some (Go.bits .or .u32 (Go.bits .or .u32 (Go.bits .or .u32 ((t104 * 128) % 4294967296) ((t105 * 256) % 4294967296)) ((t106 * 33554432) % 4294967296)) ((t107 * 2147483648) % 4294967296)))) = some r := H
            have A13 := Aside0.mk A130
            clear A130
            replace H := Option.bind_eq_some_iff.mp H
            obtain ⟨t107, A140, H⟩ := H
            replace H : (some (Go.bits .or .u32 (Go.bits .or .u32 (Go.bits .or .u32 ((t104 * 128) % 4294967296) ((t105 * 256) % 4294967296)) ((t106 * 33554432) % 4294967296)) ((t107 * 2147483648) % 4294967296))) = some r := H
            have A14 := Aside0.mk A140
            clear A140
            obtain rfl := Option.some.inj H
            go_wp2_with (first | ((with_reducible refine gate_callee (f := 56) rfl ?_); refine goesL_ (some 24) rfl rfl Try.func56 (by kernel_rfl) rfl #[.int .u32 a1, .int .i64 11, .int .i64 1] rfl (by (try simp only [List.map_toArray, List.map_cons, List.map_nil]); first | done | rfl | (simp only [List.length_drop, List.length_take]; rfl)) ?_; (with_reducible refine (rvcode_cut.calls a1 11 1 t104 _ A11.out).mono ?_); rintro e w' ⟨rfl, ⟨nd, rfl⟩⟩; refine ⟨_, rfl, ?_⟩) | ((with_reducible refine gate_callee (f := 56) rfl ?_); refine goesL_ (some 27) rfl rfl Try.func56 (by kernel_rfl) rfl #[.int .u32 a1, .int .i64 1, .int .i64 4] rfl (by (try simp only [List.map_toArray, List.map_cons, List.map_nil]); first | done | rfl | (simp only [List.length_drop, List.length_take]; rfl)) ?_; (with_reducible refine (rvcode_cut.calls a1 1 4 t105 _ A12.out).mono ?_); rintro e w' ⟨rfl, ⟨nd, rfl⟩⟩; refine ⟨_, rfl, ?_⟩) | ((with_reducible refine gate_callee (f := 56) rfl ?_); refine goesL_ (some 31) rfl rfl Try.func56 (by kernel_rfl) rfl #[.int .u32 a1, .int .i64 5, .int .i64 6] rfl (by (try simp only [List.map_toArray, List.map_cons, List.map_nil]); first | done | rfl | (simp only [List.length_drop, List.length_take]; rfl)) ?_; (with_reducible refine (rvcode_cut.calls a1 5 6 t106 _ A13.out).mono ?_); rintro e w' ⟨rfl, ⟨nd, rfl⟩⟩; refine ⟨_, rfl, ?_⟩) | ((with_reducible refine gate_callee (f := 56) rfl ?_); refine goesL_ (some 35) rfl rfl Try.func56 (by kernel_rfl) rfl #[.int .u32 a1, .int .i64 12, .int .i64 1] rfl (by (try simp only [List.map_toArray, List.map_cons, List.map_nil]); first | done | rfl | (simp only [List.length_drop, List.length_take]; rfl)) ?_; (with_reducible refine (rvcode_cut.calls a1 12 1 t107 _ A14.out).mono ?_); rintro e w' ⟨rfl, ⟨nd, rfl⟩⟩; refine ⟨_, rfl, ?_⟩))
            go_ret
            exact ⟨by first | rfl | (simp; done) | (simp [*]; done), by repeat (first | exact Drawn0.refl _ | apply Drawn0.step)⟩
          · rw [if_neg c10] at H
            have c10b0 : (a0 == 5) = false := beq_eq_false_iff_ne.mpr c10
            have c10b1 : (a0 != 5) = true := bne_iff_ne.mpr c10
            by_cases c15 : a0 = 6
            · rw [if_pos c15] at H
              have c15b0 : (a0 == 6) = true := beq_iff_eq.mpr c15
              have c15b1 : (a0 != 6) = false := bne_eq_false_iff_eq.mpr c15
              clear c15
              obtain rfl := Option.some.inj H
              go_wp2
              go_ret
              exact ⟨by first | rfl | (simp; done) | (simp [*]; done), by repeat (first | exact Drawn0.refl _ | apply Drawn0.step)⟩
            · rw [if_neg c15] at H
              have c15b0 : (a0 == 6) = false := beq_eq_false_iff_ne.mpr c15
              have c15b1 : (a0 != 6) = true := bne_iff_ne.mpr c15
              by_cases c16 : a0 = 7
              · rw [if_pos c16] at H
                have c16b0 : (a0 == 7) = true := beq_iff_eq.mpr c16
                have c16b1 : (a0 != 7) = false := bne_eq_false_iff_eq.mpr c16
                clear c16
                replace H := Option.bind_eq_some_iff.mp H
                obtain ⟨t108, A170, H⟩ := H
                replace H : ((rvcode_cut.f a1 11 1).bind fun t109 => ((rvcode_cut.f a1 1 10).bind fun t110 => ((rvcode_cut.f a1 20 1).bind fun t111 => (some (Go.bits .or .u32 (Go.bits .or .u32 (Go.bits .or .u32 ((t108 * 4096) % 4294967296) ((t109 * 1048576) % 4294967296)) ((t110 * 2097152) % 4294967296)) ((t111 * 2147483648) % 4294967296)))))) = some r := H
                have A17 := Aside0.mk A170
                clear A170
                replace H := Option.bind_eq_some_iff.mp H
                obtain ⟨t109, A180, H⟩ := H
                replace H : ((rvcode_cut.f a1 1 10).bind fun t110 => ((rvcode_cut.f a1 20 1).bind fun t111 => (some (Go.bits .or .u32 (Go.bits .or .u32 (Go.bits .or .u32 ((t108 * 4096) % 4294967296) ((t109 * 1048576) % 4294967296)) ((t110 * 2097152) % 4294967296)) ((t111 * 2147483648) % 4294967296))))) = some r := H
                have A18 := Aside0.mk A180
                clear A180
                replace H := Option.bind_eq_some_iff.mp H
                obtain ⟨t110, A190, H⟩ := H
                replace H : ((rvcode_cut.f a1 20 1).bind fun t111 => (some (Go.bits .or .u32 (Go.bits .or .u32 (Go.bits .or .u32 ((t108 * 4096) % 4294967296) ((t109 * 1048576) % 4294967296)) ((t110 * 2097152) % 4294967296)) ((t111 * 2147483648) % 4294967296)))) = some r := H
                have A19 := Aside0.mk A190
                clear A190
                replace H := Option.bind_eq_some_iff.mp H
                obtain ⟨t111, A200, H⟩ := H
                replace H : (some (Go.bits .or .u32 (Go.bits .or .u32 (Go.bits .or .u32 ((t108 * 4096) % 4294967296) ((t109 * 1048576) % 4294967296)) ((t110 * 2097152) % 4294967296)) ((t111 * 2147483648) % 4294967296))) = some r := H
                have A20 := Aside0.mk A200
                clear A200
                obtain rfl := Option.some.inj H
                go_wp2_with (first | ((with_reducible refine gate_callee (f := 56) rfl ?_); refine goesL_ (some 45) rfl rfl Try.func56 (by kernel_rfl) rfl #[.int .u32 a1, .int .i64 12, .int .i64 8] rfl (by (try simp only [List.map_toArray, List.map_cons, List.map_nil]); first | done | rfl | (simp only [List.length_drop, List.length_take]; rfl)) ?_; (with_reducible refine (rvcode_cut.calls a1 12 8 t108 _ A17.out).mono ?_); rintro e w' ⟨rfl, ⟨nd, rfl⟩⟩; refine ⟨_, rfl, ?_⟩) | ((with_reducible refine gate_callee (f := 56) rfl ?_); refine goesL_ (some 48) rfl rfl Try.func56 (by kernel_rfl) rfl #[.int .u32 a1, .int .i64 11, .int .i64 1] rfl (by (try simp only [List.map_toArray, List.map_cons, List.map_nil]); first | done | rfl | (simp only [List.length_drop, List.length_take]; rfl)) ?_; (with_reducible refine (rvcode_cut.calls a1 11 1 t109 _ A18.out).mono ?_); rintro e w' ⟨rfl, ⟨nd, rfl⟩⟩; refine ⟨_, rfl, ?_⟩) | ((with_reducible refine gate_callee (f := 56) rfl ?_); refine goesL_ (some 52) rfl rfl Try.func56 (by kernel_rfl) rfl #[.int .u32 a1, .int .i64 1, .int .i64 10] rfl (by (try simp only [List.map_toArray, List.map_cons, List.map_nil]); first | done | rfl | (simp only [List.length_drop, List.length_take]; rfl)) ?_; (with_reducible refine (rvcode_cut.calls a1 1 10 t110 _ A19.out).mono ?_); rintro e w' ⟨rfl, ⟨nd, rfl⟩⟩; refine ⟨_, rfl, ?_⟩) | ((with_reducible refine gate_callee (f := 56) rfl ?_); refine goesL_ (some 56) rfl rfl Try.func56 (by kernel_rfl) rfl #[.int .u32 a1, .int .i64 20, .int .i64 1] rfl (by (try simp only [List.map_toArray, List.map_cons, List.map_nil]); first | done | rfl | (simp only [List.length_drop, List.length_take]; rfl)) ?_; (with_reducible refine (rvcode_cut.calls a1 20 1 t111 _ A20.out).mono ?_); rintro e w' ⟨rfl, ⟨nd, rfl⟩⟩; refine ⟨_, rfl, ?_⟩))
                go_ret
                exact ⟨by first | rfl | (simp; done) | (simp [*]; done), by repeat (first | exact Drawn0.refl _ | apply Drawn0.step)⟩
              · rw [if_neg c16] at H
                have c16b0 : (a0 == 7) = false := beq_eq_false_iff_ne.mpr c16
                have c16b1 : (a0 != 7) = true := bne_iff_ne.mpr c16
                obtain rfl := Option.some.inj H
                go_wp2
                go_ret
                exact ⟨by first | rfl | (simp; done) | (simp [*]; done), by repeat (first | exact Drawn0.refl _ | apply Drawn0.step)⟩

-- NOT PRINTED: function 17 (rvcode_Encode)

-- NOT PRINTED: function 50 (hart_Hart_Set)

/-! ### rvcode_form_own: function 53 -/
mutual
def rvcode_form_own.j0 : Nat → Int → Bool → Option (Int)
  | 0, _, _ => none
  | k + 1, x3, x4 => if x4 = true then (some 4261441663) else (if x3 = 2 then (some 4227887231) else (if x3 = 6 then (rvcode_form_own.j1 k x3 (x3 == 6)) else (rvcode_form_own.j1 k x3 (x3 == 7))))
def rvcode_form_own.j1 : Nat → Int → Bool → Option (Int)
  | 0, _, _ => none
  | k + 1, x3, x9 => if x9 = true then (some 127) else (if x3 = 8 then (some 4294967295) else (some 28799))
end
def rvcode_form_own.f (k : Nat) (a0 : Int) : Option (Int) := if a0 = 0 then (rvcode_form_own.j0 k a0 (a0 == 0)) else (rvcode_form_own.j0 k a0 (a0 == 3))
set_option maxHeartbeats 8000000 in
set_option maxRecDepth 100000 in
theorem rvcode_form_own.calls (k : Nat) (a0 : Int) (r : Int) (w : World) (h : rvcode_form_own.f k a0 = some r) :
    Calls Try.prog 53 #[.int .i64 a0] w fun e w' => e = .returned (.int .u32 r) ∧ Drawn0 w w' := by
  have H : (if a0 = 0 then (rvcode_form_own.j0 k a0 (a0 == 0)) else (rvcode_form_own.j0 k a0 (a0 == 3))) = some r := h
  clear h
  have HC2 := Aside0.mk H
  clear H
  go_enter Try.func53, Try.ntmps53
  go_upto_if 4 with (fail)
  go_cut [4] (fun v4 wc => ∃ (kq : Nat) (x4_1 : Bool), v4 = .bool x4_1 ∧ Aside0 (rvcode_form_own.j0 kq a0 x4_1 = some r) ∧ Aside0 (kq ≤ k) ∧ Drawn0 w wc)
  case first =>
    have H := HC2.out
    clear HC2
    by_cases c3 : a0 = 0
    · rw [if_pos c3] at H
      have c3b0 : (a0 == 0) = true := beq_iff_eq.mpr c3
      have c3b1 : (a0 != 0) = false := bne_eq_false_iff_eq.mpr c3
      clear c3
      (first | rw [c3b0] | (simp only [i64_w, i32_w]; rw [c3b0]) | skip)
      have H' := Aside0.mk H
      clear H
      go_wp2
      go_meet
      case rel => exact ⟨_, ((a0 == 0)), (by first | rfl | (simp; done) | (simp [*]; done)), H', ⟨by first | omega | exact Nat.le_refl _⟩, by repeat (first | exact Drawn0.refl _ | apply Drawn0.step)⟩
    · rw [if_neg c3] at H
      have c3b0 : (a0 == 0) = false := beq_eq_false_iff_ne.mpr c3
      have c3b1 : (a0 != 0) = true := bne_iff_ne.mpr c3
      (first | rw [c3b0] | (simp only [i64_w, i32_w]; rw [c3b0]) | skip)
      have H' := Aside0.mk H
      clear H
      go_wp2
      go_meet
      case rel => exact ⟨_, ((a0 == 3)), (by first | rfl | (simp; done) | (simp [*]; done)), H', ⟨by first | omega | exact Nat.le_refl _⟩, by repeat (first | exact Drawn0.refl _ | apply Drawn0.step)⟩
  case rest =>
    clear HC2
    try clear p2
    try clear c3
    try clear c3b0
    try clear c3b1
    obtain ⟨kq, x4_1, rfl, HA, HJ1, ⟨mc1, rfl⟩⟩ := hcut
    cases kq with
    | zero => exact absurd HA.out (by simp [rvcode_form_own.j0])
    | succ kj1 =>
      have H := HA.out
      clear HA
      simp only [rvcode_form_own.j0] at H
      by_cases c4 : x4_1 = true
      · subst c4
        have H1 : (some 4261441663) = some r := by rw [if_pos rfl] at H; exact H
        clear H
        have H := H1
        clear H1
        obtain rfl := Option.some.inj H
        go_wp2
        go_ret
        exact ⟨by first | rfl | (simp; done) | (simp [*]; done), by repeat (first | exact Drawn0.refl _ | apply Drawn0.step)⟩
      · replace c4 := Bool.eq_false_iff.mpr c4
        subst c4
        have H1 : (if a0 = 2 then (some 4227887231) else (if a0 = 6 then (rvcode_form_own.j1 kj1 a0 (a0 == 6)) else (rvcode_form_own.j1 kj1 a0 (a0 == 7)))) = some r := by rw [if_neg (show ¬ (false = true) by decide)] at H; exact H
        clear H
        have H := H1
        clear H1
        by_cases c5 : a0 = 2
        · rw [if_pos c5] at H
          have c5b0 : (a0 == 2) = true := beq_iff_eq.mpr c5
          have c5b1 : (a0 != 2) = false := bne_eq_false_iff_eq.mpr c5
          clear c5
          obtain rfl := Option.some.inj H
          go_wp2
          go_ret
          exact ⟨by first | rfl | (simp; done) | (simp [*]; done), by repeat (first | exact Drawn0.refl _ | apply Drawn0.step)⟩
        · rw [if_neg c5] at H
          have c5b0 : (a0 == 2) = false := beq_eq_false_iff_ne.mpr c5
          have c5b1 : (a0 != 2) = true := bne_iff_ne.mpr c5
          have HC6 := Aside0.mk H
          clear H
          go_upto_if 9 with (fail)
          go_cut [9] (fun v9 wc => ∃ (kq : Nat) (x9_5 : Bool), v9 = .bool x9_5 ∧ Aside0 (rvcode_form_own.j1 kq a0 x9_5 = some r) ∧ Aside0 (kq ≤ kj1) ∧ Drawn0 w wc)
          case first =>
            have H := HC6.out
            clear HC6
            by_cases c7 : a0 = 6
            · rw [if_pos c7] at H
              have c7b0 : (a0 == 6) = true := beq_iff_eq.mpr c7
              have c7b1 : (a0 != 6) = false := bne_eq_false_iff_eq.mpr c7
              clear c7
              (first | rw [c7b0] | (simp only [i64_w, i32_w]; rw [c7b0]) | skip)
              have H' := Aside0.mk H
              clear H
              go_wp2
              go_meet
              case rel => exact ⟨_, ((a0 == 6)), (by first | rfl | (simp; done) | (simp [*]; done)), H', ⟨by have := HJ1.out; first | omega | exact Nat.le_refl _⟩, by repeat (first | exact Drawn0.refl _ | apply Drawn0.step)⟩
            · rw [if_neg c7] at H
              have c7b0 : (a0 == 6) = false := beq_eq_false_iff_ne.mpr c7
              have c7b1 : (a0 != 6) = true := bne_iff_ne.mpr c7
              (first | rw [c7b0] | (simp only [i64_w, i32_w]; rw [c7b0]) | skip)
              have H' := Aside0.mk H
              clear H
              go_wp2
              go_meet
              case rel => exact ⟨_, ((a0 == 7)), (by first | rfl | (simp; done) | (simp [*]; done)), H', ⟨by have := HJ1.out; first | omega | exact Nat.le_refl _⟩, by repeat (first | exact Drawn0.refl _ | apply Drawn0.step)⟩
          case rest =>
            clear HC6
            try clear c1
            try clear p2
            try clear c3
            try clear c3b0
            try clear c3b1
            try clear c4
            try clear c5
            try clear c5b0
            try clear c5b1
            try clear c7
            try clear c7b0
            try clear c7b1
            try clear p2
            obtain ⟨kq, x9_5, rfl, HA, HJ5, ⟨mc5, rfl⟩⟩ := hcut
            cases kq with
            | zero => exact absurd HA.out (by simp [rvcode_form_own.j1])
            | succ kj5 =>
              have H := HA.out
              clear HA
              simp only [rvcode_form_own.j1] at H
              by_cases c8 : x9_5 = true
              · subst c8
                have H1 : (some 127) = some r := by rw [if_pos rfl] at H; exact H
                clear H
                have H := H1
                clear H1
                obtain rfl := Option.some.inj H
                go_wp2
                go_ret
                exact ⟨by first | rfl | (simp; done) | (simp [*]; done), by repeat (first | exact Drawn0.refl _ | apply Drawn0.step)⟩
              · replace c8 := Bool.eq_false_iff.mpr c8
                subst c8
                have H1 : (if a0 = 8 then (some 4294967295) else (some 28799)) = some r := by rw [if_neg (show ¬ (false = true) by decide)] at H; exact H
                clear H
                have H := H1
                clear H1
                by_cases c9 : a0 = 8
                · rw [if_pos c9] at H
                  have c9b0 : (a0 == 8) = true := beq_iff_eq.mpr c9
                  have c9b1 : (a0 != 8) = false := bne_eq_false_iff_eq.mpr c9
                  clear c9
                  obtain rfl := Option.some.inj H
                  go_wp2
                  go_ret
                  exact ⟨by first | rfl | (simp; done) | (simp [*]; done), by repeat (first | exact Drawn0.refl _ | apply Drawn0.step)⟩
                · rw [if_neg c9] at H
                  have c9b0 : (a0 == 8) = false := beq_eq_false_iff_ne.mpr c9
                  have c9b1 : (a0 != 8) = true := bne_iff_ne.mpr c9
                  obtain rfl := Option.some.inj H
                  go_wp2
                  go_ret
                  exact ⟨by first | rfl | (simp; done) | (simp [*]; done), by repeat (first | exact Drawn0.refl _ | apply Drawn0.step)⟩

/-! ### rvcode_gather: function 55 -/
def rvcode_gather.f (a0 : Int) (a1 : Int) : Option (Int) := if a0 = 1 then (some (wrap64 ((wrap32 (a1)) / 1048576))) else (if a0 = 2 then ((rvcode_cut.f a1 20 6).bind fun t113 => (some (wrap64 (t113)))) else (if a0 = 3 then ((rvcode_cut.f a1 20 5).bind fun t114 => (some (wrap64 (t114)))) else (if a0 = 4 then ((rvcode_cut.f a1 7 5).bind fun t115 => (some (Go.bits .or .i64 (wrap64 ((wrap64 ((wrap32 (a1)) / 33554432)) * 32)) (wrap64 (t115))))) else (if a0 = 5 then ((rvcode_cut.f a1 7 1).bind fun t116 => ((rvcode_cut.f a1 25 6).bind fun t117 => ((rvcode_cut.f a1 8 4).bind fun t118 => (some (Go.bits .or .i64 (wrap64 ((wrap64 ((wrap32 (a1)) / 2147483648)) * 4096)) (wrap64 (Go.bits .or .u32 (Go.bits .or .u32 ((t116 * 2048) % 4294967296) ((t117 * 32) % 4294967296)) ((t118 * 2) % 4294967296)))))))) else (if a0 = 6 then (some (wrap64 ((wrap32 (a1)) / 4096))) else (if a0 = 7 then ((rvcode_cut.f a1 12 8).bind fun t119 => ((rvcode_cut.f a1 20 1).bind fun t120 => ((rvcode_cut.f a1 21 10).bind fun t121 => (some (Go.bits .or .i64 (wrap64 ((wrap64 ((wrap32 (a1)) / 2147483648)) * 1048576)) (wrap64 (Go.bits .or .u32 (Go.bits .or .u32 ((t119 * 4096) % 4294967296) ((t120 * 2048) % 4294967296)) ((t121 * 2) % 4294967296)))))))) else (some 0)))))))
set_option maxHeartbeats 8000000 in
set_option maxRecDepth 100000 in
theorem rvcode_gather.calls (a0 : Int) (a1 : Int) (r : Int) (w : World) (h : rvcode_gather.f a0 a1 = some r) :
    Calls Try.prog 55 #[.int .i64 a0, .int .u32 a1] w fun e w' => e = .returned (.int .i64 r) ∧ Drawn0 w w' := by
  have H : (if a0 = 1 then (some (wrap64 ((wrap32 (a1)) / 1048576))) else (if a0 = 2 then ((rvcode_cut.f a1 20 6).bind fun t113 => (some (wrap64 (t113)))) else (if a0 = 3 then ((rvcode_cut.f a1 20 5).bind fun t114 => (some (wrap64 (t114)))) else (if a0 = 4 then ((rvcode_cut.f a1 7 5).bind fun t115 => (some (Go.bits .or .i64 (wrap64 ((wrap64 ((wrap32 (a1)) / 33554432)) * 32)) (wrap64 (t115))))) else (if a0 = 5 then ((rvcode_cut.f a1 7 1).bind fun t116 => ((rvcode_cut.f a1 25 6).bind fun t117 => ((rvcode_cut.f a1 8 4).bind fun t118 => (some (Go.bits .or .i64 (wrap64 ((wrap64 ((wrap32 (a1)) / 2147483648)) * 4096)) (wrap64 (Go.bits .or .u32 (Go.bits .or .u32 ((t116 * 2048) % 4294967296) ((t117 * 32) % 4294967296)) ((t118 * 2) % 4294967296)))))))) else (if a0 = 6 then (some (wrap64 ((wrap32 (a1)) / 4096))) else (if a0 = 7 then ((rvcode_cut.f a1 12 8).bind fun t119 => ((rvcode_cut.f a1 20 1).bind fun t120 => ((rvcode_cut.f a1 21 10).bind fun t121 => (some (Go.bits .or .i64 (wrap64 ((wrap64 ((wrap32 (a1)) / 2147483648)) * 1048576)) (wrap64 (Go.bits .or .u32 (Go.bits .or .u32 ((t119 * 4096) % 4294967296) ((t120 * 2048) % 4294967296)) ((t121 * 2) % 4294967296)))))))) else (some 0)))))))) = some r := h
  clear h
  by_cases c3 : a0 = 1
  · rw [if_pos c3] at H
    have c3b0 : (a0 == 1) = true := beq_iff_eq.mpr c3
    have c3b1 : (a0 != 1) = false := bne_eq_false_iff_eq.mpr c3
    clear c3
    obtain rfl := Option.some.inj H
    go_enter Try.func55, Try.ntmps55
    go_wp2
    go_ret
    exact ⟨by first | rfl | (simp; done) | (simp [*]; done), by repeat (first | exact Drawn0.refl _ | apply Drawn0.step)⟩
  · rw [if_neg c3] at H
    have c3b0 : (a0 == 1) = false := beq_eq_false_iff_ne.mpr c3
    have c3b1 : (a0 != 1) = true := bne_iff_ne.mpr c3
    by_cases c4 : a0 = 2
    · rw [if_pos c4] at H
      have c4b0 : (a0 == 2) = true := beq_iff_eq.mpr c4
      have c4b1 : (a0 != 2) = false := bne_eq_false_iff_eq.mpr c4
      clear c4
      replace H := Option.bind_eq_some_iff.mp H
      obtain ⟨t113, A50, H⟩ := H
      replace H : (some (wrap64 (t113))) = some r := H
      have A5 := Aside0.mk A50
      clear A50
      obtain rfl := Option.some.inj H
      go_enter Try.func55, Try.ntmps55
      go_wp2_with (first | ((with_reducible refine gate_callee (f := 56) rfl ?_); refine goesL_ (some 15) rfl rfl Try.func56 (by kernel_rfl) rfl #[.int .u32 a1, .int .i64 20, .int .i64 6] rfl (by (try simp only [List.map_toArray, List.map_cons, List.map_nil]); first | done | rfl | (simp only [List.length_drop, List.length_take]; rfl)) ?_; (with_reducible refine (rvcode_cut.calls a1 20 6 t113 _ A5.out).mono ?_); rintro e w' ⟨rfl, ⟨nd, rfl⟩⟩; refine ⟨_, rfl, ?_⟩))
      go_ret
      exact ⟨by first | rfl | (simp; done) | (simp [*]; done), by repeat (first | exact Drawn0.refl _ | apply Drawn0.step)⟩
    · rw [if_neg c4] at H
      have c4b0 : (a0 == 2) = false := beq_eq_false_iff_ne.mpr c4
      have c4b1 : (a0 != 2) = true := bne_iff_ne.mpr c4
      by_cases c6 : a0 = 3
      · rw [if_pos c6] at H
        have c6b0 : (a0 == 3) = true := beq_iff_eq.mpr c6
        have c6b1 : (a0 != 3) = false := bne_eq_false_iff_eq.mpr c6
        clear c6
        replace H := Option.bind_eq_some_iff.mp H
        obtain ⟨t114, A70, H⟩ := H
        replace H : (some (wrap64 (t114))) = some r := H
        have A7 := Aside0.mk A70
        clear A70
        obtain rfl := Option.some.inj H
        go_enter Try.func55, Try.ntmps55
        go_wp2_with (first | ((with_reducible refine gate_callee (f := 56) rfl ?_); refine goesL_ (some 20) rfl rfl Try.func56 (by kernel_rfl) rfl #[.int .u32 a1, .int .i64 20, .int .i64 5] rfl (by (try simp only [List.map_toArray, List.map_cons, List.map_nil]); first | done | rfl | (simp only [List.length_drop, List.length_take]; rfl)) ?_; (with_reducible refine (rvcode_cut.calls a1 20 5 t114 _ A7.out).mono ?_); rintro e w' ⟨rfl, ⟨nd, rfl⟩⟩; refine ⟨_, rfl, ?_⟩))
        go_ret
        exact ⟨by first | rfl | (simp; done) | (simp [*]; done), by repeat (first | exact Drawn0.refl _ | apply Drawn0.step)⟩
      · rw [if_neg c6] at H
        have c6b0 : (a0 == 3) = false := beq_eq_false_iff_ne.mpr c6
        have c6b1 : (a0 != 3) = true := bne_iff_ne.mpr c6
        by_cases c8 : a0 = 4
        · rw [if_pos c8] at H
          have c8b0 : (a0 == 4) = true := beq_iff_eq.mpr c8
          have c8b1 : (a0 != 4) = false := bne_eq_false_iff_eq.mpr c8
          clear c8
          replace H := Option.bind_eq_some_iff.mp H
          obtain ⟨t115, A90, H⟩ := H
          replace H : (some (Go.bits .or .i64 (wrap64 ((wrap64 ((wrap32 (a1)) / 33554432)) * 32)) (wrap64 (t115)))) = some r := H
          have A9 := Aside0.mk A90
          clear A90
          obtain rfl := Option.some.inj H
          go_enter Try.func55, Try.ntmps55
          go_wp2_with (first | ((with_reducible refine gate_callee (f := 56) rfl ?_); refine goesL_ (some 30) rfl rfl Try.func56 (by kernel_rfl) rfl #[.int .u32 a1, .int .i64 7, .int .i64 5] rfl (by (try simp only [List.map_toArray, List.map_cons, List.map_nil]); first | done | rfl | (simp only [List.length_drop, List.length_take]; rfl)) ?_; (with_reducible refine (rvcode_cut.calls a1 7 5 t115 _ A9.out).mono ?_); rintro e w' ⟨rfl, ⟨nd, rfl⟩⟩; refine ⟨_, rfl, ?_⟩))
          go_ret
          exact ⟨by first | rfl | (simp; done) | (simp [*]; done), by repeat (first | exact Drawn0.refl _ | apply Drawn0.step)⟩
        · rw [if_neg c8] at H
          have c8b0 : (a0 == 4) = false := beq_eq_false_iff_ne.mpr c8
          have c8b1 : (a0 != 4) = true := bne_iff_ne.mpr c8
          by_cases c10 : a0 = 5
          · rw [if_pos c10] at H
            have c10b0 : (a0 == 5) = true := beq_iff_eq.mpr c10
            have c10b1 : (a0 != 5) = false := bne_eq_false_iff_eq.mpr c10
            clear c10
            replace H := Option.bind_eq_some_iff.mp H
            obtain ⟨t116, A110, H⟩ := H
            replace H : ((rvcode_cut.f a1 25 6).bind fun t117 => ((rvcode_cut.f a1 8 4).bind fun t118 => (some (Go.bits .or .i64 (wrap64 ((wrap64 ((wrap32 (a1)) / 2147483648)) * 4096)) (wrap64 (Go.bits .or .u32 (Go.bits .or .u32 ((t116 * 2048) % 4294967296) ((t117 * 32) % 4294967296)) ((t118 * 2) % 4294967296))))))) = some r := H
            have A11 := Aside0.mk A110
            clear A110
            replace H := Option.bind_eq_some_iff.mp H
            obtain ⟨t117, A120, H⟩ := H
            replace H : ((rvcode_cut.f a1 8 4).bind fun t118 => (some (Go.bits .or .i64 (wrap64 ((wrap64 ((wrap32 (a1)) / 2147483648)) * 4096)) (wrap64 (Go.bits .or .u32 (Go.bits .or .u32 ((t116 * 2048) % 4294967296) ((t117 * 32) % 4294967296)) ((t118 * 2) % 4294967296)))))) = some r := H
            have A12 := Aside0.mk A120
            clear A120
            replace H := Option.bind_eq_some_iff.mp H
            obtain ⟨t118, A130, H⟩ := H
            replace H : (some (Go.bits .or .i64 (wrap64 ((wrap64 ((wrap32 (a1)) / 2147483648)) * 4096)) (wrap64 (Go.bits .or .u32 (Go.bits .or .u32 ((t116 * 2048) % 4294967296) ((t117 * 32) % 4294967296)) ((t118 * 2) % 4294967296))))) = some r := H
            have A13 := Aside0.mk A130
            clear A130
            obtain rfl := Option.some.inj H
            go_enter Try.func55, Try.ntmps55
            go_wp2_with (first | ((with_reducible refine gate_callee (f := 56) rfl ?_); refine goesL_ (some 41) rfl rfl Try.func56 (by kernel_rfl) rfl #[.int .u32 a1, .int .i64 7, .int .i64 1] rfl (by (try simp only [List.map_toArray, List.map_cons, List.map_nil]); first | done | rfl | (simp only [List.length_drop, List.length_take]; rfl)) ?_; (with_reducible refine (rvcode_cut.calls a1 7 1 t116 _ A11.out).mono ?_); rintro e w' ⟨rfl, ⟨nd, rfl⟩⟩; refine ⟨_, rfl, ?_⟩) | ((with_reducible refine gate_callee (f := 56) rfl ?_); refine goesL_ (some 44) rfl rfl Try.func56 (by kernel_rfl) rfl #[.int .u32 a1, .int .i64 25, .int .i64 6] rfl (by (try simp only [List.map_toArray, List.map_cons, List.map_nil]); first | done | rfl | (simp only [List.length_drop, List.length_take]; rfl)) ?_; (with_reducible refine (rvcode_cut.calls a1 25 6 t117 _ A12.out).mono ?_); rintro e w' ⟨rfl, ⟨nd, rfl⟩⟩; refine ⟨_, rfl, ?_⟩) | ((with_reducible refine gate_callee (f := 56) rfl ?_); refine goesL_ (some 48) rfl rfl Try.func56 (by kernel_rfl) rfl #[.int .u32 a1, .int .i64 8, .int .i64 4] rfl (by (try simp only [List.map_toArray, List.map_cons, List.map_nil]); first | done | rfl | (simp only [List.length_drop, List.length_take]; rfl)) ?_; (with_reducible refine (rvcode_cut.calls a1 8 4 t118 _ A13.out).mono ?_); rintro e w' ⟨rfl, ⟨nd, rfl⟩⟩; refine ⟨_, rfl, ?_⟩))
            go_ret
            exact ⟨by first | rfl | (simp; done) | (simp [*]; done), by repeat (first | exact Drawn0.refl _ | apply Drawn0.step)⟩
          · rw [if_neg c10] at H
            have c10b0 : (a0 == 5) = false := beq_eq_false_iff_ne.mpr c10
            have c10b1 : (a0 != 5) = true := bne_iff_ne.mpr c10
            by_cases c14 : a0 = 6
            · rw [if_pos c14] at H
              have c14b0 : (a0 == 6) = true := beq_iff_eq.mpr c14
              have c14b1 : (a0 != 6) = false := bne_eq_false_iff_eq.mpr c14
              clear c14
              obtain rfl := Option.some.inj H
              go_enter Try.func55, Try.ntmps55
              go_wp2
              go_ret
              exact ⟨by first | rfl | (simp; done) | (simp [*]; done), by repeat (first | exact Drawn0.refl _ | apply Drawn0.step)⟩
            · rw [if_neg c14] at H
              have c14b0 : (a0 == 6) = false := beq_eq_false_iff_ne.mpr c14
              have c14b1 : (a0 != 6) = true := bne_iff_ne.mpr c14
              by_cases c15 : a0 = 7
              · rw [if_pos c15] at H
                have c15b0 : (a0 == 7) = true := beq_iff_eq.mpr c15
                have c15b1 : (a0 != 7) = false := bne_eq_false_iff_eq.mpr c15
                clear c15
                replace H := Option.bind_eq_some_iff.mp H
                obtain ⟨t119, A160, H⟩ := H
                replace H : ((rvcode_cut.f a1 20 1).bind fun t120 => ((rvcode_cut.f a1 21 10).bind fun t121 => (some (Go.bits .or .i64 (wrap64 ((wrap64 ((wrap32 (a1)) / 2147483648)) * 1048576)) (wrap64 (Go.bits .or .u32 (Go.bits .or .u32 ((t119 * 4096) % 4294967296) ((t120 * 2048) % 4294967296)) ((t121 * 2) % 4294967296))))))) = some r := H
                have A16 := Aside0.mk A160
                clear A160
                replace H := Option.bind_eq_some_iff.mp H
                obtain ⟨t120, A170, H⟩ := H
                replace H : ((rvcode_cut.f a1 21 10).bind fun t121 => (some (Go.bits .or .i64 (wrap64 ((wrap64 ((wrap32 (a1)) / 2147483648)) * 1048576)) (wrap64 (Go.bits .or .u32 (Go.bits .or .u32 ((t119 * 4096) % 4294967296) ((t120 * 2048) % 4294967296)) ((t121 * 2) % 4294967296)))))) = some r := H
                have A17 := Aside0.mk A170
                clear A170
                replace H := Option.bind_eq_some_iff.mp H
                obtain ⟨t121, A180, H⟩ := H
                replace H : (some (Go.bits .or .i64 (wrap64 ((wrap64 ((wrap32 (a1)) / 2147483648)) * 1048576)) (wrap64 (Go.bits .or .u32 (Go.bits .or .u32 ((t119 * 4096) % 4294967296) ((t120 * 2048) % 4294967296)) ((t121 * 2) % 4294967296))))) = some r := H
                have A18 := Aside0.mk A180
                clear A180
                obtain rfl := Option.some.inj H
                go_enter Try.func55, Try.ntmps55
                go_wp2_with (first | ((with_reducible refine gate_callee (f := 56) rfl ?_); refine goesL_ (some 67) rfl rfl Try.func56 (by kernel_rfl) rfl #[.int .u32 a1, .int .i64 12, .int .i64 8] rfl (by (try simp only [List.map_toArray, List.map_cons, List.map_nil]); first | done | rfl | (simp only [List.length_drop, List.length_take]; rfl)) ?_; (with_reducible refine (rvcode_cut.calls a1 12 8 t119 _ A16.out).mono ?_); rintro e w' ⟨rfl, ⟨nd, rfl⟩⟩; refine ⟨_, rfl, ?_⟩) | ((with_reducible refine gate_callee (f := 56) rfl ?_); refine goesL_ (some 70) rfl rfl Try.func56 (by kernel_rfl) rfl #[.int .u32 a1, .int .i64 20, .int .i64 1] rfl (by (try simp only [List.map_toArray, List.map_cons, List.map_nil]); first | done | rfl | (simp only [List.length_drop, List.length_take]; rfl)) ?_; (with_reducible refine (rvcode_cut.calls a1 20 1 t120 _ A17.out).mono ?_); rintro e w' ⟨rfl, ⟨nd, rfl⟩⟩; refine ⟨_, rfl, ?_⟩) | ((with_reducible refine gate_callee (f := 56) rfl ?_); refine goesL_ (some 74) rfl rfl Try.func56 (by kernel_rfl) rfl #[.int .u32 a1, .int .i64 21, .int .i64 10] rfl (by (try simp only [List.map_toArray, List.map_cons, List.map_nil]); first | done | rfl | (simp only [List.length_drop, List.length_take]; rfl)) ?_; (with_reducible refine (rvcode_cut.calls a1 21 10 t121 _ A18.out).mono ?_); rintro e w' ⟨rfl, ⟨nd, rfl⟩⟩; refine ⟨_, rfl, ?_⟩))
                go_ret
                exact ⟨by first | rfl | (simp; done) | (simp [*]; done), by repeat (first | exact Drawn0.refl _ | apply Drawn0.step)⟩
              · rw [if_neg c15] at H
                have c15b0 : (a0 == 7) = false := beq_eq_false_iff_ne.mpr c15
                have c15b1 : (a0 != 7) = true := bne_iff_ne.mpr c15
                obtain rfl := Option.some.inj H
                go_enter Try.func55, Try.ntmps55
                go_wp2
                go_ret
                exact ⟨by first | rfl | (simp; done) | (simp [*]; done), by repeat (first | exact Drawn0.refl _ | apply Drawn0.step)⟩

-- NOT PRINTED: function 15 (rvcode_Decode)

-- NOT PRINTED: function 123 (sort_Search)

-- NOT PRINTED: function 108 (mem_Memory_find)

end Go.Proofs.Ytciehejifdbpoaa.PHartQuotients
end
