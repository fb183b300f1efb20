import Derived.Test.YtciehejifdbpoaaNu2
set_option linter.unusedSimpArgs false
set_option linter.unusedVariables false
namespace Go.Proofs.Ytciehejifdbpoaa.Ab
open Go.RowKit Go.Maps Go.Proofs.Ytciehejifdbpoaa.Grow Go.Proofs.Ytciehejifdbpoaa.Rv Go.Proofs.Ytciehejifdbpoaa.As Go.Proofs.Ytciehejifdbpoaa.Ht

/-! ### Settled twice -/
theorem withL_withL (ps : List Pc) (f g : Nat → Bool) : withL (withL ps f) g = withL ps g := by
  apply List.ext_getElem
  · rw [withL_len, withL_len, withL_len]
  · intro i h1 h2
    have h3 : i < ps.length := by rw [withL_len] at h2; exact h2
    rw [withL_get h3, withL_get (by rw [withL_len]; exact h3), withL_get h3]
theorem needs_wl (A : AsmS) (f g : Nat → Bool) (i : Nat) : needs (A.wl f) g i = needs A g i := by
  unfold needs posL AsmS.wl
  simp only [withL_withL]
  by_cases h : i < A.ps.length
  · rw [List.getElem?_eq_getElem h, List.getElem?_eq_getElem (by rw [withL_len]; exact h), withL_get h]
  · rw [List.getElem?_eq_none (show (withL A.ps f).length ≤ i by rw [withL_len]; omega), List.getElem?_eq_none (show A.ps.length ≤ i by omega)]
theorem stepL_wl (A : AsmS) (f g : Nat → Bool) : stepL (A.wl f) g = stepL A g := by
  funext i; unfold stepL; rw [needs_wl]
theorem itL_wl (A : AsmS) (f : Nat → Bool) : ∀ j, itL (A.wl f) j = itL A j
  | 0 => rfl
  | j + 1 => by show stepL (A.wl f) (itL (A.wl f) j) = stepL A (itL A j); rw [itL_wl A f j, stepL_wl]
theorem settle_wl (A : AsmS) (f : Nat → Bool) : settleF (A.wl f) = settleF A := by
  have e : longF (A.wl f) = longF A := by unfold longF; rw [wl_len, itL_wl]
  show { (A.wl f) with ps := withL (withL A.ps f) (longF (A.wl f)) } = _
  rw [withL_withL, e]; rfl
theorem settle_settle (A : AsmS) : settleF (settleF A) = settleF A := settle_wl A (longF A)
/-- The text by the pieces' instructions. -/
theorem textL_ops {A : AsmS} (Ls : Nat → List OpI) (h : ∀ i (hi : i < A.ps.length), opsAt A i A.ps[i] = some (Ls i)) : ∀ k, k ≤ A.ps.length → textL A k = encB ((List.range k).flatMap Ls)
  | 0, _ => rfl
  | k + 1, hk => by
    have hlt : k < A.ps.length := by omega
    show (textL A k).bind (fun bs => (A.ps[k]?).bind fun x => (pieceB A k x).map fun cs => bs ++ cs) = _
    rw [textL_ops Ls h k (by omega), List.getElem?_eq_getElem hlt, List.range_succ, List.flatMap_append, encB_app]
    have e : pieceB A k A.ps[k] = encB (Ls k) := by unfold pieceB; rw [h k hlt]; rfl
    simp only [Option.bind_some, e, List.flatMap_cons, List.flatMap_nil, List.append_nil]

/-! ### The law's code -/
abbrev nJal : ByteArray := ⟨#[106, 97, 108]⟩
abbrev nAuipc : ByteArray := ⟨#[97, 117, 105, 112, 99]⟩
abbrev nAddi : ByteArray := ⟨#[97, 100, 100, 105]⟩
def preP : List Pc := [⟨2, ⟨nJal, 0, 0, 0, 0⟩, 0, false⟩, plainPc (oInc 5), ⟨2, ⟨nJal, 0, 0, 0, 0⟩, 2, false⟩]
def postP (nm : ByteArray) : List Pc := [⟨3, ⟨nAuipc, 7, 0, 0, 0⟩, 1, false⟩, ⟨1, ⟨nm, 0, 1, 2, 0⟩, 1, false⟩, plainPc (oInc 8)]
def brP (nm : ByteArray) (m : Nat) : List Pc := preP ++ List.replicate m (plainPc (oInc 6)) ++ postP nm
def brS (nm : ByteArray) (m : Nat) : AsmS := ⟨brP nm m, 3, fun j => if j = 2 then some ((m + 6 : Nat) : Int) else if j = 0 then some ((m + 3 : Nat) : Int) else if j = 1 then some 1 else none, 3⟩
theorem brP_len (nm : ByteArray) (m : Nat) : (brP nm m).length = m + 6 := by simp [brP, preP, postP] <;> omega
theorem brP_mid (nm : ByteArray) (m k : Nat) (h : k < m) : (brP nm m)[k + 3]'(by rw [brP_len]; omega) = plainPc (oInc 6) := by
  have : (brP nm m)[k + 3]? = some (plainPc (oInc 6)) := by
    unfold brP
    rw [List.getElem?_append_left (by simp [preP]; omega), List.getElem?_append_right (by simp [preP])]
    simp [preP, h]
  rw [List.getElem?_eq_getElem (by rw [brP_len]; omega)] at this
  exact Option.some.inj this
theorem brP_post (nm : ByteArray) (m j : Nat) (h : j < 3) : (brP nm m)[m + 3 + j]? = (postP nm)[j]? := by
  unfold brP
  have e : (preP ++ List.replicate m (plainPc (oInc 6))).length = m + 3 := by simp [preP] <;> omega
  rw [List.getElem?_append_right (by omega), e]
  congr 1
  omega
def gB (m : Nat) (b : Bool) : Nat → Bool := fun i => decide (i = m + 4) && b
def setS (nm : ByteArray) (m : Nat) (b : Bool) : AsmS := (brS nm m).wl (gB m b)
theorem set_get (nm : ByteArray) (m : Nat) (b : Bool) {i : Nat} {x : Pc} (h : (brP nm m)[i]? = some x) : (withL (brP nm m) (gB m b))[i]? = some { x with long := gB m b i } := by
  have hi : i < (brP nm m).length := (List.getElem?_eq_some_iff.1 h).1
  rw [List.getElem?_eq_getElem (by rw [withL_len]; exact hi), withL_get hi]
  have := (List.getElem?_eq_some_iff.1 h).2
  rw [this]
theorem pos_step {ps : List Pc} {k : Nat} {x : Pc} (h : ps[k]? = some x) : posF ps (k + 1) = posF ps k + sizeP x := by
  have hk : k < ps.length := (List.getElem?_eq_some_iff.1 h).1
  rw [posF_succ hk, (List.getElem?_eq_some_iff.1 h).2]
theorem pos3 (nm : ByteArray) (m : Nat) (b : Bool) : posF (withL (brP nm m) (gB m b)) 1 = 4 ∧ posF (withL (brP nm m) (gB m b)) 2 = 8 ∧ posF (withL (brP nm m) (gB m b)) 3 = 12 := by
  have g0 : gB m b 0 = false := by unfold gB; simp
  have g1 : gB m b 1 = false := by unfold gB; simp <;> omega
  have g2 : gB m b 2 = false := by unfold gB; simp <;> omega
  have h0 := pos_step (set_get nm m b (i := 0) (x := ⟨2, ⟨nJal, 0, 0, 0, 0⟩, 0, false⟩) rfl)
  have h1 := pos_step (set_get nm m b (i := 1) (x := plainPc (oInc 5)) rfl)
  have h2 := pos_step (set_get nm m b (i := 2) (x := ⟨2, ⟨nJal, 0, 0, 0, 0⟩, 2, false⟩) rfl)
  rw [g0] at h0
  rw [g1] at h1
  rw [g2] at h2
  have z0 : posF (withL (brP nm m) (gB m b)) 0 = 0 := rfl
  have s0 : sizeP { (⟨2, ⟨nJal, 0, 0, 0, 0⟩, 0, false⟩ : Pc) with long := false } = 4 := rfl
  have s1 : sizeP { plainPc (oInc 5) with long := false } = 4 := rfl
  have s2 : sizeP { (⟨2, ⟨nJal, 0, 0, 0, 0⟩, 2, false⟩ : Pc) with long := false } = 4 := rfl
  rw [s0, z0] at h0
  rw [s1] at h1
  rw [s2] at h2
  refine ⟨?_, ?_, ?_⟩ <;> simp only [Nat.zero_add, Nat.reduceAdd] at h0 h1 h2 <;> omega
theorem pos_mid (nm : ByteArray) (m : Nat) (b : Bool) : ∀ k, k ≤ m → posF (withL (brP nm m) (gB m b)) (k + 3) = 12 + 4 * (k : Int)
  | 0, _ => by rw [(pos3 nm m b).2.2]; rfl
  | k + 1, h => by
    have hg : gB m b (k + 3) = false := by unfold gB; simp; omega
    have hx : (brP nm m)[k + 3]? = some (plainPc (oInc 6)) := by rw [List.getElem?_eq_getElem (by rw [brP_len]; omega), brP_mid nm m k (by omega)]
    have := pos_step (set_get nm m b hx)
    rw [hg, pos_mid nm m b k (by omega)] at this
    have hs : sizeP { plainPc (oInc 6) with long := false } = 4 := rfl
    rw [hs] at this
    rw [show k + 1 + 3 = k + 3 + 1 by omega, this]
    omega
theorem pos_post (nm : ByteArray) (m : Nat) (b : Bool) : posF (withL (brP nm m) (gB m b)) (m + 4) = 20 + 4 * (m : Int) ∧ posF (withL (brP nm m) (gB m b)) (m + 5) = 20 + 4 * (m : Int) + (if b = true then 8 else 4) ∧ posF (withL (brP nm m) (gB m b)) (m + 6) = 24 + 4 * (m : Int) + (if b = true then 8 else 4) := by
  have g3 : gB m b (m + 3) = false := by unfold gB; simp
  have g4 : gB m b (m + 4) = b := by unfold gB; simp
  have g5 : gB m b (m + 5) = false := by unfold gB; simp
  have h3 := pos_step (set_get nm m b (i := m + 3) (x := ⟨3, ⟨nAuipc, 7, 0, 0, 0⟩, 1, false⟩) (brP_post nm m 0 (by decide)))
  have h4 := pos_step (set_get nm m b (i := m + 4) (x := ⟨1, ⟨nm, 0, 1, 2, 0⟩, 1, false⟩) (brP_post nm m 1 (by decide)))
  have h5 := pos_step (set_get nm m b (i := m + 5) (x := plainPc (oInc 8)) (brP_post nm m 2 (by decide)))
  rw [g3, pos_mid nm m b m (Nat.le_refl _)] at h3
  rw [g4] at h4
  rw [g5] at h5
  have s3 : sizeP { (⟨3, ⟨nAuipc, 7, 0, 0, 0⟩, 1, false⟩ : Pc) with long := false } = 8 := rfl
  have s4 : sizeP { (⟨1, ⟨nm, 0, 1, 2, 0⟩, 1, false⟩ : Pc) with long := b } = if b = true then 8 else 4 := by cases b <;> rfl
  have s5 : sizeP { plainPc (oInc 8) with long := false } = 4 := rfl
  rw [s3] at h3
  rw [s4] at h4
  rw [s5] at h5
  rw [show m + 3 + 1 = m + 4 by omega] at h3
  rw [show m + 4 + 1 = m + 5 by omega] at h4
  rw [show m + 5 + 1 = m + 6 by omega] at h5
  refine ⟨by omega, by omega, by omega⟩

/-! ### Which is long -/
theorem needs_not {nm : ByteArray} {m i : Nat} {f : Nat → Bool} {x : Pc} (h : (brP nm m)[i]? = some x) (hs : x.sort ≠ 1) : needs (brS nm m) f i = false := by
  unfold needs
  rw [show (brS nm m).ps[i]? = some x from h]
  simp [hs]
theorem needs_br (nm : ByteArray) (m : Nat) (hm : m ≤ 2500) (b : Bool) : needs (brS nm m) (gB m b) (m + 4) = (!b && decide (1020 < m)) := by
  have hx : (brS nm m).ps[m + 4]? = some ⟨1, ⟨nm, 0, 1, 2, 0⟩, 1, false⟩ := brP_post nm m 1 (by decide)
  unfold needs
  rw [hx]
  have hmk : (brS nm m).marks 1 = some 1 := rfl
  simp only [hmk]
  have p1 : posL (brS nm m) (gB m b) (1 : Int).toNat = 4 := (pos3 nm m b).1
  have p4 : posL (brS nm m) (gB m b) (m + 4) = 20 + 4 * (m : Int) := (pos_post nm m b).1
  rw [p1, p4]
  have e : wrap64 (4 - (20 + 4 * (m : Int))) = -16 - 4 * (m : Int) := by unfold wrap64; omega
  have hr : reachF (wrap64 (4 - (20 + 4 * (m : Int)))) 4096 = decide (m ≤ 1020) := by
    have e2 : wrap64 (-4096) = -4096 := by unfold wrap64; omega
    unfold reachF
    rw [e, e2, Bool.eq_iff_iff]
    simp only [Bool.and_eq_true, decide_eq_true_eq]
    omega
  rw [hr]
  have g4 : gB m b (m + 4) = b := by unfold gB; simp
  rw [g4]
  by_cases h : m ≤ 1020
  · simp [h, show ¬ 1020 < m by omega]
  · simp [h, show 1020 < m by omega]
theorem needs_all (nm : ByteArray) (m : Nat) (hm : m ≤ 2500) (b : Bool) (i : Nat) : needs (brS nm m) (gB m b) i = (decide (i = m + 4) && (!b && decide (1020 < m))) := by
  by_cases e : i = m + 4
  · subst e; rw [needs_br nm m hm b]; simp
  · have hn : needs (brS nm m) (gB m b) i = false := by
      by_cases h0 : i < 3
      · have : i = 0 ∨ i = 1 ∨ i = 2 := by omega
        rcases this with rfl | rfl | rfl
        · exact needs_not (x := ⟨2, ⟨nJal, 0, 0, 0, 0⟩, 0, false⟩) rfl (by decide)
        · exact needs_not (x := plainPc (oInc 5)) rfl (by decide)
        · exact needs_not (x := ⟨2, ⟨nJal, 0, 0, 0, 0⟩, 2, false⟩) rfl (by decide)
      · by_cases h1 : i < m + 3
        · obtain ⟨k, rfl⟩ : ∃ k, i = k + 3 := ⟨i - 3, by omega⟩
          exact needs_not (x := plainPc (oInc 6)) (by rw [List.getElem?_eq_getElem (by rw [brP_len]; omega), brP_mid nm m k (by omega)]) (by decide)
        · by_cases h3 : i = m + 3
          · subst h3; exact needs_not (x := ⟨3, ⟨nAuipc, 7, 0, 0, 0⟩, 1, false⟩) (brP_post nm m 0 (by decide)) (by decide)
          · by_cases h5 : i = m + 5
            · subst h5; exact needs_not (x := plainPc (oInc 8)) (brP_post nm m 2 (by decide)) (by decide)
            · unfold needs
              rw [show (brS nm m).ps[i]? = none from List.getElem?_eq_none (by show (brP nm m).length ≤ i; rw [brP_len]; omega)]
    rw [hn]; simp [e]
theorem step_gB (nm : ByteArray) (m : Nat) (hm : m ≤ 2500) (b : Bool) : stepL (brS nm m) (gB m b) = gB m (b || decide (1020 < m)) := by
  funext i
  unfold stepL
  rw [needs_all nm m hm b]
  unfold gB
  by_cases e : i = m + 4 <;> cases b <;> simp [e]
theorem long_br (nm : ByteArray) (m : Nat) (hm : m ≤ 2500) : longF (brS nm m) = gB m (decide (1020 < m)) := by
  have h0 : itL (brS nm m) 0 = gB m false := by funext i; simp [itL, gB]
  have h1 : itL (brS nm m) 1 = gB m (decide (1020 < m)) := by
    show stepL (brS nm m) (itL (brS nm m) 0) = _
    rw [h0, step_gB nm m hm]; simp
  have hf : stepL (brS nm m) (itL (brS nm m) 1) = itL (brS nm m) 1 := by
    rw [h1, step_gB nm m hm]; simp
  have := itL_fix hf (brS nm m).ps.length
  unfold longF
  rw [Nat.add_comm, this, h1]
theorem set_br (nm : ByteArray) (m : Nat) (hm : m ≤ 2500) : settleF (brS nm m) = setS nm m (decide (1020 < m)) := by
  unfold settleF setS AsmS.wl
  rw [long_br nm m hm]

/-! ### Its instructions -/
def farA (m : Nat) : Int := -8 - 4 * (m : Int)
def hiA (m : Nat) : Int := (farA m + 2048) / 4096
def loA (m : Nat) : Int := farA m - hiA m * 4096
def endA (m : Nat) (b : Bool) : Int := 24 + 4 * (m : Int) + (if b = true then 8 else 4)
def brOps (nm : ByteArray) (m : Nat) : Bool → List OpI
  | false => [⟨nm, 0, 1, 2, -16 - 4 * (m : Int)⟩]
  | true => [⟨turnF nm, 0, 1, 2, 8⟩, ⟨nJal, 0, 0, 0, -20 - 4 * (m : Int)⟩]
def preL (m : Nat) (b : Bool) : List OpI := [⟨nJal, 0, 0, 0, 12 + 4 * (m : Int)⟩, oInc 5, ⟨nJal, 0, 0, 0, endA m b - 8⟩]
def postL (nm : ByteArray) (m : Nat) (b : Bool) : List OpI := [⟨nAuipc, 7, 0, 0, hiA m⟩, ⟨nAddi, 7, 7, 0, loA m⟩] ++ brOps nm m b ++ [oInc 8]
def brL (nm : ByteArray) (m : Nat) (b : Bool) : List OpI := preL m b ++ List.replicate m (oInc 6) ++ postL nm m b
def lsF (nm : ByteArray) (m : Nat) (b : Bool) (i : Nat) : List OpI :=
  if i = 0 then [⟨nJal, 0, 0, 0, 12 + 4 * (m : Int)⟩] else if i = 1 then [oInc 5] else if i = 2 then [⟨nJal, 0, 0, 0, endA m b - 8⟩]
  else if i < m + 3 then [oInc 6] else if i = m + 3 then [⟨nAuipc, 7, 0, 0, hiA m⟩, ⟨nAddi, 7, 7, 0, loA m⟩] else if i = m + 4 then brOps nm m b else [oInc 8]
theorem ls_flat (nm : ByteArray) (m : Nat) (b : Bool) : (List.range (m + 6)).flatMap (lsF nm m b) = brL nm m b := by
  rw [show m + 6 = 3 + m + 3 by omega, List.range_add, List.range_add, List.flatMap_append, List.flatMap_append]
  unfold brL
  congr 1
  · congr 1
    rw [List.flatMap_map]
    have : ∀ k, k ≤ m → (List.range k).flatMap (fun i => lsF nm m b (3 + i)) = List.replicate k (oInc 6) := by
      intro k
      induction k with
      | zero => intro _; rfl
      | succ k ih =>
        intro h
        rw [List.range_succ, List.flatMap_append, ih (by omega), List.replicate_succ']
        congr 1
        have : lsF nm m b (3 + k) = [oInc 6] := by
          unfold lsF
          rw [if_neg (by omega), if_neg (by omega), if_neg (by omega), if_pos (by omega)]
        simp [this]
    exact this m (Nat.le_refl _)
  · rw [List.flatMap_map]
    have e0 : lsF nm m b (3 + m + 0) = [⟨nAuipc, 7, 0, 0, hiA m⟩, ⟨nAddi, 7, 7, 0, loA m⟩] := by
      unfold lsF
      rw [if_neg (by omega), if_neg (by omega), if_neg (by omega), if_neg (by omega), if_pos (by omega)]
    have e1 : lsF nm m b (3 + m + 1) = brOps nm m b := by
      unfold lsF
      rw [if_neg (by omega), if_neg (by omega), if_neg (by omega), if_neg (by omega), if_neg (by omega), if_pos (by omega)]
    have e2 : lsF nm m b (3 + m + 2) = [oInc 8] := by
      unfold lsF
      rw [if_neg (by omega), if_neg (by omega), if_neg (by omega), if_neg (by omega), if_neg (by omega), if_neg (by omega)]
    show lsF nm m b (3 + m + 0) ++ (lsF nm m b (3 + m + 1) ++ (lsF nm m b (3 + m + 2) ++ [])) = _
    rw [e0, e1, e2]
    rfl
theorem ops_all (nm : ByteArray) (m : Nat) (hm : m ≤ 2500) (b : Bool) (i : Nat) (hi : i < (setS nm m b).ps.length) : opsAt (setS nm m b) i ((setS nm m b).ps[i]) = some (lsF nm m b i) := by
  have hl : (setS nm m b).ps.length = m + 6 := by show (withL (brP nm m) (gB m b)).length = _; rw [withL_len, brP_len]
  have getx : ∀ {j : Nat} {x : Pc}, (brP nm m)[j]? = some x → ∀ hj : j < (setS nm m b).ps.length, (setS nm m b).ps[j] = { x with long := gB m b j } := fun {j x} h hj => by
    have := set_get nm m b h
    exact (List.getElem?_eq_some_iff.1 this).2
  have P1 := (pos3 nm m b).1
  have P2 := (pos3 nm m b).2.1
  have P3 := pos_mid nm m b m (Nat.le_refl _)
  obtain ⟨P4, P5, P6⟩ := pos_post nm m b
  have mk0 : (setS nm m b).marks 0 = some ((m + 3 : Nat) : Int) := rfl
  have mk1 : (setS nm m b).marks 1 = some 1 := rfl
  have mk2 : (setS nm m b).marks 2 = some ((m + 6 : Nat) : Int) := rfl
  have hps : (setS nm m b).ps = withL (brP nm m) (gB m b) := rfl
  by_cases h0 : i = 0
  · subst h0
    rw [getx (x := ⟨2, ⟨nJal, 0, 0, 0, 0⟩, 0, false⟩) rfl hi]
    rw [opsAt_some (t := ((m + 3 : Nat) : Int)) (by show ¬ (2 : Int) = 0; decide) mk0]
    have e : wrap64 (posF (setS nm m b).ps ((m + 3 : Nat) : Int).toNat - posF (setS nm m b).ps 0) = 12 + 4 * (m : Int) := by
      rw [Int.toNat_natCast, hps, P3, show posF (withL (brP nm m) (gB m b)) 0 = 0 from rfl]; unfold wrap64; omega
    rw [e]
    have r : reachF (12 + 4 * (m : Int)) 1048576 = true := by
      unfold reachF; rw [show wrap64 (-1048576) = -1048576 by unfold wrap64; omega]
      simp only [Bool.and_eq_true, decide_eq_true_eq]; omega
    show (if (reachF (12 + 4 * (m : Int)) 1048576) = true then _ else _) = _
    rw [if_pos r]; rfl
  by_cases h1 : i = 1
  · subst h1
    rw [getx (x := plainPc (oInc 5)) rfl hi]; rfl
  by_cases h2 : i = 2
  · subst h2
    rw [getx (x := ⟨2, ⟨nJal, 0, 0, 0, 0⟩, 2, false⟩) rfl hi]
    rw [opsAt_some (t := ((m + 6 : Nat) : Int)) (by show ¬ (2 : Int) = 0; decide) mk2]
    have e : wrap64 (posF (setS nm m b).ps ((m + 6 : Nat) : Int).toNat - posF (setS nm m b).ps 2) = endA m b - 8 := by
      rw [Int.toNat_natCast, hps, P6, P2]; unfold wrap64 endA; split <;> omega
    rw [e]
    have r : reachF (endA m b - 8) 1048576 = true := by
      unfold reachF; rw [show wrap64 (-1048576) = -1048576 by unfold wrap64; omega]
      simp only [Bool.and_eq_true, decide_eq_true_eq]; unfold endA; split <;> omega
    show (if (reachF (endA m b - 8) 1048576) = true then _ else _) = _
    rw [if_pos r]; rfl
  by_cases h3 : i < m + 3
  · obtain ⟨k, rfl⟩ : ∃ k, i = k + 3 := ⟨i - 3, by omega⟩
    rw [getx (x := plainPc (oInc 6)) (by rw [List.getElem?_eq_getElem (by rw [brP_len]; omega), brP_mid nm m k (by omega)]) hi]
    unfold lsF
    rw [if_neg h0, if_neg h1, if_neg h2, if_pos h3]; rfl
  by_cases h4 : i = m + 3
  · subst h4
    rw [getx (x := ⟨3, ⟨nAuipc, 7, 0, 0, 0⟩, 1, false⟩) (brP_post nm m 0 (by decide)) hi]
    rw [opsAt_some (t := 1) (by show ¬ (3 : Int) = 0; decide) mk1]
    have e : wrap64 (posF (setS nm m b).ps (1 : Int).toNat - posF (setS nm m b).ps (m + 3)) = farA m := by
      rw [hps, show (1 : Int).toNat = 1 from rfl, P1, P3]; unfold wrap64 farA; omega
    rw [e]
    have r : reachF (farA m) 2147481600 = true := by
      unfold reachF; rw [show wrap64 (-2147481600) = -2147481600 by unfold wrap64; omega]
      simp only [Bool.and_eq_true, decide_eq_true_eq]; unfold farA; omega
    have a1 : wrap64 (farA m + 2048) / 4096 = hiA m := by unfold hiA; rw [show wrap64 (farA m + 2048) = farA m + 2048 by unfold wrap64 farA; omega]
    have a2 : wrap64 (farA m - wrap64 (hiA m * 4096)) = loA m := by
      unfold loA hiA farA wrap64; omega
    have o : opsF { (⟨3, ⟨nAuipc, 7, 0, 0, 0⟩, 1, false⟩ : Pc) with long := gB m b (m + 3) } (farA m) = ([⟨nAuipc, 7, 0, 0, hiA m⟩, ⟨nAddi, 7, 7, 0, loA m⟩], true) := by
      unfold opsF
      rw [if_neg (by show ¬ (3 : Int) = 2; decide), if_pos (by show (3 : Int) = 3; rfl), a1, a2, r]
    rw [o]
    unfold lsF
    rw [if_neg h0, if_neg h1, if_neg h2, if_neg h3, if_pos rfl, if_pos rfl]
  by_cases h5 : i = m + 4
  · subst h5
    rw [getx (x := ⟨1, ⟨nm, 0, 1, 2, 0⟩, 1, false⟩) (brP_post nm m 1 (by decide)) hi]
    rw [opsAt_some (t := 1) (by show ¬ (1 : Int) = 0; decide) mk1]
    have e : wrap64 (posF (setS nm m b).ps (1 : Int).toNat - posF (setS nm m b).ps (m + 4)) = -16 - 4 * (m : Int) := by
      rw [hps, show (1 : Int).toNat = 1 from rfl, P1, P4]; unfold wrap64; omega
    have g4 : gB m b (m + 4) = b := by unfold gB; simp
    rw [e, g4]
    unfold lsF
    rw [if_neg h0, if_neg h1, if_neg h2, if_neg h3, if_neg h4, if_pos rfl]
    cases b
    · rfl
    · have r : reachF (wrap64 (-16 - 4 * (m : Int) - 4)) 1048576 = true := by
        rw [show wrap64 (-16 - 4 * (m : Int) - 4) = -20 - 4 * (m : Int) by unfold wrap64; omega]
        unfold reachF; rw [show wrap64 (-1048576) = -1048576 by unfold wrap64; omega]
        simp only [Bool.and_eq_true, decide_eq_true_eq]; omega
      have o : opsF { (⟨1, ⟨nm, 0, 1, 2, 0⟩, 1, false⟩ : Pc) with long := true } (-16 - 4 * (m : Int)) = ([⟨turnF nm, 0, 1, 2, 8⟩, ⟨nJal, 0, 0, 0, wrap64 (-16 - 4 * (m : Int) - 4)⟩], reachF (wrap64 (-16 - 4 * (m : Int) - 4)) 1048576) := rfl
      rw [o, r, show wrap64 (-16 - 4 * (m : Int) - 4) = -20 - 4 * (m : Int) by unfold wrap64; omega]
      rfl
  · have e : i = m + 5 := by omega
    subst e
    rw [getx (x := plainPc (oInc 8)) (brP_post nm m 2 (by decide)) hi]
    unfold lsF
    rw [if_neg h0, if_neg h1, if_neg h2, if_neg h3, if_neg h4, if_neg h5]; rfl
theorem text_br (nm : ByteArray) (m : Nat) (hm : m ≤ 2500) {bs : List Int} (he : encB (brL nm m (decide (1020 < m))) = some bs) : textV (settleF (brS nm m)) = .tuple #[.string (strOf bs), .int .i64 0] := by
  rw [set_br nm m hm]
  have hl : (setS nm m (decide (1020 < m))).ps.length = m + 6 := by show (withL (brP nm m) _).length = _; rw [withL_len, brP_len]
  have := textL_ops (lsF nm m (decide (1020 < m))) (ops_all nm m hm _) (setS nm m (decide (1020 < m))).ps.length (Nat.le_refl _)
  rw [hl, ls_flat, he] at this
  unfold textV
  rw [hl, this]
theorem place_br (nm : ByteArray) (m : Nat) (hm : m ≤ 2500) : placeF (settleF (brS nm m)) 1 = 4 := by
  have e : placeF (settleF (brS nm m)) 1 = posF (settleF (settleF (brS nm m))).ps 1 := rfl
  rw [e, settle_settle, set_br nm m hm]
  exact (pos3 nm m _).1
end Go.Proofs.Ytciehejifdbpoaa.Ab

set_option linter.unusedSimpArgs false
set_option linter.unusedVariables false
namespace Go.Proofs.Ytciehejifdbpoaa.Ab
open Go.RowKit Go.Maps Go.Proofs.Ytciehejifdbpoaa.Grow Go.Proofs.Ytciehejifdbpoaa.Rv Go.Proofs.Ytciehejifdbpoaa.As Go.Proofs.Ytciehejifdbpoaa.Ht Go.Proofs.Ytciehejifdbpoaa.PHartQuotients

/-! ### The six branches -/
def brN (k : Nat) : ByteArray := match k with
  | 0 => ⟨#[98, 101, 113]⟩
  | 1 => ⟨#[98, 110, 101]⟩
  | 2 => ⟨#[98, 108, 116]⟩
  | 3 => ⟨#[98, 103, 101]⟩
  | 4 => ⟨#[98, 108, 116, 117]⟩
  | _ => ⟨#[98, 103, 101, 117]⟩
structure Br (nm : ByteArray) : Prop where
  idx : nIdx nm < 64
  form : (kd (nIdx nm)).2.1 = 5
  cls : clsF nm = 3
theorem br_all : ∀ k, k < 6 → (nIdx (brN k) < 64 ∧ (kd (nIdx (brN k))).2.1 = 5 ∧ clsF (brN k) = 3) ∧ (nIdx (turnF (brN k)) < 64 ∧ (kd (nIdx (turnF (brN k)))).2.1 = 5 ∧ clsF (turnF (brN k)) = 3) := by decide +kernel
theorem br_is {k : Nat} (h : k < 6) : Br (brN k) ∧ Br (turnF (brN k)) :=
  ⟨⟨(br_all k h).1.1, (br_all k h).1.2.1, (br_all k h).1.2.2⟩, ⟨(br_all k h).2.1, (br_all k h).2.2.1, (br_all k h).2.2.2⟩⟩
theorem tk (nm : ByteArray) (a b : Int) (r : Bool) (h : hart_taken.f nm a b = some r) : takenF nm a b = r := by unfold takenF; rw [h]; rfl
theorem turn_taken : ∀ k, k < 6 → ∀ a b : Int, takenF (turnF (brN k)) a b = !takenF (brN k) a b := by
  have t0 : turnF (brN 0) = brN 1 := by decide +kernel
  have t1 : turnF (brN 1) = brN 0 := by decide +kernel
  have t2 : turnF (brN 2) = brN 3 := by decide +kernel
  have t3 : turnF (brN 3) = brN 2 := by decide +kernel
  have t4 : turnF (brN 4) = brN 5 := by decide +kernel
  have t5 : turnF (brN 5) = brN 4 := by decide +kernel
  have v0 : ∀ a b : Int, takenF (brN 0) a b = (a == b) := fun a b => tk _ a b _ (by kernel_rfl)
  have v1 : ∀ a b : Int, takenF (brN 1) a b = (a != b) := fun a b => tk _ a b _ (by kernel_rfl)
  have v2 : ∀ a b : Int, takenF (brN 2) a b = decide (wrap64 a < wrap64 b) := fun a b => tk _ a b _ (by kernel_rfl)
  have v3 : ∀ a b : Int, takenF (brN 3) a b = decide (wrap64 a ≥ wrap64 b) := fun a b => tk _ a b _ (by kernel_rfl)
  have v4 : ∀ a b : Int, takenF (brN 4) a b = decide (a < b) := fun a b => tk _ a b _ (by kernel_rfl)
  have v5 : ∀ a b : Int, takenF (brN 5) a b = decide (a ≥ b) := fun a b => tk _ a b _ (by kernel_rfl)
  have d1 : ∀ x y : Int, decide (x ≥ y) = !decide (x < y) := fun x y => by by_cases h : x < y <;> simp [h] <;> omega
  have d2 : ∀ x y : Int, decide (x < y) = !decide (x ≥ y) := fun x y => by by_cases h : x < y <;> simp [h] <;> omega
  intro k hk a b
  have : k = 0 ∨ k = 1 ∨ k = 2 ∨ k = 3 ∨ k = 4 ∨ k = 5 := by omega
  rcases this with rfl | rfl | rfl | rfl | rfl | rfl
  · rw [t0, v1, v0]; rfl
  · rw [t1, v0, v1]; simp [bne]
  · rw [t2, v3, v2]; exact d1 _ _
  · rw [t3, v2, v3]; exact d2 _ _
  · rw [t4, v5, v4]; exact d1 _ _
  · rw [t5, v4, v5]; exact d2 _ _
theorem tmod_even {x : Int} (h : x % 2 = 0) : (x.tmod 2 != 0) = false := by rw [Int.tmod_eq_zero_of_dvd (Int.dvd_of_emod_eq_zero h)]; rfl
theorem ok_br {nm : ByteArray} (h : Br nm) {n : Int} (h1 : -4096 ≤ n) (h2 : n ≤ 4094) (h3 : n % 2 = 0) : (encF nm 0 1 2 n).2 = 0 :=
  enc_ok ⟨h.idx, h.form⟩ (encOk_iff.2 ⟨rfl, rfl, rfl, h1, h2, tmod_even h3⟩)
theorem idx_jal : nIdx nJal < 64 ∧ (kd (nIdx nJal)).2.1 = 7 := by decide +kernel
theorem ok_jal {n : Int} (h1 : -1048576 ≤ n) (h2 : n ≤ 1048574) (h3 : n % 2 = 0) : (encF nJal 0 0 0 n).2 = 0 :=
  enc_ok idx_jal (encOk_iff.2 ⟨rfl, rfl, rfl, h1, h2, tmod_even h3⟩)
theorem idx_auipc : nIdx nAuipc < 64 ∧ (kd (nIdx nAuipc)).2.1 = 6 := by decide +kernel
theorem ok_auipc {n : Int} (h1 : -524288 ≤ n) (h2 : n ≤ 524287) : (encF nAuipc 7 0 0 n).2 = 0 :=
  enc_ok idx_auipc (encOk_iff.2 ⟨rfl, rfl, rfl, h1, h2, tmod_one n⟩)
theorem ok_inc : (encF (oInc 5).name (oInc 5).rd (oInc 5).ra (oInc 5).rb (oInc 5).imm).2 = 0 ∧ (encF (oInc 6).name (oInc 6).rd (oInc 6).ra (oInc 6).rb (oInc 6).imm).2 = 0 ∧ (encF (oInc 8).name (oInc 8).rd (oInc 8).ra (oInc 8).rb (oInc 8).imm).2 = 0 := by decide +kernel
theorem encB_ok : ∀ l : List OpI, (∀ x ∈ l, (encF x.name x.rd x.ra x.rb x.imm).2 = 0) → ∃ bs, encB l = some bs
  | [], _ => ⟨[], rfl⟩
  | x :: l, h => by
    obtain ⟨bs, hb⟩ := encB_ok l fun y hy => h y (List.mem_cons_of_mem _ hy)
    have e : encB (x :: l) = if (encF x.name x.rd x.ra x.rb x.imm).2 = 0 then (encB l).map fun bs => encB.wordB (encF x.name x.rd x.ra x.rb x.imm).1 ++ bs else none := rfl
    rw [e, if_pos (h x (List.mem_cons_self ..)), hb]
    exact ⟨_, rfl⟩
theorem enc_br {nm : ByteArray} (h : Br nm) (ht : Br (turnF nm)) {m : Nat} (hm : m ≤ 2500) : ∃ bs, encB (brL nm m (decide (1020 < m))) = some bs := by
  obtain ⟨b, hb⟩ : ∃ b, decide (1020 < m) = b := ⟨_, rfl⟩
  rw [hb]
  refine encB_ok _ fun x hx => ?_
  unfold brL at hx
  have he : 28 + 4 * (m : Int) ≤ endA m b ∧ endA m b ≤ 32 + 4 * (m : Int) ∧ (endA m b - 8) % 2 = 0 := by unfold endA; split <;> omega
  have hA : -524288 ≤ hiA m ∧ hiA m ≤ 524287 ∧ -2048 ≤ loA m ∧ loA m ≤ 2047 := by unfold loA hiA farA; omega
  rcases List.mem_append.1 hx with hx | hx
  · rcases List.mem_append.1 hx with hx | hx
    · simp only [preL, List.mem_cons, List.not_mem_nil, or_false] at hx
      rcases hx with rfl | rfl | rfl
      · exact ok_jal (n := 12 + 4 * (m : Int)) (by omega) (by omega) (by omega)
      · exact ok_inc.1
      · exact ok_jal (n := endA m b - 8) (by omega) (by omega) he.2.2
    · rw [List.eq_of_mem_replicate hx]; exact ok_inc.2.1
  · simp only [postL, List.mem_append, List.mem_cons, List.not_mem_nil, or_false] at hx
    rcases hx with ((rfl | rfl) | hx) | rfl
    · exact ok_auipc (n := hiA m) hA.1 hA.2.1
    · exact ok_addi (rd := 7) (ra := 7) (n := loA m) (by decide) (by decide) hA.2.2
    · cases b
      · simp only [brOps, List.mem_cons, List.not_mem_nil, or_false] at hx
        subst hx
        have hm' : m ≤ 1020 := by have := of_decide_eq_false hb; omega
        exact ok_br (n := -16 - 4 * (m : Int)) h (by omega) (by omega) (by omega)
      · simp only [brOps, List.mem_cons, List.not_mem_nil, or_false] at hx
        rcases hx with rfl | rfl
        · exact ok_br (n := 8) ht (by decide) (by decide) (by decide)
        · exact ok_jal (n := -20 - 4 * (m : Int)) (by omega) (by omega) (by omega)
    · exact ok_inc.2.2

/-! ### Steps -/
structure At (bs : List Int) (S : HartS) (k : Nat) : Prop where
  mem : S.mem = progM 4096 bs
  pc : S.pc = 4096 + 4 * (k : Int)
  len : S.regs.length = 32
section
variable {l : List OpI} {bs : List Int} (he : encB l = some bs) (hl : l.length < 100000)
include he hl
theorem next_at {S : HartS} {k : Nat} (h : At bs S k) (hk : k < l.length) {x : OpI} (hx : l[k]? = some x) : nextF S = (mkDone x, 0) := by
  have hxe : l[k] = x := by rw [List.getElem?_eq_getElem hk] at hx; exact Option.some.inj hx
  rw [← hxe]
  exact next_prog he hl (by decide) hk h.mem h.pc
theorem step_exec {S : HartS} {k : Nat} (h : At bs S k) {x : OpI} (hx : l[k]? = some x) : stepF S = execF S (mkDone x) (S.ra x.ra) (S.ra x.rb) (IntKind.u64.wrap x.imm) (IntKind.u64.wrap (S.pc + 4)) := by
  have hk : k < l.length := (List.getElem?_eq_some_iff.1 hx).1
  unfold stepF
  rw [next_at he hl h hk hx, if_pos rfl]
  simp only [mkDone_op]
theorem step_jal {S : HartS} {k j : Nat} (h : At bs S k) {n : Int} (hx : l[k]? = some ⟨nJal, 0, 0, 0, n⟩) (hj : 4 * (k : Int) + n = 4 * (j : Int)) (hj2 : j < 100000) :
    ∃ S', stepF S = (S', 0) ∧ At bs S' j ∧ ∀ i, S'.ra i = S.ra i := by
  have hc : clsF nJal = 6 := by kernel_rfl
  have hk : k < l.length := (List.getElem?_eq_some_iff.1 hx).1
  refine ⟨S.at_ (IntKind.u64.wrap (S.pc + IntKind.u64.wrap n)), ?_, ⟨h.mem, ?_, h.len⟩, fun i => rfl⟩
  · rw [step_exec he hl h hx]
    unfold execF
    simp only [mkDone_op, hc]
    have : ∀ v, S.put 0 v = S := fun v => if_neg (by decide)
    rw [this]
  · show IntKind.u64.wrap (S.pc + IntKind.u64.wrap n) = 4096 + 4 * (j : Int)
    rw [h.pc]
    simp only [IntKind.wrap_u64]
    omega
theorem step_addi {S : HartS} {k : Nat} (h : At bs S k) {rd ra n : Int} (hr : 0 < rd ∧ rd < 32) (hx : l[k]? = some ⟨nAddi, rd, ra, 0, n⟩) :
    ∃ S', stepF S = (S', 0) ∧ At bs S' (k + 1) ∧ S'.ra rd = IntKind.u64.wrap (S.ra ra + IntKind.u64.wrap n) ∧ ∀ i : Int, rd.toNat ≠ i.toNat → S'.ra i = S.ra i := by
  have hk : k < l.length := (List.getElem?_eq_some_iff.1 hx).1
  have hs : stepF S = (lineOp S ⟨nAddi, rd, ra, 0, n⟩, 0) := by
    have hxe : l[k] = ⟨nAddi, rd, ra, 0, n⟩ := by rw [List.getElem?_eq_getElem hk] at hx; exact Option.some.inj hx
    rw [← hxe]
    exact step_line he hl (by decide) hk h.mem h.pc (by rw [hxe]; exact .inr im_addi.1)
  rw [line_imm im_addi.1 im_addi.2, r_add] at hs
  refine ⟨_, hs, ⟨by show (S.put rd _).mem = _; rw [put_mem]; exact h.mem, ?_, by rw [len_at, put_len]; exact h.len⟩, by rw [Ht.ra_at, ra_same h.len hr], fun i hi => by rw [Ht.ra_at, ra_ne hi]⟩
  show IntKind.u64.wrap (S.pc + 4) = _
  rw [h.pc, IntKind.wrap_u64]; omega
theorem step_auipc {S : HartS} {k : Nat} (h : At bs S k) {n : Int} (hx : l[k]? = some ⟨nAuipc, 7, 0, 0, n⟩) :
    ∃ S', stepF S = (S', 0) ∧ At bs S' (k + 1) ∧ S'.ra 7 = IntKind.u64.wrap (S.pc + IntKind.u64.wrap (IntKind.u64.wrap n * 4096)) ∧ ∀ i : Int, (7 : Int).toNat ≠ i.toNat → S'.ra i = S.ra i := by
  have hc : clsF nAuipc = 5 := by kernel_rfl
  have hk : k < l.length := (List.getElem?_eq_some_iff.1 hx).1
  refine ⟨(S.put 7 (IntKind.u64.wrap (S.pc + IntKind.u64.wrap (IntKind.u64.wrap n * 4096)))).at_ (IntKind.u64.wrap (S.pc + 4)), ?_, ⟨(put_mem S 7 (IntKind.u64.wrap (S.pc + IntKind.u64.wrap (IntKind.u64.wrap n * 4096)))).trans h.mem, ?_, by rw [len_at, put_len]; exact h.len⟩, by rw [Ht.ra_at, ra_same h.len (by decide)], fun i hi => by rw [Ht.ra_at, ra_ne hi]⟩
  · rw [step_exec he hl h hx]
    unfold execF
    simp only [mkDone_op, hc]
  · show IntKind.u64.wrap (S.pc + 4) = _
    rw [h.pc, IntKind.wrap_u64]; omega
theorem step_branch {S : HartS} {k j : Nat} (h : At bs S k) {nm : ByteArray} (hb : Br nm) {n : Int} (hx : l[k]? = some ⟨nm, 0, 1, 2, n⟩) (hj : 4 * (k : Int) + n = 4 * (j : Int)) (hj2 : j < 100000) :
    ∃ S', stepF S = (S', 0) ∧ At bs S' (if takenF nm (S.ra 1) (S.ra 2) = true then j else k + 1) ∧ ∀ i, S'.ra i = S.ra i := by
  have hk : k < l.length := (List.getElem?_eq_some_iff.1 hx).1
  refine ⟨S.at_ (if takenF nm (S.ra 1) (S.ra 2) = true then IntKind.u64.wrap (S.pc + IntKind.u64.wrap n) else IntKind.u64.wrap (S.pc + 4)), ?_, ⟨h.mem, ?_, h.len⟩, fun i => rfl⟩
  · rw [step_exec he hl h hx]
    unfold execF
    simp only [mkDone_op, hb.cls]
  · show (if takenF nm (S.ra 1) (S.ra 2) = true then IntKind.u64.wrap (S.pc + IntKind.u64.wrap n) else IntKind.u64.wrap (S.pc + 4)) = _
    rw [h.pc]
    split
    · simp only [IntKind.wrap_u64]; omega
    · simp only [IntKind.wrap_u64]; omega
end
theorem run_at {bs : List Int} {S S' : HartS} {k N f s : Nat} (h : At bs S k) (hk : k < N) (hs : stepF S = (S', 0)) : runF (4096 + 4 * (N : Int)) (f + 1) s S = runF (4096 + 4 * (N : Int)) f (s + 1) S' := by
  have := runF_step (stop := 4096 + 4 * (N : Int)) (S := S) (by rw [h.pc]; omega) (by rw [hs]) f s
  rw [hs] at this
  exact this
theorem run_stop {bs : List Int} {S : HartS} {N f s : Nat} (h : At bs S N) : runF (4096 + 4 * (N : Int)) f s S = (S, s, 0) := runF_stop h.pc _ _

/-! ### Where the instructions stand -/
theorem brL_len (nm : ByteArray) (m : Nat) (b : Bool) : (brL nm m b).length = m + 7 + (if b = true then 1 else 0) := by
  cases b <;> simp [brL, preL, postL, brOps] <;> omega
theorem brL_post (nm : ByteArray) (m : Nat) (b : Bool) (j : Nat) : (brL nm m b)[m + 3 + j]? = (postL nm m b)[j]? := by
  unfold brL
  have e : (preL m b ++ List.replicate m (oInc 6)).length = m + 3 := by simp [preL] <;> omega
  rw [List.getElem?_append_right (by omega), e]
  congr 1
  omega
/-- What the law asks of its machine: the register of the branch, of what is behind, of the address. -/
structure Done1 (S : HartS) (t : Bool) : Prop where
  r5 : S.ra 5 = (if t = true then 1 else 0)
  r6 : S.ra 6 = 0
  r8 : S.ra 8 = (if t = true then 0 else 1)
  r7 : S.ra 7 = 4100
def runH (bs : List Int) (x y : Int) : HartS := ((new0 (progM 4096 bs) 4096).put 1 x).put 2 y
theorem runH_at (bs : List Int) (x y : Int) : At bs (runH bs x y) 0 := ⟨by unfold runH; rw [put_mem, put_mem]; rfl, by unfold runH; rw [put_pc, put_pc]; rfl, by unfold runH; rw [put_len, put_len, new_len]⟩
theorem runH_ra (bs : List Int) (x y : Int) : (runH bs x y).ra 1 = x ∧ (runH bs x y).ra 2 = y ∧ (runH bs x y).ra 5 = 0 ∧ (runH bs x y).ra 6 = 0 ∧ (runH bs x y).ra 7 = 0 ∧ (runH bs x y).ra 8 = 0 := by
  have z : ∀ i : Int, (new0 (progM 4096 bs) 4096).ra i = 0 := fun i => by
    show (List.replicate 32 (0 : Int)).getD i.toNat 0 = 0
    rw [List.getD_eq_getElem?_getD, List.getElem?_replicate]
    split <;> rfl
  unfold runH
  refine ⟨?_, ?_, ?_, ?_, ?_, ?_⟩
  · rw [ra_ne (by decide), ra_same (new_len _ _) (by decide)]
  · rw [ra_same (by rw [put_len, new_len]) (by decide)]
  all_goals rw [ra_ne (by decide), ra_ne (by decide), z]
theorem run_br {nm : ByteArray} (h : Br nm) (ht : Br (turnF nm)) (htk : ∀ a b : Int, takenF (turnF nm) a b = !takenF nm a b) {m : Nat} (hm : m ≤ 2500) {b : Bool} {bs : List Int} (he : encB (brL nm m b) = some bs) (x y : Int) :
    ∃ S n, runF (4096 + 4 * ((brL nm m b).length : Int)) 10 0 (runH bs x y) = (S, n, 0) ∧ 4 ≤ n ∧ n ≤ 10 ∧ Done1 S (takenF nm x y) := by
  obtain ⟨L, hL⟩ : ∃ L, brL nm m b = L := ⟨_, rfl⟩
  have hlen := brL_len nm m b
  have g0 : L[0]? = some ⟨nJal, 0, 0, 0, 12 + 4 * (m : Int)⟩ := by rw [← hL]; rfl
  have g1 : L[1]? = some (oInc 5) := by rw [← hL]; rfl
  have g2 : L[2]? = some ⟨nJal, 0, 0, 0, endA m b - 8⟩ := by rw [← hL]; rfl
  have p0 : L[m + 3]? = some ⟨nAuipc, 7, 0, 0, hiA m⟩ := by rw [← hL]; exact brL_post nm m b 0
  have p1 : L[m + 4]? = some ⟨nAddi, 7, 7, 0, loA m⟩ := by rw [← hL]; exact brL_post nm m b 1
  have hb2 : L[m + 5]? = (postL nm m b)[2]? := by rw [← hL]; exact brL_post nm m b 2
  have hb3 : L[m + 6]? = (postL nm m b)[3]? := by rw [← hL]; exact brL_post nm m b 3
  have hb4 : L[m + 7]? = (postL nm m b)[4]? := by rw [← hL]; exact brL_post nm m b 4
  rw [hL] at hlen he ⊢
  have hl : L.length < 100000 := by rw [hlen]; split <;> omega
  obtain ⟨N, hN⟩ : ∃ N, L.length = N := ⟨_, rfl⟩
  rw [hN]
  obtain ⟨r1, r2, r5, r6, r7, r8⟩ := runH_ra bs x y
  have A0 := runH_at bs x y
  generalize runH bs x y = S0 at *
  -- the jump to the label ahead
  obtain ⟨S1, h1, A1, q1⟩ := step_jal he hl A0 g0 (j := m + 3) (by omega) (by omega)
  obtain ⟨S2, h2, A2, q2, q2'⟩ := step_auipc he hl A1 p0
  obtain ⟨S3, h3, A3, q3, q3'⟩ := step_addi he hl A2 (rd := 7) (ra := 7) (by decide) p1
  have k7 : S3.ra 7 = 4100 := by
    rw [q3, q2, A1.pc]
    simp only [IntKind.wrap_u64]
    unfold loA hiA farA
    omega
  have k : ∀ i : Int, (7 : Int).toNat ≠ i.toNat → S3.ra i = S0.ra i := fun i hi => by rw [q3' i hi, q2' i hi, q1]
  have k1 : S3.ra 1 = x := by rw [k 1 (by decide), r1]
  have k2 : S3.ra 2 = y := by rw [k 2 (by decide), r2]
  have k5 : S3.ra 5 = 0 := by rw [k 5 (by decide), r5]
  have k6 : S3.ra 6 = 0 := by rw [k 6 (by decide), r6]
  have k8 : S3.ra 8 = 0 := by rw [k 8 (by decide), r8]
  have hNm : m + 7 ≤ N := by rw [← hN, hlen]; omega
  have run3 : ∀ f, runF (4096 + 4 * (N : Int)) (f + 3) 0 S0 = runF (4096 + 4 * (N : Int)) f 3 S3 := fun f => by
    rw [run_at A0 (by omega) h1, run_at A1 (by omega) h2, run_at A2 (by omega) h3]
  clear q1 q2 q2' q3 q3' k r1 r2 r5 r6 r7 r8
  -- from the label behind on
  have back : ∀ (S : HartS) (s : Nat), At bs S 1 → S.ra 5 = 0 → S.ra 6 = 0 → S.ra 7 = 4100 → S.ra 8 = 0 → ∃ S', (∀ f, runF (4096 + 4 * (N : Int)) (f + 2) s S = (S', s + 2, 0)) ∧ Done1 S' true := fun S s hA a5 a6 a7 a8 => by
    obtain ⟨T1, t1, B1, u1, u1'⟩ := step_addi he hl hA (rd := 5) (ra := 5) (n := 1) (by decide) g1
    obtain ⟨T2, t2, B2, u2⟩ := step_jal he hl B1 g2 (j := N) (by rw [← hN, hlen]; unfold endA; cases b <;> simp <;> omega) (by omega)
    refine ⟨T2, fun f => ?_, ⟨?_, ?_, ?_, ?_⟩⟩
    · rw [run_at hA (by omega) t1, run_at B1 (by omega) t2, run_stop B2]
    · rw [u2, u1, a5]; rfl
    · rw [u2, u1' 6 (by decide), a6]
    · rw [u2, u1' 8 (by decide), a8]; rfl
    · rw [u2, u1' 7 (by decide), a7]
  have ahead : ∀ (S : HartS) (s : Nat), At bs S (N - 1) → L[N - 1]? = some (oInc 8) → S.ra 5 = 0 → S.ra 6 = 0 → S.ra 7 = 4100 → S.ra 8 = 0 → ∃ S', (∀ f, runF (4096 + 4 * (N : Int)) (f + 1) s S = (S', s + 1, 0)) ∧ Done1 S' false := fun S s hA hx a5 a6 a7 a8 => by
    obtain ⟨T1, t1, B1, u1, u1'⟩ := step_addi he hl hA (rd := 8) (ra := 8) (n := 1) (by decide) hx
    have B1' : At bs T1 N := by rw [show N = N - 1 + 1 by omega]; exact B1
    refine ⟨T1, fun f => ?_, ⟨?_, ?_, ?_, ?_⟩⟩
    · rw [run_at hA (by omega) t1, run_stop B1']
    · rw [u1' 5 (by decide), a5]; rfl
    · rw [u1' 6 (by decide), a6]
    · rw [u1, a8]; rfl
    · rw [u1' 7 (by decide), a7]
  cases b
  · -- a short branch
    have hNe : N = m + 7 := by rw [← hN, hlen]; rfl
    have pb : L[m + 5]? = some ⟨nm, 0, 1, 2, -16 - 4 * (m : Int)⟩ := hb2
    have pi : L[N - 1]? = some (oInc 8) := by rw [hNe]; exact hb3
    obtain ⟨S4, h4, A4, q4⟩ := step_branch he hl A3 h pb (j := 1) (by omega) (by omega)
    rw [k1, k2] at A4
    have e4 : ∀ f, runF (4096 + 4 * (N : Int)) (f + 4) 0 S0 = runF (4096 + 4 * (N : Int)) f 4 S4 := fun f => by
      rw [show f + 4 = (f + 1) + 3 by omega, run3, run_at A3 (by omega) h4]
    cases htv : takenF nm x y
    · rw [htv] at A4
      obtain ⟨S', hr, hd⟩ := ahead S4 4 (by rw [hNe]; exact A4) pi (by rw [q4, k5]) (by rw [q4, k6]) (by rw [q4, k7]) (by rw [q4, k8])
      exact ⟨S', 5, by rw [show (10 : Nat) = (5 + 1) + 4 by rfl, e4, hr], by decide, by decide, hd⟩
    · rw [htv] at A4
      obtain ⟨S', hr, hd⟩ := back S4 4 A4 (by rw [q4, k5]) (by rw [q4, k6]) (by rw [q4, k7]) (by rw [q4, k8])
      exact ⟨S', 6, by rw [show (10 : Nat) = (4 + 2) + 4 by rfl, e4, hr], by decide, by decide, hd⟩
  · -- a long one
    have hNe : N = m + 8 := by rw [← hN, hlen]; rfl
    have pb : L[m + 5]? = some ⟨turnF nm, 0, 1, 2, 8⟩ := hb2
    have pj : L[m + 6]? = some ⟨nJal, 0, 0, 0, -20 - 4 * (m : Int)⟩ := hb3
    have pi : L[N - 1]? = some (oInc 8) := by rw [hNe]; exact hb4
    obtain ⟨S4, h4, A4, q4⟩ := step_branch he hl A3 ht pb (j := m + 7) (by omega) (by omega)
    rw [k1, k2, htk] at A4
    have e4 : ∀ f, runF (4096 + 4 * (N : Int)) (f + 4) 0 S0 = runF (4096 + 4 * (N : Int)) f 4 S4 := fun f => by
      rw [show f + 4 = (f + 1) + 3 by omega, run3, run_at A3 (by omega) h4]
    cases htv : takenF nm x y
    · rw [htv] at A4
      obtain ⟨S', hr, hd⟩ := ahead S4 4 (by rw [hNe]; exact A4) pi (by rw [q4, k5]) (by rw [q4, k6]) (by rw [q4, k7]) (by rw [q4, k8])
      exact ⟨S', 5, by rw [show (10 : Nat) = (5 + 1) + 4 by rfl, e4, hr], by decide, by decide, hd⟩
    · rw [htv] at A4
      have A4' : At bs S4 (m + 6) := A4
      obtain ⟨S5, h5, A5, q5⟩ := step_jal he hl A4' pj (j := 1) (by omega) (by omega)
      obtain ⟨S', hr, hd⟩ := back S5 5 A5 (by rw [q5, q4, k5]) (by rw [q5, q4, k6]) (by rw [q5, q4, k7]) (by rw [q5, q4, k8])
      refine ⟨S', 7, ?_, by decide, by decide, hd⟩
      rw [show (10 : Nat) = (3 + 2 + 1) + 4 by rfl, e4, run_at A4' (by omega) h5, hr]
end Go.Proofs.Ytciehejifdbpoaa.Ab

set_option linter.unusedSimpArgs false
set_option linter.unusedVariables false
namespace Go.Proofs.Ytciehejifdbpoaa.Ab
open Go.RowKit Go.Maps Go.Proofs.Ytciehejifdbpoaa.Grow Go.Proofs.Ytciehejifdbpoaa.Rv Go.Proofs.Ytciehejifdbpoaa.As Go.Proofs.Ytciehejifdbpoaa.Ht Go.Proofs.Ytciehejifdbpoaa.PHartQuotients
open Go.Proofs.YtciehejifdbpoaaW.PrintWords Go.Proofs.YtciehejifdbpoaaW.PrintLast Go.Proofs.YtciehejifdbpoaaW.PrintMore

theorem six {k : Nat} (h : k < 6) : k = 0 ∨ k = 1 ∨ k = 2 ∨ k = 3 ∨ k = 4 ∨ k = 5 := by omega
theorem br_val (a b : Int) : takenF (brN 0) a b = (a == b) ∧ takenF (brN 1) a b = (a != b) ∧ takenF (brN 2) a b = decide (wrap64 a < wrap64 b) ∧ takenF (brN 3) a b = decide (wrap64 a ≥ wrap64 b) ∧ takenF (brN 4) a b = decide (a < b) ∧ takenF (brN 5) a b = decide (a ≥ b) :=
  ⟨tk _ a b _ (by kernel_rfl), tk _ a b _ (by kernel_rfl), tk _ a b _ (by kernel_rfl), tk _ a b _ (by kernel_rfl), tk _ a b _ (by kernel_rfl), tk _ a b _ (by kernel_rfl)⟩
set_option maxHeartbeats 8000000 in
set_option maxRecDepth 100000 in
theorem taken51_calls {k : Nat} (hk : k < 6) (a b : Int) (w : World) : Calls Try.prog 51 #[.string (brN k), .int .u64 a, .int .u64 b] w fun e w' => e = .returned (.bool (takenF (brN k) a b)) ∧ w' = w := by
  obtain ⟨v0, v1, v2, v3, v4, v5⟩ := br_val a b
  rcases six hk with rfl | rfl | rfl | rfl | rfl | rfl
  all_goals first | rw [v0] | rw [v1] | rw [v2] | rw [v3] | rw [v4] | rw [v5]
  all_goals clear v0 v1 v2 v3 v4 v5
  all_goals unfold brN
  all_goals go_enter Try.func51, Try.ntmps51
  all_goals go_wp2
  all_goals go_ret

  all_goals exact ⟨by first | rfl | (simp; done), rfl⟩

/-! ### The states on the way -/
def bl1 : AsmS := ⟨[], 1, fun _ => none, 0⟩
def bl2 : AsmS := ⟨[], 2, fun _ => none, 0⟩
def bl3 : AsmS := ⟨[], 3, fun _ => none, 0⟩
def b4 : AsmS := bl3.push ⟨2, ⟨nJal, 0, 0, 0, 0⟩, 0, false⟩
def b5 : AsmS := b4.mark 1
def b6 : AsmS := b5.puts (List.replicate 1 (oInc 5))
def b7 : AsmS := b6.push ⟨2, ⟨nJal, 0, 0, 0, 0⟩, 2, false⟩
def b8 (m : Nat) : AsmS := b7.puts (List.replicate m (oInc 6))
def b9 (m : Nat) : AsmS := (b8 m).mark 0
def b10 (m : Nat) : AsmS := (b9 m).push ⟨3, ⟨nAuipc, 7, 0, 0, 0⟩, 1, false⟩
def b11 (nm : ByteArray) (m : Nat) : AsmS := (b10 m).push ⟨1, ⟨nm, 0, 1, 2, 0⟩, 1, false⟩
def b12 (nm : ByteArray) (m : Nat) : AsmS := (b11 nm m).puts (List.replicate 1 (oInc 8))
theorem c4 : toC bl3 0 0 = 0 := by decide +kernel
theorem c5 : mkC b4 1 = 0 := by decide +kernel
theorem c7 : toC b6 0 2 = 0 := by decide +kernel
theorem c9 (m : Nat) : mkC (b8 m) 0 = 0 := rfl
theorem c10 (m : Nat) : toC (b9 m) 7 1 = 0 := rfl
theorem c11 {k : Nat} (h : k < 6) (m : Nat) : brC (b10 m) (brN k) 1 2 1 = 0 := by
  have e : brBad (brN k) 1 2 = false := by
    rcases six h with rfl | rfl | rfl | rfl | rfl | rfl <;> decide +kernel
  unfold brC
  rw [if_neg (by rw [e]; decide), if_neg (by show ¬ (decide (0 ≤ (1 : Int)) && decide ((1 : Int) < 3)) = false; decide)]
theorem c13 (nm : ByteArray) (m : Nat) : mkC (b12 nm m) 2 = 0 := rfl
theorem l7 : b7.ps.length = 3 := rfl
theorem l8 (m : Nat) : (b8 m).ps.length = m + 3 := by unfold b8; rw [puts_len, l7, List.length_replicate]; omega
theorem l10 (m : Nat) : (b10 m).ps.length = m + 4 := by
  show ((b8 m).ps ++ [_]).length = _
  rw [List.length_append, l8]; rfl
theorem l11 (nm : ByteArray) (m : Nat) : (b11 nm m).ps.length = m + 5 := by
  show ((b10 m).ps ++ [_]).length = _
  rw [List.length_append, l10]; rfl
theorem l12 (nm : ByteArray) (m : Nat) : (b12 nm m).ps.length = m + 6 := by unfold b12; rw [puts_len, l11]; rfl
theorem b13_is (nm : ByteArray) (m : Nat) : (b12 nm m).mark 2 = brS nm m := by
  have e : (b12 nm m).ps = brP nm m := by
    show (((preP ++ (List.replicate m (oInc 6)).map plainPc) ++ [_]) ++ [_]) ++ [_] = _
    rw [List.map_replicate]
    unfold brP postP
    simp only [List.append_assoc, List.cons_append, List.nil_append]
  unfold AsmS.mark brS
  have h12 := l12 nm m
  rw [e] at h12 ⊢
  rw [h12]
  have h8 : ((b8 m).ps.length : Int) = ((m + 3 : Nat) : Int) := by rw [l8]
  congr 1
  funext j
  show (if j = 2 then _ else (if j = 0 then some ((b8 m).ps.length : Int) else (if j = 1 then some 1 else none))) = _
  rw [h8]
theorem good_br (nm : ByteArray) (m : Nat) (hm : m ≤ 2500) : As.Good (brS nm m) := by
  rw [← b13_is]
  have g7 : As.Good b7 := good_push (good_puts (good_mark (good_push (good_label good_0 _) (by show I64 0; exact i64_0) (by decide)) 1) _ (by decide)) (by show I64 2; unfold I64; omega) (by decide)
  have g8 : As.Good (b8 m) := good_puts g7 _ (by rw [l7, List.length_replicate]; omega)
  have g11 : As.Good (b11 nm m) := good_push (good_push (good_mark g8 0) (by show I64 1; exact i64_1) (by show (b8 m).ps.length + 1 < _; rw [l8]; omega)) (by show I64 1; exact i64_1) (by show (b10 m).ps.length + 1 < _; rw [l10]; omega)
  exact good_mark (good_puts g11 _ (by rw [l11]; show m + 5 + 1 < _; omega)) 2
theorem enc5 : ∃ a, encF (oInc 5).name 5 5 0 1 = (a, 0) := ⟨(encF (oInc 5).name 5 5 0 1).1, by decide +kernel⟩
theorem enc6 : ∃ a, encF (oInc 6).name 6 6 0 1 = (a, 0) := ⟨(encF (oInc 6).name 6 6 0 1).1, by decide +kernel⟩
theorem enc8 : ∃ a, encF (oInc 8).name 8 8 0 1 = (a, 0) := ⟨(encF (oInc 8).name 8 8 0 1).1, by decide +kernel⟩
theorem names_cell {w : World} {L : Nat} (h : w.heap[L]? = some (.cells #[.string (brN 0), .string (brN 1), .string (brN 2), .string (brN 3), .string (brN 4), .string (brN 5)] 9 (0, 0))) {i : Nat} (hi : i < 6) :
    w.cell? ⟨L, i, none⟩ = some (.string (brN i)) := by
  refine (blk_cell h _).trans ?_
  rcases six hi with rfl | rfl | rfl | rfl | rfl | rfl <;> rfl
set_option maxHeartbeats 8000000 in
set_option maxRecDepth 100000 in
theorem branches_walk (n : Int) {x y : Int} (hx : U64 x) (hy : U64 y) (w : World) : Calls Try.prog 14 #[.int .i64 n, .int .u64 x, .int .u64 y] w fun e w' => e = .returned (.bool true) ∧ Below w.heap.size w w' := by
  have HX := Aside0.mk hx
  have HY := Aside0.mk hy
  clear hx hy
  go_enter Try.func14, Try.ntmps14
  go_wp2_with fail
  refine (works29_calls _).mono ?_
  rintro e w0 ⟨rfl, hb0⟩
  have B0 := Aside0.mk hb0
  clear hb0
  go_wp2_with fail
  refine (below_calls n 2501 (by decide) (by decide) _).mono ?_
  rintro e w1 ⟨rfl, rfl⟩
  obtain ⟨m, hm⟩ : ∃ m : Nat, n % 2501 = (m : Int) := ⟨(n % 2501).toNat, by omega⟩
  have hm2 : m ≤ 2500 := by omega
  rw [hm]
  clear hm
  have WR := Aside0.mk (fun i (hi : i < 6) => names_cell (heap_alloc_last w1 (.cells #[.string (brN 0), .string (brN 1), .string (brN 2), .string (brN 3), .string (brN 4), .string (brN 5)] 9)) hi)
  have hL : w1.heap.size < (w1.alloc (.cells #[.string (brN 0), .string (brN 1), .string (brN 2), .string (brN 3), .string (brN 4), .string (brN 5)] 9)).heap.size := by simp
  have BL := Aside0.mk (below_alloc B0.out (.cells #[.string (brN 0), .string (brN 1), .string (brN 2), .string (brN 3), .string (brN 4), .string (brN 5)] 9))
  go_wp2_with fail
  show Code.wp _ _ _ _ (w1.alloc (.cells #[.string (brN 0), .string (brN 1), .string (brN 2), .string (brN 3), .string (brN 4), .string (brN 5)] 9))
  generalize w1.alloc (.cells #[.string (brN 0), .string (brN 1), .string (brN 2), .string (brN 3), .string (brN 4), .string (brN 5)] 9) = W at *
  go_loopw [8, 9, 10, 11, 12, 13, 14, 15, 16, 17, 18, 19, 20, 27] (fun _ _ _ _ _ _ _ _ _ _ _ _ _ v27 wr => ∃ i : Nat, i ≤ 6 ∧ v27 = .int .i64 i ∧ Aside0 (Below W.heap.size W wr)) (fun _ _ _ _ _ _ _ _ _ _ _ _ _ v27 _ => 6 - (intOf v27).toNat)
  case atStart => exact ⟨0, by omega, rfl, ⟨Below.refl _ _⟩⟩
  case round =>
    obtain ⟨i, hi, rfl, hB⟩ := hrel
    by_cases hlt : i < 6
    · have hc := WR.out i hlt
      rw [← hB.out.cell (p := ⟨w1.heap.size, i, none⟩) hL] at hc
      obtain ⟨hBr, hBt⟩ := br_is hlt
      have HI := Aside0.mk hlt
      go_wp2_with fail
      refine (new_calls _).mono ?_
      rintro e w2 ⟨p, rfl, hp, hA, hb⟩
      have A2 := Aside0.mk (show AsmAt w2 wr.heap.size p A0 from hA)
      have B2 := Aside0.mk hb
      clear hA hb hp
      go_wp2_with fail
      refine (label_calls A2.out (by decide) (by decide)).mono ?_
      rintro e w3 ⟨rfl, hA, hF⟩
      have A3 := Aside0.mk (show AsmAt w3 wr.heap.size p bl1 from hA)
      have B3 := Aside0.mk (B2.out.trans (below_fr hF (Nat.le_refl _) B2.out.size))
      rw [show A0.labels = 0 from rfl]
      clear hA hF
      go_wp2_with fail
      refine (label_calls A3.out (by decide) (by decide)).mono ?_
      rintro e w4 ⟨rfl, hA, hF⟩
      have A4 := Aside0.mk (show AsmAt w4 wr.heap.size p bl2 from hA)
      have B4 := Aside0.mk (B3.out.trans (below_fr hF (Nat.le_refl _) B3.out.size))
      rw [show bl1.labels = 1 from rfl]
      clear hA hF
      go_wp2_with fail
      refine (label_calls A4.out (by decide) (by decide)).mono ?_
      rintro e w5 ⟨rfl, hA, hF⟩
      have A5 := Aside0.mk (show AsmAt w5 wr.heap.size p bl3 from hA)
      have B5 := Aside0.mk (B4.out.trans (below_fr hF (Nat.le_refl _) B4.out.size))
      rw [show bl2.labels = 2 from rfl]
      clear hA hF
      go_wp2_with fail
      refine (Jump_calls A5.out (by decide) 0 0).mono ?_
      rintro e w6 ⟨rfl, hA, hF⟩
      rw [c4] at hA ⊢
      have A6 := Aside0.mk (show AsmAt w6 wr.heap.size p b4 from hA)
      have B6 := Aside0.mk (B5.out.trans (below_fr hF (Nat.le_refl _) B5.out.size))
      clear hA hF
      go_wp2_with fail
      refine (Mark_calls A6.out (by decide) (show 0 < 1000000000 by decide) i64_1).mono ?_
      rintro e w7 ⟨rfl, hA, hF⟩
      rw [c5] at hA ⊢
      have A7 := Aside0.mk (show AsmAt w7 wr.heap.size p b5 from hA)
      have B7 := Aside0.mk (B6.out.trans (below_fr hF (Nat.le_refl _) B6.out.size))
      clear hA hF
      go_wp2_with fail
      obtain ⟨a5, ha5⟩ := enc5
      refine (fill_calls A7.out 1 (by decide) (by decide) 5 a5 ha5).mono ?_
      rintro e w8 ⟨rfl, hA, hF⟩
      have A8 := Aside0.mk (show AsmAt w8 wr.heap.size p b6 from hA)
      have B8 := Aside0.mk (B7.out.trans (below_fr hF (Nat.le_refl _) B7.out.size))
      clear hA hF
      go_wp2_with fail
      refine (Jump_calls A8.out (by decide) 0 2).mono ?_
      rintro e w9 ⟨rfl, hA, hF⟩
      rw [c7] at hA ⊢
      have A9 := Aside0.mk (show AsmAt w9 wr.heap.size p b7 from hA)
      have B9 := Aside0.mk (B8.out.trans (below_fr hF (Nat.le_refl _) B8.out.size))
      clear hA hF
      go_wp2_with fail
      obtain ⟨a6, ha6⟩ := enc6
      refine (fill_calls A9.out m (by omega) (by decide) 6 a6 ha6).mono ?_
      rintro e w10 ⟨rfl, hA, hF⟩
      have A10 := Aside0.mk (show AsmAt w10 wr.heap.size p (b8 m) from hA)
      have B10 := Aside0.mk (B9.out.trans (below_fr hF (Nat.le_refl _) B9.out.size))
      clear hA hF
      go_wp2_with fail
      refine (Mark_calls A10.out (by rw [l8]; omega) (show 1 < 1000000000 by decide) i64_0).mono ?_
      rintro e w11 ⟨rfl, hA, hF⟩
      rw [c9] at hA ⊢
      have A11 := Aside0.mk (show AsmAt w11 wr.heap.size p (b9 m) from hA)
      have B11 := Aside0.mk (B10.out.trans (below_fr hF (Nat.le_refl _) B10.out.size))
      clear hA hF
      go_wp2_with fail
      refine (Address_calls A11.out (by show (b8 m).ps.length < _; rw [l8]; omega) 7 1).mono ?_
      rintro e w12 ⟨rfl, hA, hF⟩
      rw [c10] at hA ⊢
      have A12 := Aside0.mk (show AsmAt w12 wr.heap.size p (b10 m) from hA)
      have B12 := Aside0.mk (B11.out.trans (below_fr hF (Nat.le_refl _) B11.out.size))
      clear hA hF
      go_wp2_with fail
      refine (Branch_calls A12.out (by rw [l10]; omega) (brN i) 1 2 1).mono ?_
      rintro e w13 ⟨rfl, hA, hF⟩
      rw [c11 hlt] at hA ⊢
      have A13 := Aside0.mk (show AsmAt w13 wr.heap.size p (b11 (brN i) m) from hA)
      have B13 := Aside0.mk (B12.out.trans (below_fr hF (Nat.le_refl _) B12.out.size))
      clear hA hF
      go_wp2_with fail
      obtain ⟨a8, ha8⟩ := enc8
      refine (fill_calls A13.out 1 (by decide) (by rw [l11]; omega) 8 a8 ha8).mono ?_
      rintro e w14 ⟨rfl, hA, hF⟩
      have A14 := Aside0.mk (show AsmAt w14 wr.heap.size p (b12 (brN i) m) from hA)
      have B14 := Aside0.mk (B13.out.trans (below_fr hF (Nat.le_refl _) B13.out.size))
      clear hA hF
      go_wp2_with fail
      refine (Mark_calls A14.out (by rw [l12]; omega) (show 2 < 1000000000 by decide) (show I64 2 by unfold I64; omega)).mono ?_
      rintro e w15 ⟨rfl, hA, hF⟩
      rw [c13] at hA ⊢
      have A15 := Aside0.mk (show AsmAt w15 wr.heap.size p ((b12 (brN i) m).mark 2) from hA)
      have B15 := Aside0.mk (B14.out.trans (below_fr hF (Nat.le_refl _) B14.out.size))
      clear hA hF
      go_wp2_with fail
      rw [b13_is] at A15
      obtain ⟨bs, he⟩ := enc_br hBr hBt hm2
      have hlen := encB_len _ _ he
      have hln := brL_len (brN i) m (decide (1020 < m))
      obtain ⟨SB, NB, hrun, hn1, hn2, hd⟩ := run_br hBr hBt (turn_taken i hlt) hm2 he x y
      have hbl : bs.length < 100000 := by rw [hlen, hln]; split <;> omega
      rw [show (4096 : Int) + 4 * ((brL (brN i) m (decide (1020 < m))).length : Int) = 4096 + (bs.length : Int) by rw [hlen]; omega] at hrun
      have TC := Text_calls A15.out (good_br (brN i) m hm2) (As.good_settle (good_br (brN i) m hm2))
      rw [text_br _ m hm2 he] at TC
      have TC := Aside0.mk TC
      have HRUN := Aside0.mk hrun
      have HD := Aside0.mk hd
      have HPL := Aside0.mk (place_br (brN i) m hm2)
      have HGS := Aside0.mk (As.good_settle (good_br (brN i) m hm2))
      clear hrun hd he hlen hln hc
      refine TC.out.mono ?_
      rintro e w16 ⟨rfl, hA, hF⟩
      have A16 := Aside0.mk hA
      have B16 := Aside0.mk (B15.out.trans (below_fr hF (Nat.le_refl _) B15.out.size))
      clear TC hA hF
      have hss := strOf_size bs
      obtain ⟨BN, hBN⟩ : ∃ BN, bs.length = BN := ⟨_, rfl⟩
      rw [hBN] at hss hbl
      have hns : ¬ 9223372036854775807 < (strOf bs).size + 1 := by rw [hss]; omega
      have hok : RegsOk [regOf 4096 bs] := regOf_ok (by decide) (by decide) (by omega)
      have MG := Aside0.mk (memOf_good hok (by simp))
      have MC := Aside0.mk (MemNew_calls (w := w16.alloc (.cells #[.int .u64 4096, .string (strOf bs ++ ⟨#[0]⟩), .int .i64 4] 92)) (L := w16.heap.size) (off := 0) (cap := 1) [regOf 4096 bs] hok (by simp)
        (fun i h => by
          obtain rfl : i = 0 := by simpa using h
          have c := blk_cell (heap_alloc_last w16 (.cells #[.int .u64 4096, .string (strOf bs ++ ⟨#[0]⟩), .int .i64 4] 92))
          exact ⟨c 0, c 1, c 2⟩) (by simp))
      have HBN := Aside0.mk hBN
      clear hok hBN
      go_wp2_with fail
      refine MC.out.mono ?_
      rintro e w17 ⟨⟨mp, pv, gs, rfl, hmp, hS⟩, hb5⟩
      obtain ⟨q, hM, hq⟩ := hS.mem (by simp)
      have NC := Aside0.mk (New_calls hM hS.nd 4096)
      have hge := fun g hg => (hS.ge g hg).1
      have bza := (below_alloc (Below.refl w16.heap.size w16) (.cells #[.int .u64 4096, .string (strOf bs ++ ⟨#[0]⟩), .int .i64 4] 92))
      have bz : w16.heap.size ≤ (w16.alloc (.cells #[.int .u64 4096, .string (strOf bs ++ ⟨#[0]⟩), .int .i64 4] 92)).heap.size := bza.size
      have B17 := Aside0.mk (bza.trans (hb5.mono bz))
      have bz5 : w16.heap.size ≤ w17.heap.size := B17.out.size
      clear hS hM MC hb5 hns bza
      go_wp2_with fail
      refine NC.out.mono ?_
      rintro e w18 ⟨rfl, h6, hb6⟩
      have HFB : ∀ k, HF (w17.heap.size + 1) ⟨mp, q, w17.heap.size, gs⟩ k → w16.heap.size ≤ k := by
        rintro k (rfl | rfl | rfl | hk)
        · omega
        · exact bz5
        · exact Nat.le_trans bz hmp
        · exact Nat.le_trans bz (hge k hk)
      have HFB := Aside0.mk HFB
      have g6 : GoodH (new0 (memOf [regOf 4096 bs]) 4096) := new_good MG.out ⟨by decide, by decide⟩
      have B18 := Aside0.mk (B17.out.trans (hb6.mono bz5))
      have H18 := Aside0.mk h6
      have G18 := Aside0.mk g6
      clear NC hge hb6 h6 g6 hmp
      go_wp2_with fail
      refine (Set_calls H18.out 1 x).mono ?_
      rintro e w19 ⟨rfl, h9, k9⟩
      have B19 := Aside0.mk (B18.out.trans (k9.below B18.out.size HFB.out))
      have H19 := Aside0.mk h9
      have G19 := Aside0.mk (put_good G18.out 1 HX.out)
      clear h9 k9
      go_wp2_with fail
      refine (Set_calls H19.out 2 y).mono ?_
      rintro e w20 ⟨rfl, h9, k9⟩
      have B20 := Aside0.mk (B19.out.trans (k9.below B19.out.size HFB.out))
      have RC := Run_calls h9 (put_good G19.out 2 HY.out) (4096 + (bs.length : Int)) 10 (by decide) (by decide)
      rw [show ((new0 (memOf [regOf 4096 bs]) 4096).put 1 x).put 2 y = runH bs x y from rfl, show (10 : Int).toNat = 10 from rfl, HRUN.out, HBN.out] at RC
      have RC := Aside0.mk RC
      have u1 : IntKind.u64.wrap (4096 + (BN : Int)) = 4096 + (BN : Int) := by rw [IntKind.wrap_u64]; omega
      clear h9 k9
      go_wp2_with fail
      refine RC.out.mono ?_
      rintro e w21 ⟨rfl, ⟨ms, hms, h9⟩, g9, k9⟩
      have B21 := Aside0.mk (B20.out.trans (k9.below B20.out.size HFB.out))
      have A21 := Aside0.mk (A16.out.below B21.out)
      have H21 := Aside0.mk h9
      clear RC h9 g9 k9 hms
      have PLC := Place_calls A21.out HGS.out (label := 1) i64_1
      rw [HPL.out] at PLC
      have PLC := Aside0.mk PLC
      have TKC := Aside0.mk (taken51_calls hlt x y)
      have q7 : SB.reg 7 = 4100 := (reg_ra (by decide)).trans HD.out.r7
      have q6 : SB.reg 6 = 0 := (reg_ra (by decide)).trans HD.out.r6
      have R7 := Reg_calls H21.out 7
      have R6 := Reg_calls H21.out 6
      rw [q7] at R7
      rw [q6] at R6
      have R7 := Aside0.mk R7
      have R6 := Aside0.mk R6
      have hn1' : ¬ ((NB : Int) < 4) := by omega
      clear q7 q6
      generalize takenF (brN i) x y = TK at *
      have htk : TK = true ∨ TK = false := by cases TK <;> simp
      rcases htk with rfl | rfl
      all_goals
        first
          | have q5 : SB.reg 5 = 1 := (reg_ra (by decide)).trans HD.out.r5
          | have q5 : SB.reg 5 = 0 := (reg_ra (by decide)).trans HD.out.r5
        first
          | have q8 : SB.reg 8 = 1 := (reg_ra (by decide)).trans HD.out.r8
          | have q8 : SB.reg 8 = 0 := (reg_ra (by decide)).trans HD.out.r8
        have R5 := Reg_calls H21.out 5
        have R8 := Reg_calls H21.out 8
        rw [q5] at R5
        rw [q8] at R8
        have R5 := Aside0.mk R5
        have R8 := Aside0.mk R8
        clear q5 q8
        go_wp2_with fail
        refine R5.out.mono ?_
        rintro e z1 ⟨rfl, rfl⟩
        go_wp2_with fail
        refine R6.out.mono ?_
        rintro e z2 ⟨rfl, rfl⟩
        go_wp2_with fail
        refine R8.out.mono ?_
        rintro e z3 ⟨rfl, rfl⟩
        go_wp2_with fail
        refine R7.out.mono ?_
        rintro e z4 ⟨rfl, rfl⟩
        go_wp2_with fail
        refine PLC.out.mono ?_
        rintro e z5 ⟨rfl, hA, hF⟩
        have B22 := Aside0.mk ((B16.out.trans (B21.out.mono B16.out.size)).trans (below_fr hF (Nat.le_refl _) (Nat.le_trans B16.out.size B21.out.size)))
        clear hA hF
        go_wp2_with fail
        refine (TKC.out _).mono ?_
        rintro e z6 ⟨rfl, rfl⟩
        go_wp2
        exact ⟨⟨i + 1, by omega, by simp, ⟨hB.out.trans (B22.out.mono hB.out.size)⟩⟩, by simp [intOf]; omega⟩
    · obtain rfl : i = 6 := by omega
      rw [show ((6 : Nat) : Int) = 6 from rfl]
      go_wp2
      go_ret
      exact ⟨by simp, BL.out.trans (hB.out.mono BL.out.size)⟩
end Go.Proofs.Ytciehejifdbpoaa.Ab
