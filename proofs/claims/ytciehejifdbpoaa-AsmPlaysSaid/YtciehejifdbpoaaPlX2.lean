import Derived.Test.YtciehejifdbpoaaPlX1
import Derived.Test.YtciehejifdbpoaaPlL
import Derived.Test.YtciehejifdbpoaaPlW
section
set_option linter.unusedSimpArgs false
set_option linter.unusedVariables false
namespace Go.Proofs.Ytciehejifdbpoaa.Ap
open Go.RowKit Go.Maps Go.Proofs.Ytciehejifdbpoaa.Grow Go.Proofs.Ytciehejifdbpoaa.Rv Go.Proofs.Ytciehejifdbpoaa.As
open Go.Proofs.YtciehejifdbpoaaW.PrintWords Go.Proofs.YtciehejifdbpoaaW.PrintLast Go.Proofs.YtciehejifdbpoaaW.PrintMore

/-! ### The plain law: what the document makes of pieces is what the text is made of -/
def encOf (y : OpI) : Int × Int := encF y.name y.rd y.ra y.rb y.imm
theorem reg_ok' {r : Int} (h : 0 ≤ r ∧ r ≤ 31) : regB r true = true := by
  unfold regB
  simp only [Bool.or_eq_true, beq_iff_eq, Bool.and_eq_true, decide_eq_true_eq, Bool.true_and]
  omega
theorem reg_no : regB 0 false = true := by decide
theorem mod_one' (x : Int) : (x.tmod 1 != 0) = false := by rw [Int.tmod_one]; rfl
theorem mod_two {x : Int} (h : x % 2 = 0) : (x.tmod 2 != 0) = false := by rw [Int.tmod_eq_zero_of_dvd (Int.dvd_of_emod_eq_zero h)]; rfl
theorem enc_fit {nm : ByteArray} {f rd ra rb imm : Int} (h : nIdx nm < 64 ∧ (kd (nIdx nm)).2.1 = f) (ho : encOk f rd ra rb imm = true) : (encOf ⟨nm, rd, ra, rb, imm⟩).2 = 0 := by
  unfold encOf encF
  rw [if_pos ⟨h.1, by rw [h.2]; exact ho⟩]
def nJ : ByteArray := ⟨#[106, 97, 108]⟩
def nAu : ByteArray := ⟨#[97, 117, 105, 112, 99]⟩
def nAd : ByteArray := ⟨#[97, 100, 100, 105]⟩
theorem ix_br {k : Nat} (h : k < 6) : nIdx (tA k) < 64 ∧ (kd (nIdx (tA k))).2.1 = 5 := by
  rcases six h with rfl | rfl | rfl | rfl | rfl | rfl <;> decide +kernel
theorem ix_br2 {k : Nat} (h : k < 6) : nIdx (tB k) < 64 ∧ (kd (nIdx (tB k))).2.1 = 5 := by
  rcases six h with rfl | rfl | rfl | rfl | rfl | rfl <;> decide +kernel
theorem ix_jal : nIdx nJ < 64 ∧ (kd (nIdx nJ)).2.1 = 7 := by decide +kernel
theorem ix_auipc : nIdx nAu < 64 ∧ (kd (nIdx nAu)).2.1 = 6 := by decide +kernel
theorem ix_addi : nIdx nAd < 64 ∧ (kd (nIdx nAd)).2.1 = 1 := by decide +kernel
theorem fit_br {nm : ByteArray} (hi : nIdx nm < 64 ∧ (kd (nIdx nm)).2.1 = 5) {a b n : Int} (ha : 0 ≤ a ∧ a ≤ 31) (hb : 0 ≤ b ∧ b ≤ 31) (h1 : -4096 ≤ n) (h2 : n ≤ 4094) (h3 : n % 2 = 0) : (encOf ⟨nm, 0, a, b, n⟩).2 = 0 :=
  enc_fit hi (encOk_iff.2 ⟨reg_no, reg_ok' ha, reg_ok' hb, h1, h2, mod_two h3⟩)
theorem fit_jal {r n : Int} (hr : 0 ≤ r ∧ r ≤ 31) (h1 : -1048576 ≤ n) (h2 : n ≤ 1048574) (h3 : n % 2 = 0) : (encOf ⟨nJ, r, 0, 0, n⟩).2 = 0 :=
  enc_fit ix_jal (encOk_iff.2 ⟨reg_ok' hr, reg_no, reg_no, h1, h2, mod_two h3⟩)
theorem fit_auipc {r n : Int} (hr : 0 ≤ r ∧ r ≤ 31) (h1 : -524288 ≤ n) (h2 : n ≤ 524287) : (encOf ⟨nAu, r, 0, 0, n⟩).2 = 0 :=
  enc_fit ix_auipc (encOk_iff.2 ⟨reg_ok' hr, reg_no, reg_no, h1, h2, mod_one' n⟩)
theorem fit_addi {r a n : Int} (hr : 0 ≤ r ∧ r ≤ 31) (ha : 0 ≤ a ∧ a ≤ 31) (h1 : -2048 ≤ n) (h2 : n ≤ 2047) : (encOf ⟨nAd, r, a, 0, n⟩).2 = 0 :=
  enc_fit ix_addi (encOk_iff.2 ⟨reg_ok' hr, reg_ok' ha, reg_no, h1, h2, mod_one' n⟩)

/-- A piece as all calls make it. -/
structure PcOk (x : Pc) : Prop where
  short : x.long = false
  kind : (x.sort = 0 ∧ (encOf x.op).2 = 0) ∨ (x.sort = 1 ∧ (∃ k, k < 6 ∧ x.op.name = tA k) ∧ x.op.rd = 0 ∧ x.op.imm = 0 ∧ (0 ≤ x.op.ra ∧ x.op.ra ≤ 31) ∧ (0 ≤ x.op.rb ∧ x.op.rb ≤ 31)) ∨
    (x.sort = 2 ∧ (0 ≤ x.op.rd ∧ x.op.rd ≤ 31) ∧ x.op = ⟨nJ, x.op.rd, 0, 0, 0⟩) ∨ (x.sort = 3 ∧ (0 ≤ x.op.rd ∧ x.op.rd ≤ 31) ∧ x.op = ⟨nAu, x.op.rd, 0, 0, 0⟩)
def farR (x : Pc) (l : Bool) (far : Int) : List OpI :=
  if x.sort = 3 then [⟨nAu, x.op.rd, 0, 0, (far + 2048) / 4096⟩, ⟨nAd, x.op.rd, x.op.rd, 0, far - (far + 2048) / 4096 * 4096⟩]
  else if l = true then [⟨turnF x.op.name, 0, x.op.ra, x.op.rb, 8⟩, ⟨nJ, 0, 0, 0, far - 4⟩]
  else [⟨x.op.name, x.op.rd, x.op.ra, x.op.rb, far⟩]
def pieceR (A : AsmS) (ms : List Int) (f : Nat → Bool) (k : Nat) (x : Pc) : Option (List OpI) :=
  if x.sort = 0 then some [x.op]
  else if ms.getD x.label.toNat 0 < 0 then none
  else some (farR x (f k) (posL A f (ms.getD x.label.toNat 0).toNat - posL A f k))
/-- The instructions of the first pieces, by the document. -/
def opsR (A : AsmS) (ms : List Int) (f : Nat → Bool) : Nat → Option (List OpI)
  | 0 => some []
  | k + 1 => (opsR A ms f k).bind fun l => (A.ps[k]?).bind fun x => (pieceR A ms f k x).map fun m => l ++ m
theorem opsR_none {A : AsmS} {ms : List Int} {f : Nat → Bool} {k : Nat} (h : opsR A ms f k = none) : ∀ m, opsR A ms f (k + m) = none
  | 0 => h
  | m + 1 => by rw [← Nat.add_assoc]; show (opsR A ms f (k + m)).bind _ = none; rw [opsR_none h m]; rfl
theorem opsR_go {A : AsmS} {ms : List Int} {f : Nat → Bool} {k : Nat} {l m : List OpI} {x : Pc} (h : opsR A ms f k = some l) (hk : k < A.ps.length) (hx : A.ps[k] = x) (hp : pieceR A ms f k x = some m) : opsR A ms f (k + 1) = some (l ++ m) := by
  show (opsR A ms f k).bind _ = _
  rw [h, Option.bind_some, List.getElem?_eq_getElem hk, Option.bind_some, hx, hp]; rfl
theorem opsR_stop {A : AsmS} {ms : List Int} {f : Nat → Bool} {k : Nat} {x : Pc} (hk : k < A.ps.length) (hx : A.ps[k] = x) (hp : pieceR A ms f k x = none) : opsR A ms f A.ps.length = none := by
  have : opsR A ms f (k + 1) = none := by
    show (opsR A ms f k).bind _ = none
    cases opsR A ms f k with
    | none => rfl
    | some l => rw [Option.bind_some, List.getElem?_eq_getElem hk, Option.bind_some, hx, hp]; rfl
  have := opsR_none this (A.ps.length - (k + 1))
  rwa [show k + 1 + (A.ps.length - (k + 1)) = A.ps.length by omega] at this
theorem encB_cons (x : OpI) (l : List OpI) : encB (x :: l) = if (encOf x).2 = 0 then (encB l).map fun bs => encB.wordB (encOf x).1 ++ bs else none := rfl
theorem encB_app : ∀ {l m : List OpI} {bs cs : List Int}, encB l = some bs → encB m = some cs → encB (l ++ m) = some (bs ++ cs)
  | [], _, _, _, h, h' => by simp only [encB, Option.some.injEq] at h; subst h; exact h'
  | x :: l, m, bs, cs, h, h' => by
    rw [List.cons_append, encB_cons]
    rw [encB_cons] at h
    split at h
    · rename_i hx
      obtain ⟨ds, hd, rfl⟩ := Option.map_eq_some_iff.1 h
      rw [if_pos hx, encB_app hd h']
      simp
    · cases h
theorem encB_fit : ∀ l : List OpI, (∀ x ∈ l, (encOf x).2 = 0) → ∃ bs, encB l = some bs
  | [], _ => ⟨[], rfl⟩
  | x :: l, h => by
    obtain ⟨bs, hb⟩ := encB_fit l fun y hy => h y (List.mem_cons_of_mem _ hy)
    rw [encB_cons, if_pos (h x (List.mem_cons_self ..)), hb]
    exact ⟨_, rfl⟩
theorem itL_sort {A : AsmS} {i : Nat} (hi : i < A.ps.length) : ∀ j, itL A j i = true → A.ps[i].sort = 1
  | 0, h => by simp [itL] at h
  | j + 1, h => by
    have h : (itL A j i || needs A (itL A j) i) = true := h
    rw [Bool.or_eq_true] at h
    rcases h with h | h
    · exact itL_sort hi j h
    · refine Classical.byContradiction fun hs => ?_
      rw [Ap.needs_sort _ hi hs] at h; cases h
theorem longF_sort {A : AsmS} {i : Nat} (hi : i < A.ps.length) (h : longF A i = true) : A.ps[i].sort = 1 := itL_sort hi _ h
theorem itL_cnt (A : AsmS) : ∀ j, stepL A (itL A j) = itL A j ∨ j + 1 ≤ cntT (itL A (j + 1)) A.ps.length ∧ j ≤ cntT (itL A j) A.ps.length
  | 0 => by
    cases ha : anyN A (itL A 0) A.ps.length
    · exact .inl (anyN_false ha)
    · obtain ⟨i, hi⟩ := anyN_true ha
      exact .inr ⟨itL_more (Nat.zero_le _) hi, Nat.zero_le _⟩
  | j + 1 => by
    cases ha : anyN A (itL A (j + 1)) A.ps.length
    · exact .inl (anyN_false ha)
    · obtain ⟨i, hi⟩ := anyN_true ha
      rcases itL_cnt A j with h | h
      · have e : itL A (j + 1) = itL A j := h
        rw [e] at hi
        have hn := needs_lt hi
        have : stepL A (itL A j) i = itL A j i := by rw [h]
        unfold stepL at this
        rw [hi, hn.2] at this
        cases this
      · exact .inr ⟨itL_more h.1 hi, h.1⟩
theorem longF_fix (A : AsmS) : stepL A (longF A) = longF A := by
  rcases itL_cnt A (A.ps.length + 1) with h | h
  · exact h
  · have := cntT_le (itL A (A.ps.length + 1)) A.ps.length
    omega
theorem longF_needs {A : AsmS} {i : Nat} (h : longF A i = false) : needs A (longF A) i = false := by
  have : stepL A (longF A) i = longF A i := by rw [longF_fix]
  unfold stepL at this
  rw [h] at this
  simpa using this
theorem reach_far {d e : Int} (h1 : -e ≤ d) (h2 : d < e) (he : 0 < e) (he2 : e < 4611686018427387904) : reachF d e = true := by
  unfold reachF
  rw [show wrap64 (-e) = -e by unfold wrap64; omega]
  simp [h1, h2]
theorem mem_two {P : OpI → Prop} {x y : OpI} (hx : P x) (hy : P y) : ∀ z ∈ [x, y], P z := by
  intro z hz
  simp only [List.mem_cons, List.not_mem_nil, or_false] at hz
  rcases hz with rfl | rfl <;> assumption
/-- What is a piece of the settled code made of? -/
theorem piece_ops {A : AsmS} {ms : List Int} (T : Tie A ms) (hn : A.ps.length < 100000) {k : Nat} (hk : k < A.ps.length) (hok : PcOk A.ps[k]) :
    opsAt (settleF A) k { A.ps[k] with long := longF A k } = pieceR A ms (longF A) k A.ps[k] ∧ ∀ l, pieceR A ms (longF A) k A.ps[k] = some l → ∀ y ∈ l, (encOf y).2 = 0 := by
  obtain ⟨x, hx⟩ : ∃ x, A.ps[k] = x := ⟨_, rfl⟩
  have hlab := T.labs k hk
  have hls := @longF_sort A k hk
  have hnl := @longF_needs A k
  have hnr := fun h1 hf => needs_ref T (by omega) (longF A) hk h1 hf
  rw [hx] at hok hlab hls hnr ⊢
  have e := size_mod x
  unfold opsAt pieceR
  by_cases h0 : x.sort = 0
  · rw [if_pos (show ({ x with long := longF A k } : Pc).sort = 0 from h0), if_pos h0]
    refine ⟨rfl, ?_⟩
    rintro l ⟨⟩ y hy
    rcases hok.kind with h | h | h | h
    · simp only [List.mem_cons, List.not_mem_nil, or_false] at hy; subst hy; exact h.2
    · omega
    · omega
    · omega
  · rw [if_neg (show ¬ ({ x with long := longF A k } : Pc).sort = 0 from h0), if_neg h0]
    obtain ⟨l0, l1⟩ := hlab h0
    have hm := T.marks x.label.toNat (by omega)
    have ht := T.top x.label.toNat (by omega)
    rw [show ((x.label.toNat : Nat) : Int) = x.label by omega] at hm
    obtain ⟨M, hM⟩ : ∃ M, ms.getD x.label.toNat 0 = M := ⟨_, rfl⟩
    rw [hM] at hm ht hnr ⊢
    show (match A.marks x.label with | none => none | some t => _) = _ ∧ _
    rw [hm]
    by_cases hM0 : 0 ≤ M
    · rw [if_pos hM0, if_neg (by omega : ¬ M < 0)]
      simp only []
      show (if (opsF { x with long := longF A k } (wrap64 (posL A (longF A) M.toNat - posL A (longF A) k))).2 = true then some (opsF { x with long := longF A k } (wrap64 (posL A (longF A) M.toNat - posL A (longF A) k))).1 else none) = _ ∧ _
      have b1 := posF_b (withL A.ps (longF A)) M.toNat
      have b2 := posF_b (withL A.ps (longF A)) k
      have m1 := posF_mod (withL A.ps (longF A)) M.toNat
      have m2 := posF_mod (withL A.ps (longF A)) k
      have d4 : (posL A (longF A) M.toNat - posL A (longF A) k) % 4 = 0 := by unfold posL; omega
      have d1 : -800000 ≤ posL A (longF A) M.toNat - posL A (longF A) k := by unfold posL; omega
      have d2 : posL A (longF A) M.toNat - posL A (longF A) k ≤ 800000 := by unfold posL; omega
      generalize posL A (longF A) M.toNat - posL A (longF A) k = d at *
      clear b1 b2 m1 m2 hm ht hM
      have hw : wrap64 d = d := by unfold wrap64; omega
      rw [hw]
      have go : ∀ L, opsF { x with long := longF A k } d = (L, true) → farR x (longF A k) d = L → (∀ y ∈ L, (encOf y).2 = 0) →
          (if (opsF { x with long := longF A k } d).2 = true then some (opsF { x with long := longF A k } d).1 else none) = some (farR x (longF A k) d) ∧ ∀ l, some (farR x (longF A k) d) = some l → ∀ y ∈ l, (encOf y).2 = 0 := by
        intro L g1 g2 g3
        rw [g1, g2, if_pos rfl]
        exact ⟨rfl, fun l hl => by injection hl with hl; subst hl; exact g3⟩
      have one : ∀ {P : OpI → Prop} {y : OpI}, P y → ∀ z ∈ [y], P z := fun {P y} hy z hz => by
        simp only [List.mem_cons, List.not_mem_nil, or_false] at hz; subst hz; exact hy
      rcases hok.kind with h | ⟨h1, ⟨j, hj, hnm⟩, hrd, him, hra, hrb⟩ | ⟨h2, hr, ho⟩ | ⟨h3, hr, ho⟩
      · exact absurd h.1 h0
      · cases hl : longF A k
        · have hnf := hnl hl
          rw [hnr h1 hl, if_pos hM0] at hnf
          unfold farOut at hnf
          simp only [Bool.or_eq_false_iff, decide_eq_false_iff_not] at hnf
          rw [hl] at go
          refine go [⟨x.op.name, x.op.rd, x.op.ra, x.op.rb, d⟩] ?_ ?_ ?_
          · unfold opsF
            rw [if_neg (show ¬ x.sort = 2 by omega), if_neg (show ¬ x.sort = 3 by omega), if_pos rfl]
          · unfold farR
            rw [if_neg (show ¬ x.sort = 3 by omega), if_neg (by simp)]
          · refine one ?_
            rw [hrd, hnm]
            exact fit_br (ix_br hj) hra hrb (by omega) (by omega) (by omega)
        · rw [hl] at go
          have e4 : wrap64 (d - 4) = d - 4 := by unfold wrap64; omega
          refine go [⟨turnF x.op.name, 0, x.op.ra, x.op.rb, 8⟩, ⟨nJ, 0, 0, 0, d - 4⟩] ?_ ?_ ?_
          · unfold opsF
            rw [if_neg (show ¬ x.sort = 2 by omega), if_neg (show ¬ x.sort = 3 by omega), if_neg (by simp), e4, reach_far (d := d - 4) (e := 1048576) (by omega) (by omega) (by decide) (by decide), ← hrd]
            rfl
          · unfold farR
            rw [if_neg (show ¬ x.sort = 3 by omega), if_pos rfl]
          · refine mem_two ?_ (fit_jal (by omega) (by omega) (by omega) (by omega))
            rw [hnm, tA_turn hj]
            exact fit_br (ix_br2 hj) hra hrb (by decide) (by decide) (by decide)
      · have hl : longF A k = false := by
          cases hl : longF A k
          · rfl
          · have := hls hl; omega
        rw [hl] at go ⊢
        refine go [⟨x.op.name, x.op.rd, x.op.ra, x.op.rb, d⟩] ?_ ?_ ?_
        · unfold opsF
          rw [if_pos (show x.sort = 2 from h2), reach_far (d := d) (e := 1048576) (by omega) (by omega) (by decide) (by decide)]
        · unfold farR
          rw [if_neg (show ¬ x.sort = 3 by omega), if_neg (by simp)]
        · refine one ?_
          rw [ho]
          exact fit_jal hr (by omega) (by omega) (by omega)
      · have e1 : wrap64 (d + 2048) = d + 2048 := by unfold wrap64; omega
        have e2 : wrap64 ((d + 2048) / 4096 * 4096) = (d + 2048) / 4096 * 4096 := by unfold wrap64; omega
        have e3 : wrap64 (d - (d + 2048) / 4096 * 4096) = d - (d + 2048) / 4096 * 4096 := by unfold wrap64; omega
        refine go [⟨nAu, x.op.rd, 0, 0, (d + 2048) / 4096⟩, ⟨nAd, x.op.rd, x.op.rd, 0, d - (d + 2048) / 4096 * 4096⟩] ?_ ?_ (mem_two (fit_auipc hr (by omega) (by omega)) (fit_addi hr hr (by omega) (by omega)))
        · unfold opsF
          rw [if_neg (show ¬ x.sort = 2 by omega), if_pos (show x.sort = 3 from h3), e1, e2, e3, reach_far (d := d) (e := 2147481600) (by omega) (by omega) (by decide) (by decide), ho]
          rfl
        · unfold farR
          rw [if_pos h3]
    · rw [if_neg hM0, if_pos (by omega : M < 0)]
      exact ⟨rfl, fun l h => by cases h⟩
/-- The text is that of the document's instructions. -/
theorem text_ops {A : AsmS} {ms : List Int} (T : Tie A ms) (hn : A.ps.length < 100000) (hok : ∀ x ∈ A.ps, PcOk x) :
    ∀ k, k ≤ A.ps.length → (opsR A ms (longF A) k = none ∧ textL (settleF A) k = none) ∨ ∃ l bs, opsR A ms (longF A) k = some l ∧ (∀ y ∈ l, (encOf y).2 = 0) ∧ encB l = some bs ∧ textL (settleF A) k = some bs
  | 0, _ => .inr ⟨[], [], rfl, (fun y hy => by cases hy), rfl, rfl⟩
  | k + 1, hk => by
    have hk : k < A.ps.length := hk
    obtain ⟨p1, p2⟩ := piece_ops T hn hk (hok _ (List.getElem_mem hk))
    have hlen : (settleF A).ps.length = A.ps.length := withL_len _ _
    have hget : (settleF A).ps[k]? = some { A.ps[k] with long := longF A k } := by
      rw [List.getElem?_eq_getElem (by rw [hlen]; exact hk)]
      exact congrArg some (withL_get hk)
    rcases text_ops T hn hok k (Nat.le_of_lt hk) with ⟨h1, h2⟩ | ⟨l, bs, h1, h2, h3, h4⟩
    · exact .inl ⟨opsR_none h1 1, textL_none h2 1⟩
    · have eT : textL (settleF A) (k + 1) = (pieceB (settleF A) k { A.ps[k] with long := longF A k }).map fun cs => bs ++ cs := by
        show (textL (settleF A) k).bind _ = _
        rw [h4, Option.bind_some, hget, Option.bind_some]
      have eR : opsR A ms (longF A) (k + 1) = (pieceR A ms (longF A) k A.ps[k]).map fun m => l ++ m := by
        show (opsR A ms (longF A) k).bind _ = _
        rw [h1, Option.bind_some, List.getElem?_eq_getElem hk, Option.bind_some]
      rw [eT, eR]
      unfold pieceB
      rw [p1]
      cases hp : pieceR A ms (longF A) k A.ps[k] with
      | none => exact .inl ⟨rfl, rfl⟩
      | some m =>
        have hm := p2 m hp
        obtain ⟨cs, hcs⟩ := encB_fit m hm
        refine .inr ⟨l ++ m, bs ++ cs, rfl, ?_, encB_app h3 hcs, ?_⟩
        · intro y hy
          rcases List.mem_append.1 hy with h | h
          · exact h2 y h
          · exact hm y h
        · rw [Option.bind_some, hcs]; rfl
end Go.Proofs.Ytciehejifdbpoaa.Ap
end
section
set_option linter.unusedSimpArgs false
set_option linter.unusedVariables false
namespace Go.Proofs.Ytciehejifdbpoaa.Ap
open Go.RowKit Go.Maps Go.Proofs.Ytciehejifdbpoaa.Grow Go.Proofs.Ytciehejifdbpoaa.Rv Go.Proofs.Ytciehejifdbpoaa.As
open Go.Proofs.YtciehejifdbpoaaW.PrintWords Go.Proofs.YtciehejifdbpoaaW.PrintLast Go.Proofs.YtciehejifdbpoaaW.PrintMore

/-! ### What all calls keep, in both -/
structure Iv (A : AsmS) (ms : List Int) : Prop where
  tie : Tie A ms
  ok : ∀ x ∈ A.ps, PcOk x
  fresh : ∀ k : Int, ¬ (0 ≤ k ∧ k < (ms.length : Int)) → A.marks k = none
  good : As.Good A
  few : ms.length < 1000
  most : A.ps.length < 90000
theorem known_both {A : AsmS} {ms : List Int} (h : Iv A ms) (label : Int) : (decide (0 ≤ label) && decide (label < A.labels)) = knownB ms.length label := by rw [h.tie.labels]; rfl
theorem tie_push {A : AsmS} {ms : List Int} (h : Tie A ms) {x : Pc} (hx : x.sort ≠ 0 → 0 ≤ x.label ∧ x.label < (ms.length : Int)) : Tie (A.push x) ms := by
  have hl : (A.push x).ps.length = A.ps.length + 1 := by show (A.ps ++ [x]).length = _; simp
  refine ⟨h.labels, h.marks, fun k hk => ?_, fun i hi hs => ?_⟩
  · have := h.top k hk
    rw [hl]; omega
  · have e : (A.push x).ps = A.ps ++ [x] := rfl
    by_cases hlt : i < A.ps.length
    · have e2 : (A.push x).ps[i] = A.ps[i] := by simp only [e, List.getElem_append_left hlt]
      rw [e2] at hs ⊢
      exact h.labs i hlt hs
    · have e2 : (A.push x).ps[i] = x := by
        simp only [e]
        rw [List.getElem_append_right (by omega)]
        simp
      rw [e2] at hs ⊢
      exact hx hs
theorem inv_push {A : AsmS} {ms : List Int} (h : Iv A ms) {x : Pc} (hx : x.sort ≠ 0 → 0 ≤ x.label ∧ x.label < (ms.length : Int)) (hok : PcOk x) (hI : I64 x.label) (hm : A.ps.length + 1 < 90000) : Iv (A.push x) ms :=
  ⟨tie_push h.tie hx, fun y hy => by
    rcases List.mem_append.1 (show y ∈ A.ps ++ [x] from hy) with h1 | h1
    · exact h.ok y h1
    · rw [List.mem_singleton.1 h1]; exact hok, h.fresh, good_push h.good hI (by omega), h.few, by show (A.ps ++ [x]).length < _; simp; omega⟩
theorem i64_few {k : Int} {n : Nat} (h : 0 ≤ k ∧ k < (n : Int)) (hn : n < 1000) : I64 k := by unfold I64; omega
theorem inv_put {A : AsmS} {ms : List Int} (h : Iv A ms) {x : OpI} (hx : (encOf x).2 = 0) (hm : A.ps.length + 1 < 90000) : Iv (A.push (plainPc x)) ms :=
  inv_push h (fun hs => absurd rfl hs) ⟨rfl, .inl ⟨rfl, hx⟩⟩ (good_plain x) hm
theorem inv_puts {A : AsmS} {ms : List Int} (h : Iv A ms) : ∀ (l : List OpI), (∀ x ∈ l, (encOf x).2 = 0) → A.ps.length + l.length < 90000 → Iv (A.puts l) ms := by
  intro l
  induction l generalizing A with
  | nil => intro _ _; rw [puts_nil]; exact h
  | cons x l ih =>
    intro hx hl
    rw [puts_cons]
    simp only [List.length_cons] at hl
    refine ih (inv_put h (hx x (List.mem_cons_self ..)) (by omega)) (fun y hy => hx y (List.mem_cons_of_mem _ hy)) ?_
    show (A.ps ++ [plainPc x]).length + l.length < 90000
    simp; omega
theorem inv_label {A : AsmS} {ms : List Int} (h : Iv A ms) (hf : ms.length + 1 < 1000) : Iv { A with labels := A.labels + 1 } (ms ++ [-1]) := by
  have hl : (ms ++ [-1]).length = ms.length + 1 := by simp
  refine ⟨⟨?_, fun k hk => ?_, fun k hk => ?_, fun i hi hs => ?_⟩, h.ok, fun k hk => ?_, good_label h.good _, by rw [hl]; exact hf, h.most⟩
  · show A.labels + 1 = _
    rw [h.tie.labels, hl]; omega
  · rw [hl] at hk
    show A.marks (k : Int) = _
    by_cases e : k < ms.length
    · rw [h.tie.marks k e]
      simp only [List.getD_eq_getElem?_getD, List.getElem?_append_left e]
    · obtain rfl : k = ms.length := by omega
      rw [h.fresh _ (by omega)]
      simp
  · rw [hl] at hk
    show _ ≤ (A.ps.length : Int)
    by_cases e : k < ms.length
    · have := h.tie.top k e
      simpa only [List.getD_eq_getElem?_getD, List.getElem?_append_left e] using this
    · obtain rfl : k = ms.length := by omega
      simp
  · have := h.tie.labs i hi hs
    rw [hl]
    exact ⟨this.1, Int.lt_trans this.2 (by omega)⟩
  · rw [hl] at hk
    exact h.fresh k (by omega)
theorem mark_both {A : AsmS} {ms : List Int} (h : Iv A ms) (label : Int) : mkC A label = mkR ms label := by
  unfold mkC mkR
  rw [known_both h]
  cases hk : knownB ms.length label
  · rfl
  · unfold knownB at hk
    simp only [Bool.and_eq_true, decide_eq_true_eq] at hk
    obtain ⟨k, rfl⟩ : ∃ k : Nat, label = (k : Int) := ⟨label.toNat, by omega⟩
    rw [if_neg (show ¬ ((true : Bool) = false) by simp), if_neg (show ¬ ((true : Bool) = false) by simp), h.tie.marks k (by omega), Int.toNat_natCast]
    by_cases e : 0 ≤ ms.getD k 0
    · rw [if_pos e, if_pos (show (some (ms.getD k 0)).isSome = true from rfl), if_pos e]
    · rw [if_neg e, if_neg (by simp), if_neg e]
theorem inv_mark {A : AsmS} {ms : List Int} (h : Iv A ms) (label : Int) : Iv (A.markIf (mkC A label) label) (markP ms (mkC A label) label.toNat A.ps.length) := by
  by_cases hc : mkC A label = 0
  · have hk : knownB ms.length label = true := by
      have := mark_both h label
      rw [hc] at this
      unfold mkR at this
      cases hk : knownB ms.length label
      · rw [hk] at this; simp at this
      · rfl
    unfold knownB at hk
    simp only [Bool.and_eq_true, decide_eq_true_eq] at hk
    obtain ⟨k, rfl⟩ : ∃ k : Nat, label = (k : Int) := ⟨label.toNat, by omega⟩
    have hkl : k < ms.length := by omega
    rw [hc, markP_0, Int.toNat_natCast]
    show Iv (A.mark (k : Int)) (ms.set k (A.ps.length : Int))
    have hl : (ms.set k (A.ps.length : Int)).length = ms.length := by simp
    refine ⟨⟨by rw [hl]; exact h.tie.labels, fun j hj => ?_, fun j hj => ?_, fun i hi hs => by rw [hl]; exact h.tie.labs i hi hs⟩, h.ok, fun j hj => ?_, good_mark h.good _, by rw [hl]; exact h.few, h.most⟩
    · rw [hl] at hj
      show (if (j : Int) = (k : Int) then some (A.ps.length : Int) else A.marks (j : Int)) = _
      by_cases e : j = k
      · subst e
        rw [if_pos rfl]
        simp [List.getD_eq_getElem?_getD, hj]
      · rw [if_neg (by omega), h.tie.marks j hj]
        simp only [List.getD_eq_getElem?_getD, List.getElem?_set_ne (Ne.symm e)]
    · rw [hl] at hj
      show _ ≤ (A.ps.length : Int)
      by_cases e : j = k
      · subst e; simp [List.getD_eq_getElem?_getD, hj]
      · have := h.tie.top j hj
        simpa only [List.getD_eq_getElem?_getD, List.getElem?_set_ne (Ne.symm e)] using this
    · rw [hl] at hj
      show (if j = (k : Int) then some (A.ps.length : Int) else A.marks j) = none
      rw [if_neg (by omega)]
      exact h.fresh j hj
  · rw [markP_ne hc]
    have : A.markIf (mkC A label) label = A := if_neg hc
    rw [this]
    exact h
theorem reg_both {r : Int} (h : regOk r = true) : 0 ≤ r ∧ r ≤ 31 := by
  unfold regOk at h
  simp only [Bool.and_eq_true, decide_eq_true_eq] at h
  omega
theorem to_both {A : AsmS} {ms : List Int} (h : Iv A ms) (s : Int) (hs : s ≠ 1) (nm : ByteArray) (rd label : Int) : toC A rd label = toR ms.length s ⟨nm, rd, 0, 0, 0⟩ label := by
  unfold toC toR
  rw [known_both h]
  have e0 : regOk 0 = true := by decide
  simp only [e0, Bool.and_true, decide_eq_false hs, Bool.false_and, Bool.not_false]
theorem br_both {A : AsmS} {ms : List Int} (h : Iv A ms) (nm : ByteArray) (ra rb label : Int) : brC A nm ra rb label = toR ms.length 1 ⟨nm, 0, ra, rb, 0⟩ label := by
  unfold brC toR brBad
  rw [known_both h]
  have e0 : regOk 0 = true := by decide
  simp only [e0, decide_true, Bool.true_and]
  cases (turnF nm).toList.isEmpty <;> cases regOk ra <;> cases regOk rb <;> rfl
theorem tA_of {nm : ByteArray} (h : (turnF nm).toList.isEmpty = false) : ∃ k, k < 6 ∧ nm = tA k := by
  refine Classical.byContradiction fun hn => ?_
  rw [turn_none (nm := nm) fun k hk e => hn ⟨k, hk, e.symm⟩] at h
  exact absurd h (by decide +kernel)
theorem known_lab {n : Nat} {label : Int} (h : knownB n label = true) : 0 ≤ label ∧ label < (n : Int) := by
  unfold knownB at h
  simpa only [Bool.and_eq_true, decide_eq_true_eq] using h
theorem inv_br {A : AsmS} {ms : List Int} (h : Iv A ms) (nm : ByteArray) (ra rb label : Int) (hm : A.ps.length + 1 < 90000) : Iv (A.pushIf (brC A nm ra rb label) ⟨1, ⟨nm, 0, ra, rb, 0⟩, label, false⟩) ms := by
  by_cases hc : brC A nm ra rb label = 0
  · rw [hc]
    unfold brC at hc
    split at hc
    · omega
    · rename_i hb
      split at hc
      · omega
      · rename_i hk
        rw [known_both h] at hk
        have hk := known_lab (by simpa using hk)
        unfold brBad at hb
        simp only [Bool.not_eq_true, Bool.or_eq_false_iff, Bool.not_eq_false'] at hb
        exact inv_push h (fun _ => hk) ⟨rfl, .inr (.inl ⟨rfl, tA_of hb.1.1, rfl, rfl, reg_both hb.1.2, reg_both hb.2⟩)⟩ (i64_few hk h.few) hm
  · rw [pushIf_ne _ hc]; exact h
theorem inv_to {A : AsmS} {ms : List Int} (h : Iv A ms) (s : Int) (nm : ByteArray) (hs : (s = 2 ∧ nm = nJ) ∨ (s = 3 ∧ nm = nAu)) (rd label : Int) (hm : A.ps.length + 1 < 90000) : Iv (A.pushIf (toC A rd label) ⟨s, ⟨nm, rd, 0, 0, 0⟩, label, false⟩) ms := by
  by_cases hc : toC A rd label = 0
  · rw [hc]
    unfold toC at hc
    split at hc
    · omega
    · rename_i hb
      split at hc
      · omega
      · rename_i hk
        rw [known_both h] at hk
        have hk := known_lab (by simpa using hk)
        have hb := reg_both (by simpa using hb)
        refine inv_push h (fun _ => hk) ⟨rfl, ?_⟩ (i64_few hk h.few) hm
        rcases hs with ⟨rfl, rfl⟩ | ⟨rfl, rfl⟩
        · exact .inr (.inr (.inl ⟨rfl, hb, rfl⟩))
        · exact .inr (.inr (.inr ⟨rfl, hb, rfl⟩))
  · rw [pushIf_ne _ hc]; exact h
theorem add_both (A : AsmS) (c : Int) (x : Pc) : (A.pushIf c x).ps = addP A.ps c x := by
  unfold AsmS.pushIf addP
  split <;> rfl
theorem pushIf_len (A : AsmS) (c : Int) (x : Pc) : (A.pushIf c x).ps.length ≤ A.ps.length + 1 := by
  rw [add_both]; unfold addP
  split <;> simp
/-! ### The instructions of a number are right -/
theorem ix_addiw : nIdx ⟨#[97, 100, 100, 105, 119]⟩ < 64 ∧ (kd (nIdx ⟨#[97, 100, 100, 105, 119]⟩)).2.1 = 1 := by decide +kernel
theorem ix_slli : nIdx ⟨#[115, 108, 108, 105]⟩ < 64 ∧ (kd (nIdx ⟨#[115, 108, 108, 105]⟩)).2.1 = 2 := by decide +kernel
theorem ix_lui : nIdx ⟨#[108, 117, 105]⟩ < 64 ∧ (kd (nIdx ⟨#[108, 117, 105]⟩)).2.1 = 6 := by decide +kernel
theorem fit_addiw {r n : Int} (hr : 0 ≤ r ∧ r ≤ 31) (h1 : -2048 ≤ n) (h2 : n ≤ 2047) : (encOf (oAddiw r n)).2 = 0 :=
  enc_fit ix_addiw (encOk_iff.2 ⟨reg_ok' hr, reg_ok' hr, reg_no, h1, h2, mod_one' n⟩)
theorem fit_slli {r : Int} (hr : 0 ≤ r ∧ r ≤ 31) : (encOf (oSlli r)).2 = 0 :=
  enc_fit ix_slli (encOk_iff.2 ⟨reg_ok' hr, reg_ok' hr, reg_no, by decide, by decide, by decide⟩)
theorem fit_lui {r n : Int} (hr : 0 ≤ r ∧ r ≤ 31) (h1 : -524288 ≤ n) (h2 : n ≤ 524287) : (encOf (oLui r n)).2 = 0 :=
  enc_fit ix_lui (encOk_iff.2 ⟨reg_ok' hr, reg_no, reg_no, h1, h2, mod_one' n⟩)
theorem fit_num {rd : Int} (hr : 0 ≤ rd ∧ rd ≤ 31) : ∀ (k : Nat) (n : Int), ∀ x ∈ numL rd k n, (encOf x).2 = 0
  | 0, _, x, hx => by simp [numL] at hx
  | k + 1, n, x, hx => by
    obtain ⟨l1, l2, l3⟩ := As.low_b n
    unfold numL at hx
    split at hx
    · rename_i hs
      rw [List.mem_singleton.1 hx]
      exact fit_addi hr (by decide) (by omega) (by omega)
    · split at hx
      · rename_i hs
        rcases List.mem_cons.1 hx with rfl | hx
        · refine fit_lui hr ?_ ?_ <;> rw [high_mid n hs.1 hs.2] <;> split <;> omega
        · split at hx
          · cases hx
          · rw [List.mem_singleton.1 hx]; exact fit_addiw hr l1 l2
      · rcases List.mem_append.1 hx with hx | hx
        · exact fit_num hr k _ x hx
        · rcases List.mem_cons.1 hx with rfl | hx
          · exact fit_slli hr
          · split at hx
            · cases hx
            · rw [List.mem_singleton.1 hx]; exact fit_addi hr hr l1 l2
end Go.Proofs.Ytciehejifdbpoaa.Ap
end
section
set_option linter.unusedSimpArgs false
set_option linter.unusedVariables false
namespace Go.Proofs.Ytciehejifdbpoaa.Ap
open Go.RowKit Go.Maps Go.Proofs.Ytciehejifdbpoaa.Grow Go.Proofs.Ytciehejifdbpoaa.Rv Go.Proofs.Ytciehejifdbpoaa.As
open Go.Proofs.YtciehejifdbpoaaW.PrintWords Go.Proofs.YtciehejifdbpoaaW.PrintLast Go.Proofs.YtciehejifdbpoaaW.PrintMore

theorem eqi (n : Nat) (t : TypeId) (a b : Int) (w : World) (ht : Try.prog.underlying t = some (.int .i64)) : (Op.equalIn (n + 1) t (.int .i64 a) (.int .i64 b)).run Try.prog w = .ok (a == b) w := by
  simp [Op.equalIn, run_underlying ht]
theorem eqs (n : Nat) (t : TypeId) (a b : ByteArray) (w : World) (ht : Try.prog.underlying t = some .string) : (Op.equalIn (n + 1) t (.string a) (.string b)).run Try.prog w = .ok (a == b) w := by
  simp [Op.equalIn, run_underlying ht]

def eqOp (s s' : ByteArray) (a a' b b' c c' d d' : Int) : Bool := (s == s') && ((a == a') && ((b == b') && ((c == c') && (d == d'))))
theorem eq24 (s s' : ByteArray) (a a' b b' c c' d d' : Int) (w : World) : (Op.equal 24 (.agg #[.string s, .int .i64 a, .int .i64 b, .int .i64 c, .int .i64 d]) (.agg #[.string s', .int .i64 a', .int .i64 b', .int .i64 c', .int .i64 d'])).run Try.prog w
    = .ok (eqOp s s' a a' b b' c c' d d') w := by
  unfold Op.equal eqOp
  refine eqA_of (d := 9999) Try.underlying24 (by kernel_rfl) ?_
  refine eqf_cons rfl (a := .string s) (b := .string s') (by kernel_rfl) (by kernel_rfl) (eqs _ _ _ _ _ (by kernel_rfl)) ?_
  refine eqf_cons rfl (a := .int .i64 a) (b := .int .i64 a') (by kernel_rfl) (by kernel_rfl) (eqi _ _ _ _ _ (by kernel_rfl)) ?_
  refine eqf_cons rfl (a := .int .i64 b) (b := .int .i64 b') (by kernel_rfl) (by kernel_rfl) (eqi _ _ _ _ _ (by kernel_rfl)) ?_
  refine eqf_cons rfl (a := .int .i64 c) (b := .int .i64 c') (by kernel_rfl) (by kernel_rfl) (eqi _ _ _ _ _ (by kernel_rfl)) ?_
  exact eqf_last rfl (a := .int .i64 d) (b := .int .i64 d') (by kernel_rfl) (by kernel_rfl) (eqi _ _ _ _ _ (by kernel_rfl))
theorem ba_beq (s s' : ByteArray) : (s == s') = true ↔ s = s' := by
  cases s with
  | mk a =>
    cases s' with
    | mk b =>
      show (a == b) = true ↔ _
      simp
theorem eqOp_iff (s s' : ByteArray) (a a' b b' c c' d d' : Int) : eqOp s s' a a' b b' c c' d d' = true ↔ s = s' ∧ a = a' ∧ b = b' ∧ c = c' ∧ d = d' := by
  simp only [eqOp, Bool.and_eq_true, ba_beq, beq_iff_eq]
theorem eqOp_same (s : ByteArray) (a b c d : Int) : eqOp s s a a b b c c d d = true := (eqOp_iff ..).2 ⟨rfl, rfl, rfl, rfl, rfl⟩
theorem neq24 (s s' : ByteArray) (a a' b b' c c' d d' : Int) (w : World) : (binOp .neq 24 (.agg #[.string s, .int .i64 a, .int .i64 b, .int .i64 c, .int .i64 d]) (.agg #[.string s', .int .i64 a', .int .i64 b', .int .i64 c', .int .i64 d'])).run Try.prog w
    = .ok (.bool (!eqOp s s' a a' b b' c c' d d')) w := by
  simp [binOp, eq24]
theorem guard24 : Try.prog.eqGuardType Try.prog.depth 24 = false := by kernel_rfl

def opCs (x : OpI) : List Value := [.string x.name, .int .i64 x.rd, .int .i64 x.ra, .int .i64 x.rb, .int .i64 x.imm]
theorem flat_getO {l : List OpI} {k : Nat} (h : k < l.length) {j : Nat} (hj : j < 5) : (l.flatMap opCs)[k * 5 + j]? = (opCs l[k])[j]? := by
  induction l generalizing k with
  | nil => simp at h
  | cons x xs ih =>
    rw [List.flatMap_cons]
    have hl : (opCs x).length = 5 := rfl
    cases k with
    | zero => rw [List.getElem?_append_left (by rw [hl]; omega)]; simp
    | succ k =>
      have hk : k < xs.length := by simpa using h
      rw [List.getElem?_append_right (by rw [hl]; omega), hl, show (k + 1) * 5 + j - 5 = k * 5 + j by omega, ih hk]
      simp
/-- A row of instructions. -/
theorem op_cells {w : World} {b : Nat} {v : Value} {l : List OpI} (h : w.ownsRow b 24 5 v l.length (l.flatMap opCs)) (hn : 0 < l.length) :
    ∃ g cap, v = .slice (some ⟨g, 0, none⟩) l.length cap ∧ g < w.heap.size ∧ ∀ i (hi : i < l.length), w.cell? ⟨g, i * 5, none⟩ = some (.string l[i].name) ∧ w.cell? ⟨g, i * 5 + 1, none⟩ = some (.int .i64 l[i].rd) ∧ w.cell? ⟨g, i * 5 + 2, none⟩ = some (.int .i64 l[i].ra) ∧ w.cell? ⟨g, i * 5 + 3, none⟩ = some (.int .i64 l[i].rb) ∧ w.cell? ⟨g, i * 5 + 4, none⟩ = some (.int .i64 l[i].imm) := by
  obtain ⟨g, cap, hv, hb, hg, hc, -⟩ := row_cells h hn
  refine ⟨g, cap, hv, hg, fun i hi => ?_⟩
  have q : ∀ j, j < 5 → w.cell? ⟨g, i * 5 + j, none⟩ = (opCs l[i])[j]? := fun j hj => (hc (i * 5 + j) (by omega)).trans (flat_getO hi hj)
  exact ⟨q 0 (by decide), q 1 (by decide), q 2 (by decide), q 3 (by decide), q 4 (by decide)⟩
set_option maxHeartbeats 4000000 in
set_option maxRecDepth 100000 in
theorem same_calls {w : World} {b1 b2 : Nat} {u v : Value} {l : List OpI} (h1 : w.ownsRow b1 24 5 u l.length (l.flatMap opCs)) (h2 : w.ownsRow b2 24 5 v l.length (l.flatMap opCs)) (hn : l.length < 1000000000) :
    Calls Try.prog 33 #[u, v] w fun e w' => e = .returned (.bool true) ∧ Below w.heap.size w w' := by
  obtain ⟨o1, c1, e1⟩ := row_slice h1
  obtain ⟨o2, c2, e2⟩ := row_slice h2
  subst e1
  subst e2
  obtain ⟨N, hN⟩ : ∃ N, l.length = N := ⟨_, rfl⟩
  have OC1 := Aside0.mk (fun h => op_cells h1 h)
  have OC2 := Aside0.mk (fun h => op_cells h2 h)
  have HN := Aside0.mk hN
  rw [hN] at hn ⊢
  clear h1 h2 hN
  have ng := guard24
  go_enter Try.func33, Try.ntmps33
  go_wp2_with fail
  go_loopw [5, 13] (fun _ v13 wr => ∃ i : Nat, i ≤ N ∧ v13 = .int .i64 i ∧ Aside0 (Below w.heap.size w wr)) (fun _ v13 _ => N - (intOf v13).toNat)
  case atStart => exact ⟨0, by omega, rfl, ⟨Below.refl _ _⟩⟩
  case round =>
    obtain ⟨i, hi, rfl, hB⟩ := hrel
    by_cases hlt : i < N
    · have hip : i < l.length := by rw [HN.out]; exact hlt
      obtain ⟨g1, d1, e1, hg1, hc1⟩ := OC1.out (by omega)
      obtain ⟨g2, d2, e2, hg2, hc2⟩ := OC2.out (by omega)
      rw [HN.out] at e1 e2
      obtain ⟨rfl, rfl⟩ : o1 = some ⟨g1, 0, none⟩ ∧ c1 = d1 := by simpa using e1
      obtain ⟨rfl, rfl⟩ : o2 = some ⟨g2, 0, none⟩ ∧ c2 = d2 := by simpa using e2
      obtain ⟨p0, p1, p2, p3, p4⟩ := hc1 i hip
      obtain ⟨q0, q1, q2, q3, q4⟩ := hc2 i hip
      obtain ⟨x, hx⟩ : ∃ x, l[i] = x := ⟨_, rfl⟩
      rw [hx] at p0 p1 p2 p3 p4 q0 q1 q2 q3 q4
      have bb := hB.out
      have r0 := (bb.cell (p := ⟨g1, i * 5, none⟩) hg1).trans p0
      have r1 := (bb.cell (p := ⟨g1, i * 5 + 1, none⟩) hg1).trans p1
      have r2 := (bb.cell (p := ⟨g1, i * 5 + 2, none⟩) hg1).trans p2
      have r3 := (bb.cell (p := ⟨g1, i * 5 + 3, none⟩) hg1).trans p3
      have r4 := (bb.cell (p := ⟨g1, i * 5 + 4, none⟩) hg1).trans p4
      have s0 := (bb.cell (p := ⟨g2, i * 5, none⟩) hg2).trans q0
      have s1 := (bb.cell (p := ⟨g2, i * 5 + 1, none⟩) hg2).trans q1
      have s2 := (bb.cell (p := ⟨g2, i * 5 + 2, none⟩) hg2).trans q2
      have s3 := (bb.cell (p := ⟨g2, i * 5 + 3, none⟩) hg2).trans q3
      have s4 := (bb.cell (p := ⟨g2, i * 5 + 4, none⟩) hg2).trans q4
      have a1 : (i : Int) < (N : Int) := by omega
      have a2 : (0 : Int) ≤ (i : Int) := by omega
      have nq := fun w => neq24 x.name x.name x.rd x.rd x.ra x.ra x.rb x.rb x.imm x.imm w
      rw [eqOp_same] at nq
      clear hc1 hc2 e1 e2 p0 p1 p2 p3 p4 q0 q1 q2 q3 q4 bb hx
      go_wp2_with fail
      go_quiet (fail)
      go_wp2
      exact ⟨⟨i + 1, by omega, by simp, ⟨pw_below_drewN hB.out _⟩⟩, by simp [intOf]; omega⟩
    · obtain rfl : i = N := by omega
      have a1 : ¬ (i : Int) < (i : Int) := by omega
      go_wp2
      go_ret
      exact ⟨by simp, hB.out⟩
end Go.Proofs.Ytciehejifdbpoaa.Ap
end
section
set_option linter.unusedSimpArgs false
set_option linter.unusedVariables false
namespace Go.Proofs.Ytciehejifdbpoaa.Ap
open Go.RowKit Go.Maps Go.Proofs.Ytciehejifdbpoaa.Grow Go.Proofs.Ytciehejifdbpoaa.Rv Go.Proofs.Ytciehejifdbpoaa.As
open Go.Proofs.YtciehejifdbpoaaW.PrintWords Go.Proofs.YtciehejifdbpoaaW.PrintLast Go.Proofs.YtciehejifdbpoaaW.PrintMore

theorem and12 (n : Int) : Go.bits BinOp.and IntKind.i64 n 4095 = n % 4096 := by
  unfold Go.bits
  simp only []
  rw [show IntKind.i64.bits = 64 from rfl]
  show IntKind.i64.wrap (((n % 18446744073709551616).toNat &&& 4095 : Nat) : Int) = n % 4096
  rw [show (4095 : Nat) = 2 ^ 12 - 1 from rfl, Nat.and_two_pow_sub_one_eq_mod, IntKind.wrap_i64]
  omega
def NumR (rd n : Int) (l : List OpI) : Prop := ∀ w : World, Calls Try.prog 70 #[.int .i64 rd, .int .i64 n] w fun e w' => ∃ v, e = .returned v ∧ w'.ownsRow w.heap.size 24 5 v l.length (l.flatMap opCs) ∧ Below w.heap.size w w'
theorem low_mod (n : Int) : lowF n = if n % 4096 > 2047 then n % 4096 - 4096 else n % 4096 := by
  obtain ⟨h1, h2, h3⟩ := As.low_b n
  split <;> omega
theorem own_lit5 (w : World) (x : OpI) : (w.alloc (.cells #[.string x.name, .int .i64 x.rd, .int .i64 x.ra, .int .i64 x.rb, .int .i64 x.imm] 24)).ownsRow w.heap.size 24 5 (.slice (some ⟨w.heap.size, 0, none⟩) 1 1) 1 ([x].flatMap opCs) :=
  World.ownsRow_lit (size := 5) w _ 1 (Nat.le_refl _) (by decide) rfl
set_option maxHeartbeats 4000000 in
set_option maxRecDepth 100000 in
theorem num_small (rd n : Int) (k : Nat) (h : -2048 ≤ n ∧ n < 2048) : NumR rd n (numL rd (k + 1) n) := by
  intro w
  unfold numL
  rw [if_pos h]
  obtain ⟨h1, h2⟩ := h
  have h2' : n ≤ 2047 := by omega
  have bb := fun w => bld_a ⟨#[97, 100, 100, 105]⟩ rd n w
  unfold OpI.val at bb
  go_enter Try.func70, Try.ntmps70
  go_wp2
  go_ret
  exact ⟨_, rfl, own_lit5 w (oAddi rd n), below_alloc (Below.refl _ _) _⟩
theorem low_split (n : Int) : ∃ q M, n = q * 4096 + lowF n ∧ n % 4096 = M ∧ -2048 ≤ lowF n ∧ lowF n ≤ 2047 ∧ (M = lowF n ∨ M = lowF n + 4096 ∧ lowF n < 0) := by
  obtain ⟨h1, h2, h3⟩ := As.low_b n
  have h4 := low_mod n
  refine ⟨(n - lowF n) / 4096, n % 4096, by omega, rfl, h1, h2, ?_⟩
  split at h4 <;> omega
theorem one_opc (x : OpI) : ∀ u ∈ opCs x, u.oneCell' = true := by
  intro u hu
  simp only [opCs, List.mem_cons, List.not_mem_nil, or_false] at hu
  rcases hu with rfl | rfl | rfl | rfl | rfl <;> rfl
theorem flat_op (l : List OpI) (x : OpI) : l.flatMap opCs ++ opCs x = (l ++ [x]).flatMap opCs := by rw [List.flatMap_append]; simp
theorem info24 : (Try.prog.info? 24).map (fun i => (i.zero, i.size, i.bytes)) = some (some (.agg #[.string ⟨#[]⟩, .int .i64 0, .int .i64 0, .int .i64 0, .int .i64 0]), 5, 48) := by kernel_rfl
theorem grown_below {b : Nat} {w w1 w2 : World} {row : Option Nat} (hB : Below b w w1) (hb : b ≤ w.heap.size) (hg : w1.grownBy w2 row) (hr : ∀ k, row = some k → b ≤ k) : Below b w w2 :=
  ⟨hg.os.trans hB.os, hg.tape.trans hB.tape, hg.output.trans hB.output, Nat.le_trans hB.size hg.size, fun k hk => (hg.block k (Nat.lt_of_lt_of_le (Nat.lt_of_lt_of_le hk hb) hB.size) fun e => by have := hr k e.symm; omega).trans (hB.block k hk)⟩
end Go.Proofs.Ytciehejifdbpoaa.Ap
end
section
set_option linter.unusedSimpArgs false
set_option linter.unusedVariables false
namespace Go.Proofs.Ytciehejifdbpoaa.Ap
open Go.RowKit Go.Maps Go.Proofs.Ytciehejifdbpoaa.Grow Go.Proofs.Ytciehejifdbpoaa.Rv Go.Proofs.Ytciehejifdbpoaa.As
open Go.Proofs.YtciehejifdbpoaaW.PrintWords Go.Proofs.YtciehejifdbpoaaW.PrintLast Go.Proofs.YtciehejifdbpoaaW.PrintMore
theorem own_nxt {w wr w' : World} {n : Nat} {v : Value} {xs : List Value} (hr : wr.ownsRow w.heap.size 24 5 v n xs) (hb : Below wr.heap.size wr w') : w'.ownsRow w.heap.size 24 5 v n xs :=
  row_kept hr fun k hk => hb.block k (row_block hr k hk).2.1
set_option maxHeartbeats 4000000 in
set_option maxRecDepth 100000 in
theorem num_mid (rd n : Int) (k : Nat) (h0 : ¬ (-2048 ≤ n ∧ n < 2048)) (h1 : -2147483648 ≤ n) (h2 : n < 2147483648) : NumR rd n (numL rd (k + 1) n) := by
  intro w
  unfold numL
  rw [if_neg h0, if_pos ⟨h1, h2⟩]
  obtain ⟨q, M, hq, hM, b1, b2, hc⟩ := low_split n
  have hand := and12 n
  rw [hM] at hand
  obtain ⟨L, hL⟩ : ∃ L, lowF n = L := ⟨_, rfl⟩
  rw [hL] at hq b1 b2 hc ⊢
  have hhi : hiF n = if q = 524288 then -524288 else q := by
    unfold hiF
    rw [show wrap64 (n + 2048) / 4096 = q by unfold wrap64; omega]
  obtain ⟨Q, hQ⟩ : ∃ Q, hiF n = Q := ⟨_, rfl⟩
  rw [hQ] at hhi ⊢
  obtain ⟨D, hD⟩ : ∃ D, n - L = D := ⟨_, rfl⟩
  have e2 : D.tdiv 4096 = q := by rw [← hD, show n - L = q * 4096 by omega]; exact Int.mul_tdiv_cancel q (by decide)
  have e1 : wrap64 (n - L) = D := by unfold wrap64; omega
  have e3 : wrap64 q = q := by unfold wrap64; omega
  have e4 : L = M ∧ ¬ M > 2047 ∨ wrap64 (M - 4096) = L ∧ M > 2047 ∧ ¬ L = 0 := by unfold wrap64; omega
  have HH := Aside0.mk hhi
  obtain ⟨i0, hi, hz0, hz1, hz2⟩ := info_parts info24
  have HI := Aside0.mk (And.intro hi (And.intro hz0 (And.intro hz1 hz2)))
  have h3 : n ≤ 2147483647 := by omega
  have bb5 := fun x w => bld_a ⟨#[108, 117, 105]⟩ rd x w
  have bb6 := fun x w => bld_ad ⟨#[97, 100, 100, 105, 119]⟩ rd rd x w
  have hs : ¬ -2048 ≤ n ∨ (-2048 ≤ n ∧ ¬ n ≤ 2047) := by omega
  clear hi hz0 hz1 hz2 hM hL hhi hQ hq b1 b2 hc hD h0 h2
  obtain ⟨R, hR⟩ : ∃ R, (oLui rd Q :: (if L = 0 then [] else [oAddiw rd L])) = R := ⟨_, rfl⟩
  rw [hR]
  have HR := Aside0.mk hR
  clear hR
  go_enter Try.func70, Try.ntmps70
  rcases hs with hs | ⟨hs, hs'⟩
  all_goals
    rcases e4 with ⟨e4, e6⟩ | ⟨e4, e6, hL0⟩
    · subst e4
      by_cases hL0 : L = 0
      · have e8 : n.tdiv 4096 = q := by rw [hL0] at e1; rw [show n = D by rw [← e1]; unfold wrap64; omega]; exact e2
        have e9 : 0 ≤ n → n / 4096 = q := fun h => by rw [← e8, Int.tdiv_eq_ediv_of_nonneg h]
        try (have e9 := e9 (by omega))
        by_cases hq0 : q = 524288
        all_goals
          try (exfalso; omega)
        all_goals
          have hQ := HH.out
          first | rw [if_pos hq0] at hQ | rw [if_neg hq0] at hQ
          subst hQ
          go_wp2_with (first | (at_builtin; refine Aside0.out ?_))
          go_ret
          refine ⟨_, rfl, ?_, below_alloc (Below.refl _ _) _⟩
          rw [← HR.out, if_pos hL0]
          exact own_lit5 w (oLui rd _)
      · by_cases hq0 : q = 524288
        all_goals
          have hQ := HH.out
          first | rw [if_pos hq0] at hQ | rw [if_neg hq0] at hQ
          subst hQ
          go_wp2_with (first | (at_builtin; refine Aside0.out ?_))
          first
            | (have hx : True := trivial
               refine Aside0.mk ?_
               obtain ⟨hi, hz0, hz1, hz2⟩ := HI.out
               have NW := World.news_of_block (w := (w.alloc (opC (oLui rd (-524288)))).alloc (opC (oAddiw rd L))) (B := w.heap.size + 1) (cs := (opCs (oAddiw rd L)).toArray) (t := 24) (fr := (0, 0)) (heap_alloc_at _ _ (by simp))
               have OW := Aside0.mk (own_nxt (own_lit5 w (oLui rd (-524288))) (below_alloc (Below.refl _ _) (opC (oAddiw rd L))))
               refine wpList_append_own _ rfl (.tmp 43) (.tmp 48) 37 rfl w.heap.size 24 i0 _ 5 48 under37 hi hz0 hz1 hz2 rfl (by decide) _ 1 _ rfl OW.out ⟨w.heap.size + 1, 0, none⟩ 1 1 (opCs (oAddiw rd L)) rfl rfl NW (one_opc _) (by unfold maxLen; decide) (by decide) (by simp; omega) ?_
               intro v' w7 hown' hgrow _
               rw [flat_op] at hown'
               have I7 := Aside0.mk (grown_below (below_alloc (below_alloc (Below.refl w.heap.size w) (opC (oLui rd (-524288)))) (opC (oAddiw rd L))) (Nat.le_refl _) hgrow (fun k hk => (row_block OW.out k hk).1))
               have O7 := Aside0.mk hown'
               clear hown' hgrow NW
               go_wp2
               go_ret
               exact ⟨v', rfl, by rw [← HR.out, if_neg hL0]; exact O7.out, I7.out⟩)
            | (have hx : True := trivial
               refine Aside0.mk ?_
               obtain ⟨hi, hz0, hz1, hz2⟩ := HI.out
               have NW := World.news_of_block (w := (w.alloc (opC (oLui rd Q))).alloc (opC (oAddiw rd L))) (B := w.heap.size + 1) (cs := (opCs (oAddiw rd L)).toArray) (t := 24) (fr := (0, 0)) (heap_alloc_at _ _ (by simp))
               have OW := Aside0.mk (own_nxt (own_lit5 w (oLui rd Q)) (below_alloc (Below.refl _ _) (opC (oAddiw rd L))))
               refine wpList_append_own _ rfl (.tmp 43) (.tmp 48) 37 rfl w.heap.size 24 i0 _ 5 48 under37 hi hz0 hz1 hz2 rfl (by decide) _ 1 _ rfl OW.out ⟨w.heap.size + 1, 0, none⟩ 1 1 (opCs (oAddiw rd L)) rfl rfl NW (one_opc _) (by unfold maxLen; decide) (by decide) (by simp; omega) ?_
               intro v' w7 hown' hgrow _
               rw [flat_op] at hown'
               have I7 := Aside0.mk (grown_below (below_alloc (below_alloc (Below.refl w.heap.size w) (opC (oLui rd Q))) (opC (oAddiw rd L))) (Nat.le_refl _) hgrow (fun k hk => (row_block OW.out k hk).1))
               have O7 := Aside0.mk hown'
               clear hown' hgrow NW
               go_wp2
               go_ret
               exact ⟨v', rfl, by rw [← HR.out, if_neg hL0]; exact O7.out, I7.out⟩)
    · by_cases hq0 : q = 524288
      all_goals
        have hQ := HH.out
        first | rw [if_pos hq0] at hQ | rw [if_neg hq0] at hQ
        subst hQ
        go_wp2_with (first | (at_builtin; refine Aside0.out ?_))
        first
          | (have hx : True := trivial
             refine Aside0.mk ?_
             obtain ⟨hi, hz0, hz1, hz2⟩ := HI.out
             have NW := World.news_of_block (w := (w.alloc (opC (oLui rd (-524288)))).alloc (opC (oAddiw rd L))) (B := w.heap.size + 1) (cs := (opCs (oAddiw rd L)).toArray) (t := 24) (fr := (0, 0)) (heap_alloc_at _ _ (by simp))
             have OW := Aside0.mk (own_nxt (own_lit5 w (oLui rd (-524288))) (below_alloc (Below.refl _ _) (opC (oAddiw rd L))))
             refine wpList_append_own _ rfl (.tmp 43) (.tmp 48) 37 rfl w.heap.size 24 i0 _ 5 48 under37 hi hz0 hz1 hz2 rfl (by decide) _ 1 _ rfl OW.out ⟨w.heap.size + 1, 0, none⟩ 1 1 (opCs (oAddiw rd L)) rfl rfl NW (one_opc _) (by unfold maxLen; decide) (by decide) (by simp; omega) ?_
             intro v' w7 hown' hgrow _
             rw [flat_op] at hown'
             have I7 := Aside0.mk (grown_below (below_alloc (below_alloc (Below.refl w.heap.size w) (opC (oLui rd (-524288)))) (opC (oAddiw rd L))) (Nat.le_refl _) hgrow (fun k hk => (row_block OW.out k hk).1))
             have O7 := Aside0.mk hown'
             clear hown' hgrow NW
             go_wp2
             go_ret
             exact ⟨v', rfl, by rw [← HR.out, if_neg hL0]; exact O7.out, I7.out⟩)
          | (have hx : True := trivial
             refine Aside0.mk ?_
             obtain ⟨hi, hz0, hz1, hz2⟩ := HI.out
             have NW := World.news_of_block (w := (w.alloc (opC (oLui rd Q))).alloc (opC (oAddiw rd L))) (B := w.heap.size + 1) (cs := (opCs (oAddiw rd L)).toArray) (t := 24) (fr := (0, 0)) (heap_alloc_at _ _ (by simp))
             have OW := Aside0.mk (own_nxt (own_lit5 w (oLui rd Q)) (below_alloc (Below.refl _ _) (opC (oAddiw rd L))))
             refine wpList_append_own _ rfl (.tmp 43) (.tmp 48) 37 rfl w.heap.size 24 i0 _ 5 48 under37 hi hz0 hz1 hz2 rfl (by decide) _ 1 _ rfl OW.out ⟨w.heap.size + 1, 0, none⟩ 1 1 (opCs (oAddiw rd L)) rfl rfl NW (one_opc _) (by unfold maxLen; decide) (by decide) (by simp; omega) ?_
             intro v' w7 hown' hgrow _
             rw [flat_op] at hown'
             have I7 := Aside0.mk (grown_below (below_alloc (below_alloc (Below.refl w.heap.size w) (opC (oLui rd Q))) (opC (oAddiw rd L))) (Nat.le_refl _) hgrow (fun k hk => (row_block OW.out k hk).1))
             have O7 := Aside0.mk hown'
             clear hown' hgrow NW
             go_wp2
             go_ret
             exact ⟨v', rfl, by rw [← HR.out, if_neg hL0]; exact O7.out, I7.out⟩)
end Go.Proofs.Ytciehejifdbpoaa.Ap
end
section
set_option linter.unusedSimpArgs false
set_option linter.unusedVariables false
namespace Go.Proofs.Ytciehejifdbpoaa.Ap
open Go.RowKit Go.Maps Go.Proofs.Ytciehejifdbpoaa.Grow Go.Proofs.Ytciehejifdbpoaa.Rv Go.Proofs.Ytciehejifdbpoaa.As
open Go.Proofs.YtciehejifdbpoaaW.PrintWords Go.Proofs.YtciehejifdbpoaaW.PrintLast Go.Proofs.YtciehejifdbpoaaW.PrintMore
set_option maxHeartbeats 4000000 in
set_option maxRecDepth 100000 in
theorem num_far (rd n : Int) (k : Nat) (hk : k ≤ 10) (h0 : ¬ (-2147483648 ≤ n ∧ n < 2147483648)) (hrec : NumR rd (wrap64 (n - lowF n) / 4096) (numL rd k (wrap64 (n - lowF n) / 4096))) : NumR rd n (numL rd (k + 1) n) := by
  intro w
  have hlen := numL_len rd k (wrap64 (n - lowF n) / 4096)
  have hE : numL rd (k + 1) n = numL rd k (wrap64 (n - lowF n) / 4096) ++ (oSlli rd :: (if lowF n = 0 then [] else [oAddi2 rd (lowF n)])) := by
    conv => lhs; unfold numL
    rw [if_neg (by omega), if_neg h0]
  rw [hE]
  clear hE
  obtain ⟨q, M, hq, hM, b1, b2, hc⟩ := low_split n
  have hand := and12 n
  rw [hM] at hand
  obtain ⟨L, hL⟩ : ∃ L, lowF n = L := ⟨_, rfl⟩
  rw [hL] at hq b1 b2 hc hrec hlen ⊢
  obtain ⟨m, hm⟩ : ∃ m, wrap64 (n - L) / 4096 = m := ⟨_, rfl⟩
  rw [hm] at hrec hlen ⊢
  obtain ⟨l, hl⟩ : ∃ l, numL rd k m = l := ⟨_, rfl⟩
  rw [hl] at hrec hlen ⊢
  have e4 : L = M ∧ ¬ M > 2047 ∨ wrap64 (M - 4096) = L ∧ M > 2047 ∧ ¬ L = 0 := by unfold wrap64; omega
  have HI := Aside0.mk (info_parts info24)
  obtain ⟨R, hR⟩ : ∃ R, (l ++ (oSlli rd :: (if L = 0 then [] else [oAddi2 rd L]))) = R := ⟨_, rfl⟩
  rw [hR]
  have HR := Aside0.mk hR
  have HREC := Aside0.mk hrec
  have HLEN := Aside0.mk hlen
  have bb5 := fun w => bld_ad ⟨#[115, 108, 108, 105]⟩ rd rd 12 w
  have bb6 := fun x w => bld_ad ⟨#[97, 100, 100, 105]⟩ rd rd x w
  unfold OpI.val at bb5 bb6
  have hm0 : L = 0 → wrap64 n / 4096 = m := fun h => by rw [h, Int.sub_zero] at hm; exact hm
  have hs : n < -2147483648 ∨ (-2147483648 ≤ n ∧ ¬ n ≤ 2147483647) := by omega
  clear hR hM hL hq b1 b2 hc h0 hrec hlen hl
  have key : ∀ (w1 : World) (v : Value), w1.ownsRow w.heap.size 24 5 v l.length (l.flatMap opCs) → Below w.heap.size w w1 → True := fun _ _ _ _ => trivial
  clear key
  go_enter Try.func70, Try.ntmps70
  rcases hs with hs | ⟨hs, hs'⟩
  all_goals
    try have hs1 : ¬ -2048 ≤ n := by omega
    try have hs2 : -2048 ≤ n := by omega
    try have hs3 : ¬ n ≤ 2047 := by omega
    rcases e4 with ⟨e4, e6⟩ | ⟨e4, e6, hL0⟩
    · subst e4
      by_cases hL0 : L = 0
      · have hm0 := hm0 hL0
        go_wp2_with fail
        refine (HREC.out w).mono ?_
        rintro e w1 ⟨v, rfl, hown, hb⟩
        obtain ⟨ov, cv, rfl⟩ := row_slice hown
        obtain ⟨i0, hi, hz0, hz1, hz2⟩ := HI.out
        have HZ := Aside0.mk (And.intro hi (And.intro hz0 (And.intro hz1 hz2)))
        have OW := Aside0.mk (own_nxt hown (below_alloc (Below.refl _ _) (opC (oSlli rd))))
        have B1 := Aside0.mk (below_alloc hb (opC (oSlli rd)))
        have NW := Aside0.mk (World.news_of_block (w := w1.alloc (opC (oSlli rd))) (B := w1.heap.size) (cs := (opCs (oSlli rd)).toArray) (t := 24) (fr := (0, 0)) (heap_alloc_last _ _))
        clear hown hb hi hz0 hz1 hz2
        go_wp2_with (first | (at_builtin; refine Aside0.out ?_))
        refine Aside0.mk ?_
        refine wpList_append_own _ rfl (.tmp 57) (.tmp 61) 37 rfl w.heap.size 24 i0 _ 5 48 under37 HZ.out.1 HZ.out.2.1 HZ.out.2.2.1 HZ.out.2.2.2 rfl (by decide) _ l.length _ rfl OW.out ⟨w1.heap.size, 0, none⟩ 1 1 (opCs (oSlli rd)) rfl rfl NW.out (one_opc _) (by have := HLEN.out; unfold maxLen; omega) (by have := HLEN.out; omega) B1.out.size ?_
        intro v' w3 hown' hgrow _
        rw [flat_op, ← show (l ++ [oSlli rd]).length = l.length + 1 by simp] at hown'
        have hl1 : (l ++ [oSlli rd]).length = l.length + 1 := by simp
        obtain ⟨l1, hl2⟩ : ∃ l1, l ++ [oSlli rd] = l1 := ⟨_, rfl⟩
        rw [hl2] at hown' hl1
        have HL1 := Aside0.mk (And.intro hl1 hl2)
        clear hl1 hl2
        obtain ⟨o3, c3, rfl⟩ := row_slice hown'
        have B3 := Aside0.mk (grown_below B1.out (Nat.le_refl _) hgrow (fun k hk => (row_block OW.out k hk).1))
        have O3 := Aside0.mk hown'
        clear hown' hgrow
        go_wp2
        go_ret
        exact ⟨_, rfl, by rw [← HR.out, if_pos hL0, HL1.out.2]; exact O3.out, B3.out⟩
      · clear hm0
        go_wp2_with fail
        refine (HREC.out w).mono ?_
        rintro e w1 ⟨v, rfl, hown, hb⟩
        obtain ⟨ov, cv, rfl⟩ := row_slice hown
        obtain ⟨i0, hi, hz0, hz1, hz2⟩ := HI.out
        have HZ := Aside0.mk (And.intro hi (And.intro hz0 (And.intro hz1 hz2)))
        have OW := Aside0.mk (own_nxt hown (below_alloc (Below.refl _ _) (opC (oSlli rd))))
        have B1 := Aside0.mk (below_alloc hb (opC (oSlli rd)))
        have NW := Aside0.mk (World.news_of_block (w := w1.alloc (opC (oSlli rd))) (B := w1.heap.size) (cs := (opCs (oSlli rd)).toArray) (t := 24) (fr := (0, 0)) (heap_alloc_last _ _))
        clear hown hb hi hz0 hz1 hz2
        go_wp2_with (first | (at_builtin; refine Aside0.out ?_))
        refine Aside0.mk ?_
        refine wpList_append_own _ rfl (.tmp 57) (.tmp 61) 37 rfl w.heap.size 24 i0 _ 5 48 under37 HZ.out.1 HZ.out.2.1 HZ.out.2.2.1 HZ.out.2.2.2 rfl (by decide) _ l.length _ rfl OW.out ⟨w1.heap.size, 0, none⟩ 1 1 (opCs (oSlli rd)) rfl rfl NW.out (one_opc _) (by have := HLEN.out; unfold maxLen; omega) (by have := HLEN.out; omega) B1.out.size ?_
        intro v' w3 hown' hgrow _
        rw [flat_op, ← show (l ++ [oSlli rd]).length = l.length + 1 by simp] at hown'
        have hl1 : (l ++ [oSlli rd]).length = l.length + 1 := by simp
        obtain ⟨l1, hl2⟩ : ∃ l1, l ++ [oSlli rd] = l1 := ⟨_, rfl⟩
        rw [hl2] at hown' hl1
        have HL1 := Aside0.mk (And.intro hl1 hl2)
        clear hl1 hl2
        obtain ⟨o3, c3, rfl⟩ := row_slice hown'
        have B3 := Aside0.mk (grown_below B1.out (Nat.le_refl _) hgrow (fun k hk => (row_block OW.out k hk).1))
        have OW3 := Aside0.mk (own_nxt hown' (below_alloc (Below.refl _ _) (opC (oAddi2 rd L))))
        have B4 := Aside0.mk (below_alloc B3.out (opC (oAddi2 rd L)))
        have NW3 := Aside0.mk (World.news_of_block (w := w3.alloc (opC (oAddi2 rd L))) (B := w3.heap.size) (cs := (opCs (oAddi2 rd L)).toArray) (t := 24) (fr := (0, 0)) (heap_alloc_last _ _))
        clear hown' hgrow
        go_wp2_with (first | (at_builtin; refine Aside0.out ?_))
        refine Aside0.mk ?_
        refine wpList_append_own _ rfl (.tmp 65) (.tmp 70) 37 rfl w.heap.size 24 i0 _ 5 48 under37 HZ.out.1 HZ.out.2.1 HZ.out.2.2.1 HZ.out.2.2.2 rfl (by decide) _ l1.length _ rfl OW3.out ⟨w3.heap.size, 0, none⟩ 1 1 (opCs (oAddi2 rd L)) rfl rfl NW3.out (one_opc _) (by have := HLEN.out; rw [HL1.out.1]; unfold maxLen; omega) (by have := HLEN.out; rw [HL1.out.1]; omega) B4.out.size ?_
        intro v' w5 hown' hgrow _
        rw [flat_op, ← show (l1 ++ [oAddi2 rd L]).length = l1.length + 1 by simp] at hown'
        rw [← HL1.out.2, List.append_assoc] at hown'
        have O5 := Aside0.mk hown'
        have B5 := Aside0.mk (grown_below B4.out (Nat.le_refl _) hgrow (fun k hk => (row_block OW3.out k hk).1))
        clear hown' hgrow
        go_wp2
        go_ret
        exact ⟨v', rfl, by rw [← HR.out, if_neg hL0]; exact O5.out, B5.out⟩
    · clear hm0
      go_wp2_with fail
      refine (HREC.out w).mono ?_
      rintro e w1 ⟨v, rfl, hown, hb⟩
      obtain ⟨ov, cv, rfl⟩ := row_slice hown
      obtain ⟨i0, hi, hz0, hz1, hz2⟩ := HI.out
      have HZ := Aside0.mk (And.intro hi (And.intro hz0 (And.intro hz1 hz2)))
      have OW := Aside0.mk (own_nxt hown (below_alloc (Below.refl _ _) (opC (oSlli rd))))
      have B1 := Aside0.mk (below_alloc hb (opC (oSlli rd)))
      have NW := Aside0.mk (World.news_of_block (w := w1.alloc (opC (oSlli rd))) (B := w1.heap.size) (cs := (opCs (oSlli rd)).toArray) (t := 24) (fr := (0, 0)) (heap_alloc_last _ _))
      clear hown hb hi hz0 hz1 hz2
      go_wp2_with (first | (at_builtin; refine Aside0.out ?_))
      refine Aside0.mk ?_
      refine wpList_append_own _ rfl (.tmp 57) (.tmp 61) 37 rfl w.heap.size 24 i0 _ 5 48 under37 HZ.out.1 HZ.out.2.1 HZ.out.2.2.1 HZ.out.2.2.2 rfl (by decide) _ l.length _ rfl OW.out ⟨w1.heap.size, 0, none⟩ 1 1 (opCs (oSlli rd)) rfl rfl NW.out (one_opc _) (by have := HLEN.out; unfold maxLen; omega) (by have := HLEN.out; omega) B1.out.size ?_
      intro v' w3 hown' hgrow _
      rw [flat_op, ← show (l ++ [oSlli rd]).length = l.length + 1 by simp] at hown'
      have hl1 : (l ++ [oSlli rd]).length = l.length + 1 := by simp
      obtain ⟨l1, hl2⟩ : ∃ l1, l ++ [oSlli rd] = l1 := ⟨_, rfl⟩
      rw [hl2] at hown' hl1
      have HL1 := Aside0.mk (And.intro hl1 hl2)
      clear hl1 hl2
      obtain ⟨o3, c3, rfl⟩ := row_slice hown'
      have B3 := Aside0.mk (grown_below B1.out (Nat.le_refl _) hgrow (fun k hk => (row_block OW.out k hk).1))
      have OW3 := Aside0.mk (own_nxt hown' (below_alloc (Below.refl _ _) (opC (oAddi2 rd L))))
      have B4 := Aside0.mk (below_alloc B3.out (opC (oAddi2 rd L)))
      have NW3 := Aside0.mk (World.news_of_block (w := w3.alloc (opC (oAddi2 rd L))) (B := w3.heap.size) (cs := (opCs (oAddi2 rd L)).toArray) (t := 24) (fr := (0, 0)) (heap_alloc_last _ _))
      clear hown' hgrow
      go_wp2_with (first | (at_builtin; refine Aside0.out ?_))
      refine Aside0.mk ?_
      refine wpList_append_own _ rfl (.tmp 65) (.tmp 70) 37 rfl w.heap.size 24 i0 _ 5 48 under37 HZ.out.1 HZ.out.2.1 HZ.out.2.2.1 HZ.out.2.2.2 rfl (by decide) _ l1.length _ rfl OW3.out ⟨w3.heap.size, 0, none⟩ 1 1 (opCs (oAddi2 rd L)) rfl rfl NW3.out (one_opc _) (by have := HLEN.out; rw [HL1.out.1]; unfold maxLen; omega) (by have := HLEN.out; rw [HL1.out.1]; omega) B4.out.size ?_
      intro v' w5 hown' hgrow _
      rw [flat_op, ← show (l1 ++ [oAddi2 rd L]).length = l1.length + 1 by simp] at hown'
      rw [← HL1.out.2, List.append_assoc] at hown'
      have O5 := Aside0.mk hown'
      have B5 := Aside0.mk (grown_below B4.out (Nat.le_refl _) hgrow (fun k hk => (row_block OW3.out k hk).1))
      clear hown' hgrow
      go_wp2
      go_ret
      exact ⟨v', rfl, by rw [← HR.out, if_neg hL0]; exact O5.out, B5.out⟩
theorem num_near' (rd n : Int) (k : Nat) (h1 : -2147483648 ≤ n) (h2 : n < 2147483648) : NumR rd n (numL rd (k + 1) n) := by
  by_cases h : -2048 ≤ n ∧ n < 2048
  · exact num_small rd n k h
  · exact num_mid rd n k h h1 h2
theorem num_up' (rd n : Int) (k : Nat) (hk : k ≤ 10) (hrec : NumR rd (wrap64 (n - lowF n) / 4096) (numL rd k (wrap64 (n - lowF n) / 4096))) : NumR rd n (numL rd (k + 1) n) := by
  by_cases h0 : -2147483648 ≤ n ∧ n < 2147483648
  · exact num_near' rd n k h0.1 h0.2
  · exact num_far rd n k hk h0 hrec
/-- The reference's instructions of a number are the code's. -/
theorem Num_calls (rd n : Int) (h1 : I64 n) : NumR rd n (numL rd 4 n) := by
  obtain ⟨a1, a2⟩ := h1
  obtain ⟨b1, b2⟩ := far_up n 9223372036854775808 (by decide) (by decide) (by decide) (by omega) (by omega) a2
  refine num_up' rd n 3 (by decide) ?_
  generalize wrap64 (n - lowF n) / 4096 = m at *
  obtain ⟨c1, c2⟩ := far_up m (9223372036854775808 / 4096) (by decide) (by decide) (by decide) b1 b2 (by omega)
  refine num_up' rd m 2 (by decide) ?_
  generalize wrap64 (m - lowF m) / 4096 = o at *
  obtain ⟨d1, d2⟩ := far_up o (9223372036854775808 / 4096 / 4096) (by decide) (by decide) (by decide) c1 c2 (by omega)
  refine num_up' rd o 1 (by decide) ?_
  generalize wrap64 (o - lowF o) / 4096 = q at *
  exact num_near' rd q 0 (by omega) (by omega)
end Go.Proofs.Ytciehejifdbpoaa.Ap
end
