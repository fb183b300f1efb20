import Derived.Test.YtpfcdhjknmijjaaGreatCo29
section
set_option linter.unusedSimpArgs false
set_option linter.unusedVariables false
namespace Go.Proofs.YtpfcdhjknmijjaaGreat.Jc
open Go.Proofs.YtpfcdhjknmijjaaGreatW.PrintWords Go.Proofs.YtpfcdhjknmijjaaGreatW.PrintLast Go.Proofs.YtpfcdhjknmijjaaGreatW.PrintMore
open Go.RowKit Go.Proofs.YtpfcdhjknmijjaaGreat.Em Go.Proofs.YtpfcdhjknmijjaaGreat.Ve Go.Proofs.YtpfcdhjknmijjaaGreat.Rv Go.Proofs.YtpfcdhjknmijjaaGreat.As Go.Proofs.YtpfcdhjknmijjaaGreat.PEmitFinds
/-! ### The assembler's text is whole: every piece can be encoded, every label is marked -/
theorem long_fix (A : AsmS) : stepL A (longF A) = longF A := by
  have key : ∀ j, (∃ i, i ≤ j ∧ stepL A (itL A i) = itL A i) ∨ j ≤ cntT (itL A j) A.ps.length := by
    intro j
    induction j with
    | zero => exact .inr (Nat.zero_le _)
    | succ j ih =>
      rcases ih with ⟨i, hi, h⟩ | h
      · exact .inl ⟨i, by omega, h⟩
      · by_cases hn : ∃ i, needs A (itL A j) i = true
        · obtain ⟨i, hi⟩ := hn
          exact .inr (itL_more h hi)
        · refine .inl ⟨j, by omega, ?_⟩
          funext i
          have : needs A (itL A j) i = false := by
            cases hq : needs A (itL A j) i
            · rfl
            · exact absurd ⟨i, hq⟩ hn
          show (itL A j i || needs A (itL A j) i) = itL A j i
          rw [this]; simp
  rcases key (A.ps.length + 1) with ⟨i, hi, h⟩ | h
  · have e := itL_fix h (A.ps.length + 1 - i)
    rw [show i + (A.ps.length + 1 - i) = A.ps.length + 1 by omega] at e
    show stepL A (itL A (A.ps.length + 1)) = itL A (A.ps.length + 1)
    rw [e, h]
  · have := cntT_le (itL A (A.ps.length + 1)) A.ps.length
    omega
theorem long_needs (A : AsmS) (i : Nat) : needs A (longF A) i = false := by
  have h := congrFun (long_fix A) i
  cases hq : needs A (longF A) i
  · rfl
  · obtain ⟨_, h2⟩ := needs_lt hq
    unfold stepL at h
    rw [hq, h2] at h
    cases h
def jalN : ByteArray := ⟨#[106, 97, 108]⟩
def auipcN : ByteArray := ⟨#[97, 117, 105, 112, 99]⟩
/-- A piece that can be encoded wherever its label lies near enough. -/
def PcOk (x : Pc) : Prop :=
  if x.sort = 0 then encC x.op = 0 else if x.sort = 1 then (brBad x.op.name x.op.ra x.op.rb = false ∧ x.op.rd = 0)
  else if x.sort = 2 then x.op.name = jalN ∧ regOk x.op.rd = true ∧ x.op.ra = 0 ∧ x.op.rb = 0
  else x.sort = 3 ∧ x.op.name = auipcN ∧ regOk x.op.rd = true ∧ x.op.ra = 0 ∧ x.op.rb = 0
theorem enc_at {nm : ByteArray} {rd ra rb imm : Int} (h1 : nIdx nm < 64) (h : encOk (kd (nIdx nm)).2.1 rd ra rb imm = true) : (encF nm rd ra rb imm).2 = 0 := by
  unfold encF; rw [if_pos ⟨h1, h⟩]
theorem reg_b {r : Int} (h : regOk r = true) : regB r true = true := by
  unfold regOk at h
  simp only [Bool.and_eq_true, decide_eq_true_eq] at h
  unfold regB
  by_cases h0 : r = 0
  · subst h0; rfl
  · have : r > 0 := by omega
    simp [this, h.2]
theorem n_addi : nIdx ⟨#[97, 100, 100, 105]⟩ < 64 ∧ (kd (nIdx ⟨#[97, 100, 100, 105]⟩)).2.1 = 1 := by decide +kernel
theorem n_addiw : nIdx ⟨#[97, 100, 100, 105, 119]⟩ < 64 ∧ (kd (nIdx ⟨#[97, 100, 100, 105, 119]⟩)).2.1 = 1 := by decide +kernel
theorem n_slli : nIdx ⟨#[115, 108, 108, 105]⟩ < 64 ∧ (kd (nIdx ⟨#[115, 108, 108, 105]⟩)).2.1 = 2 := by decide +kernel
theorem n_lui : nIdx ⟨#[108, 117, 105]⟩ < 64 ∧ (kd (nIdx ⟨#[108, 117, 105]⟩)).2.1 = 6 := by decide +kernel
theorem n_jal : nIdx jalN < 64 ∧ (kd (nIdx jalN)).2.1 = 7 := by decide +kernel
theorem n_auipc : nIdx auipcN < 64 ∧ (kd (nIdx auipcN)).2.1 = 6 := by decide +kernel
theorem e_imm {nm : ByteArray} (hn : nIdx nm < 64 ∧ (kd (nIdx nm)).2.1 = 1) {rd ra imm : Int} (h1 : regOk rd = true) (h2 : regOk ra = true) (h3 : -2048 ≤ imm ∧ imm ≤ 2047) : (encF nm rd ra 0 imm).2 = 0 := by
  refine enc_at hn.1 ?_
  rw [hn.2]
  refine encOk_iff.2 ⟨reg_b h1, reg_b h2, rfl, h3.1, h3.2, ?_⟩
  show (imm.tmod 1 != 0) = false
  simp [Int.tmod_one]
theorem e_up {nm : ByteArray} (hn : nIdx nm < 64 ∧ (kd (nIdx nm)).2.1 = 6) {rd imm : Int} (h1 : regOk rd = true) (h3 : -524288 ≤ imm ∧ imm ≤ 524287) : (encF nm rd 0 0 imm).2 = 0 := by
  refine enc_at hn.1 ?_
  rw [hn.2]
  refine encOk_iff.2 ⟨reg_b h1, rfl, rfl, h3.1, h3.2, ?_⟩
  show (imm.tmod 1 != 0) = false
  simp [Int.tmod_one]
theorem e_slli {rd : Int} (h1 : regOk rd = true) : (encF ⟨#[115, 108, 108, 105]⟩ rd rd 0 12).2 = 0 := by
  refine enc_at n_slli.1 ?_
  rw [n_slli.2]
  exact encOk_iff.2 ⟨reg_b h1, reg_b h1, rfl, by decide, by decide, by decide⟩
theorem e_jal {rd imm : Int} (h1 : regOk rd = true) (h3 : -1048576 ≤ imm ∧ imm ≤ 1048574) (h4 : imm % 2 = 0) : (encF jalN rd 0 0 imm).2 = 0 := by
  refine enc_at n_jal.1 ?_
  rw [n_jal.2]
  refine encOk_iff.2 ⟨reg_b h1, rfl, rfl, h3.1, h3.2, ?_⟩
  show (imm.tmod 2 != 0) = false
  have : imm.tmod 2 = 0 := Int.tmod_eq_zero_of_dvd (Int.dvd_of_emod_eq_zero h4)
  rw [this]; rfl
def brs : List ByteArray := [⟨#[98, 101, 113]⟩, ⟨#[98, 110, 101]⟩, ⟨#[98, 108, 116]⟩, ⟨#[98, 103, 101]⟩, ⟨#[98, 108, 116, 117]⟩, ⟨#[98, 103, 101, 117]⟩]
theorem n_brs : ∀ nm ∈ brs, nIdx nm < 64 ∧ (kd (nIdx nm)).2.1 = 5 := by decide +kernel
theorem e_br {nm : ByteArray} (hm : nm ∈ brs) {ra rb imm : Int} (h1 : regOk ra = true) (h2 : regOk rb = true) (h3 : -4096 ≤ imm ∧ imm ≤ 4094) (h4 : imm % 2 = 0) : (encF nm 0 ra rb imm).2 = 0 := by
  have hn := n_brs nm hm
  refine enc_at hn.1 ?_
  rw [hn.2]
  refine encOk_iff.2 ⟨rfl, reg_b h1, reg_b h2, h3.1, h3.2, ?_⟩
  show (imm.tmod 2 != 0) = false
  have : imm.tmod 2 = 0 := Int.tmod_eq_zero_of_dvd (Int.dvd_of_emod_eq_zero h4)
  rw [this]; rfl
theorem toL_inj {a : ByteArray} {l : List UInt8} (h : a.toList = l) : a = ⟨l.toArray⟩ := by
  rw [ByteArray.toList_eq] at h
  cases a with
  | mk d => show (⟨d⟩ : ByteArray) = _; rw [← h]
theorem turn_in {nm : ByteArray} (h : (turnF nm).toList.isEmpty = false) : nm ∈ brs ∧ turnF nm ∈ brs := by
  unfold turnF at h ⊢
  split
  · rename_i e; rw [toL_inj e]; unfold brs; simp
  · split
    · rename_i e; rw [toL_inj e]; unfold brs; simp
    · split
      · rename_i e; rw [toL_inj e]; unfold brs; simp
      · split
        · rename_i e; rw [toL_inj e]; unfold brs; simp
        · split
          · rename_i e; rw [toL_inj e]; unfold brs; simp
          · split
            · rename_i e; rw [toL_inj e]; unfold brs; simp
            · simp_all

theorem low_ok (n : Int) : -2048 ≤ lowF n ∧ lowF n ≤ 2047 := ⟨(low_b n).1, (low_b n).2.1⟩
theorem hi_ok {n : Int} (h1 : -2147483648 ≤ n) (h2 : n < 2147483648) : -524288 ≤ hiF n ∧ hiF n ≤ 524287 := by
  rw [high_mid n h1 h2]; split <;> omega
theorem numL_ok {rd : Int} (hr : regOk rd = true) : ∀ (k : Nat) (n : Int), ∀ x ∈ numL rd k n, encC x = 0
  | 0, n, x, h => by simp [numL] at h
  | k + 1, n, x, h => by
    have h0 : regOk 0 = true := rfl
    unfold numL at h
    split at h
    · rename_i hn
      simp at h; subst h
      exact e_imm n_addi (imm := n) hr h0 (by omega)
    · split at h
      · rename_i hn
        rcases List.mem_cons.1 h with rfl | h
        · exact e_up n_lui hr (hi_ok hn.1 hn.2)
        · split at h
          · cases h
          · simp at h; subst h
            exact e_imm n_addiw hr hr (low_ok n)
      · rcases List.mem_append.1 h with h | h
        · exact numL_ok hr k _ x h
        · rcases List.mem_cons.1 h with rfl | h
          · exact e_slli hr
          · split at h
            · cases h
            · simp at h; subst h
              exact e_imm n_addi hr hr (low_ok n)
theorem pc0 {x : Pc} (h : x.sort = 0) (e : encC x.op = 0) : PcOk x := by unfold PcOk; rw [if_pos h]; exact e
theorem pc1 {x : Pc} (h : x.sort = 1) (e : brBad x.op.name x.op.ra x.op.rb = false ∧ x.op.rd = 0) : PcOk x := by unfold PcOk; rw [if_neg (by rw [h]; decide), if_pos h]; exact e
theorem pc2 {x : Pc} (h : x.sort = 2) (e : x.op.name = jalN ∧ regOk x.op.rd = true ∧ x.op.ra = 0 ∧ x.op.rb = 0) : PcOk x := by unfold PcOk; rw [if_neg (by rw [h]; decide), if_neg (by rw [h]; decide), if_pos h]; exact e
theorem pc3 {x : Pc} (h : x.sort = 3) (e : x.op.name = auipcN ∧ regOk x.op.rd = true ∧ x.op.ra = 0 ∧ x.op.rb = 0) : PcOk x := by unfold PcOk; rw [if_neg (by rw [h]; decide), if_neg (by rw [h]; decide), if_neg (by rw [h]; decide)]; exact ⟨h, e⟩
def AllOk (A : AsmS) : Prop := ∀ x ∈ A.ps, PcOk x
theorem all_push {A : AsmS} (h : AllOk A) {c : Int} {x : Pc} (hx : c = 0 → PcOk x) : AllOk (A.pushIf c x) := by
  unfold AsmS.pushIf
  split
  · rename_i hc
    intro y hy
    rcases List.mem_append.1 hy with hy | hy
    · exact h y hy
    · simp at hy; subst hy; exact hx hc
  · exact h
theorem all_step {A : AsmS} (h : AllOk A) (c : Cmd) : AllOk (c.step A) := by
  cases c with
  | op x => exact all_push h fun hc => pc0 rfl hc
  | br nm ra rb lab =>
    refine all_push h fun hc => pc1 rfl ⟨?_, rfl⟩
    show brBad nm ra rb = false
    unfold brC at hc
    by_cases hq : brBad nm ra rb = true
    · rw [if_pos hq] at hc; cases hc
    · simpa using hq
  | jmp rd lab =>
    refine all_push h fun hc => pc2 rfl ⟨rfl, ?_, rfl, rfl⟩
    show regOk rd = true
    unfold toC at hc
    by_cases hq : regOk rd = false
    · rw [if_pos hq] at hc; cases hc
    · simpa using hq
  | adr rd lab =>
    refine all_push h fun hc => pc3 rfl ⟨rfl, ?_, rfl, rfl⟩
    show regOk rd = true
    unfold toC at hc
    by_cases hq : regOk rd = false
    · rw [if_pos hq] at hc; cases hc
    · simpa using hq
  | mrk lab =>
    show AllOk (A.markIf (mkC A lab) lab)
    unfold AsmS.markIf
    split
    · exact h
    · exact h
  | num rd n =>
    intro y hy
    rcases List.mem_append.1 hy with hy | hy
    · exact h y hy
    · obtain ⟨x, hx, rfl⟩ := List.mem_map.1 hy
      refine pc0 rfl ?_
      show encC x = 0
      cases hq : regOk rd
      · rw [hq] at hx; simp [numIf] at hx
      · rw [hq] at hx; exact numL_ok hq 4 n x hx
  | new => exact h
theorem all_run {A : AsmS} (h : AllOk A) (l : List Cmd) : AllOk (run A l) := by
  induction l generalizing A with
  | nil => exact h
  | cons c l ih => exact ih (all_step h c)
theorem size_mod (x : Pc) : sizeP x % 4 = 0 := by unfold sizeP; split <;> rfl
theorem pos_mod (ps : List Pc) (k : Nat) : posF ps k % 4 = 0 := by
  unfold posF
  generalize ps.take k = l
  induction l with
  | nil => rfl
  | cons x l ih => rw [List.map_cons, List.sum_cons]; have := size_mod x; omega
theorem pos_len (ps : List Pc) (k : Nat) : posF ps k ≤ 8 * ps.length := by
  have h := (posF_b (ps.take k) (ps.take k).length).2
  have e : posF (ps.take k) (ps.take k).length = posF ps k := by unfold posF; rw [List.take_length]
  rw [e] at h
  have : (ps.take k).length ≤ ps.length := by rw [List.length_take]; omega
  omega
theorem encB_one {x : OpI} (h : encC x = 0) : ∃ bs, encB [x] = some bs := by
  refine ⟨encB.wordB (encF x.name x.rd x.ra x.rb x.imm).1 ++ [], ?_⟩
  unfold encB
  rw [if_pos (show (encF x.name x.rd x.ra x.rb x.imm).2 = 0 from h)]; rfl
theorem encB_two {x y : OpI} (h : encC x = 0) (h2 : encC y = 0) : ∃ bs, encB [x, y] = some bs := by
  obtain ⟨bs, hb⟩ := encB_one h2
  refine ⟨encB.wordB (encF x.name x.rd x.ra x.rb x.imm).1 ++ bs, ?_⟩
  unfold encB
  rw [if_pos (show (encF x.name x.rd x.ra x.rb x.imm).2 = 0 from h), hb]; rfl
theorem wrap_small {z : Int} (h : -1000000 ≤ z ∧ z ≤ 1000000) : wrap64 z = z := by unfold wrap64; omega
theorem wrap64_lit : wrap64 (-1048576) = -1048576 := by unfold wrap64; omega
theorem wrap64_lit2 : wrap64 (-2147481600) = -2147481600 := by unfold wrap64; omega
theorem wrap64_lit3 : wrap64 (-4096) = -4096 := by unfold wrap64; omega
/-- A piece of settled code whose label is marked. -/
theorem piece_ok {A : AsmS} (hA : AllOk A) (hl : A.ps.length ≤ 70000) {i : Nat} (hi : i < A.ps.length) (hm : (A.ps[i]).sort ≠ 0 → ∃ t, A.marks (A.ps[i]).label = some t) :
    ∃ bs, pieceB (settleF A) i { A.ps[i] with long := longF A i } = some bs := by
  obtain ⟨x, hx⟩ : ∃ x, A.ps[i] = x := ⟨_, rfl⟩
  have hP := hA _ (List.getElem_mem hi)
  rw [hx] at hP hm ⊢
  unfold pieceB opsAt
  by_cases h0 : x.sort = 0
  · rw [if_pos h0]
    unfold PcOk at hP
    rw [if_pos h0] at hP
    exact encB_one hP
  · rw [if_neg h0]
    obtain ⟨t, ht⟩ := hm h0
    show ∃ bs, ((match A.marks x.label with | none => none | some t => if (opsF { x with long := longF A i } (wrap64 (posF (withL A.ps (longF A)) t.toNat - posF (withL A.ps (longF A)) i))).2 = true then some (opsF { x with long := longF A i } (wrap64 (posF (withL A.ps (longF A)) t.toNat - posF (withL A.ps (longF A)) i))).1 else none).bind encB) = some bs
    rw [ht]
    dsimp only
    have p1 := pos_len (withL A.ps (longF A)) t.toNat
    have p2 := pos_len (withL A.ps (longF A)) i
    have p3 := (posF_b (withL A.ps (longF A)) t.toNat).1
    have p4 := (posF_b (withL A.ps (longF A)) i).1
    have p5 := pos_mod (withL A.ps (longF A)) t.toNat
    have p6 := pos_mod (withL A.ps (longF A)) i
    rw [withL_len] at p1 p2
    have hn := long_needs A i
    unfold needs at hn
    rw [List.getElem?_eq_getElem hi, hx] at hn
    simp only [ht] at hn
    unfold posL at hn
    obtain ⟨d, hd⟩ : ∃ d, posF (withL A.ps (longF A)) t.toNat - posF (withL A.ps (longF A)) i = d := ⟨_, rfl⟩
    rw [hd] at hn ⊢
    have hdb : -560000 ≤ d ∧ d ≤ 560000 ∧ d % 4 = 0 := by omega
    clear p1 p2 p3 p4 p5 p6 hd
    rw [wrap_small (by omega)] at hn ⊢
    obtain ⟨L, hL⟩ : ∃ L, longF A i = L := ⟨_, rfl⟩
    rw [hL] at hn ⊢
    have hr1 : reachF d 1048576 = true := by
      unfold reachF; rw [wrap64_lit]; simp; omega
    have hr2 : reachF d 2147481600 = true := by
      unfold reachF; rw [wrap64_lit2]; simp; omega
    have hr3 : reachF (wrap64 (d - 4)) 1048576 = true := by
      rw [wrap_small (by omega)]
      unfold reachF; rw [wrap64_lit]; simp; omega
    unfold PcOk at hP
    rw [if_neg h0] at hP
    by_cases h2 : x.sort = 2
    · rw [if_neg (by omega), if_pos h2] at hP
      obtain ⟨q1, q2, q3, q4⟩ := hP
      unfold opsF
      simp only [h2, if_true, hr1]
      refine encB_one ?_
      show (encF x.op.name x.op.rd x.op.ra x.op.rb d).2 = 0
      rw [q1, q3, q4]
      exact e_jal q2 (by omega) (by omega)
    · by_cases h3 : x.sort = 3
      · rw [if_neg (by omega), if_neg (by omega)] at hP
        obtain ⟨_, q1, q2, q3, q4⟩ := hP
        unfold opsF
        simp only [h2, h3, if_true, if_false, hr2]
        refine encB_two ?_ ?_
        · show (encF x.op.name x.op.rd x.op.ra x.op.rb (wrap64 (d + 2048) / 4096)).2 = 0
          rw [q1, q3, q4, wrap_small (by omega)]
          exact e_up n_auipc q2 (by omega)
        · show (encF ⟨#[97, 100, 100, 105]⟩ x.op.rd x.op.rd 0 (wrap64 (d - wrap64 (wrap64 (d + 2048) / 4096 * 4096)))).2 = 0
          rw [wrap_small (z := d + 2048) (by omega), wrap_small (z := (d + 2048) / 4096 * 4096) (by omega), wrap_small (by omega)]
          exact e_imm n_addi q2 q2 (by omega)
      · have h1 : x.sort = 1 := by
          by_cases h1 : x.sort = 1
          · exact h1
          · rw [if_neg h1, if_neg h2] at hP; exact absurd hP.1 h3
        rw [if_pos h1] at hP
        obtain ⟨q1, q2⟩ := hP
        unfold brBad at q1
        simp only [Bool.or_eq_false_iff, Bool.not_eq_false'] at q1
        obtain ⟨⟨t1, t2⟩, t3⟩ := q1
        obtain ⟨b1, b2⟩ := turn_in t1
        unfold opsF
        cases L with
        | false =>
          simp only [h2, h3, if_false, if_true]
          have hre : reachF d 4096 = true := by
            simp only [h1, decide_true, Bool.not_false, Bool.true_and, Bool.not_eq_false'] at hn
            exact hn
          unfold reachF at hre
          rw [wrap64_lit3] at hre
          simp at hre
          refine encB_one ?_
          show (encF x.op.name x.op.rd x.op.ra x.op.rb d).2 = 0
          rw [q2]
          exact e_br b1 t2 t3 (by omega) (by omega)
        | true =>
          simp only [h2, h3, if_false, if_true, Bool.true_eq_false, hr3]
          refine encB_two ?_ ?_
          · show (encF (turnF x.op.name) x.op.rd x.op.ra x.op.rb 8).2 = 0
            rw [q2]
            exact e_br b2 t2 t3 (by omega) (by omega)
          · show (encF jalN 0 0 0 (wrap64 (d - 4))).2 = 0
            rw [wrap_small (by omega)]
            exact e_jal rfl (by omega) (by omega)
end Go.Proofs.YtpfcdhjknmijjaaGreat.Jc
end
