import Derived.Test.YtciehejifdbpoaaHr2
set_option linter.unusedSimpArgs false
set_option linter.unusedVariables false
namespace Go.Proofs.Ytciehejifdbpoaa.Ht
open Go.RowKit Go.Maps Go.Proofs.Ytciehejifdbpoaa.Grow Go.Proofs.Ytciehejifdbpoaa.Rv Go.Proofs.Ytciehejifdbpoaa.As Go.Proofs.Ytciehejifdbpoaa.PHartQuotients
open Go.Proofs.YtciehejifdbpoaaW.PrintWords Go.Proofs.YtciehejifdbpoaaW.PrintLast Go.Proofs.YtciehejifdbpoaaW.PrintMore

/-! ### The text of plain instructions -/
theorem encB_app : ∀ (l m : List OpI), encB (l ++ m) = (encB l).bind fun a => (encB m).map fun b => a ++ b
  | [], m => by simp [encB]
  | x :: l, m => by
    have e : ∀ k : List OpI, encB (x :: k) = if (encF x.name x.rd x.ra x.rb x.imm).2 = 0 then (encB k).map fun bs => encB.wordB (encF x.name x.rd x.ra x.rb x.imm).1 ++ bs else none := fun k => rfl
    rw [List.cons_append, e, e, encB_app l m]
    split
    · cases encB l <;> cases encB m <;> simp
    · rfl
theorem textL_plain {A : AsmS} (h : ∀ x ∈ A.ps, x.sort = 0) : ∀ k, k ≤ A.ps.length → textL A k = encB ((A.ps.take k).map Pc.op)
  | 0, _ => rfl
  | k + 1, hk => by
    have hlt : k < A.ps.length := by omega
    have hx := h _ (List.getElem_mem hlt)
    show (textL A k).bind (fun bs => (A.ps[k]?).bind fun x => (pieceB A k x).map fun cs => bs ++ cs) = _
    rw [textL_plain h k (by omega), List.getElem?_eq_getElem hlt, List.take_succ_eq_append_getElem hlt, List.map_append, encB_app]
    have e : pieceB A k A.ps[k] = encB [A.ps[k].op] := by unfold pieceB opsAt; rw [if_pos hx]; rfl
    simp only [Option.bind_some, e, List.map_cons, List.map_nil]
theorem settle_ops (A : AsmS) : (settleF A).ps.map Pc.op = A.ps.map Pc.op ∧ (settleF A).ps.map Pc.sort = A.ps.map Pc.sort := by
  have hl : (settleF A).ps.length = A.ps.length := withL_len _ _
  constructor
  all_goals
    apply List.ext_getElem
    · simp [hl]
    · intro i h1 h2
      have hi : i < A.ps.length := by simpa using h2
      rw [List.getElem_map, List.getElem_map]
      have e : (settleF A).ps[i]'(by rw [hl]; exact hi) = { A.ps[i] with long := longF A i } := withL_get hi
      rw [e]
theorem text_plain {A : AsmS} (h : ∀ x ∈ A.ps, x.sort = 0) {bs : List Int} (he : encB (A.ps.map Pc.op) = some bs) : textV (settleF A) = .tuple #[.string (strOf bs), .int .i64 0] := by
  have h' : ∀ x ∈ (settleF A).ps, x.sort = 0 := fun x hx => by
    have : x.sort ∈ (settleF A).ps.map Pc.sort := List.mem_map_of_mem hx
    rw [(settle_ops A).2] at this
    obtain ⟨y, hy, e⟩ := List.mem_map.1 this
    rw [← e]; exact h y hy
  have := textL_plain h' (settleF A).ps.length (Nat.le_refl _)
  rw [List.take_length, (settle_ops A).1, he] at this
  unfold textV
  rw [this]

/-! ### A number comes to a register -/
theorem lineF_app (l m : List OpI) (S : HartS) : lineF (l ++ m) S = lineF m (lineF l S) := List.foldl_append
theorem line_imm {nm by_ : ByteArray} (h : clsF nm = 8) (hw : withF nm = some by_) (S : HartS) (rd ra rb imm : Int) : lineOp S ⟨nm, rd, ra, rb, imm⟩ = (S.put rd (reckF by_ (S.ra ra) (IntKind.u64.wrap imm))).at_ (IntKind.u64.wrap (S.pc + 4)) := by
  have hm : mkDone ⟨nm, rd, ra, rb, imm⟩ = ⟨⟨nm, rd, ra, rb, imm⟩, by_, true⟩ := by unfold mkDone; simp only [hw]
  unfold lineOp
  rw [hm]
  unfold execF
  simp only [h]
  rfl
theorem line_lui {nm : ByteArray} (h : clsF nm = 4) (S : HartS) (rd ra rb imm : Int) : lineOp S ⟨nm, rd, ra, rb, imm⟩ = (S.put rd (IntKind.u64.wrap (IntKind.u64.wrap imm * 4096))).at_ (IntKind.u64.wrap (S.pc + 4)) := by
  unfold lineOp
  unfold execF
  simp only [mkDone_op, h]
theorem im_addi : clsF ⟨#[97, 100, 100, 105]⟩ = 8 ∧ withF ⟨#[97, 100, 100, 105]⟩ = some nAdd := ⟨by kernel_rfl, by kernel_rfl⟩
theorem im_addiw : clsF ⟨#[97, 100, 100, 105, 119]⟩ = 8 ∧ withF ⟨#[97, 100, 100, 105, 119]⟩ = some nAddw := ⟨by kernel_rfl, by kernel_rfl⟩
theorem im_slli : clsF ⟨#[115, 108, 108, 105]⟩ = 8 ∧ withF ⟨#[115, 108, 108, 105]⟩ = some ⟨#[115, 108, 108]⟩ := ⟨by kernel_rfl, by kernel_rfl⟩
theorem im_lui : clsF ⟨#[108, 117, 105]⟩ = 4 := by kernel_rfl
theorem r_sll (a : Int) : reckF ⟨#[115, 108, 108]⟩ a 12 = IntKind.u64.wrap (a * 4096) := by
  refine reck_of ?_
  kernel_rfl
structure Fit (S : HartS) : Prop where
  len : S.regs.length = 32
  zero : S.ra 0 = 0
theorem Fit.put {S : HartS} (h : Fit S) {rd : Int} (hr : 0 < rd ∧ rd < 32) (x nx : Int) : Fit ((S.put rd x).at_ nx) ∧ ((S.put rd x).at_ nx).ra rd = x :=
  ⟨⟨by rw [len_at, put_len, h.len], by rw [ra_at, ra_ne (by have := hr.1; intro e; rw [show (0 : Int).toNat = 0 from rfl] at e; omega), h.zero]⟩, by rw [ra_at, ra_same h.len hr]⟩
theorem go_addi {S : HartS} (h : Fit S) {rd : Int} (hr : 0 < rd ∧ rd < 32) (ra n : Int) : Fit (lineOp S ⟨⟨#[97, 100, 100, 105]⟩, rd, ra, 0, n⟩) ∧ (lineOp S ⟨⟨#[97, 100, 100, 105]⟩, rd, ra, 0, n⟩).ra rd = IntKind.u64.wrap (S.ra ra + IntKind.u64.wrap n) := by
  rw [line_imm im_addi.1 im_addi.2, r_add]
  exact h.put hr _ _
theorem go_addiw {S : HartS} (h : Fit S) {rd : Int} (hr : 0 < rd ∧ rd < 32) (ra n : Int) : Fit (lineOp S ⟨⟨#[97, 100, 100, 105, 119]⟩, rd, ra, 0, n⟩) ∧ (lineOp S ⟨⟨#[97, 100, 100, 105, 119]⟩, rd, ra, 0, n⟩).ra rd = eF (IntKind.u64.wrap (S.ra ra + IntKind.u64.wrap n)) := by
  rw [line_imm im_addiw.1 im_addiw.2, r_addw, ext_val]
  exact h.put hr _ _
theorem go_slli {S : HartS} (h : Fit S) {rd : Int} (hr : 0 < rd ∧ rd < 32) : Fit (lineOp S (oSlli rd)) ∧ (lineOp S (oSlli rd)).ra rd = IntKind.u64.wrap (S.ra rd * 4096) := by
  unfold oSlli
  rw [line_imm im_slli.1 im_slli.2, show IntKind.u64.wrap 12 = 12 from rfl, r_sll]
  exact h.put hr _ _
theorem go_lui {S : HartS} (h : Fit S) {rd : Int} (hr : 0 < rd ∧ rd < 32) (n : Int) : Fit (lineOp S (oLui rd n)) ∧ (lineOp S (oLui rd n)).ra rd = IntKind.u64.wrap (IntKind.u64.wrap n * 4096) := by
  unfold oLui
  rw [line_lui im_lui]
  exact h.put hr _ _
def InR (k : Nat) (n : Int) : Prop := match k with
  | 0 => False
  | 1 => -134217728 ≤ n ∧ n ≤ 134217728
  | 2 => -549755813888 ≤ n ∧ n ≤ 549755813888
  | 3 => -2251799813685248 ≤ n ∧ n ≤ 2251799813685248
  | _ => -9223372036854775808 ≤ n ∧ n < 9223372036854775808
theorem inR_64 {k : Nat} {n : Int} (h : InR k n) : -9223372036854775808 ≤ n ∧ n < 9223372036854775808 := by
  unfold InR at h
  split at h
  · exact h.elim
  all_goals omega
theorem inR_down {k : Nat} {n : Int} (hk : k ≤ 3) (h : InR (k + 1) n) (hf : ¬ (-2147483648 ≤ n ∧ n < 2147483648)) : InR k (wrap64 (n - As.lowF n) / 4096) := by
  match k, hk, h with
  | 0, _, h => simp only [InR] at h; omega
  | 1, _, h =>
    simp only [InR] at h
    have := far_up n 549755813888 (by decide) (by decide) (by decide) h.1 h.2 (by omega)
    simp only [InR]; omega
  | 2, _, h =>
    simp only [InR] at h
    have := far_up n 2251799813685248 (by decide) (by decide) (by decide) h.1 h.2 (by omega)
    simp only [InR]; omega
  | 3, _, h =>
    simp only [InR] at h
    have := far_up n 9223372036854775808 (by decide) (by decide) (by decide) h.1 (by omega) h.2
    simp only [InR]; omega
theorem num_go {rd : Int} (hr : 0 < rd ∧ rd < 32) : ∀ (k : Nat) (n : Int) (S : HartS), k ≤ 4 → InR k n → Fit S → Fit (lineF (numL rd k n) S) ∧ (lineF (numL rd k n) S).ra rd = IntKind.u64.wrap n
  | 0, _, _, _, h, _ => h.elim
  | k + 1, n, S, hk, hn, hS => by
    unfold numL
    split
    · obtain ⟨f1, f2⟩ := go_addi hS hr 0 n
      refine ⟨f1, ?_⟩
      show (lineOp S (oAddi rd n)).ra rd = _
      refine f2.trans ?_
      rw [hS.zero]
      simp only [IntKind.wrap_u64]; omega
    · split
      · rename_i h0 h1
        obtain ⟨f1, f2⟩ := go_lui hS hr (As.hiF n)
        have hm := high_mid n h1.1 h1.2
        obtain ⟨l1, l2, l3⟩ := low_b n
        have hlow : n % 4096 = As.lowF n % 4096 := by omega
        by_cases hl : As.lowF n = 0
        · rw [if_pos hl]
          refine ⟨f1, ?_⟩
          show (lineOp S (oLui rd (As.hiF n))).ra rd = _
          rw [f2]
          rw [hl] at hlow
          have : As.hiF n = n / 4096 := by
            rw [hm]
            split <;> omega
          rw [this]
          simp only [IntKind.wrap_u64]; omega
        · rw [if_neg hl]
          obtain ⟨g1, g2⟩ := go_addiw f1 hr rd (As.lowF n)
          refine ⟨g1, ?_⟩
          show (lineOp (lineOp S (oLui rd (As.hiF n))) (oAddiw rd (As.lowF n))).ra rd = _
          refine g2.trans ?_
          rw [f2]
          have e : IntKind.u64.wrap n = eF n := by unfold eF sx; rw [IntKind.wrap_u64]; omega
          rw [e]
          refine eF_of ?_
          rw [hm]
          clear hm g2 f2
          simp only [IntKind.wrap_u64]
          split <;> omega
      · rename_i h0 h1
        obtain ⟨f1, f2⟩ := num_go hr k (wrap64 (n - As.lowF n) / 4096) S (by omega) (inR_down (by omega) hn h1) hS
        obtain ⟨g1, g2⟩ := go_slli f1 hr
        obtain ⟨l1, l2, l3⟩ := low_b n
        obtain ⟨n1, n2⟩ := inR_64 hn
        rw [lineF_app]
        generalize lineF (numL rd k (wrap64 (n - As.lowF n) / 4096)) S = S1 at *
        by_cases hl : As.lowF n = 0
        · rw [if_pos hl]
          refine ⟨g1, ?_⟩
          show (lineOp S1 (oSlli rd)).ra rd = _
          rw [g2, f2]
          clear g2 f2
          simp only [IntKind.wrap_u64, hl]
          unfold wrap64
          rw [hl] at l3
          omega
        · rw [if_neg hl]
          obtain ⟨q1, q2⟩ := go_addi g1 hr rd (As.lowF n)
          refine ⟨q1, ?_⟩
          show (lineOp (lineOp S1 (oSlli rd)) (oAddi2 rd (As.lowF n))).ra rd = _
          refine q2.trans ?_
          rw [g2, f2]
          clear q2 g2 f2
          generalize As.lowF n = L at *
          simp only [IntKind.wrap_u64]
          unfold wrap64
          omega

/-! ### Such instructions are right -/
theorem idx_addi : nIdx ⟨#[97, 100, 100, 105]⟩ < 64 ∧ (kd (nIdx ⟨#[97, 100, 100, 105]⟩)).2.1 = 1 := by decide +kernel
theorem idx_addiw : nIdx ⟨#[97, 100, 100, 105, 119]⟩ < 64 ∧ (kd (nIdx ⟨#[97, 100, 100, 105, 119]⟩)).2.1 = 1 := by decide +kernel
theorem idx_slli : nIdx ⟨#[115, 108, 108, 105]⟩ < 64 ∧ (kd (nIdx ⟨#[115, 108, 108, 105]⟩)).2.1 = 2 := by decide +kernel
theorem idx_lui : nIdx ⟨#[108, 117, 105]⟩ < 64 ∧ (kd (nIdx ⟨#[108, 117, 105]⟩)).2.1 = 6 := by decide +kernel
theorem reg_ok {r : Int} (h : 0 ≤ r ∧ r < 32) : regB r true = true := by
  unfold regB
  simp only [Bool.or_eq_true, beq_iff_eq, Bool.and_eq_true, decide_eq_true_eq, Bool.true_and]
  omega
theorem tmod_one (x : Int) : (x.tmod 1 != 0) = false := by rw [Int.tmod_one]; rfl
theorem enc_ok {nm : ByteArray} {f rd ra rb imm : Int} (h : nIdx nm < 64 ∧ (kd (nIdx nm)).2.1 = f) (ho : encOk f rd ra rb imm = true) : (encF nm rd ra rb imm).2 = 0 := by
  unfold encF
  rw [if_pos ⟨h.1, by rw [h.2]; exact ho⟩]
theorem ok_addi {rd ra n : Int} (h1 : 0 ≤ rd ∧ rd < 32) (h2 : 0 ≤ ra ∧ ra < 32) (hn : -2048 ≤ n ∧ n ≤ 2047) : (encF ⟨#[97, 100, 100, 105]⟩ rd ra 0 n).2 = 0 :=
  enc_ok idx_addi (encOk_iff.2 ⟨reg_ok h1, reg_ok h2, rfl, hn.1, hn.2, tmod_one n⟩)
theorem ok_addiw {rd ra n : Int} (h1 : 0 ≤ rd ∧ rd < 32) (h2 : 0 ≤ ra ∧ ra < 32) (hn : -2048 ≤ n ∧ n ≤ 2047) : (encF ⟨#[97, 100, 100, 105, 119]⟩ rd ra 0 n).2 = 0 :=
  enc_ok idx_addiw (encOk_iff.2 ⟨reg_ok h1, reg_ok h2, rfl, hn.1, hn.2, tmod_one n⟩)
theorem ok_slli {rd : Int} (h1 : 0 ≤ rd ∧ rd < 32) : (encF ⟨#[115, 108, 108, 105]⟩ rd rd 0 12).2 = 0 :=
  enc_ok idx_slli (encOk_iff.2 ⟨reg_ok h1, reg_ok h1, rfl, by decide, by decide, by decide⟩)
theorem ok_lui {rd n : Int} (h1 : 0 ≤ rd ∧ rd < 32) (hn : -524288 ≤ n ∧ n ≤ 524287) : (encF ⟨#[108, 117, 105]⟩ rd 0 0 n).2 = 0 :=
  enc_ok idx_lui (encOk_iff.2 ⟨reg_ok h1, rfl, rfl, hn.1, hn.2, tmod_one n⟩)
def Right (x : OpI) : Prop := (encF x.name x.rd x.ra x.rb x.imm).2 = 0 ∧ Plain x
theorem encB_right : ∀ l : List OpI, (∀ x ∈ l, Right x) → ∃ bs, encB l = some bs
  | [], _ => ⟨[], rfl⟩
  | x :: l, h => by
    obtain ⟨bs, hb⟩ := encB_right l fun y hy => h y (List.mem_cons_of_mem _ hy)
    unfold encB
    rw [if_pos (h x (List.mem_cons_self ..)).1, hb]
    exact ⟨_, rfl⟩
theorem num_right {rd : Int} (hr : 0 < rd ∧ rd < 32) : ∀ (k : Nat) (n : Int), ∀ x ∈ numL rd k n, Right x
  | 0, _, x, h => by cases h
  | k + 1, n, x, h => by
    have hr' : 0 ≤ rd ∧ rd < 32 := by omega
    obtain ⟨l1, l2, l3⟩ := low_b n
    unfold numL at h
    split at h
    · rename_i h0
      obtain rfl := List.mem_singleton.1 h
      exact ⟨ok_addi (rd := rd) (ra := 0) (n := n) hr' (by decide) (by omega), .inr im_addi.1⟩
    · split at h
      · rename_i h0 h1
        have hm := high_mid n h1.1 h1.2
        rcases List.mem_cons.1 h with rfl | h
        · refine ⟨ok_lui (rd := rd) (n := As.hiF n) hr' ?_, .inl im_lui⟩
          rw [hm]
          split <;> omega
        · split at h
          · cases h
          · obtain rfl := List.mem_singleton.1 h
            exact ⟨ok_addiw (rd := rd) (ra := rd) (n := As.lowF n) hr' hr' (by omega), .inr im_addiw.1⟩
      · rcases List.mem_append.1 h with h | h
        · exact num_right hr k _ x h
        · rcases List.mem_cons.1 h with rfl | h
          · exact ⟨ok_slli hr', .inr im_slli.1⟩
          · split at h
            · cases h
            · obtain rfl := List.mem_singleton.1 h
              exact ⟨ok_addi (rd := rd) (ra := rd) (n := As.lowF n) hr' hr' (by omega), .inr im_addi.1⟩
end Go.Proofs.Ytciehejifdbpoaa.Ht
