import Derived.Test.YtciehejifdbpoaaHy7
import Derived.Test.YtciehejifdbpoaaHy11
import Derived.Test.YtciehejifdbpoaaHy8
section
set_option linter.unusedSimpArgs false
set_option linter.unusedVariables false
namespace Go.Proofs.Ytciehejifdbpoaa.Hl
open Go.RowKit Go.Maps Go.Proofs.Ytciehejifdbpoaa.Grow Go.Proofs.Ytciehejifdbpoaa.Rv Go.Proofs.Ytciehejifdbpoaa.As Go.Proofs.Ytciehejifdbpoaa.Ht Go.Proofs.Ytciehejifdbpoaa.PHartQuotients Go.Proofs.Ytciehejifdbpoaa.PHartSteps
open Go.Proofs.YtciehejifdbpoaaW.PrintWords Go.Proofs.YtciehejifdbpoaaW.PrintLast Go.Proofs.YtciehejifdbpoaaW.PrintMore

/-! ### The document's memory of two regions is the machine's -/
def regs2 (d0 d1 : ByteArray) : List S92 := [⟨4096, d0, 4⟩, ⟨8192, d1, 3⟩]
structure Mem2 (S : MemS) (d0 d1 : ByteArray) : Prop where
  rs : S.rs = [⟨4096, dataB d0, 4⟩, ⟨8192, dataB d1, 3⟩]
  s0 : 0 < d0.size ∧ d0.size ≤ 400
  s1 : 0 < d1.size ∧ d1.size ≤ 500
/-- Where bytes are. -/
def whereV (d0 d1 : ByteArray) (a n right : Int) : Int :=
  if right = 4 then (if 4096 ≤ a ∧ a + n ≤ 4096 + (d0.size : Int) then 0 else -1) else (if 8192 ≤ a ∧ a + n ≤ 8192 + (d1.size : Int) then 1 else -1)
theorem where_f {d0 d1 : ByteArray} (h0 : d0.size ≤ 400) (h1 : d1.size ≤ 500) {a n right : Int} (ha : 0 ≤ a ∧ a < 18446744073709551616) (hn : 1 ≤ n ∧ n ≤ 8) (hr : right = 1 ∨ right = 2 ∨ right = 4) :
    ∀ k, burinref27_Where.f (k + 3) (regs2 d0 d1) a n right = some (whereV d0 d1 a n right) := by
  intro k
  have un : IntKind.u64.wrap n = n := uw_id ⟨by omega, by omega⟩
  have u0 : IntKind.u64.wrap (d0.size : Int) = (d0.size : Int) := uw_id ⟨by omega, by omega⟩
  have u1 : IntKind.u64.wrap (d1.size : Int) = (d1.size : Int) := uw_id ⟨by omega, by omega⟩
  have w0 : wrap64 (0 + 1) = 1 := by unfold wrap64; omega
  have w1 : wrap64 (1 + 1) = 2 := by unfold wrap64; omega
  have r0 : rd_T92 (regs2 d0 d1) 0 = ⟨4096, d0, 4⟩ := rfl
  have r1 : rd_T92 (regs2 d0 d1) 1 = ⟨8192, d1, 3⟩ := rfl
  have hl : ((regs2 d0 d1).length : Int) = 2 := rfl
  have e2 : ∀ k, burinref27_Where.l0 (k + 1) (regs2 d0 d1) a n right 2 = some (-1) := fun k => by
    rw [burinref27_Where.l0, hl, if_neg (by decide)]
  have e1 : ∀ k, burinref27_Where.l0 (k + 2) (regs2 d0 d1) a n right 1 = if Go.bits .and .i64 3 right = 0 then some (-1) else if 8192 ≤ a ∧ a + n ≤ 8192 + (d1.size : Int) then some 1 else some (-1) := fun k => by
    rw [burinref27_Where.l0, hl, if_pos (by decide), if_pos (by decide), r1]
    simp only [w1, e2, un, u1]
    have no : ¬ (8192 ≤ a ∧ a + n ≤ 8192 + (d1.size : Int)) → some (-1 : Int) = if 8192 ≤ a ∧ a + n ≤ 8192 + (d1.size : Int) then some 1 else some (-1) := fun h => (if_neg h).symm
    split
    · rfl
    · by_cases h : a ≥ 8192
      · have ud : IntKind.u64.wrap (a - 8192) = a - 8192 := uw_id ⟨by omega, by omega⟩
        rw [if_pos h, ud]
        by_cases g : a - 8192 < (d1.size : Int)
        · have ue : IntKind.u64.wrap ((d1.size : Int) - (a - 8192)) = (d1.size : Int) - (a - 8192) := uw_id ⟨by omega, by omega⟩
          rw [if_pos g, ue]
          by_cases q : (d1.size : Int) - (a - 8192) ≥ n
          · rw [if_pos q, if_pos (show 8192 ≤ a ∧ a + n ≤ 8192 + (d1.size : Int) by omega)]
          · rw [if_neg q]; exact no (by omega)
        · rw [if_neg g]; exact no (by omega)
      · rw [if_neg h]; exact no (by omega)
  show burinref27_Where.l0 (k + 3) (regs2 d0 d1) a n right 0 = _
  rw [burinref27_Where.l0, hl, if_pos (by decide), if_pos (by decide), r0]
  simp only [w0, e1, un, u0]
  unfold whereV
  rcases hr with rfl | rfl | rfl
  · rw [if_pos (show Go.bits .and .i64 4 1 = 0 by decide), if_neg (show ¬ Go.bits .and .i64 3 1 = 0 by decide), if_neg (show ¬ (1 : Int) = 4 by decide)]
    split <;> rfl
  · rw [if_pos (show Go.bits .and .i64 4 2 = 0 by decide), if_neg (show ¬ Go.bits .and .i64 3 2 = 0 by decide), if_neg (show ¬ (2 : Int) = 4 by decide)]
    split <;> rfl
  · rw [if_neg (show ¬ Go.bits .and .i64 4 4 = 0 by decide), if_pos (show Go.bits .and .i64 3 4 = 0 by decide), if_pos (show (4 : Int) = 4 from rfl)]
    by_cases h : a ≥ 4096
    · have ud : IntKind.u64.wrap (a - 4096) = a - 4096 := uw_id ⟨by omega, by omega⟩
      rw [if_pos h, ud]
      by_cases g : a - 4096 < (d0.size : Int)
      · have ue : IntKind.u64.wrap ((d0.size : Int) - (a - 4096)) = (d0.size : Int) - (a - 4096) := uw_id ⟨by omega, by omega⟩
        rw [if_pos g, ue]
        by_cases q : (d0.size : Int) - (a - 4096) ≥ n
        · rw [if_pos q, if_pos (show 4096 ≤ a ∧ a + n ≤ 4096 + (d0.size : Int) by omega)]
        · rw [if_neg q, if_neg (show ¬ (4096 ≤ a ∧ a + n ≤ 4096 + (d0.size : Int)) by omega)]
      · rw [if_neg g, if_neg (show ¬ (4096 ≤ a ∧ a + n ≤ 4096 + (d0.size : Int)) by omega)]
    · rw [if_neg h, if_neg (show ¬ (4096 ≤ a ∧ a + n ≤ 4096 + (d0.size : Int)) by omega)]
theorem first_2 {S : MemS} {d0 d1 : ByteArray} (h : Mem2 S d0 d1) (a : Int) : firstF S a = if a < 4096 then 0 else if a < 8192 then 1 else 2 := by
  unfold firstF
  rw [h.rs]
  simp only [List.findIdx_cons, List.findIdx_nil]
  by_cases h1 : a < 4096
  · simp [h1]
  · by_cases h2 : a < 8192
    · simp [h1, h2]
    · simp [h1, h2]
theorem find_none {S : MemS} {d0 d1 : ByteArray} (h : Mem2 S d0 d1) {a n right : Int} (h1 : a < 4096) : findF S a n right = none := by
  unfold findF
  rw [dif_neg]
  rw [first_2 h, if_pos h1]; omega
theorem find_at {S : MemS} {a n right : Int} (i : Nat) (r : Reg1) (hi : i < S.rs.length) (hr : S.rs[i] = r) (hfi : firstF S a = i + 1) : findF S a n right = if mayF r (a - r.base) n right = true then some (i, (a - r.base).toNat) else none := by
  unfold findF
  have hc : 0 < firstF S a ∧ firstF S a - 1 < S.rs.length := by rw [hfi]; exact ⟨by omega, by omega⟩
  rw [dif_pos hc]
  have e : ∀ j (hj : j < S.rs.length), j = i → S.rs[j] = r := fun j hj e => by subst e; exact hr
  rw [e (firstF S a - 1) hc.2 (by omega), show firstF S a - 1 = i by omega]
theorem find_lo {S : MemS} {d0 d1 : ByteArray} (h : Mem2 S d0 d1) {a n right : Int} (h1 : ¬ a < 4096) (h2 : a < 8192) : findF S a n right = if mayF ⟨4096, dataB d0, 4⟩ (a - 4096) n right = true then some (0, (a - 4096).toNat) else none :=
  find_at 0 ⟨4096, dataB d0, 4⟩ (by rw [h.rs]; simp) (by simp only [h.rs]; rfl) (by rw [first_2 h, if_neg h1, if_pos h2])
theorem find_hi {S : MemS} {d0 d1 : ByteArray} (h : Mem2 S d0 d1) {a n right : Int} (h1 : ¬ a < 4096) (h2 : ¬ a < 8192) : findF S a n right = if mayF ⟨8192, dataB d1, 3⟩ (a - 8192) n right = true then some (1, (a - 8192).toNat) else none :=
  find_at 1 ⟨8192, dataB d1, 3⟩ (by rw [h.rs]; simp) (by simp only [h.rs]; rfl) (by rw [first_2 h, if_neg h1, if_neg h2])
theorem may_in {b rights right a n : Int} {d : ByteArray} (hd : d.size ≤ 500) (hb : b ≤ a) (ha : a < 18446744073709551616) (hn : 1 ≤ n ∧ n ≤ 8) (hr : (Go.bits .and .i64 rights right == 0) = false) : (mayF ⟨b, dataB d, rights⟩ (a - b) n right = true) = (a + n ≤ b + (d.size : Int)) := by
  unfold mayF
  simp only [dataB_len, hr, Bool.not_false, Bool.true_and]
  apply propext
  by_cases g : a - b < (d.size : Int)
  · rw [u64_sub (a := (d.size : Int)) (b := a - b) (by omega) (by omega) (by omega)]
    simp only [Bool.and_eq_true, Bool.not_eq_true', decide_eq_false_iff_not]
    omega
  · simp only [Bool.and_eq_true, Bool.not_eq_true', decide_eq_false_iff_not]
    omega
theorem may_no {b rights right a n : Int} {d : ByteArray} (hr : (Go.bits .and .i64 rights right == 0) = true) : (mayF ⟨b, dataB d, rights⟩ a n right = true) = False := by
  unfold mayF
  simp only [hr, Bool.not_true, Bool.false_and]
  simp
/-- The machine finds the same. -/
theorem find_run {S : MemS} {d0 d1 : ByteArray} (h : Mem2 S d0 d1) {a n : Int} (ha : 0 ≤ a ∧ a < 18446744073709551616) (hn : 1 ≤ n ∧ n ≤ 8) :
    findF S a n 4 = if 4096 ≤ a ∧ a + n ≤ 4096 + (d0.size : Int) then some (0, (a - 4096).toNat) else none := by
  have q0 := h.s0
  by_cases h1 : a < 4096
  · rw [find_none h h1, if_neg (show ¬ (4096 ≤ a ∧ a + n ≤ 4096 + (d0.size : Int)) by omega)]
  · by_cases h2 : a < 8192
    · rw [find_lo h h1 h2]
      simp only [may_in (d := d0) (a := a) (n := n) (rights := 4) (right := 4) (b := 4096) (by omega) (by omega) ha.2 hn (by decide)]
      by_cases g : a + n ≤ 4096 + (d0.size : Int)
      · rw [if_pos g, if_pos ⟨by omega, g⟩]
      · rw [if_neg g, if_neg (fun hh => g hh.2)]
    · rw [find_hi h h1 h2]
      simp only [may_no (d := d1) (a := a - 8192) (n := n) (rights := 3) (right := 4) (b := 8192) (by decide), if_false]
      rw [if_neg (show ¬ (4096 ≤ a ∧ a + n ≤ 4096 + (d0.size : Int)) by omega)]
theorem find_data {S : MemS} {d0 d1 : ByteArray} (h : Mem2 S d0 d1) {a n right : Int} (ha : 0 ≤ a ∧ a < 18446744073709551616) (hn : 1 ≤ n ∧ n ≤ 8) (hr : right = 1 ∨ right = 2) :
    findF S a n right = if 8192 ≤ a ∧ a + n ≤ 8192 + (d1.size : Int) then some (1, (a - 8192).toNat) else none := by
  have q1 := h.s1
  have b4 : (Go.bits .and .i64 4 right == 0) = true := by rcases hr with rfl | rfl <;> decide
  have b3 : (Go.bits .and .i64 3 right == 0) = false := by rcases hr with rfl | rfl <;> decide
  by_cases h1 : a < 4096
  · rw [find_none h h1, if_neg (show ¬ (8192 ≤ a ∧ a + n ≤ 8192 + (d1.size : Int)) by omega)]
  · by_cases h2 : a < 8192
    · rw [find_lo h h1 h2]
      simp only [may_no (d := d0) (a := a - 4096) (n := n) (rights := 4) (right := right) (b := 4096) b4, if_false]
      rw [if_neg (show ¬ (8192 ≤ a ∧ a + n ≤ 8192 + (d1.size : Int)) by omega)]
    · rw [find_hi h h1 h2]
      simp only [may_in (d := d1) (a := a) (n := n) (rights := 3) (right := right) (b := 8192) (by omega) (by omega) ha.2 hn b3]
      by_cases g : a + n ≤ 8192 + (d1.size : Int)
      · rw [if_pos g, if_pos ⟨by omega, g⟩]
      · rw [if_neg g, if_neg (fun hh => g hh.2)]
/-! ### The number of bytes -/
theorem numF_snoc (l : List Int) (b : Int) : numF (l ++ [b]) = numF l + 256 ^ l.length * b := by
  induction l with
  | nil => simp [numF]
  | cons x l ih =>
    simp only [List.cons_append, numF, ih, List.length_cons, Int.pow_succ]
    rw [Int.mul_add, Int.mul_comm (256 ^ l.length) 256, ← Int.mul_assoc]
    omega
theorem dataB_bt (s : ByteArray) (i : Nat) (h : i < s.size) : (dataB s)[i]? = some (bt s (i : Int)) := by
  unfold dataB
  rw [List.getElem?_map]
  have e : s.data.toList[i]? = some s[i] := by rw [List.getElem?_eq_getElem (by simpa using h)]; rfl
  rw [e, Option.map_some]
  congr 1
  have := bt_at s (i : Int) (by rw [Int.toNat_natCast]; exact h)
  simpa using this
theorem bytes_dataB (s : ByteArray) : Bytes (dataB s) := by
  intro b hb
  obtain ⟨x, _, rfl⟩ := List.mem_map.1 hb
  have := x.toNat_lt
  omega
theorem part_b (l : List Int) (hl : Bytes l) (f i : Nat) (hi : i ≤ 8) : 0 ≤ numF ((l.drop f).take i) ∧ numF ((l.drop f).take i) < 256 ^ i := by
  have hb : Bytes ((l.drop f).take i) := fun b hb => hl b (List.mem_of_mem_drop (List.mem_of_mem_take hb))
  obtain ⟨h1, h2⟩ := numF_b _ hb
  refine ⟨h1, Int.lt_of_lt_of_le h2 ?_⟩
  have hle : ((l.drop f).take i).length ≤ i := List.length_take_le _ _
  have e := Int.ofNat_le.2 (Nat.pow_le_pow_right (n := 256) (by decide) hle)
  rw [Int.natCast_pow, Int.natCast_pow] at e
  exact e
theorem pow_le {i : Nat} (h : i ≤ 8) : (256 : Int) ^ i ≤ 18446744073709551616 := by
  have e := Int.ofNat_le.2 (Nat.pow_le_pow_right (n := 256) (by decide) h)
  rw [Int.natCast_pow, Int.natCast_pow] at e
  exact e
theorem number_go (s : ByteArray) (hs : s.size < 1000000000) (f n : Nat) (hf : f + n ≤ s.size) (hn : n ≤ 8) : ∀ (d k i : Nat), n - i = d → i ≤ n → d < k →
    burinref27_Number.l0 k s f n (numF (((dataB s).drop f).take i)) (IntKind.u64.wrap (256 ^ i)) i = some (numF (((dataB s).drop f).take n))
  | 0, k, i, hd, hi, hk => by
    obtain ⟨k, rfl⟩ : ∃ m, k = m + 1 := ⟨k - 1, by omega⟩
    obtain rfl : i = n := by omega
    simp only [burinref27_Number.l0]
    rw [if_neg (by omega)]
  | d + 1, k, i, hd, hi, hk => by
    obtain ⟨k, rfl⟩ : ∃ m, k = m + 1 := ⟨k - 1, by omega⟩
    have hlt : i < n := by omega
    have e1 : wrap64 ((f : Int) + (i : Int)) = ((f + i : Nat) : Int) := by unfold wrap64; omega
    have e2 : wrap64 ((i : Int) + 1) = ((i + 1 : Nat) : Int) := by unfold wrap64; omega
    simp only [burinref27_Number.l0]
    rw [if_pos (show (i : Int) < (n : Int) by omega), e1, if_pos (by omega), if_pos (by omega), e2]
    have hb := bt_range s ((f + i : Nat) : Int)
    have hget : (dataB s)[f + i]? = some (bt s ((f + i : Nat) : Int)) := dataB_bt s (f + i) (by omega)
    have hlen : (((dataB s).drop f).take i).length = i := by rw [List.length_take, List.length_drop, dataB_len]; omega
    have htake : ((dataB s).drop f).take (i + 1) = ((dataB s).drop f).take i ++ [bt s ((f + i : Nat) : Int)] := by
      rw [List.take_add_one, List.getElem?_drop, hget]; rfl
    have hnum : numF (((dataB s).drop f).take (i + 1)) = numF (((dataB s).drop f).take i) + 256 ^ i * bt s ((f + i : Nat) : Int) := by rw [htake, numF_snoc, hlen]
    have p1 := part_b (dataB s) (bytes_dataB s) f (i + 1) (by omega)
    have p0 := part_b (dataB s) (bytes_dataB s) f i (by omega)
    have q1 := pow_le (i := i + 1) (by omega)
    have hpos : (0 : Int) < 256 ^ i := Int.pow_pos (by decide)
    have hsucc : (256 : Int) ^ (i + 1) = 256 ^ i * 256 := Int.pow_succ _ _
    have ih := number_go s hs f n hf hn d k (i + 1) (by omega) (by omega) (by omega)
    generalize bt s ((f + i : Nat) : Int) = B at *
    have hw1 : IntKind.u64.wrap B = B := uw_id ⟨hb.1, by omega⟩
    have hw2 : IntKind.u64.wrap (256 ^ i) = 256 ^ i := uw_id ⟨by omega, by omega⟩
    have hm0 : 0 ≤ 256 ^ i * B := Int.mul_nonneg (by omega) hb.1
    have hm1 : 256 ^ i * B < 18446744073709551616 := by omega
    have hw3 : IntKind.u64.wrap (B * 256 ^ i) = 256 ^ i * B := by rw [Int.mul_comm, uw_id ⟨hm0, hm1⟩]
    have hw4 : IntKind.u64.wrap (numF (((dataB s).drop f).take i) + 256 ^ i * B) = numF (((dataB s).drop f).take (i + 1)) := by rw [← hnum]; exact uw_id ⟨p1.1, by omega⟩
    rw [hw1, hw2, hw3, hw4, ← hsucc]
    exact ih
/-- A number at a place. -/
theorem number_f (s : ByteArray) (hs : s.size < 1000000000) (f n : Nat) (hf : f + n ≤ s.size) (hn : n ≤ 8) (k : Nat) (hk : n < k) : burinref27_Number.f k s f n = some (numF (((dataB s).drop f).take n)) := by
  have := number_go s hs f n hf hn n k 0 (by omega) (by omega) hk
  have w : IntKind.u64.wrap (256 ^ 0) = 1 := by rw [Int.pow_zero]; exact uw_id ⟨by decide, by decide⟩
  rw [w, List.take_zero] at this
  exact this
end Go.Proofs.Ytciehejifdbpoaa.Hl
end
section
set_option linter.unusedSimpArgs false
set_option linter.unusedVariables false
namespace Go.Proofs.Ytciehejifdbpoaa.Hl
open Go.RowKit Go.Maps Go.Proofs.Ytciehejifdbpoaa.Grow Go.Proofs.Ytciehejifdbpoaa.Rv Go.Proofs.Ytciehejifdbpoaa.As Go.Proofs.Ytciehejifdbpoaa.Ht Go.Proofs.Ytciehejifdbpoaa.PHartQuotients Go.Proofs.Ytciehejifdbpoaa.PHartSteps
open Go.Proofs.YtciehejifdbpoaaW.PrintWords Go.Proofs.YtciehejifdbpoaaW.PrintLast Go.Proofs.YtciehejifdbpoaaW.PrintMore

/-! ### Fetch and load -/
theorem len_2 (d0 d1 : ByteArray) : ((regs2 d0 d1).length : Int) = 2 := rfl
theorem bytes_0 {S : MemS} {d0 d1 : ByteArray} (h : Mem2 S d0 d1) (f n : Nat) : bytesAt S 0 f n = ((dataB d0).drop f).take n := by
  unfold bytesAt; rw [h.rs]; rfl
theorem bytes_1 {S : MemS} {d0 d1 : ByteArray} (h : Mem2 S d0 d1) (f n : Nat) : bytesAt S 1 f n = ((dataB d1).drop f).take n := by
  unfold bytesAt; rw [h.rs]; rfl
theorem at_place (s : ByteArray) (a b : Int) (n : Nat) (hs : s.size ≤ 500) (hb : 0 ≤ b) (h1 : b ≤ a) (ha : a < 18446744073709551616) (h2 : a + n ≤ b + (s.size : Int)) (hn : n ≤ 8) (k : Nat) (hk : n < k) :
    burinref27_Number.f k s (wrap64 (IntKind.u64.wrap (a - b))) n = some (numF (((dataB s).drop (a - b).toNat).take n)) := by
  have e : wrap64 (IntKind.u64.wrap (a - b)) = ((a - b).toNat : Int) := by rw [uw_id ⟨by omega, by omega⟩]; unfold wrap64; omega
  rw [e]
  exact number_f s (by omega) (a - b).toNat n (by omega) hn k hk
theorem num_small (s : ByteArray) (f : Nat) : 0 ≤ numF (((dataB s).drop f).take 4) ∧ numF (((dataB s).drop f).take 4) < 4294967296 := by
  have := part_b (dataB s) (bytes_dataB s) f 4 (by omega)
  have e : (256 : Int) ^ 4 = 4294967296 := by decide
  rw [e] at this
  exact this
theorem fetch_f {S : MemS} {d0 d1 : ByteArray} (h : Mem2 S d0 d1) {a : Int} (ha : 0 ≤ a ∧ a < 18446744073709551616) : burinref27_Fetch.f 20 (regs2 d0 d1) a = some (fetchF S a) := by
  have q0 := h.s0
  have q1 := h.s1
  unfold burinref27_Fetch.f
  rw [where_f (k := 17) q0.2 q1.2 ha (by decide) (Or.inr (Or.inr rfl)), Option.bind_some]
  unfold fetchF
  rw [find_run h ha (by decide)]
  have hm : Int.tmod a 4 = a % 4 := Int.tmod_eq_emod_of_nonneg ha.1
  rw [hm]
  by_cases c : a % 4 = 0
  · rw [if_pos c, if_pos c]
    unfold whereV
    rw [if_pos rfl]
    by_cases g : 4096 ≤ a ∧ a + 4 ≤ 4096 + (d0.size : Int)
    · rw [if_pos g, if_pos g, len_2, if_neg (show ¬ (0 : Int) < 0 by decide), if_pos (show (0 : Int) ≤ 0 by decide), if_pos (show (0 : Int) < 2 by decide)]
      have r0 : rd_T92 (regs2 d0 d1) 0 = ⟨4096, d0, 4⟩ := rfl
      rw [r0]
      have := at_place d0 a 4096 4 (by omega) (by decide) g.1 ha.2 g.2 (by decide) 20 (by decide)
      simp only at this ⊢
      rw [show ((4 : Nat) : Int) = 4 from rfl] at this
      rw [this, Option.bind_some, bytes_0 h]
      have := num_small d0 (a - 4096).toNat
      rw [Int.emod_eq_of_lt this.1 this.2]
    · rw [if_neg g, if_neg g, if_pos (show (-1 : Int) < 0 by decide)]
  · rw [if_neg c, if_neg c]
theorem size_f (n : Int) : burinref27_Size.f n = some (sizeOk n) := by
  unfold burinref27_Size.f sizeOk
  by_cases h1 : n = 1
  · simp [h1]
  · by_cases h2 : n = 2
    · simp [h2]
    · by_cases h4 : n = 4
      · simp [h4]
      · simp [h1, h2, h4]
theorem load_f {S : MemS} {d0 d1 : ByteArray} (h : Mem2 S d0 d1) {a n : Int} (ha : 0 ≤ a ∧ a < 18446744073709551616) : burinref27_Load.f 20 (regs2 d0 d1) a n = some (loadF S a n) := by
  have q0 := h.s0
  have q1 := h.s1
  unfold burinref27_Load.f loadF
  rw [size_f, Option.bind_some]
  by_cases c : sizeOk n = true
  · rw [if_pos c, if_pos c]
    obtain ⟨m, rfl, m1, m8⟩ := sizeOk_nat c
    rw [where_f (k := 17) q0.2 q1.2 ha ⟨by omega, by omega⟩ (Or.inl rfl), Option.bind_some, find_data h ha ⟨by omega, by omega⟩ (Or.inl rfl)]
    unfold whereV
    rw [if_neg (show ¬ (1 : Int) = 4 by decide), len_2]
    by_cases g : 8192 ≤ a ∧ a + (m : Int) ≤ 8192 + (d1.size : Int)
    · rw [if_pos g, if_pos g, if_neg (show ¬ (1 : Int) < 0 by decide), if_pos (show (0 : Int) ≤ 1 by decide), if_pos (show (1 : Int) < 2 by decide)]
      have r1 : rd_T92 (regs2 d0 d1) 1 = ⟨8192, d1, 3⟩ := rfl
      rw [r1]
      have := at_place d1 a 8192 m (by omega) (by decide) g.1 ha.2 g.2 m8 20 (by omega)
      simp only at this ⊢
      rw [this, Option.bind_some, bytes_1 h, Int.toNat_natCast]
    · rw [if_neg g, if_neg g, if_pos (show (-1 : Int) < 0 by decide)]
  · rw [if_neg c, if_neg c]
end Go.Proofs.Ytciehejifdbpoaa.Hl
end
section
namespace Go.Proofs.Ytciehejifdbpoaa.PHartSteps
open Go.RowKit Go.Proofs.YtciehejifdbpoaaW.PrintWords Go.Proofs.YtciehejifdbpoaaW.PrintLast Go.Proofs.YtciehejifdbpoaaW.PrintMore
attribute [local go_sem] max2_int min2_int max_two min_two max_three min_three max_four min_four   -- for this text's walks alone
set_option linter.unusedVariables false
set_option linter.unusedSimpArgs false

/-! ### burinref28_less: function 115 -/
def burinref28_less.f (a0 : Int) (a1 : Int) : Option (Bool) := (burinref28_neg.f a0).bind fun t237 => ((burinref28_neg.f a1).bind fun t238 => (if (t237 != t238) = true then ((burinref28_neg.f a0).bind fun t239 => (some t239)) else (some (decide (a0 < a1)))))
set_option maxHeartbeats 8000000 in
set_option maxRecDepth 100000 in
theorem burinref28_less.calls (a0 : Int) (a1 : Int) (r : Bool) (w : World) (h : burinref28_less.f a0 a1 = some r) :
    Calls Try.prog 115 #[.int .u64 a0, .int .u64 a1] w fun e w' => e = .returned (.bool r) ∧ Drawn0 w w' := by
  have H : ((burinref28_neg.f a0).bind fun t237 => ((burinref28_neg.f a1).bind fun t238 => (if (t237 != t238) = true then ((burinref28_neg.f a0).bind fun t239 => (some t239)) else (some (decide (a0 < a1)))))) = some r := h
  clear h
  replace H := Option.bind_eq_some_iff.mp H
  obtain ⟨t237, A30, H⟩ := H
  replace H : ((burinref28_neg.f a1).bind fun t238 => (if (t237 != t238) = true then ((burinref28_neg.f a0).bind fun t239 => (some t239)) else (some (decide (a0 < a1))))) = some r := H
  have A3 := Aside0.mk A30
  clear A30
  replace H := Option.bind_eq_some_iff.mp H
  obtain ⟨t238, A40, H⟩ := H
  replace H : (if (t237 != t238) = true then ((burinref28_neg.f a0).bind fun t239 => (some t239)) else (some (decide (a0 < a1)))) = some r := H
  have A4 := Aside0.mk A40
  clear A40
  by_cases c5 : (t237 != t238) = true
  · rw [if_pos c5] at H
    have c5b0 : (t237 != t238) = true := c5
    (try (have c5b1 : decide (t237 = t238) = false := by simpa using c5))
    (try (have c5b2 : (t237 == t238) = false := by simpa using c5))
    (try (have c5b3 : ¬ (t237 = t238) := by simpa using c5))
    clear c5
    replace H := Option.bind_eq_some_iff.mp H
    obtain ⟨t239, A60, H⟩ := H
    replace H : (some t239) = some r := H
    have A6 := Aside0.mk A60
    clear A60
    obtain rfl := Option.some.inj H
    go_enter Try.func115, Try.ntmps115
    go_wp2_with (first | ((with_reducible refine gate_callee (f := 128) rfl ?_); refine goesL_ (some 6) rfl rfl Try.func128 (by kernel_rfl) rfl #[.int .u64 a0] rfl (by (try simp only [List.map_toArray, List.map_cons, List.map_nil]); first | done | rfl | (simp only [List.length_drop, List.length_take]; rfl)) ?_; (with_reducible refine (burinref28_neg.calls a0 t237 _ A3.out).mono ?_); rintro e w' ⟨rfl, ⟨nd, rfl⟩⟩; refine ⟨_, rfl, ?_⟩) | ((with_reducible refine gate_callee (f := 128) rfl ?_); refine goesL_ (some 8) rfl rfl Try.func128 (by kernel_rfl) rfl #[.int .u64 a1] rfl (by (try simp only [List.map_toArray, List.map_cons, List.map_nil]); first | done | rfl | (simp only [List.length_drop, List.length_take]; rfl)) ?_; (with_reducible refine (burinref28_neg.calls a1 t238 _ A4.out).mono ?_); rintro e w' ⟨rfl, ⟨nd, rfl⟩⟩; refine ⟨_, rfl, ?_⟩) | ((with_reducible refine gate_callee (f := 128) rfl ?_); refine goesL_ (some 11) rfl rfl Try.func128 (by kernel_rfl) rfl #[.int .u64 a0] rfl (by (try simp only [List.map_toArray, List.map_cons, List.map_nil]); first | done | rfl | (simp only [List.length_drop, List.length_take]; rfl)) ?_; (with_reducible refine (burinref28_neg.calls a0 t239 _ A6.out).mono ?_); rintro e w' ⟨rfl, ⟨nd, rfl⟩⟩; refine ⟨_, rfl, ?_⟩))
    go_ret
    exact ⟨by first | rfl | (simp; done) | (simp [*]; done), by repeat (first | exact Drawn0.refl _ | apply Drawn0.step)⟩
  · rw [if_neg c5] at H
    have c5b0 : (t237 != t238) = false := by simpa using c5
    (try (have c5b1 : decide (t237 = t238) = true := by simpa using c5))
    (try (have c5b2 : (t237 == t238) = true := by simpa using c5))
    clear c5
    obtain rfl := Option.some.inj H
    go_enter Try.func115, Try.ntmps115
    go_wp2_with (first | ((with_reducible refine gate_callee (f := 128) rfl ?_); refine goesL_ (some 6) rfl rfl Try.func128 (by kernel_rfl) rfl #[.int .u64 a0] rfl (by (try simp only [List.map_toArray, List.map_cons, List.map_nil]); first | done | rfl | (simp only [List.length_drop, List.length_take]; rfl)) ?_; (with_reducible refine (burinref28_neg.calls a0 t237 _ A3.out).mono ?_); rintro e w' ⟨rfl, ⟨nd, rfl⟩⟩; refine ⟨_, rfl, ?_⟩) | ((with_reducible refine gate_callee (f := 128) rfl ?_); refine goesL_ (some 8) rfl rfl Try.func128 (by kernel_rfl) rfl #[.int .u64 a1] rfl (by (try simp only [List.map_toArray, List.map_cons, List.map_nil]); first | done | rfl | (simp only [List.length_drop, List.length_take]; rfl)) ?_; (with_reducible refine (burinref28_neg.calls a1 t238 _ A4.out).mono ?_); rintro e w' ⟨rfl, ⟨nd, rfl⟩⟩; refine ⟨_, rfl, ?_⟩))
    go_ret
    exact ⟨by first | rfl | (simp; done) | (simp [*]; done), by repeat (first | exact Drawn0.refl _ | apply Drawn0.step)⟩

/-! ### burinref28_Go: function 89 -/
def burinref28_Go.f (a0 : ByteArray) (a1 : Int) (a2 : Int) : Option (Int) := if a0.toList = ([98, 101, 113] : List UInt8) then (if a1 = a2 then (some 1) else (some 0)) else (if a0.toList = ([98, 110, 101] : List UInt8) then (if a1 = a2 then (some 0) else (some 1)) else (if a0.toList = ([98, 108, 116] : List UInt8) then ((burinref28_less.f a1 a2).bind fun t240 => (if t240 = true then (some 1) else (some 0))) else (if a0.toList = ([98, 103, 101] : List UInt8) then ((burinref28_less.f a1 a2).bind fun t241 => (if t241 = true then (some 0) else (some 1))) else (if a0.toList = ([98, 108, 116, 117] : List UInt8) then (if a1 < a2 then (some 1) else (some 0)) else (if a0.toList = ([98, 103, 101, 117] : List UInt8) then (if a1 ≥ a2 then (some 1) else (some 0)) else (some 2))))))
set_option maxHeartbeats 8000000 in
set_option maxRecDepth 100000 in
theorem burinref28_Go.calls (a0 : ByteArray) (a1 : Int) (a2 : Int) (r : Int) (w : World) (h : burinref28_Go.f a0 a1 a2 = some r) :
    Calls Try.prog 89 #[.string a0, .int .u64 a1, .int .u64 a2] w fun e w' => e = .returned (.int .i64 r) ∧ Drawn0 w w' := by
  have H : (if a0.toList = ([98, 101, 113] : List UInt8) then (if a1 = a2 then (some 1) else (some 0)) else (if a0.toList = ([98, 110, 101] : List UInt8) then (if a1 = a2 then (some 0) else (some 1)) else (if a0.toList = ([98, 108, 116] : List UInt8) then ((burinref28_less.f a1 a2).bind fun t240 => (if t240 = true then (some 1) else (some 0))) else (if a0.toList = ([98, 103, 101] : List UInt8) then ((burinref28_less.f a1 a2).bind fun t241 => (if t241 = true then (some 0) else (some 1))) else (if a0.toList = ([98, 108, 116, 117] : List UInt8) then (if a1 < a2 then (some 1) else (some 0)) else (if a0.toList = ([98, 103, 101, 117] : List UInt8) then (if a1 ≥ a2 then (some 1) else (some 0)) else (some 2))))))) = some r := h
  clear h
  by_cases c4 : a0.toList = ([98, 101, 113] : List UInt8)
  · rw [if_pos c4] at H
    have c4b0 : (a0.toList == ([98, 101, 113] : List UInt8)) = true := beq_iff_eq.mpr c4
    have c4b1 : (a0.toList != ([98, 101, 113] : List UInt8)) = false := bne_eq_false_iff_eq.mpr c4
    clear c4
    by_cases c5 : a1 = a2
    · rw [if_pos c5] at H
      have c5b0 : (a1 == a2) = true := beq_iff_eq.mpr c5
      have c5b1 : (a1 != a2) = false := bne_eq_false_iff_eq.mpr c5
      clear c5
      obtain rfl := Option.some.inj H
      go_enter Try.func89, Try.ntmps89
      go_wp2
      go_ret
      exact ⟨by first | rfl | (simp; done) | (simp [*]; done), by repeat (first | exact Drawn0.refl _ | apply Drawn0.step)⟩
    · rw [if_neg c5] at H
      have c5b0 : (a1 == a2) = false := beq_eq_false_iff_ne.mpr c5
      have c5b1 : (a1 != a2) = true := bne_iff_ne.mpr c5
      obtain rfl := Option.some.inj H
      go_enter Try.func89, Try.ntmps89
      go_wp2
      go_ret
      exact ⟨by first | rfl | (simp; done) | (simp [*]; done), by repeat (first | exact Drawn0.refl _ | apply Drawn0.step)⟩
  · rw [if_neg c4] at H
    have c4b0 : (a0.toList == ([98, 101, 113] : List UInt8)) = false := beq_eq_false_iff_ne.mpr c4
    have c4b1 : (a0.toList != ([98, 101, 113] : List UInt8)) = true := bne_iff_ne.mpr c4
    by_cases c6 : a0.toList = ([98, 110, 101] : List UInt8)
    · rw [if_pos c6] at H
      have c6b0 : (a0.toList == ([98, 110, 101] : List UInt8)) = true := beq_iff_eq.mpr c6
      have c6b1 : (a0.toList != ([98, 110, 101] : List UInt8)) = false := bne_eq_false_iff_eq.mpr c6
      clear c6
      by_cases c7 : a1 = a2
      · rw [if_pos c7] at H
        have c7b0 : (a1 == a2) = true := beq_iff_eq.mpr c7
        have c7b1 : (a1 != a2) = false := bne_eq_false_iff_eq.mpr c7
        clear c7
        obtain rfl := Option.some.inj H
        go_enter Try.func89, Try.ntmps89
        go_wp2
        go_ret
        exact ⟨by first | rfl | (simp; done) | (simp [*]; done), by repeat (first | exact Drawn0.refl _ | apply Drawn0.step)⟩
      · rw [if_neg c7] at H
        have c7b0 : (a1 == a2) = false := beq_eq_false_iff_ne.mpr c7
        have c7b1 : (a1 != a2) = true := bne_iff_ne.mpr c7
        obtain rfl := Option.some.inj H
        go_enter Try.func89, Try.ntmps89
        go_wp2
        go_ret
        exact ⟨by first | rfl | (simp; done) | (simp [*]; done), by repeat (first | exact Drawn0.refl _ | apply Drawn0.step)⟩
    · rw [if_neg c6] at H
      have c6b0 : (a0.toList == ([98, 110, 101] : List UInt8)) = false := beq_eq_false_iff_ne.mpr c6
      have c6b1 : (a0.toList != ([98, 110, 101] : List UInt8)) = true := bne_iff_ne.mpr c6
      by_cases c8 : a0.toList = ([98, 108, 116] : List UInt8)
      · rw [if_pos c8] at H
        have c8b0 : (a0.toList == ([98, 108, 116] : List UInt8)) = true := beq_iff_eq.mpr c8
        have c8b1 : (a0.toList != ([98, 108, 116] : List UInt8)) = false := bne_eq_false_iff_eq.mpr c8
        clear c8
        replace H := Option.bind_eq_some_iff.mp H
        obtain ⟨t240, A90, H⟩ := H
        replace H : (if t240 = true then (some 1) else (some 0)) = some r := H
        have A9 := Aside0.mk A90
        clear A90
        by_cases c10 : t240 = true
        · subst c10
          have H1 : (some 1) = some r := by rw [if_pos rfl] at H; exact H
          clear H
          have H := H1
          clear H1
          obtain rfl := Option.some.inj H
          go_enter Try.func89, Try.ntmps89
          go_wp2_with (first | ((with_reducible refine gate_callee (f := 115) rfl ?_); refine goesL_ (some 23) rfl rfl Try.func115 (by kernel_rfl) rfl #[.int .u64 a1, .int .u64 a2] rfl (by (try simp only [List.map_toArray, List.map_cons, List.map_nil]); first | done | rfl | (simp only [List.length_drop, List.length_take]; rfl)) ?_; (with_reducible refine (burinref28_less.calls a1 a2 true _ A9.out).mono ?_); rintro e w' ⟨rfl, ⟨nd, rfl⟩⟩; refine ⟨_, rfl, ?_⟩))
          go_ret
          exact ⟨by first | rfl | (simp; done) | (simp [*]; done), by repeat (first | exact Drawn0.refl _ | apply Drawn0.step)⟩
        · replace c10 := Bool.eq_false_iff.mpr c10
          subst c10
          have H1 : (some 0) = some r := by rw [if_neg (show ¬ (false = true) by decide)] at H; exact H
          clear H
          have H := H1
          clear H1
          obtain rfl := Option.some.inj H
          go_enter Try.func89, Try.ntmps89
          go_wp2_with (first | ((with_reducible refine gate_callee (f := 115) rfl ?_); refine goesL_ (some 23) rfl rfl Try.func115 (by kernel_rfl) rfl #[.int .u64 a1, .int .u64 a2] rfl (by (try simp only [List.map_toArray, List.map_cons, List.map_nil]); first | done | rfl | (simp only [List.length_drop, List.length_take]; rfl)) ?_; (with_reducible refine (burinref28_less.calls a1 a2 false _ A9.out).mono ?_); rintro e w' ⟨rfl, ⟨nd, rfl⟩⟩; refine ⟨_, rfl, ?_⟩))
          go_ret
          exact ⟨by first | rfl | (simp; done) | (simp [*]; done), by repeat (first | exact Drawn0.refl _ | apply Drawn0.step)⟩
      · rw [if_neg c8] at H
        have c8b0 : (a0.toList == ([98, 108, 116] : List UInt8)) = false := beq_eq_false_iff_ne.mpr c8
        have c8b1 : (a0.toList != ([98, 108, 116] : List UInt8)) = true := bne_iff_ne.mpr c8
        by_cases c11 : a0.toList = ([98, 103, 101] : List UInt8)
        · rw [if_pos c11] at H
          have c11b0 : (a0.toList == ([98, 103, 101] : List UInt8)) = true := beq_iff_eq.mpr c11
          have c11b1 : (a0.toList != ([98, 103, 101] : List UInt8)) = false := bne_eq_false_iff_eq.mpr c11
          clear c11
          replace H := Option.bind_eq_some_iff.mp H
          obtain ⟨t241, A120, H⟩ := H
          replace H : (if t241 = true then (some 0) else (some 1)) = some r := H
          have A12 := Aside0.mk A120
          clear A120
          by_cases c13 : t241 = true
          · subst c13
            have H1 : (some 0) = some r := by rw [if_pos rfl] at H; exact H
            clear H
            have H := H1
            clear H1
            obtain rfl := Option.some.inj H
            go_enter Try.func89, Try.ntmps89
            go_wp2_with (first | ((with_reducible refine gate_callee (f := 115) rfl ?_); refine goesL_ (some 28) rfl rfl Try.func115 (by kernel_rfl) rfl #[.int .u64 a1, .int .u64 a2] rfl (by (try simp only [List.map_toArray, List.map_cons, List.map_nil]); first | done | rfl | (simp only [List.length_drop, List.length_take]; rfl)) ?_; (with_reducible refine (burinref28_less.calls a1 a2 true _ A12.out).mono ?_); rintro e w' ⟨rfl, ⟨nd, rfl⟩⟩; refine ⟨_, rfl, ?_⟩))
            go_ret
            exact ⟨by first | rfl | (simp; done) | (simp [*]; done), by repeat (first | exact Drawn0.refl _ | apply Drawn0.step)⟩
          · replace c13 := Bool.eq_false_iff.mpr c13
            subst c13
            have H1 : (some 1) = some r := by rw [if_neg (show ¬ (false = true) by decide)] at H; exact H
            clear H
            have H := H1
            clear H1
            obtain rfl := Option.some.inj H
            go_enter Try.func89, Try.ntmps89
            go_wp2_with (first | ((with_reducible refine gate_callee (f := 115) rfl ?_); refine goesL_ (some 28) rfl rfl Try.func115 (by kernel_rfl) rfl #[.int .u64 a1, .int .u64 a2] rfl (by (try simp only [List.map_toArray, List.map_cons, List.map_nil]); first | done | rfl | (simp only [List.length_drop, List.length_take]; rfl)) ?_; (with_reducible refine (burinref28_less.calls a1 a2 false _ A12.out).mono ?_); rintro e w' ⟨rfl, ⟨nd, rfl⟩⟩; refine ⟨_, rfl, ?_⟩))
            go_ret
            exact ⟨by first | rfl | (simp; done) | (simp [*]; done), by repeat (first | exact Drawn0.refl _ | apply Drawn0.step)⟩
        · rw [if_neg c11] at H
          have c11b0 : (a0.toList == ([98, 103, 101] : List UInt8)) = false := beq_eq_false_iff_ne.mpr c11
          have c11b1 : (a0.toList != ([98, 103, 101] : List UInt8)) = true := bne_iff_ne.mpr c11
          by_cases c14 : a0.toList = ([98, 108, 116, 117] : List UInt8)
          · rw [if_pos c14] at H
            have c14b0 : (a0.toList == ([98, 108, 116, 117] : List UInt8)) = true := beq_iff_eq.mpr c14
            have c14b1 : (a0.toList != ([98, 108, 116, 117] : List UInt8)) = false := bne_eq_false_iff_eq.mpr c14
            clear c14
            by_cases c15 : a1 < a2
            · rw [if_pos c15] at H
              have c15b0 : decide (a1 < a2) = true := decide_eq_true c15
              clear c15
              obtain rfl := Option.some.inj H
              go_enter Try.func89, Try.ntmps89
              go_wp2
              go_ret
              exact ⟨by first | rfl | (simp; done) | (simp [*]; done), by repeat (first | exact Drawn0.refl _ | apply Drawn0.step)⟩
            · rw [if_neg c15] at H
              have c15b0 : decide (a1 < a2) = false := decide_eq_false c15
              clear c15
              obtain rfl := Option.some.inj H
              go_enter Try.func89, Try.ntmps89
              go_wp2
              go_ret
              exact ⟨by first | rfl | (simp; done) | (simp [*]; done), by repeat (first | exact Drawn0.refl _ | apply Drawn0.step)⟩
          · rw [if_neg c14] at H
            have c14b0 : (a0.toList == ([98, 108, 116, 117] : List UInt8)) = false := beq_eq_false_iff_ne.mpr c14
            have c14b1 : (a0.toList != ([98, 108, 116, 117] : List UInt8)) = true := bne_iff_ne.mpr c14
            by_cases c16 : a0.toList = ([98, 103, 101, 117] : List UInt8)
            · rw [if_pos c16] at H
              have c16b0 : (a0.toList == ([98, 103, 101, 117] : List UInt8)) = true := beq_iff_eq.mpr c16
              have c16b1 : (a0.toList != ([98, 103, 101, 117] : List UInt8)) = false := bne_eq_false_iff_eq.mpr c16
              clear c16
              by_cases c17 : a1 ≥ a2
              · rw [if_pos c17] at H
                have c17b0 : decide (a2 ≤ a1) = true := decide_eq_true c17
                clear c17
                obtain rfl := Option.some.inj H
                go_enter Try.func89, Try.ntmps89
                go_wp2
                go_ret
                exact ⟨by first | rfl | (simp; done) | (simp [*]; done), by repeat (first | exact Drawn0.refl _ | apply Drawn0.step)⟩
              · rw [if_neg c17] at H
                have c17b0 : decide (a2 ≤ a1) = false := decide_eq_false c17
                clear c17
                obtain rfl := Option.some.inj H
                go_enter Try.func89, Try.ntmps89
                go_wp2
                go_ret
                exact ⟨by first | rfl | (simp; done) | (simp [*]; done), by repeat (first | exact Drawn0.refl _ | apply Drawn0.step)⟩
            · rw [if_neg c16] at H
              have c16b0 : (a0.toList == ([98, 103, 101, 117] : List UInt8)) = false := beq_eq_false_iff_ne.mpr c16
              have c16b1 : (a0.toList != ([98, 103, 101, 117] : List UInt8)) = true := bne_iff_ne.mpr c16
              obtain rfl := Option.some.inj H
              go_enter Try.func89, Try.ntmps89
              go_wp2
              go_ret
              exact ⟨by first | rfl | (simp; done) | (simp [*]; done), by repeat (first | exact Drawn0.refl _ | apply Drawn0.step)⟩

/-! ### burinref28_number: function 90 -/
def burinref28_number.f (a0 : ByteArray) : Option (Bool) := if a0.toList = ([97, 100, 100, 105] : List UInt8) then (some true) else (if a0.toList = ([115, 108, 116, 105] : List UInt8) then (some true) else (if a0.toList = ([115, 108, 116, 105, 117] : List UInt8) then (some true) else (if a0.toList = ([120, 111, 114, 105] : List UInt8) then (some true) else (if a0.toList = ([111, 114, 105] : List UInt8) then (some true) else (if a0.toList = ([97, 110, 100, 105] : List UInt8) then (some true) else (if a0.toList = ([97, 100, 100, 105, 119] : List UInt8) then (some true) else (if a0.toList = ([115, 108, 108, 105] : List UInt8) then (some true) else (if a0.toList = ([115, 114, 108, 105] : List UInt8) then (some true) else (if a0.toList = ([115, 114, 97, 105] : List UInt8) then (some true) else (if a0.toList = ([115, 108, 108, 105, 119] : List UInt8) then (some true) else (if a0.toList = ([115, 114, 108, 105, 119] : List UInt8) then (some true) else (if a0.toList = ([115, 114, 97, 105, 119] : List UInt8) then (some true) else (some false)))))))))))))
set_option maxHeartbeats 8000000 in
set_option maxRecDepth 100000 in
theorem burinref28_number.calls (a0 : ByteArray) (r : Bool) (w : World) (h : burinref28_number.f a0 = some r) :
    Calls Try.prog 90 #[.string a0] w fun e w' => e = .returned (.bool r) ∧ Drawn0 w w' := by
  have H : (if a0.toList = ([97, 100, 100, 105] : List UInt8) then (some true) else (if a0.toList = ([115, 108, 116, 105] : List UInt8) then (some true) else (if a0.toList = ([115, 108, 116, 105, 117] : List UInt8) then (some true) else (if a0.toList = ([120, 111, 114, 105] : List UInt8) then (some true) else (if a0.toList = ([111, 114, 105] : List UInt8) then (some true) else (if a0.toList = ([97, 110, 100, 105] : List UInt8) then (some true) else (if a0.toList = ([97, 100, 100, 105, 119] : List UInt8) then (some true) else (if a0.toList = ([115, 108, 108, 105] : List UInt8) then (some true) else (if a0.toList = ([115, 114, 108, 105] : List UInt8) then (some true) else (if a0.toList = ([115, 114, 97, 105] : List UInt8) then (some true) else (if a0.toList = ([115, 108, 108, 105, 119] : List UInt8) then (some true) else (if a0.toList = ([115, 114, 108, 105, 119] : List UInt8) then (some true) else (if a0.toList = ([115, 114, 97, 105, 119] : List UInt8) then (some true) else (some false)))))))))))))) = some r := h
  clear h
  by_cases c2 : a0.toList = ([97, 100, 100, 105] : List UInt8)
  · rw [if_pos c2] at H
    have c2b0 : (a0.toList == ([97, 100, 100, 105] : List UInt8)) = true := beq_iff_eq.mpr c2
    have c2b1 : (a0.toList != ([97, 100, 100, 105] : List UInt8)) = false := bne_eq_false_iff_eq.mpr c2
    clear c2
    obtain rfl := Option.some.inj H
    go_enter Try.func90, Try.ntmps90
    go_wp2
    go_ret
    exact ⟨by first | rfl | (simp; done) | (simp [*]; done), by repeat (first | exact Drawn0.refl _ | apply Drawn0.step)⟩
  · rw [if_neg c2] at H
    have c2b0 : (a0.toList == ([97, 100, 100, 105] : List UInt8)) = false := beq_eq_false_iff_ne.mpr c2
    have c2b1 : (a0.toList != ([97, 100, 100, 105] : List UInt8)) = true := bne_iff_ne.mpr c2
    by_cases c3 : a0.toList = ([115, 108, 116, 105] : List UInt8)
    · rw [if_pos c3] at H
      have c3b0 : (a0.toList == ([115, 108, 116, 105] : List UInt8)) = true := beq_iff_eq.mpr c3
      have c3b1 : (a0.toList != ([115, 108, 116, 105] : List UInt8)) = false := bne_eq_false_iff_eq.mpr c3
      clear c3
      obtain rfl := Option.some.inj H
      go_enter Try.func90, Try.ntmps90
      go_wp2
      go_ret
      exact ⟨by first | rfl | (simp; done) | (simp [*]; done), by repeat (first | exact Drawn0.refl _ | apply Drawn0.step)⟩
    · rw [if_neg c3] at H
      have c3b0 : (a0.toList == ([115, 108, 116, 105] : List UInt8)) = false := beq_eq_false_iff_ne.mpr c3
      have c3b1 : (a0.toList != ([115, 108, 116, 105] : List UInt8)) = true := bne_iff_ne.mpr c3
      by_cases c4 : a0.toList = ([115, 108, 116, 105, 117] : List UInt8)
      · rw [if_pos c4] at H
        have c4b0 : (a0.toList == ([115, 108, 116, 105, 117] : List UInt8)) = true := beq_iff_eq.mpr c4
        have c4b1 : (a0.toList != ([115, 108, 116, 105, 117] : List UInt8)) = false := bne_eq_false_iff_eq.mpr c4
        clear c4
        obtain rfl := Option.some.inj H
        go_enter Try.func90, Try.ntmps90
        go_wp2
        go_ret
        exact ⟨by first | rfl | (simp; done) | (simp [*]; done), by repeat (first | exact Drawn0.refl _ | apply Drawn0.step)⟩
      · rw [if_neg c4] at H
        have c4b0 : (a0.toList == ([115, 108, 116, 105, 117] : List UInt8)) = false := beq_eq_false_iff_ne.mpr c4
        have c4b1 : (a0.toList != ([115, 108, 116, 105, 117] : List UInt8)) = true := bne_iff_ne.mpr c4
        by_cases c5 : a0.toList = ([120, 111, 114, 105] : List UInt8)
        · rw [if_pos c5] at H
          have c5b0 : (a0.toList == ([120, 111, 114, 105] : List UInt8)) = true := beq_iff_eq.mpr c5
          have c5b1 : (a0.toList != ([120, 111, 114, 105] : List UInt8)) = false := bne_eq_false_iff_eq.mpr c5
          clear c5
          obtain rfl := Option.some.inj H
          go_enter Try.func90, Try.ntmps90
          go_wp2
          go_ret
          exact ⟨by first | rfl | (simp; done) | (simp [*]; done), by repeat (first | exact Drawn0.refl _ | apply Drawn0.step)⟩
        · rw [if_neg c5] at H
          have c5b0 : (a0.toList == ([120, 111, 114, 105] : List UInt8)) = false := beq_eq_false_iff_ne.mpr c5
          have c5b1 : (a0.toList != ([120, 111, 114, 105] : List UInt8)) = true := bne_iff_ne.mpr c5
          by_cases c6 : a0.toList = ([111, 114, 105] : List UInt8)
          · rw [if_pos c6] at H
            have c6b0 : (a0.toList == ([111, 114, 105] : List UInt8)) = true := beq_iff_eq.mpr c6
            have c6b1 : (a0.toList != ([111, 114, 105] : List UInt8)) = false := bne_eq_false_iff_eq.mpr c6
            clear c6
            obtain rfl := Option.some.inj H
            go_enter Try.func90, Try.ntmps90
            go_wp2
            go_ret
            exact ⟨by first | rfl | (simp; done) | (simp [*]; done), by repeat (first | exact Drawn0.refl _ | apply Drawn0.step)⟩
          · rw [if_neg c6] at H
            have c6b0 : (a0.toList == ([111, 114, 105] : List UInt8)) = false := beq_eq_false_iff_ne.mpr c6
            have c6b1 : (a0.toList != ([111, 114, 105] : List UInt8)) = true := bne_iff_ne.mpr c6
            by_cases c7 : a0.toList = ([97, 110, 100, 105] : List UInt8)
            · rw [if_pos c7] at H
              have c7b0 : (a0.toList == ([97, 110, 100, 105] : List UInt8)) = true := beq_iff_eq.mpr c7
              have c7b1 : (a0.toList != ([97, 110, 100, 105] : List UInt8)) = false := bne_eq_false_iff_eq.mpr c7
              clear c7
              obtain rfl := Option.some.inj H
              go_enter Try.func90, Try.ntmps90
              go_wp2
              go_ret
              exact ⟨by first | rfl | (simp; done) | (simp [*]; done), by repeat (first | exact Drawn0.refl _ | apply Drawn0.step)⟩
            · rw [if_neg c7] at H
              have c7b0 : (a0.toList == ([97, 110, 100, 105] : List UInt8)) = false := beq_eq_false_iff_ne.mpr c7
              have c7b1 : (a0.toList != ([97, 110, 100, 105] : List UInt8)) = true := bne_iff_ne.mpr c7
              by_cases c8 : a0.toList = ([97, 100, 100, 105, 119] : List UInt8)
              · rw [if_pos c8] at H
                have c8b0 : (a0.toList == ([97, 100, 100, 105, 119] : List UInt8)) = true := beq_iff_eq.mpr c8
                have c8b1 : (a0.toList != ([97, 100, 100, 105, 119] : List UInt8)) = false := bne_eq_false_iff_eq.mpr c8
                clear c8
                obtain rfl := Option.some.inj H
                go_enter Try.func90, Try.ntmps90
                go_wp2
                go_ret
                exact ⟨by first | rfl | (simp; done) | (simp [*]; done), by repeat (first | exact Drawn0.refl _ | apply Drawn0.step)⟩
              · rw [if_neg c8] at H
                have c8b0 : (a0.toList == ([97, 100, 100, 105, 119] : List UInt8)) = false := beq_eq_false_iff_ne.mpr c8
                have c8b1 : (a0.toList != ([97, 100, 100, 105, 119] : List UInt8)) = true := bne_iff_ne.mpr c8
                by_cases c9 : a0.toList = ([115, 108, 108, 105] : List UInt8)
                · rw [if_pos c9] at H
                  have c9b0 : (a0.toList == ([115, 108, 108, 105] : List UInt8)) = true := beq_iff_eq.mpr c9
                  have c9b1 : (a0.toList != ([115, 108, 108, 105] : List UInt8)) = false := bne_eq_false_iff_eq.mpr c9
                  clear c9
                  obtain rfl := Option.some.inj H
                  go_enter Try.func90, Try.ntmps90
                  go_wp2
                  go_ret
                  exact ⟨by first | rfl | (simp; done) | (simp [*]; done), by repeat (first | exact Drawn0.refl _ | apply Drawn0.step)⟩
                · rw [if_neg c9] at H
                  have c9b0 : (a0.toList == ([115, 108, 108, 105] : List UInt8)) = false := beq_eq_false_iff_ne.mpr c9
                  have c9b1 : (a0.toList != ([115, 108, 108, 105] : List UInt8)) = true := bne_iff_ne.mpr c9
                  by_cases c10 : a0.toList = ([115, 114, 108, 105] : List UInt8)
                  · rw [if_pos c10] at H
                    have c10b0 : (a0.toList == ([115, 114, 108, 105] : List UInt8)) = true := beq_iff_eq.mpr c10
                    have c10b1 : (a0.toList != ([115, 114, 108, 105] : List UInt8)) = false := bne_eq_false_iff_eq.mpr c10
                    clear c10
                    obtain rfl := Option.some.inj H
                    go_enter Try.func90, Try.ntmps90
                    go_wp2
                    go_ret
                    exact ⟨by first | rfl | (simp; done) | (simp [*]; done), by repeat (first | exact Drawn0.refl _ | apply Drawn0.step)⟩
                  · rw [if_neg c10] at H
                    have c10b0 : (a0.toList == ([115, 114, 108, 105] : List UInt8)) = false := beq_eq_false_iff_ne.mpr c10
                    have c10b1 : (a0.toList != ([115, 114, 108, 105] : List UInt8)) = true := bne_iff_ne.mpr c10
                    by_cases c11 : a0.toList = ([115, 114, 97, 105] : List UInt8)
                    · rw [if_pos c11] at H
                      have c11b0 : (a0.toList == ([115, 114, 97, 105] : List UInt8)) = true := beq_iff_eq.mpr c11
                      have c11b1 : (a0.toList != ([115, 114, 97, 105] : List UInt8)) = false := bne_eq_false_iff_eq.mpr c11
                      clear c11
                      obtain rfl := Option.some.inj H
                      go_enter Try.func90, Try.ntmps90
                      go_wp2
                      go_ret
                      exact ⟨by first | rfl | (simp; done) | (simp [*]; done), by repeat (first | exact Drawn0.refl _ | apply Drawn0.step)⟩
                    · rw [if_neg c11] at H
                      have c11b0 : (a0.toList == ([115, 114, 97, 105] : List UInt8)) = false := beq_eq_false_iff_ne.mpr c11
                      have c11b1 : (a0.toList != ([115, 114, 97, 105] : List UInt8)) = true := bne_iff_ne.mpr c11
                      by_cases c12 : a0.toList = ([115, 108, 108, 105, 119] : List UInt8)
                      · rw [if_pos c12] at H
                        have c12b0 : (a0.toList == ([115, 108, 108, 105, 119] : List UInt8)) = true := beq_iff_eq.mpr c12
                        have c12b1 : (a0.toList != ([115, 108, 108, 105, 119] : List UInt8)) = false := bne_eq_false_iff_eq.mpr c12
                        clear c12
                        obtain rfl := Option.some.inj H
                        go_enter Try.func90, Try.ntmps90
                        go_wp2
                        go_ret
                        exact ⟨by first | rfl | (simp; done) | (simp [*]; done), by repeat (first | exact Drawn0.refl _ | apply Drawn0.step)⟩
                      · rw [if_neg c12] at H
                        have c12b0 : (a0.toList == ([115, 108, 108, 105, 119] : List UInt8)) = false := beq_eq_false_iff_ne.mpr c12
                        have c12b1 : (a0.toList != ([115, 108, 108, 105, 119] : List UInt8)) = true := bne_iff_ne.mpr c12
                        by_cases c13 : a0.toList = ([115, 114, 108, 105, 119] : List UInt8)
                        · rw [if_pos c13] at H
                          have c13b0 : (a0.toList == ([115, 114, 108, 105, 119] : List UInt8)) = true := beq_iff_eq.mpr c13
                          have c13b1 : (a0.toList != ([115, 114, 108, 105, 119] : List UInt8)) = false := bne_eq_false_iff_eq.mpr c13
                          clear c13
                          obtain rfl := Option.some.inj H
                          go_enter Try.func90, Try.ntmps90
                          go_wp2
                          go_ret
                          exact ⟨by first | rfl | (simp; done) | (simp [*]; done), by repeat (first | exact Drawn0.refl _ | apply Drawn0.step)⟩
                        · rw [if_neg c13] at H
                          have c13b0 : (a0.toList == ([115, 114, 108, 105, 119] : List UInt8)) = false := beq_eq_false_iff_ne.mpr c13
                          have c13b1 : (a0.toList != ([115, 114, 108, 105, 119] : List UInt8)) = true := bne_iff_ne.mpr c13
                          by_cases c14 : a0.toList = ([115, 114, 97, 105, 119] : List UInt8)
                          · rw [if_pos c14] at H
                            have c14b0 : (a0.toList == ([115, 114, 97, 105, 119] : List UInt8)) = true := beq_iff_eq.mpr c14
                            have c14b1 : (a0.toList != ([115, 114, 97, 105, 119] : List UInt8)) = false := bne_eq_false_iff_eq.mpr c14
                            clear c14
                            obtain rfl := Option.some.inj H
                            go_enter Try.func90, Try.ntmps90
                            go_wp2
                            go_ret
                            exact ⟨by first | rfl | (simp; done) | (simp [*]; done), by repeat (first | exact Drawn0.refl _ | apply Drawn0.step)⟩
                          · rw [if_neg c14] at H
                            have c14b0 : (a0.toList == ([115, 114, 97, 105, 119] : List UInt8)) = false := beq_eq_false_iff_ne.mpr c14
                            have c14b1 : (a0.toList != ([115, 114, 97, 105, 119] : List UInt8)) = true := bne_iff_ne.mpr c14
                            obtain rfl := Option.some.inj H
                            go_enter Try.func90, Try.ntmps90
                            go_wp2
                            go_ret
                            exact ⟨by first | rfl | (simp; done) | (simp [*]; done), by repeat (first | exact Drawn0.refl _ | apply Drawn0.step)⟩

/-! ### burinref28_shifted: function 116 -/
def burinref28_shifted.f (a0 : Int) (a1 : Int) : Option (Int) := (burinref28_neg.f a0).bind fun t242 => (if t242 = true then (if 0 ≤ a1 then (some (IntKind.u64.wrap (18446744073709551615 - (shr .u64 (IntKind.u64.wrap (18446744073709551615 - a0)) a1)))) else (none)) else (if 0 ≤ a1 then (some (shr .u64 a0 a1)) else (none)))
set_option maxHeartbeats 8000000 in
set_option maxRecDepth 100000 in
theorem burinref28_shifted.calls (a0 : Int) (a1 : Int) (r : Int) (w : World) (h : burinref28_shifted.f a0 a1 = some r) :
    Calls Try.prog 116 #[.int .u64 a0, .int .u64 a1] w fun e w' => e = .returned (.int .u64 r) ∧ Drawn0 w w' := by
  have H : ((burinref28_neg.f a0).bind fun t242 => (if t242 = true then (if 0 ≤ a1 then (some (IntKind.u64.wrap (18446744073709551615 - (shr .u64 (IntKind.u64.wrap (18446744073709551615 - a0)) a1)))) else (none)) else (if 0 ≤ a1 then (some (shr .u64 a0 a1)) else (none)))) = some r := h
  clear h
  replace H := Option.bind_eq_some_iff.mp H
  obtain ⟨t242, A30, H⟩ := H
  replace H : (if t242 = true then (if 0 ≤ a1 then (some (IntKind.u64.wrap (18446744073709551615 - (shr .u64 (IntKind.u64.wrap (18446744073709551615 - a0)) a1)))) else (none)) else (if 0 ≤ a1 then (some (shr .u64 a0 a1)) else (none))) = some r := H
  have A3 := Aside0.mk A30
  clear A30
  by_cases c4 : t242 = true
  · subst c4
    have H1 : (if 0 ≤ a1 then (some (IntKind.u64.wrap (18446744073709551615 - (shr .u64 (IntKind.u64.wrap (18446744073709551615 - a0)) a1)))) else (none)) = some r := by rw [if_pos rfl] at H; exact H
    clear H
    have H := H1
    clear H1
    by_cases c5 : 0 ≤ a1
    · rw [if_pos c5] at H
      have c5b0 := eq_true c5
      have c5b1 : decide (0 ≤ a1) = true := decide_eq_true c5
      clear c5
      obtain ⟨ji6, hji6⟩ : ∃ j_ : Int, (shr .u64 (IntKind.u64.wrap (18446744073709551615 - a0)) a1) = j_ := ⟨_, rfl⟩
      replace H : (some (IntKind.u64.wrap (18446744073709551615 - (ji6)))) = some r := by first | (rw [hji6] at H; exact H) | (simp only [hji6] at H ⊢; exact H)
      (try rw [hji6] at A3)
      have hji6_ : ((IntKind.u64.wrap (18446744073709551615 - a0)) / 2 ^ min a1.toNat 64) = ji6 := hji6
      have hji6z : a1 ≤ 64 → ((IntKind.u64.wrap (18446744073709551615 - a0)) / 2 ^ a1.toNat) = ji6 := shr_small hji6
      obtain rfl := Option.some.inj H
      go_enter Try.func116, Try.ntmps116
      go_wp2_with (first | ((with_reducible refine gate_callee (f := 128) rfl ?_); refine goesL_ (some 6) rfl rfl Try.func128 (by kernel_rfl) rfl #[.int .u64 a0] rfl (by (try simp only [List.map_toArray, List.map_cons, List.map_nil]); first | done | rfl | (simp only [List.length_drop, List.length_take]; rfl)) ?_; (with_reducible refine (burinref28_neg.calls a0 true _ A3.out).mono ?_); rintro e w' ⟨rfl, ⟨nd, rfl⟩⟩; refine ⟨_, rfl, ?_⟩))
      go_ret
      exact ⟨by first | rfl | (simp; done) | (simp only [← hji6] <;> (first | rfl | simp)) | (simp [*]; done), by repeat (first | exact Drawn0.refl _ | apply Drawn0.step)⟩
    · rw [if_neg c5] at H
      exact absurd H (by simp)
  · replace c4 := Bool.eq_false_iff.mpr c4
    subst c4
    have H1 : (if 0 ≤ a1 then (some (shr .u64 a0 a1)) else (none)) = some r := by rw [if_neg (show ¬ (false = true) by decide)] at H; exact H
    clear H
    have H := H1
    clear H1
    by_cases c7 : 0 ≤ a1
    · rw [if_pos c7] at H
      have c7b0 := eq_true c7
      have c7b1 : decide (0 ≤ a1) = true := decide_eq_true c7
      clear c7
      obtain ⟨ji8, hji8⟩ : ∃ j_ : Int, (shr .u64 a0 a1) = j_ := ⟨_, rfl⟩
      replace H : (some ji8) = some r := by first | (rw [hji8] at H; exact H) | (simp only [hji8] at H ⊢; exact H)
      (try rw [hji8] at A3)
      have hji8_ : (a0 / 2 ^ min a1.toNat 64) = ji8 := hji8
      have hji8z : a1 ≤ 64 → (a0 / 2 ^ a1.toNat) = ji8 := shr_small hji8
      obtain rfl := Option.some.inj H
      go_enter Try.func116, Try.ntmps116
      go_wp2_with (first | ((with_reducible refine gate_callee (f := 128) rfl ?_); refine goesL_ (some 6) rfl rfl Try.func128 (by kernel_rfl) rfl #[.int .u64 a0] rfl (by (try simp only [List.map_toArray, List.map_cons, List.map_nil]); first | done | rfl | (simp only [List.length_drop, List.length_take]; rfl)) ?_; (with_reducible refine (burinref28_neg.calls a0 false _ A3.out).mono ?_); rintro e w' ⟨rfl, ⟨nd, rfl⟩⟩; refine ⟨_, rfl, ?_⟩))
      go_ret
      exact ⟨by first | rfl | (simp; done) | (simp only [← hji8] <;> (first | rfl | simp)) | (simp [*]; done), by repeat (first | exact Drawn0.refl _ | apply Drawn0.step)⟩
    · rw [if_neg c7] at H
      exact absurd H (by simp)

/-! ### burinref28_one: function 117 -/
def burinref28_one.f (a0 : Bool) : Option (Int) := if a0 = true then (some 1) else (some 0)
set_option maxHeartbeats 8000000 in
set_option maxRecDepth 100000 in
theorem burinref28_one.calls (a0 : Bool) (r : Int) (w : World) (h : burinref28_one.f a0 = some r) :
    Calls Try.prog 117 #[.bool a0] w fun e w' => e = .returned (.int .u64 r) ∧ Drawn0 w w' := by
  have H : (if a0 = true then (some 1) else (some 0)) = some r := h
  clear h
  by_cases c2 : a0 = true
  · subst c2
    have H1 : (some 1) = some r := by rw [if_pos rfl] at H; exact H
    clear H
    have H := H1
    clear H1
    obtain rfl := Option.some.inj H
    go_enter Try.func117, Try.ntmps117
    go_wp2
    go_ret
    exact ⟨by first | rfl | (simp; done) | (simp [*]; done), by repeat (first | exact Drawn0.refl _ | apply Drawn0.step)⟩
  · replace c2 := Bool.eq_false_iff.mpr c2
    subst c2
    have H1 : (some 0) = some r := by rw [if_neg (show ¬ (false = true) by decide)] at H; exact H
    clear H
    have H := H1
    clear H1
    obtain rfl := Option.some.inj H
    go_enter Try.func117, Try.ntmps117
    go_wp2
    go_ret
    exact ⟨by first | rfl | (simp; done) | (simp [*]; done), by repeat (first | exact Drawn0.refl _ | apply Drawn0.step)⟩

/-! ### burinref28_high: function 119 -/
def burinref28_high.f (a0 : Int) (a1 : Int) : Option (Int) := some (IntKind.u64.wrap ((IntKind.u64.wrap ((IntKind.u64.wrap ((IntKind.u64.wrap (Int.tdiv a0 4294967296)) * (IntKind.u64.wrap (Int.tdiv a1 4294967296)))) + (IntKind.u64.wrap (Int.tdiv (IntKind.u64.wrap ((IntKind.u64.wrap ((IntKind.u64.wrap (Int.tdiv a0 4294967296)) * (Int.tmod a1 4294967296))) + (IntKind.u64.wrap (Int.tdiv (IntKind.u64.wrap ((Int.tmod a0 4294967296) * (Int.tmod a1 4294967296))) 4294967296)))) 4294967296)))) + (IntKind.u64.wrap (Int.tdiv (IntKind.u64.wrap ((IntKind.u64.wrap ((Int.tmod a0 4294967296) * (IntKind.u64.wrap (Int.tdiv a1 4294967296)))) + (Int.tmod (IntKind.u64.wrap ((IntKind.u64.wrap ((IntKind.u64.wrap (Int.tdiv a0 4294967296)) * (Int.tmod a1 4294967296))) + (IntKind.u64.wrap (Int.tdiv (IntKind.u64.wrap ((Int.tmod a0 4294967296) * (Int.tmod a1 4294967296))) 4294967296)))) 4294967296))) 4294967296))))
set_option maxHeartbeats 8000000 in
set_option maxRecDepth 100000 in
theorem burinref28_high.calls (a0 : Int) (a1 : Int) (r : Int) (w : World) (h : burinref28_high.f a0 a1 = some r) :
    Calls Try.prog 119 #[.int .u64 a0, .int .u64 a1] w fun e w' => e = .returned (.int .u64 r) ∧ Drawn0 w w' := by
  have H : (some (IntKind.u64.wrap ((IntKind.u64.wrap ((IntKind.u64.wrap ((IntKind.u64.wrap (Int.tdiv a0 4294967296)) * (IntKind.u64.wrap (Int.tdiv a1 4294967296)))) + (IntKind.u64.wrap (Int.tdiv (IntKind.u64.wrap ((IntKind.u64.wrap ((IntKind.u64.wrap (Int.tdiv a0 4294967296)) * (Int.tmod a1 4294967296))) + (IntKind.u64.wrap (Int.tdiv (IntKind.u64.wrap ((Int.tmod a0 4294967296) * (Int.tmod a1 4294967296))) 4294967296)))) 4294967296)))) + (IntKind.u64.wrap (Int.tdiv (IntKind.u64.wrap ((IntKind.u64.wrap ((Int.tmod a0 4294967296) * (IntKind.u64.wrap (Int.tdiv a1 4294967296)))) + (Int.tmod (IntKind.u64.wrap ((IntKind.u64.wrap ((IntKind.u64.wrap (Int.tdiv a0 4294967296)) * (Int.tmod a1 4294967296))) + (IntKind.u64.wrap (Int.tdiv (IntKind.u64.wrap ((Int.tmod a0 4294967296) * (Int.tmod a1 4294967296))) 4294967296)))) 4294967296))) 4294967296))))) = some r := h
  clear h
  obtain rfl := Option.some.inj H
  go_enter Try.func119, Try.ntmps119
  go_wp2
  repeat (go_quiet (fail); try go_wp2)
  go_ret
  exact ⟨by first | rfl | (simp; done) | (simp [*]; done), by repeat (first | exact Drawn0.refl _ | apply Drawn0.step)⟩

/-! ### burinref28_highs: function 118 -/
mutual
def burinref28_highs.j0 : Nat → Int → Int → Bool → Bool → Option (Int)
  | 0, _, _, _, _ => none
  | k + 1, x0, x1, x9, x10 => if x9 = true then (burinref28_highs.j1 k x1 x9 x10 (IntKind.u64.wrap (-x0)) x1) else (burinref28_highs.j1 k x1 x9 x10 x0 x1)
def burinref28_highs.j1 : Nat → Int → Bool → Bool → Int → Int → Option (Int)
  | 0, _, _, _, _, _ => none
  | k + 1, x1, x9, x10, x11, x12 => if x10 = true then (burinref28_highs.j2 k x9 x10 x11 (IntKind.u64.wrap (-x1))) else (burinref28_highs.j2 k x9 x10 x11 x12)
def burinref28_highs.j2 : Nat → Bool → Bool → Int → Int → Option (Int)
  | 0, _, _, _, _ => none
  | k + 1, x9, x10, x11, x12 => (burinref28_high.f x11 x12).bind fun t246 => (if (x9 == x10) = true then (some t246) else (if (IntKind.u64.wrap (x11 * x12)) = 0 then (some (IntKind.u64.wrap (-t246))) else (some (IntKind.u64.wrap (18446744073709551615 - t246)))))
end
def burinref28_highs.f (k : Nat) (a0 : Int) (a1 : Int) (a2 : Bool) (a3 : Bool) : Option (Int) := if a2 = true then ((burinref28_neg.f a0).bind fun t243 => (if a3 = true then ((burinref28_neg.f a1).bind fun t244 => (burinref28_highs.j0 k a0 a1 t243 t244)) else (burinref28_highs.j0 k a0 a1 t243 false))) else (if a3 = true then ((burinref28_neg.f a1).bind fun t245 => (burinref28_highs.j0 k a0 a1 false t245)) else (burinref28_highs.j0 k a0 a1 false false))
set_option maxHeartbeats 8000000 in
set_option maxRecDepth 100000 in
theorem burinref28_highs.calls (k : Nat) (a0 : Int) (a1 : Int) (a2 : Bool) (a3 : Bool) (r : Int) (w : World) (h : burinref28_highs.f k a0 a1 a2 a3 = some r) :
    Calls Try.prog 118 #[.int .u64 a0, .int .u64 a1, .bool a2, .bool a3] w fun e w' => e = .returned (.int .u64 r) ∧ Drawn0 w w' := by
  have H : (if a2 = true then ((burinref28_neg.f a0).bind fun t243 => (if a3 = true then ((burinref28_neg.f a1).bind fun t244 => (burinref28_highs.j0 k a0 a1 t243 t244)) else (burinref28_highs.j0 k a0 a1 t243 false))) else (if a3 = true then ((burinref28_neg.f a1).bind fun t245 => (burinref28_highs.j0 k a0 a1 false t245)) else (burinref28_highs.j0 k a0 a1 false false))) = some r := h
  clear h
  have HC5 := Aside0.mk H
  clear H
  go_enter Try.func118, Try.ntmps118
  go_upto_region 1 with (fail)
  go_cut [9, 10] (fun v9 v10 wc => ∃ (kq : Nat) (x9_4 : Bool) (x10_4 : Bool), v9 = .bool x9_4 ∧ v10 = .bool x10_4 ∧ Aside0 (burinref28_highs.j0 kq a0 a1 x9_4 x10_4 = some r) ∧ Aside0 (kq ≤ k) ∧ Drawn0 w wc)
  case first =>
    have H := HC5.out
    clear HC5
    by_cases c6 : a2 = true
    · subst c6
      have H1 : ((burinref28_neg.f a0).bind fun t243 => (if a3 = true then ((burinref28_neg.f a1).bind fun t244 => (burinref28_highs.j0 k a0 a1 t243 t244)) else (burinref28_highs.j0 k a0 a1 t243 false))) = some r := by rw [if_pos rfl] at H; exact H
      clear H
      have H := H1
      clear H1
      replace H := Option.bind_eq_some_iff.mp H
      obtain ⟨t243, A70, H⟩ := H
      replace H : (if a3 = true then ((burinref28_neg.f a1).bind fun t244 => (burinref28_highs.j0 k a0 a1 t243 t244)) else (burinref28_highs.j0 k a0 a1 t243 false)) = some r := H
      have A7 := Aside0.mk A70
      clear A70
      by_cases c8 : a3 = true
      · subst c8
        have H1 : ((burinref28_neg.f a1).bind fun t244 => (burinref28_highs.j0 k a0 a1 t243 t244)) = some r := by rw [if_pos rfl] at H; exact H
        clear H
        have H := H1
        clear H1
        replace H := Option.bind_eq_some_iff.mp H
        obtain ⟨t244, A90, H⟩ := H
        replace H : (burinref28_highs.j0 k a0 a1 t243 t244) = some r := H
        have A9 := Aside0.mk A90
        clear A90
        have H' := Aside0.mk H
        clear H
        go_wp2_with (first | (go_at_call 128; (with_reducible refine (burinref28_neg.calls a0 t243 _ A7.out).mono ?_); rintro e w' ⟨rfl, ⟨nd, rfl⟩⟩) | (go_at_call 128; (with_reducible refine (burinref28_neg.calls a1 t244 _ A9.out).mono ?_); rintro e w' ⟨rfl, ⟨nd, rfl⟩⟩))
        go_meet
        case rel => exact ⟨_, (t243), (t244), (by first | rfl | (simp; done) | (simp [*]; done)), (by first | rfl | (simp; done) | (simp [*]; done)), H', ⟨by first | omega | exact Nat.le_refl _⟩, by repeat (first | exact Drawn0.refl _ | apply Drawn0.step)⟩
      · replace c8 := Bool.eq_false_iff.mpr c8
        subst c8
        have H1 : (burinref28_highs.j0 k a0 a1 t243 false) = some r := by rw [if_neg (show ¬ (false = true) by decide)] at H; exact H
        clear H
        have H := H1
        clear H1
        have H' := Aside0.mk H
        clear H
        go_wp2_with (first | (go_at_call 128; (with_reducible refine (burinref28_neg.calls a0 t243 _ A7.out).mono ?_); rintro e w' ⟨rfl, ⟨nd, rfl⟩⟩))
        go_meet
        case rel => exact ⟨_, (t243), (false), (by first | rfl | (simp; done) | (simp [*]; done)), (by first | rfl | (simp; done) | (simp [*]; done)), H', ⟨by first | omega | exact Nat.le_refl _⟩, by repeat (first | exact Drawn0.refl _ | apply Drawn0.step)⟩
    · replace c6 := Bool.eq_false_iff.mpr c6
      subst c6
      have H1 : (if a3 = true then ((burinref28_neg.f a1).bind fun t245 => (burinref28_highs.j0 k a0 a1 false t245)) else (burinref28_highs.j0 k a0 a1 false false)) = some r := by rw [if_neg (show ¬ (false = true) by decide)] at H; exact H
      clear H
      have H := H1
      clear H1
      by_cases c10 : a3 = true
      · subst c10
        have H1 : ((burinref28_neg.f a1).bind fun t245 => (burinref28_highs.j0 k a0 a1 false t245)) = some r := by rw [if_pos rfl] at H; exact H
        clear H
        have H := H1
        clear H1
        replace H := Option.bind_eq_some_iff.mp H
        obtain ⟨t245, A110, H⟩ := H
        replace H : (burinref28_highs.j0 k a0 a1 false t245) = some r := H
        have A11 := Aside0.mk A110
        clear A110
        have H' := Aside0.mk H
        clear H
        go_wp2_with (first | (go_at_call 128; (with_reducible refine (burinref28_neg.calls a1 t245 _ A11.out).mono ?_); rintro e w' ⟨rfl, ⟨nd, rfl⟩⟩))
        go_meet
        case rel => exact ⟨_, (false), (t245), (by first | rfl | (simp; done) | (simp [*]; done)), (by first | rfl | (simp; done) | (simp [*]; done)), H', ⟨by first | omega | exact Nat.le_refl _⟩, by repeat (first | exact Drawn0.refl _ | apply Drawn0.step)⟩
      · replace c10 := Bool.eq_false_iff.mpr c10
        subst c10
        have H1 : (burinref28_highs.j0 k a0 a1 false false) = some r := by rw [if_neg (show ¬ (false = true) by decide)] at H; exact H
        clear H
        have H := H1
        clear H1
        have H' := Aside0.mk H
        clear H
        go_wp2
        go_meet
        case rel => exact ⟨_, (false), (false), (by first | rfl | (simp; done) | (simp [*]; done)), (by first | rfl | (simp; done) | (simp [*]; done)), H', ⟨by first | omega | exact Nat.le_refl _⟩, by repeat (first | exact Drawn0.refl _ | apply Drawn0.step)⟩
  case rest =>
    clear HC5
    try clear c1
    try clear p2
    try clear c6
    try clear c8
    try clear c10
    try clear c11
    obtain ⟨kq, x9_4, x10_4, rfl, rfl, HA, HJ4, ⟨mc4, rfl⟩⟩ := hcut
    cases kq with
    | zero => exact absurd HA.out (by simp [burinref28_highs.j0])
    | succ kj4 =>
      have H := HA.out
      clear HA
      simp only [burinref28_highs.j0] at H
      have HC12 := Aside0.mk H
      clear H
      go_upto_if 26 with (fail)
      go_cut [11] (fun v11 wc => ∃ (kq : Nat) (x11_11 : Int), v11 = .int .u64 x11_11 ∧ Aside0 (burinref28_highs.j1 kq a1 x9_4 x10_4 x11_11 a1 = some r) ∧ Aside0 (kq ≤ kj4) ∧ Drawn0 w wc)
      case first =>
        have H := HC12.out
        clear HC12
        by_cases c13 : x9_4 = true
        · subst c13
          have H1 : (burinref28_highs.j1 kj4 a1 true x10_4 (IntKind.u64.wrap (-a0)) a1) = some r := by rw [if_pos rfl] at H; exact H
          clear H
          have H := H1
          clear H1
          have H' := Aside0.mk H
          clear H
          go_wp2
          go_meet
          case rel => exact ⟨_, (IntKind.u64.wrap (-a0)), (by first | rfl | (simp; done) | (simp [*]; done)), H', ⟨by have := HJ4.out; first | omega | exact Nat.le_refl _⟩, by repeat (first | exact Drawn0.refl _ | apply Drawn0.step)⟩
        · replace c13 := Bool.eq_false_iff.mpr c13
          subst c13
          have H1 : (burinref28_highs.j1 kj4 a1 false x10_4 a0 a1) = some r := by rw [if_neg (show ¬ (false = true) by decide)] at H; exact H
          clear H
          have H := H1
          clear H1
          have H' := Aside0.mk H
          clear H
          go_wp2
          go_meet
          case rel => exact ⟨_, (a0), (by first | rfl | (simp; done) | (simp [*]; done)), H', ⟨by have := HJ4.out; first | omega | exact Nat.le_refl _⟩, by repeat (first | exact Drawn0.refl _ | apply Drawn0.step)⟩
      case rest =>
        clear HC12
        try clear c1
        try clear p2
        try clear c4
        try clear c6
        try clear c8
        try clear c10
        try clear c11
        try clear c13
        try clear p2
        obtain ⟨kq, x11_11, rfl, HA, HJ11, ⟨mc11, rfl⟩⟩ := hcut
        cases kq with
        | zero => exact absurd HA.out (by simp [burinref28_highs.j1])
        | succ kj11 =>
          have H := HA.out
          clear HA
          simp only [burinref28_highs.j1] at H
          have HC14 := Aside0.mk H
          clear H
          go_upto_if 29 with (fail)
          go_cut [12] (fun v12 wc => ∃ (kq : Nat) (x12_13 : Int), v12 = .int .u64 x12_13 ∧ Aside0 (burinref28_highs.j2 kq x9_4 x10_4 x11_11 x12_13 = some r) ∧ Aside0 (kq ≤ kj11) ∧ Drawn0 w wc)
          case first =>
            have H := HC14.out
            clear HC14
            by_cases c15 : x10_4 = true
            · subst c15
              have H1 : (burinref28_highs.j2 kj11 x9_4 true x11_11 (IntKind.u64.wrap (-a1))) = some r := by rw [if_pos rfl] at H; exact H
              clear H
              have H := H1
              clear H1
              have H' := Aside0.mk H
              clear H
              go_wp2
              go_meet
              case rel => exact ⟨_, (IntKind.u64.wrap (-a1)), (by first | rfl | (simp; done) | (simp [*]; done)), H', ⟨by have := HJ4.out; have := HJ11.out; first | omega | exact Nat.le_refl _⟩, by repeat (first | exact Drawn0.refl _ | apply Drawn0.step)⟩
            · replace c15 := Bool.eq_false_iff.mpr c15
              subst c15
              have H1 : (burinref28_highs.j2 kj11 x9_4 false x11_11 a1) = some r := by rw [if_neg (show ¬ (false = true) by decide)] at H; exact H
              clear H
              have H := H1
              clear H1
              have H' := Aside0.mk H
              clear H
              go_wp2
              go_meet
              case rel => exact ⟨_, (a1), (by first | rfl | (simp; done) | (simp [*]; done)), H', ⟨by have := HJ4.out; have := HJ11.out; first | omega | exact Nat.le_refl _⟩, by repeat (first | exact Drawn0.refl _ | apply Drawn0.step)⟩
          case rest =>
            clear HC14
            try clear c1
            try clear p2
            try clear c4
            try clear c6
            try clear c8
            try clear c10
            try clear c11
            try clear c13
            try clear c15
            try clear p2
            obtain ⟨kq, x12_13, rfl, HA, HJ13, ⟨mc13, rfl⟩⟩ := hcut
            cases kq with
            | zero => exact absurd HA.out (by simp [burinref28_highs.j2])
            | succ kj13 =>
              have H := HA.out
              clear HA
              simp only [burinref28_highs.j2] at H
              replace H := Option.bind_eq_some_iff.mp H
              obtain ⟨t246, A160, H⟩ := H
              replace H : (if (x9_4 == x10_4) = true then (some t246) else (if (IntKind.u64.wrap (x11_11 * x12_13)) = 0 then (some (IntKind.u64.wrap (-t246))) else (some (IntKind.u64.wrap (18446744073709551615 - t246))))) = some r := H
              have A16 := Aside0.mk A160
              clear A160
              by_cases c17 : (x9_4 == x10_4) = true
              · rw [if_pos c17] at H
                have c17b0 : (x9_4 == x10_4) = true := c17
                (try (have c17b1 : decide (x9_4 = x10_4) = true := by simpa using c17))
                (try (have c17b2 : (x9_4 == x10_4) = true := by simpa using c17))
                clear c17
                obtain rfl := Option.some.inj H
                go_wp2_with (first | ((with_reducible refine gate_callee (f := 119) rfl ?_); refine goesL_ (some 34) rfl rfl Try.func119 (by kernel_rfl) rfl #[.int .u64 x11_11, .int .u64 x12_13] rfl (by (try simp only [List.map_toArray, List.map_cons, List.map_nil]); first | done | rfl | (simp only [List.length_drop, List.length_take]; rfl)) ?_; (with_reducible refine (burinref28_high.calls x11_11 x12_13 t246 _ A16.out).mono ?_); rintro e w' ⟨rfl, ⟨nd, rfl⟩⟩; refine ⟨_, rfl, ?_⟩))
                go_ret
                exact ⟨by first | rfl | (simp; done) | (simp [*]; done), by repeat (first | exact Drawn0.refl _ | apply Drawn0.step)⟩
              · rw [if_neg c17] at H
                have c17b0 : (x9_4 == x10_4) = false := by simpa using c17
                (try (have c17b1 : decide (x9_4 = x10_4) = false := by simpa using c17))
                (try (have c17b2 : (x9_4 == x10_4) = false := by simpa using c17))
                (try (have c17b3 : ¬ (x9_4 = x10_4) := by simpa using c17))
                clear c17
                by_cases c18 : (IntKind.u64.wrap (x11_11 * x12_13)) = 0
                · rw [if_pos c18] at H
                  have c18b0 : ((IntKind.u64.wrap (x11_11 * x12_13)) == 0) = true := beq_iff_eq.mpr c18
                  have c18b1 : ((IntKind.u64.wrap (x11_11 * x12_13)) != 0) = false := bne_eq_false_iff_eq.mpr c18
                  clear c18
                  obtain rfl := Option.some.inj H
                  go_wp2_with (first | ((with_reducible refine gate_callee (f := 119) rfl ?_); refine goesL_ (some 34) rfl rfl Try.func119 (by kernel_rfl) rfl #[.int .u64 x11_11, .int .u64 x12_13] rfl (by (try simp only [List.map_toArray, List.map_cons, List.map_nil]); first | done | rfl | (simp only [List.length_drop, List.length_take]; rfl)) ?_; (with_reducible refine (burinref28_high.calls x11_11 x12_13 t246 _ A16.out).mono ?_); rintro e w' ⟨rfl, ⟨nd, rfl⟩⟩; refine ⟨_, rfl, ?_⟩))
                  go_ret
                  exact ⟨by first | rfl | (simp; done) | (simp [*]; done), by repeat (first | exact Drawn0.refl _ | apply Drawn0.step)⟩
                · rw [if_neg c18] at H
                  have c18b0 : ((IntKind.u64.wrap (x11_11 * x12_13)) == 0) = false := beq_eq_false_iff_ne.mpr c18
                  have c18b1 : ((IntKind.u64.wrap (x11_11 * x12_13)) != 0) = true := bne_iff_ne.mpr c18
                  obtain rfl := Option.some.inj H
                  go_wp2_with (first | ((with_reducible refine gate_callee (f := 119) rfl ?_); refine goesL_ (some 34) rfl rfl Try.func119 (by kernel_rfl) rfl #[.int .u64 x11_11, .int .u64 x12_13] rfl (by (try simp only [List.map_toArray, List.map_cons, List.map_nil]); first | done | rfl | (simp only [List.length_drop, List.length_take]; rfl)) ?_; (with_reducible refine (burinref28_high.calls x11_11 x12_13 t246 _ A16.out).mono ?_); rintro e w' ⟨rfl, ⟨nd, rfl⟩⟩; refine ⟨_, rfl, ?_⟩))
                  go_ret
                  exact ⟨by first | rfl | (simp; done) | (simp [*]; done), by repeat (first | exact Drawn0.refl _ | apply Drawn0.step)⟩

/-! ### burinref28_abs: function 129 -/
def burinref28_abs.f (a0 : Int) : Option (Int) := (burinref28_neg.f a0).bind fun t247 => (if t247 = true then (some (IntKind.u64.wrap (-a0))) else (some a0))
set_option maxHeartbeats 8000000 in
set_option maxRecDepth 100000 in
theorem burinref28_abs.calls (a0 : Int) (r : Int) (w : World) (h : burinref28_abs.f a0 = some r) :
    Calls Try.prog 129 #[.int .u64 a0] w fun e w' => e = .returned (.int .u64 r) ∧ Drawn0 w w' := by
  have H : ((burinref28_neg.f a0).bind fun t247 => (if t247 = true then (some (IntKind.u64.wrap (-a0))) else (some a0))) = some r := h
  clear h
  replace H := Option.bind_eq_some_iff.mp H
  obtain ⟨t247, A20, H⟩ := H
  replace H : (if t247 = true then (some (IntKind.u64.wrap (-a0))) else (some a0)) = some r := H
  have A2 := Aside0.mk A20
  clear A20
  by_cases c3 : t247 = true
  · subst c3
    have H1 : (some (IntKind.u64.wrap (-a0))) = some r := by rw [if_pos rfl] at H; exact H
    clear H
    have H := H1
    clear H1
    obtain rfl := Option.some.inj H
    go_enter Try.func129, Try.ntmps129
    go_wp2_with (first | ((with_reducible refine gate_callee (f := 128) rfl ?_); refine goesL_ (some 4) rfl rfl Try.func128 (by kernel_rfl) rfl #[.int .u64 a0] rfl (by (try simp only [List.map_toArray, List.map_cons, List.map_nil]); first | done | rfl | (simp only [List.length_drop, List.length_take]; rfl)) ?_; (with_reducible refine (burinref28_neg.calls a0 true _ A2.out).mono ?_); rintro e w' ⟨rfl, ⟨nd, rfl⟩⟩; refine ⟨_, rfl, ?_⟩))
    go_ret
    exact ⟨by first | rfl | (simp; done) | (simp [*]; done), by repeat (first | exact Drawn0.refl _ | apply Drawn0.step)⟩
  · replace c3 := Bool.eq_false_iff.mpr c3
    subst c3
    have H1 : (some a0) = some r := by rw [if_neg (show ¬ (false = true) by decide)] at H; exact H
    clear H
    have H := H1
    clear H1
    obtain rfl := Option.some.inj H
    go_enter Try.func129, Try.ntmps129
    go_wp2_with (first | ((with_reducible refine gate_callee (f := 128) rfl ?_); refine goesL_ (some 4) rfl rfl Try.func128 (by kernel_rfl) rfl #[.int .u64 a0] rfl (by (try simp only [List.map_toArray, List.map_cons, List.map_nil]); first | done | rfl | (simp only [List.length_drop, List.length_take]; rfl)) ?_; (with_reducible refine (burinref28_neg.calls a0 false _ A2.out).mono ?_); rintro e w' ⟨rfl, ⟨nd, rfl⟩⟩; refine ⟨_, rfl, ?_⟩))
    go_ret
    exact ⟨by first | rfl | (simp; done) | (simp [*]; done), by repeat (first | exact Drawn0.refl _ | apply Drawn0.step)⟩

end Go.Proofs.Ytciehejifdbpoaa.PHartSteps
end
section
set_option linter.unusedSimpArgs false
set_option linter.unusedVariables false
namespace Go.Proofs.Ytciehejifdbpoaa.Hl
open Go.RowKit Go.Maps Go.Proofs.Ytciehejifdbpoaa.Grow Go.Proofs.Ytciehejifdbpoaa.Rv Go.Proofs.Ytciehejifdbpoaa.As Go.Proofs.Ytciehejifdbpoaa.Ht Go.Proofs.Ytciehejifdbpoaa.PHartQuotients Go.Proofs.Ytciehejifdbpoaa.PHartSteps
open Go.Proofs.YtciehejifdbpoaaW.PrintWords Go.Proofs.YtciehejifdbpoaaW.PrintLast Go.Proofs.YtciehejifdbpoaaW.PrintMore

/-! ### What the two steps ask of a name -/
theorem is_of {nm nn : ByteArray} {l : List UInt8} (e : nn.toList = l) (h : nm.toList = l) : nm = nn := toList_inj (h.trans e.symm)
theorem isN_no {nm : ByteArray} {l : List UInt8} (h : ¬ nm.toList = l) : isN nm l = false := beq_eq_false_iff_ne.2 h
def bytesV (nm : ByteArray) : Int × Int × Bool := if clsF nm = 1 then (1, (widthF nm).1, (widthF nm).2) else if clsF nm = 2 then (2, (widthF nm).1, false) else (0, 0, false)
set_option maxRecDepth 100000 in
theorem bytes_f (nm : ByteArray) : burinref28_Bytes.f nm = some (bytesV nm) := by
  by_cases c0 : nm.toList = [108, 98]
  · rw [is_of (nn := (⟨#[108, 98]⟩ : ByteArray)) (by kernel_rfl) c0]; kernel_rfl
  by_cases c1 : nm.toList = [108, 104]
  · rw [is_of (nn := (⟨#[108, 104]⟩ : ByteArray)) (by kernel_rfl) c1]; kernel_rfl
  by_cases c2 : nm.toList = [108, 119]
  · rw [is_of (nn := (⟨#[108, 119]⟩ : ByteArray)) (by kernel_rfl) c2]; kernel_rfl
  by_cases c3 : nm.toList = [108, 100]
  · rw [is_of (nn := (⟨#[108, 100]⟩ : ByteArray)) (by kernel_rfl) c3]; kernel_rfl
  by_cases c4 : nm.toList = [108, 98, 117]
  · rw [is_of (nn := (⟨#[108, 98, 117]⟩ : ByteArray)) (by kernel_rfl) c4]; kernel_rfl
  by_cases c5 : nm.toList = [108, 104, 117]
  · rw [is_of (nn := (⟨#[108, 104, 117]⟩ : ByteArray)) (by kernel_rfl) c5]; kernel_rfl
  by_cases c6 : nm.toList = [108, 119, 117]
  · rw [is_of (nn := (⟨#[108, 119, 117]⟩ : ByteArray)) (by kernel_rfl) c6]; kernel_rfl
  by_cases c7 : nm.toList = [115, 98]
  · rw [is_of (nn := (⟨#[115, 98]⟩ : ByteArray)) (by kernel_rfl) c7]; kernel_rfl
  by_cases c8 : nm.toList = [115, 104]
  · rw [is_of (nn := (⟨#[115, 104]⟩ : ByteArray)) (by kernel_rfl) c8]; kernel_rfl
  by_cases c9 : nm.toList = [115, 119]
  · rw [is_of (nn := (⟨#[115, 119]⟩ : ByteArray)) (by kernel_rfl) c9]; kernel_rfl
  by_cases c10 : nm.toList = [115, 100]
  · rw [is_of (nn := (⟨#[115, 100]⟩ : ByteArray)) (by kernel_rfl) c10]; kernel_rfl
  unfold burinref28_Bytes.f bytesV clsF loadL storeL
  simp only [if_neg c0, if_neg c1, if_neg c2, if_neg c3, if_neg c4, if_neg c5, if_neg c6, if_neg c7, if_neg c8, if_neg c9, if_neg c10]
  simp only [List.any_cons, List.any_nil, isN_no c0, isN_no c1, isN_no c2, isN_no c3, isN_no c4, isN_no c5, isN_no c6, isN_no c7, isN_no c8, isN_no c9, isN_no c10, Bool.or_self, Bool.false_eq_true, if_false]
  repeat' split
  all_goals first | rfl | (exfalso; omega)
def goV (nm : ByteArray) (a b : Int) : Int := if clsF nm = 3 then (if takenF nm a b = true then 1 else 0) else 2
theorem less_f {a b : Int} (ha : U64 a) (hb : U64 b) : burinref28_less.f a b = some (decide (wrap64 a < wrap64 b)) := by
  unfold burinref28_less.f burinref28_neg.f
  simp only [Option.bind_some]
  have h0 := ha.1
  have h1 := ha.2
  have g0 := hb.1
  have g1 := hb.2
  unfold wrap64
  by_cases x : a ≥ 9223372036854775808
  · by_cases y : b ≥ 9223372036854775808
    · simp only [x, y, decide_true, bne_self_eq_false, Bool.false_eq_true, if_false]
      congr 1; apply decide_eq_decide.2; omega
    · simp only [x, y, decide_true, decide_false, Bool.bne_false, if_true]
      congr 1; symm; apply decide_eq_true; omega
  · by_cases y : b ≥ 9223372036854775808
    · simp only [x, y, decide_true, decide_false, Bool.false_bne, if_true]
      congr 1; symm; apply decide_eq_false; omega
    · simp only [x, y, decide_false, bne_self_eq_false, Bool.false_eq_true, if_false]
      congr 1; apply decide_eq_decide.2; omega
set_option maxRecDepth 100000 in
theorem go_f (nm : ByteArray) {a b : Int} (ha : U64 a) (hb : U64 b) : burinref28_Go.f nm a b = some (goV nm a b) := by
  by_cases c0 : nm.toList = [98, 101, 113]
  · rw [is_of (nn := (⟨#[98, 101, 113]⟩ : ByteArray)) (by kernel_rfl) c0]
    have t : takenF (⟨#[98, 101, 113]⟩ : ByteArray) a b = (a == b) := by unfold takenF; rw [show hart_taken.f (⟨#[98, 101, 113]⟩ : ByteArray) a b = some (a == b) by kernel_rfl]; rfl
    have c : clsF (⟨#[98, 101, 113]⟩ : ByteArray) = 3 := by kernel_rfl
    unfold goV; rw [if_pos c, t]
    have g : burinref28_Go.f (⟨#[98, 101, 113]⟩ : ByteArray) a b = if a = b then some 1 else some 0 := by kernel_rfl
    rw [g]; by_cases e : a = b <;> simp [e]
  by_cases c1 : nm.toList = [98, 110, 101]
  · rw [is_of (nn := (⟨#[98, 110, 101]⟩ : ByteArray)) (by kernel_rfl) c1]
    have t : takenF (⟨#[98, 110, 101]⟩ : ByteArray) a b = (a != b) := by unfold takenF; rw [show hart_taken.f (⟨#[98, 110, 101]⟩ : ByteArray) a b = some (a != b) by kernel_rfl]; rfl
    have c : clsF (⟨#[98, 110, 101]⟩ : ByteArray) = 3 := by kernel_rfl
    unfold goV; rw [if_pos c, t]
    have g : burinref28_Go.f (⟨#[98, 110, 101]⟩ : ByteArray) a b = if a = b then some 0 else some 1 := by kernel_rfl
    rw [g]; by_cases e : a = b <;> simp [e]
  by_cases c2 : nm.toList = [98, 108, 116]
  · rw [is_of (nn := (⟨#[98, 108, 116]⟩ : ByteArray)) (by kernel_rfl) c2]
    have t : takenF (⟨#[98, 108, 116]⟩ : ByteArray) a b = (decide (wrap64 a < wrap64 b)) := by unfold takenF; rw [show hart_taken.f (⟨#[98, 108, 116]⟩ : ByteArray) a b = some (decide (wrap64 a < wrap64 b)) by kernel_rfl]; rfl
    have c : clsF (⟨#[98, 108, 116]⟩ : ByteArray) = 3 := by kernel_rfl
    unfold goV; rw [if_pos c, t]
    have g : burinref28_Go.f (⟨#[98, 108, 116]⟩ : ByteArray) a b = (burinref28_less.f a b).bind fun t => (if t = true then some 1 else some 0) := by kernel_rfl
    rw [g, less_f ha hb, Option.bind_some]; by_cases e : wrap64 a < wrap64 b <;> simp [e]
  by_cases c3 : nm.toList = [98, 103, 101]
  · rw [is_of (nn := (⟨#[98, 103, 101]⟩ : ByteArray)) (by kernel_rfl) c3]
    have t : takenF (⟨#[98, 103, 101]⟩ : ByteArray) a b = (decide (wrap64 a ≥ wrap64 b)) := by unfold takenF; rw [show hart_taken.f (⟨#[98, 103, 101]⟩ : ByteArray) a b = some (decide (wrap64 a ≥ wrap64 b)) by kernel_rfl]; rfl
    have c : clsF (⟨#[98, 103, 101]⟩ : ByteArray) = 3 := by kernel_rfl
    unfold goV; rw [if_pos c, t]
    have g : burinref28_Go.f (⟨#[98, 103, 101]⟩ : ByteArray) a b = (burinref28_less.f a b).bind fun t => (if t = true then some 0 else some 1) := by kernel_rfl
    rw [g, less_f ha hb, Option.bind_some]; by_cases e : wrap64 a < wrap64 b <;> simp [e, Int.not_lt.1]
  by_cases c4 : nm.toList = [98, 108, 116, 117]
  · rw [is_of (nn := (⟨#[98, 108, 116, 117]⟩ : ByteArray)) (by kernel_rfl) c4]
    have t : takenF (⟨#[98, 108, 116, 117]⟩ : ByteArray) a b = (decide (a < b)) := by unfold takenF; rw [show hart_taken.f (⟨#[98, 108, 116, 117]⟩ : ByteArray) a b = some (decide (a < b)) by kernel_rfl]; rfl
    have c : clsF (⟨#[98, 108, 116, 117]⟩ : ByteArray) = 3 := by kernel_rfl
    unfold goV; rw [if_pos c, t]
    have g : burinref28_Go.f (⟨#[98, 108, 116, 117]⟩ : ByteArray) a b = if a < b then some 1 else some 0 := by kernel_rfl
    rw [g]; by_cases e : a < b <;> simp only [e, if_true, if_false, decide_true, decide_false, Bool.false_eq_true]
  by_cases c5 : nm.toList = [98, 103, 101, 117]
  · rw [is_of (nn := (⟨#[98, 103, 101, 117]⟩ : ByteArray)) (by kernel_rfl) c5]
    have t : takenF (⟨#[98, 103, 101, 117]⟩ : ByteArray) a b = (decide (a ≥ b)) := by unfold takenF; rw [show hart_taken.f (⟨#[98, 103, 101, 117]⟩ : ByteArray) a b = some (decide (a ≥ b)) by kernel_rfl]; rfl
    have c : clsF (⟨#[98, 103, 101, 117]⟩ : ByteArray) = 3 := by kernel_rfl
    unfold goV; rw [if_pos c, t]
    have g : burinref28_Go.f (⟨#[98, 103, 101, 117]⟩ : ByteArray) a b = if a ≥ b then some 1 else some 0 := by kernel_rfl
    rw [g]; by_cases e : a ≥ b <;> simp only [e, if_true, if_false, decide_true, decide_false, Bool.false_eq_true]
  unfold burinref28_Go.f goV clsF branchL
  simp only [if_neg c0, if_neg c1, if_neg c2, if_neg c3, if_neg c4, if_neg c5]
  simp only [List.any_cons, List.any_nil, isN_no c0, isN_no c1, isN_no c2, isN_no c3, isN_no c4, isN_no c5, Bool.or_self, Bool.false_eq_true, if_false]
  repeat' split
  all_goals first | rfl | (exfalso; omega)
set_option maxRecDepth 100000 in
theorem number_nm (nm : ByteArray) : burinref28_number.f nm = some (withF nm).isSome := by
  by_cases c0 : nm.toList = [97, 100, 100, 105]
  · rw [is_of (nn := (⟨#[97, 100, 100, 105]⟩ : ByteArray)) (by kernel_rfl) c0]; kernel_rfl
  by_cases c1 : nm.toList = [115, 108, 116, 105]
  · rw [is_of (nn := (⟨#[115, 108, 116, 105]⟩ : ByteArray)) (by kernel_rfl) c1]; kernel_rfl
  by_cases c2 : nm.toList = [115, 108, 116, 105, 117]
  · rw [is_of (nn := (⟨#[115, 108, 116, 105, 117]⟩ : ByteArray)) (by kernel_rfl) c2]; kernel_rfl
  by_cases c3 : nm.toList = [120, 111, 114, 105]
  · rw [is_of (nn := (⟨#[120, 111, 114, 105]⟩ : ByteArray)) (by kernel_rfl) c3]; kernel_rfl
  by_cases c4 : nm.toList = [111, 114, 105]
  · rw [is_of (nn := (⟨#[111, 114, 105]⟩ : ByteArray)) (by kernel_rfl) c4]; kernel_rfl
  by_cases c5 : nm.toList = [97, 110, 100, 105]
  · rw [is_of (nn := (⟨#[97, 110, 100, 105]⟩ : ByteArray)) (by kernel_rfl) c5]; kernel_rfl
  by_cases c6 : nm.toList = [97, 100, 100, 105, 119]
  · rw [is_of (nn := (⟨#[97, 100, 100, 105, 119]⟩ : ByteArray)) (by kernel_rfl) c6]; kernel_rfl
  by_cases c7 : nm.toList = [115, 108, 108, 105]
  · rw [is_of (nn := (⟨#[115, 108, 108, 105]⟩ : ByteArray)) (by kernel_rfl) c7]; kernel_rfl
  by_cases c8 : nm.toList = [115, 114, 108, 105]
  · rw [is_of (nn := (⟨#[115, 114, 108, 105]⟩ : ByteArray)) (by kernel_rfl) c8]; kernel_rfl
  by_cases c9 : nm.toList = [115, 114, 97, 105]
  · rw [is_of (nn := (⟨#[115, 114, 97, 105]⟩ : ByteArray)) (by kernel_rfl) c9]; kernel_rfl
  by_cases c10 : nm.toList = [115, 108, 108, 105, 119]
  · rw [is_of (nn := (⟨#[115, 108, 108, 105, 119]⟩ : ByteArray)) (by kernel_rfl) c10]; kernel_rfl
  by_cases c11 : nm.toList = [115, 114, 108, 105, 119]
  · rw [is_of (nn := (⟨#[115, 114, 108, 105, 119]⟩ : ByteArray)) (by kernel_rfl) c11]; kernel_rfl
  by_cases c12 : nm.toList = [115, 114, 97, 105, 119]
  · rw [is_of (nn := (⟨#[115, 114, 97, 105, 119]⟩ : ByteArray)) (by kernel_rfl) c12]; kernel_rfl
  have d0 : decide ((⟨#[97, 100, 100, 105]⟩ : ByteArray) = nm) = false := decide_eq_false fun e => c0 (by rw [← e]; kernel_rfl)
  have d1 : decide ((⟨#[115, 108, 116, 105]⟩ : ByteArray) = nm) = false := decide_eq_false fun e => c1 (by rw [← e]; kernel_rfl)
  have d2 : decide ((⟨#[115, 108, 116, 105, 117]⟩ : ByteArray) = nm) = false := decide_eq_false fun e => c2 (by rw [← e]; kernel_rfl)
  have d3 : decide ((⟨#[120, 111, 114, 105]⟩ : ByteArray) = nm) = false := decide_eq_false fun e => c3 (by rw [← e]; kernel_rfl)
  have d4 : decide ((⟨#[111, 114, 105]⟩ : ByteArray) = nm) = false := decide_eq_false fun e => c4 (by rw [← e]; kernel_rfl)
  have d5 : decide ((⟨#[97, 110, 100, 105]⟩ : ByteArray) = nm) = false := decide_eq_false fun e => c5 (by rw [← e]; kernel_rfl)
  have d6 : decide ((⟨#[97, 100, 100, 105, 119]⟩ : ByteArray) = nm) = false := decide_eq_false fun e => c6 (by rw [← e]; kernel_rfl)
  have d7 : decide ((⟨#[115, 108, 108, 105]⟩ : ByteArray) = nm) = false := decide_eq_false fun e => c7 (by rw [← e]; kernel_rfl)
  have d8 : decide ((⟨#[115, 114, 108, 105]⟩ : ByteArray) = nm) = false := decide_eq_false fun e => c8 (by rw [← e]; kernel_rfl)
  have d9 : decide ((⟨#[115, 114, 97, 105]⟩ : ByteArray) = nm) = false := decide_eq_false fun e => c9 (by rw [← e]; kernel_rfl)
  have d10 : decide ((⟨#[115, 108, 108, 105, 119]⟩ : ByteArray) = nm) = false := decide_eq_false fun e => c10 (by rw [← e]; kernel_rfl)
  have d11 : decide ((⟨#[115, 114, 108, 105, 119]⟩ : ByteArray) = nm) = false := decide_eq_false fun e => c11 (by rw [← e]; kernel_rfl)
  have d12 : decide ((⟨#[115, 114, 97, 105, 119]⟩ : ByteArray) = nm) = false := decide_eq_false fun e => c12 (by rw [← e]; kernel_rfl)
  unfold burinref28_number.f withF Ht.withL
  simp only [if_neg c0, if_neg c1, if_neg c2, if_neg c3, if_neg c4, if_neg c5, if_neg c6, if_neg c7, if_neg c8, if_neg c9, if_neg c10, if_neg c11, if_neg c12]
  simp only [List.find?_cons, List.find?_nil, d0, d1, d2, d3, d4, d5, d6, d7, d8, d9, d10, d11, d12, Option.map_none, Option.isSome_none]
end Go.Proofs.Ytciehejifdbpoaa.Hl
end
section
set_option linter.unusedSimpArgs false
set_option linter.unusedVariables false
namespace Go.Proofs.Ytciehejifdbpoaa.Hl
open Go.RowKit Go.Maps Go.Proofs.Ytciehejifdbpoaa.Grow Go.Proofs.Ytciehejifdbpoaa.Rv Go.Proofs.Ytciehejifdbpoaa.As Go.Proofs.Ytciehejifdbpoaa.Ht Go.Proofs.Ytciehejifdbpoaa.PHartQuotients Go.Proofs.Ytciehejifdbpoaa.PHartSteps
open Go.Proofs.YtciehejifdbpoaaW.PrintWords Go.Proofs.YtciehejifdbpoaaW.PrintLast Go.Proofs.YtciehejifdbpoaaW.PrintMore

/-! ### The sign of a loaded number -/
theorem shlu' {x s : Int} (hs : 0 ≤ s ∧ s < 64) : shl .u64 x s = IntKind.u64.wrap (x * 2 ^ s.toNat) := (shl_small (k := .u64) (x := x) (y := s) rfl (by show s ≤ 64; omega)).symm
theorem end_of (x n p h q : Int) (hx : U64 x) (hn : 0 < n ∧ n < 64) (hp : shl .u64 1 n = p) (hh : p = 2 * h) (hq : (2 : Int) ^ (64 - n).toNat = q) (hpq : p * q = 18446744073709551616)
    (key : IntKind.u64.wrap (wrap64 (IntKind.u64.wrap (x * q)) / q) = if x % p ≥ h then IntKind.u64.wrap (x % p - p) else x % p) (hpos : 0 < h) (hb : p ≤ 18446744073709551616) : burinref28_End.f x n = some (extF x n) := by
  have w1 : wrap64 (64 - n) = 64 - n := by unfold wrap64; omega
  have w2 : IntKind.u64.wrap (64 - n) = 64 - n := uw_id ⟨by omega, by omega⟩
  have w3 : IntKind.u64.wrap n = n := uw_id ⟨by omega, by omega⟩
  have e : extF x n = IntKind.u64.wrap (wrap64 (IntKind.u64.wrap (x * q)) / q) := by
    unfold extF hart_extend.f
    rw [w1, w2, if_pos (by omega), shlu' ⟨by omega, by omega⟩, shr_i ⟨by omega, by omega⟩, hq]; rfl
  rw [e, key]
  unfold burinref28_End.f
  rw [if_neg (by omega), w3, if_pos (by omega), hp, if_neg (by omega), tmod_pos hx.1]
  have w4 : IntKind.u64.wrap (p / 2) = h := by rw [uw_id ⟨by omega, by omega⟩]; omega
  rw [w4]
  by_cases c : x % p ≥ h
  · rw [if_pos c, if_pos c]
  · rw [if_neg c, if_neg c]
theorem end_8 {x : Int} (hx : U64 x) : burinref28_End.f x 8 = some (extF x 8) :=
  end_of x 8 256 128 72057594037927936 hx (by decide) (by decide) (by decide) (by decide) (by decide)
    (by have h0 := hx.1; have h1 := hx.2; rw [uw, uw]; unfold wrap64; by_cases c : x % 256 ≥ 128
        · rw [if_pos c, uw]; omega
        · rw [if_neg c]; omega) (by decide) (by decide)
theorem end_16 {x : Int} (hx : U64 x) : burinref28_End.f x 16 = some (extF x 16) :=
  end_of x 16 65536 32768 281474976710656 hx (by decide) (by decide) (by decide) (by decide) (by decide)
    (by have h0 := hx.1; have h1 := hx.2; rw [uw, uw]; unfold wrap64; by_cases c : x % 65536 ≥ 32768
        · rw [if_pos c, uw]; omega
        · rw [if_neg c]; omega) (by decide) (by decide)
theorem end_32 {x : Int} (hx : U64 x) : burinref28_End.f x 32 = some (extF x 32) :=
  end_of x 32 4294967296 2147483648 4294967296 hx (by decide) (by decide) (by decide) (by decide) (by decide)
    (by have h0 := hx.1; have h1 := hx.2; rw [uw, uw]; unfold wrap64; by_cases c : x % 4294967296 ≥ 2147483648
        · rw [if_pos c, uw]; omega
        · rw [if_neg c]; omega) (by decide) (by decide)
/-- Of the names of loads, those with a sign load 1, 2 or 4 bytes. -/
theorem load_kinds {nm : ByteArray} (h : clsF nm = 1) : ((widthF nm).1 = 1 ∨ (widthF nm).1 = 2 ∨ (widthF nm).1 = 4) ∨ ((widthF nm).1 = 8 ∧ (widthF nm).2 = false) := by
  have hl : loadL.any (isN nm) = true := by
    unfold clsF at h
    by_cases g : loadL.any (isN nm) = true
    · exact g
    · rw [if_neg g] at h
      exfalso
      repeat' split at h
      all_goals omega
  obtain ⟨l, hm, hi⟩ := List.any_eq_true.1 hl
  have hi : nm.toList = l := beq_iff_eq.1 hi
  simp only [loadL, List.mem_cons, List.mem_nil_iff, or_false] at hm
  rcases hm with rfl | rfl | rfl | rfl | rfl | rfl | rfl
  · rw [is_of (nn := (⟨#[108, 98]⟩ : ByteArray)) (by kernel_rfl) hi]; decide +kernel
  · rw [is_of (nn := (⟨#[108, 104]⟩ : ByteArray)) (by kernel_rfl) hi]; decide +kernel
  · rw [is_of (nn := (⟨#[108, 119]⟩ : ByteArray)) (by kernel_rfl) hi]; decide +kernel
  · rw [is_of (nn := (⟨#[108, 100]⟩ : ByteArray)) (by kernel_rfl) hi]; decide +kernel
  · rw [is_of (nn := (⟨#[108, 98, 117]⟩ : ByteArray)) (by kernel_rfl) hi]; decide +kernel
  · rw [is_of (nn := (⟨#[108, 104, 117]⟩ : ByteArray)) (by kernel_rfl) hi]; decide +kernel
  · rw [is_of (nn := (⟨#[108, 119, 117]⟩ : ByteArray)) (by kernel_rfl) hi]; decide +kernel
theorem end_f {nm : ByteArray} (h : clsF nm = 1) (hs : (widthF nm).2 = true) {x : Int} (hx : U64 x) : burinref28_End.f x (wrap64 (8 * (widthF nm).1)) = some (widthV nm x) := by
  have e : widthV nm x = extF x (8 * (widthF nm).1) := by unfold widthV; rw [if_pos hs]
  rw [e]
  rcases load_kinds h with (q | q | q) | ⟨_, q⟩
  · rw [q, show wrap64 (8 * 1) = 8 by unfold wrap64; omega, show (8 * 1 : Int) = 8 by decide]; exact end_8 hx
  · rw [q, show wrap64 (8 * 2) = 16 by unfold wrap64; omega, show (8 * 2 : Int) = 16 by decide]; exact end_16 hx
  · rw [q, show wrap64 (8 * 4) = 32 by unfold wrap64; omega, show (8 * 4 : Int) = 32 by decide]; exact end_32 hx
  · rw [hs] at q; cases q
end Go.Proofs.Ytciehejifdbpoaa.Hl
end
section
set_option linter.unusedSimpArgs false
set_option linter.unusedVariables false
namespace Go.Proofs.Ytciehejifdbpoaa.Hl
open Go.RowKit Go.Maps Go.Proofs.Ytciehejifdbpoaa.Grow Go.Proofs.Ytciehejifdbpoaa.Rv Go.Proofs.Ytciehejifdbpoaa.As Go.Proofs.Ytciehejifdbpoaa.Ht Go.Proofs.Ytciehejifdbpoaa.PHartQuotients Go.Proofs.Ytciehejifdbpoaa.PHartSteps
open Go.Proofs.YtciehejifdbpoaaW.PrintWords Go.Proofs.YtciehejifdbpoaaW.PrintLast Go.Proofs.YtciehejifdbpoaaW.PrintMore

/-! ### The row of the document's two regions -/
def RefRow (w : World) (mv : Value) (d0 d1 : ByteArray) : Prop := w.ownsRow 0 92 3 mv 2 (regV 4096 d0 4 ++ regV 8192 d1 3)
theorem RefRow.below {w w' : World} {mv : Value} {d0 d1 : ByteArray} (h : RefRow w mv d0 d1) (hb : Below w.heap.size w w') : RefRow w' mv d0 d1 := World.ownsRow.below h hb
theorem RefRow.form {w : World} {mv : Value} {d0 d1 : ByteArray} (h : RefRow w mv d0 d1) : ∃ g cap, mv = .slice (some ⟨g, 0, none⟩) 2 cap ∧ 2 ≤ cap ∧ g < w.heap.size ∧ ∀ j u, (regV 4096 d0 4 ++ regV 8192 d1 3)[j]? = some u → w.cell? ⟨g, j, none⟩ = some u := by
  obtain ⟨hl, ⟨_, h0⟩ | ⟨g, cap, cur, rfl, _, hh, hc, _, hs, ht⟩⟩ := h
  · omega
  · refine ⟨g, cap, rfl, hc, blk_lt hh, fun j u hu => ?_⟩
    rw [cell_of_row w g _ cur 92 (0, 0) hh]
    rw [← ht, List.getElem?_take] at hu
    split at hu
    · simpa using hu
    · cases hu
theorem RefRow.reads {w : World} {d0 d1 : ByteArray} {g cap : Nat} (h : ∀ j u, (regV 4096 d0 4 ++ regV 8192 d1 3)[j]? = some u → w.cell? ⟨g, j, none⟩ = some u) : Kd.C k92 w (some ⟨g, 0, none⟩) (regs2 d0 d1).length (regs2 d0 d1) := by
  refine ⟨rfl, (show 2 ≤ 9223372036854775807 by decide), fun _ => ⟨⟨g, 0, none⟩, rfl, fun j p hj => ?_⟩⟩
  have hj2 : j = 0 ∨ j = 1 := by
    have := (List.getElem?_eq_some_iff.1 hj).1
    have : (regs2 d0 d1).length = 2 := rfl
    omega
  rcases hj2 with rfl | rfl
  · have e : p = ⟨4096, d0, 4⟩ := (Option.some.inj hj).symm
    subst e
    refine ⟨_, rfl, k92_mk w _, fun i u hu => ?_⟩
    rw [Addr.add_mid]
    refine h _ u ?_
    have : i < 3 := (List.getElem?_eq_some_iff.1 hu).1
    rw [show 0 + (0 * k92.sz + i) = i by omega]
    rw [List.getElem?_append_left (show i < (regV 4096 d0 4).length from this)]
    exact hu
  · have e : p = ⟨8192, d1, 3⟩ := (Option.some.inj hj).symm
    subst e
    refine ⟨_, rfl, k92_mk w _, fun i u hu => ?_⟩
    rw [Addr.add_mid]
    refine h _ u ?_
    have : i < 3 := (List.getElem?_eq_some_iff.1 hu).1
    rw [show 0 + (1 * k92.sz + i) = 3 + i by show 0 + (1 * 3 + i) = 3 + i; omega]
    rw [List.getElem?_append_right (show (regV 4096 d0 4).length ≤ 3 + i from by show 3 ≤ _; omega)]
    rw [show 3 + i - (regV 4096 d0 4).length = i from by show 3 + i - 3 = i; omega]
    exact hu
theorem fetch_ref {w : World} {mv : Value} {d0 d1 : ByteArray} {S : MemS} (h : RefRow w mv d0 d1) (hM : Mem2 S d0 d1) {a : Int} (ha : U64 a) :
    Calls Try.prog 83 #[mv, .int .u64 a] w fun e w' => e = .returned (.tuple #[.int .u32 (fetchF S a).1, .int .i64 (fetchF S a).2]) ∧ Below w.heap.size w w' := by
  obtain ⟨g, cap, rfl, hc, _, hg⟩ := h.form
  exact (burinref27_Fetch.calls 20 (some ⟨g, 0, none⟩) cap (regs2 d0 d1) a (fetchF S a).1 (fetchF S a).2 w (RefRow.reads (cap := cap) hg) hc (fetch_f hM ha)).mono fun _ _ h => ⟨h.1, h.2.below⟩
theorem load_ref {w : World} {mv : Value} {d0 d1 : ByteArray} {S : MemS} (h : RefRow w mv d0 d1) (hM : Mem2 S d0 d1) {a n : Int} (ha : U64 a) :
    Calls Try.prog 85 #[mv, .int .u64 a, .int .i64 n] w fun e w' => e = .returned (.tuple #[.int .u64 (loadF S a n).1, .int .i64 (loadF S a n).2]) ∧ Below w.heap.size w w' := by
  obtain ⟨g, cap, rfl, hc, _, hg⟩ := h.form
  exact (burinref27_Load.calls 20 (some ⟨g, 0, none⟩) cap (regs2 d0 d1) a n (loadF S a n).1 (loadF S a n).2 w (RefRow.reads (cap := cap) hg) hc (load_f hM ha)).mono fun _ _ h => ⟨h.1, h.2.below⟩
theorem where_ref {w : World} {mv : Value} {d0 d1 : ByteArray} (h : RefRow w mv d0 d1) (h0 : d0.size ≤ 400) (h1 : d1.size ≤ 500) {a n : Int} (ha : U64 a) (hn : 1 ≤ n ∧ n ≤ 8) :
    Calls Try.prog 112 #[mv, .int .u64 a, .int .i64 n, .int .i64 2] w fun e w' => e = .returned (.int .i64 (whereV d0 d1 a n 2)) ∧ Below w.heap.size w w' := by
  obtain ⟨g, cap, rfl, hc, _, hg⟩ := h.form
  exact (burinref27_Where.calls 20 (some ⟨g, 0, none⟩) cap (regs2 d0 d1) a n 2 _ w (RefRow.reads (cap := cap) hg) hc (where_f h0 h1 ha hn (Or.inr (Or.inl rfl)) 17)).mono fun _ _ h => ⟨h.1, h.2.below⟩
end Go.Proofs.Ytciehejifdbpoaa.Hl
end
section
set_option linter.unusedSimpArgs false
set_option linter.unusedVariables false
namespace Go.Proofs.Ytciehejifdbpoaa.Hl
open Go.RowKit Go.Maps Go.Proofs.Ytciehejifdbpoaa.Grow Go.Proofs.Ytciehejifdbpoaa.Rv Go.Proofs.Ytciehejifdbpoaa.As Go.Proofs.Ytciehejifdbpoaa.Ht Go.Proofs.Ytciehejifdbpoaa.PHartQuotients Go.Proofs.Ytciehejifdbpoaa.PHartSteps
open Go.Proofs.YtciehejifdbpoaaW.PrintWords Go.Proofs.YtciehejifdbpoaaW.PrintLast Go.Proofs.YtciehejifdbpoaaW.PrintMore

/-! ### A store of the document's memory -/
theorem info92 : (Try.prog.info? 92).map (fun i => (i.zero, i.size, i.bytes)) = some (some (.agg #[.int .u64 0, .string ⟨#[]⟩, .int .i64 0]), 3, 32) := by kernel_rfl
theorem under78 : Try.prog.underlying 78 = some (.slice 92) := by kernel_rfl
structure BytesAt (w : World) (G N : Nat) (bs : List Int) : Prop where
  ex : ∃ cur, w.heap[G]? = some (.cells cur 5 (N, N + 1)) ∧ cur.size = N ∧ bs.length ≤ N ∧ ∀ j (hj : j < bs.length), cur[j]? = some (.int .u8 bs[j])
theorem BytesAt.cell {w : World} {G N : Nat} {bs : List Int} (h : BytesAt w G N bs) (j : Nat) (hj : j < bs.length) : w.cell? ⟨G, j, none⟩ = some (.int .u8 bs[j]) := by
  obtain ⟨cur, hh, _, _, hc⟩ := h.ex
  exact (cell_of_row w G j cur 5 _ hh).trans (hc j hj)
theorem BytesAt.lt {w : World} {G N : Nat} {bs : List Int} (h : BytesAt w G N bs) : G < w.heap.size := by
  obtain ⟨cur, hh, _⟩ := h.ex
  exact blk_lt hh
theorem BytesAt.froz {w : World} {G N : Nat} {bs : List Int} (h : BytesAt w G N bs) (j : Nat) (hj : j < bs.length) : w.frozen? ⟨G, j, none⟩ = false := by
  obtain ⟨cur, hh, h1, h2, _⟩ := h.ex
  simp [World.frozen?, hh]
  omega
theorem BytesAt.set {w : World} {G N : Nat} {bs : List Int} (h : BytesAt w G N bs) (j : Nat) (hj : j < bs.length) (x : Int) : BytesAt (w.setCell ⟨G, j, none⟩ (.int .u8 x)) G N (bs.set j x) := by
  obtain ⟨cur, hh, h1, h2, hc⟩ := h.ex
  refine ⟨cur.setIfInBounds j (.int .u8 x), by simp [World.setCell, Array.getElem?_modify, hh], by simp [h1], by simpa using h2, fun i hi => ?_⟩
  have hi' : i < bs.length := by simpa using hi
  by_cases e : j = i
  · subst e
    rw [Array.getElem?_setIfInBounds_self_of_lt (by omega)]
    simp
  · rw [Array.getElem?_setIfInBounds_ne e, hc i hi', List.getElem_set_ne e]
theorem bytesAt_string {w : World} {G N : Nat} {bs : List Int} (cap : Nat) (h : BytesAt w G N bs) : (convert 130 9 (.slice (some ⟨G, 0, none⟩) bs.length cap)).run Try.prog w = .ok (.string (strOf bs)) w := by
  rw [run_convert_bytes_string w 130 9 5 _ _ _ Ht.under130 und5 und9]
  refine run_bytesToString w _ bs.length cap bs ?_
  have hl : (loadCells ⟨G, 0, none⟩ (bs.map (Value.int .u8)).length).run Try.prog w = .ok (bs.map (Value.int .u8)).toArray w :=
    run_loadCells_list (P := Try.prog) w ⟨G, 0, none⟩ _ (fun j u hu => by
      rw [Addr.add_mid, Nat.zero_add]
      have hj : j < bs.length := by simpa using (List.getElem?_eq_some_iff.1 hu).1
      rw [h.cell j hj]
      rw [List.getElem?_map, List.getElem?_eq_getElem hj] at hu
      exact hu)
  rw [List.length_map] at hl
  exact hl
theorem bytesWorld_bytes (w : World) (s : ByteArray) : ∃ N, BytesAt (Lib.bytesWorld w 5 s) w.heap.size N (dataB s) := by
  have hh := Lib.bytesWorld_at_new w 5 s
  refine ⟨_, ⟨_, hh, rfl, ?_, fun j hj => ?_⟩⟩
  · by_cases c : s.size = 0
    · rw [dataB_len, c]; omega
    · have := Lib.bytesWorld_cell w 5 s (s.size - 1) (by omega)
      rw [cell_of_row _ _ _ _ 5 _ hh] at this
      have := (Array.getElem?_eq_some_iff.1 this).1
      rw [dataB_len]; omega
  · have hj' : j < s.size := by rw [dataB_len] at hj; exact hj
    have := Lib.bytesWorld_cell w 5 s j hj'
    rw [cell_of_row _ _ _ _ 5 _ hh] at this
    rw [this]
    have hl : j < s.data.toList.length := by rw [data_length]; exact hj'
    simp [dataB, List.getD_eq_getElem?_getD, List.getElem?_eq_getElem hl]
theorem putB_bytes {l : List Int} (h : Bytes l) (f : Nat) (x : Int) : ∀ k, Bytes (putB l f x k)
  | 0 => h
  | k + 1 => by
    intro b hb
    have hb : b ∈ (putB l f x k).set (f + k) (x / 256 ^ k % 256) := hb
    rcases List.mem_or_eq_of_mem_set hb with hb | rfl
    · exact putB_bytes h f x k b hb
    · exact ⟨Int.emod_nonneg _ (by decide), Int.emod_lt_of_pos _ (by decide)⟩
theorem str_size {bs : List Int} (h : Bytes bs) : (strOf bs).size = bs.length := by rw [← dataB_len, dataB_str h]
theorem own2_form {w : World} {base : Nat} {v : Value} {xs : List Value} (h : w.ownsRow base 92 3 v 2 xs) : ∃ gn capn cur, v = .slice (some ⟨gn, 0, none⟩) 2 capn ∧ base ≤ gn ∧ w.heap[gn]? = some (.cells cur 92 (0, 0)) ∧ 2 ≤ capn ∧ capn ≤ maxLen ∧ cur.size = capn * 3 ∧ cur.toList.take 6 = xs := by
  obtain ⟨_, ⟨_, h0⟩ | ⟨g, cap, cur, rfl, hb, hh, hc, hm, hs, ht⟩⟩ := h
  · omega
  · exact ⟨g, cap, cur, rfl, hb, hh, hc, hm, hs, ht⟩
theorem one_reg {d0 d1 : ByteArray} : ∀ u ∈ regV 4096 d0 4 ++ regV 8192 d1 3, u.oneCell' = true := by
  intro u hu
  simp only [regV, List.cons_append, List.nil_append, List.mem_cons, List.mem_nil_iff, or_false] at hu
  rcases hu with rfl | rfl | rfl | rfl | rfl | rfl <;> rfl
theorem reg_set (d0 d1 s : ByteArray) : (regV 4096 d0 4 ++ regV 8192 d1 3).set 4 (.string s) = regV 4096 d0 4 ++ regV 8192 s 3 := rfl
theorem ref_set {w : World} {gn capn : Nat} {cur : Array Value} {d0 d1 s : ByteArray} (hh : w.heap[gn]? = some (.cells cur 92 (0, 0))) (h1 : 2 ≤ capn) (h2 : capn ≤ maxLen) (h3 : cur.size = capn * 3) (h4 : cur.toList.take 6 = regV 4096 d0 4 ++ regV 8192 d1 3) :
    RefRow (w.setCell ⟨gn, 4, none⟩ (.string s)) (.slice (some ⟨gn, 0, none⟩) 2 capn) d0 s := by
  refine ⟨rfl, .inr ⟨gn, capn, cur.setIfInBounds 4 (.string s), rfl, Nat.zero_le _, heap_setCell_same w gn 4 cur 92 _ hh, h1, h2, by simp [h3], ?_⟩⟩
  rw [Array.toList_setIfInBounds, show 2 * 3 = 6 from rfl, List.take_set, h4, reg_set]
theorem mem2_store {S : MemS} {d0 d1 : ByteArray} (h : Mem2 S d0 d1) {a n x : Int} {f : Nat} (hs : sizeOk n = true) (hF : findF S a n 2 = some (1, f)) : (storeF S a n x).2 = 0 ∧ Mem2 (storeF S a n x).1 d0 (strOf (putB (dataB d1) f x n.toNat)) := by
  unfold storeF
  rw [if_pos hs, hF]
  have e1 : S.rs[1]? = some ⟨8192, dataB d1, 3⟩ := by rw [h.rs]; rfl
  refine ⟨rfl, ?_, h.s0, ?_⟩
  · simp only [e1, Option.map_some, Option.getD_some]
    rw [dataB_str (putB_bytes (bytes_dataB d1) f x _)]
    show (S.setB 1 _).rs = _
    unfold MemS.setB
    simp [h.rs]
  · rw [str_size (putB_bytes (bytes_dataB d1) f x _), putB_len, dataB_len]
    exact h.s1
end Go.Proofs.Ytciehejifdbpoaa.Hl
end
