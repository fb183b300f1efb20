import Derived.Test.YtciehejifdbpoaaRvReads
namespace Go.Proofs.Ytciehejifdbpoaa.Rv
open Go.RowKit

theorem dec_of_reads {k N r a b : Nat} {f imm : Int} (hk : k < 64) (hf : (kd k).2.1 = f) (h : Reads f (kB k) r a b imm N) :
    0 ≤ wordOf (kd k).2.2 (kd k).2.1 (r : Int) (a : Int) (b : Int) imm ∧ wordOf (kd k).2.2 (kd k).2.1 (r : Int) (a : Int) (b : Int) imm < 4294967296 ∧
    decF (wordOf (kd k).2.2 (kd k).2.1 (r : Int) (a : Int) (b : Int) imm) = (⟨(kd k).1, r, a, b, imm⟩, 0) := by
  obtain ⟨hN, hw, hmt, e1, e2, e3, e4⟩ := h
  obtain ⟨_, _, _, hBe, _⟩ := form_k k hk
  rw [hBe, hf, hw]
  refine ⟨Int.natCast_nonneg _, by omega, ?_⟩
  have hi := dIdx_of hN hk (by rw [hf, hmt, hBe])
  unfold decF
  rw [hi, if_pos hk]
  unfold decAt
  rw [hf, e1, e2, e3, e4]

theorem enc_dec (nm : ByteArray) (rd ra rb imm : Int) (h : (encF nm rd ra rb imm).2 = 0) :
    0 ≤ (encF nm rd ra rb imm).1 ∧ (encF nm rd ra rb imm).1 < 4294967296 ∧ decF (encF nm rd ra rb imm).1 = (⟨nm, rd, ra, rb, imm⟩, 0) := by
  by_cases hc : nIdx nm < 64 ∧ encOk (kd (nIdx nm)).2.1 rd ra rb imm = true
  · have hE : encF nm rd ra rb imm = (wordOf (kd (nIdx nm)).2.2 (kd (nIdx nm)).2.1 rd ra rb imm, 0) := by unfold encF; rw [if_pos hc]
    rw [hE]
    clear h hE
    obtain ⟨hk, ho⟩ := hc
    have hnm := nIdx_is hk
    generalize nIdx nm = k at *
    subst hnm
    obtain ⟨h1, h2, h3, h4, h5, h6⟩ := encOk_iff.1 ho
    clear ho
    obtain ⟨r, rfl, hr, hr0⟩ := reg_of h1
    obtain ⟨a, rfl, ha, ha0⟩ := reg_of h2
    obtain ⟨b, rfl, hb, hb0⟩ := reg_of h3
    clear h1 h2 h3
    obtain ⟨m, hm, hm'⟩ := u32_of imm
    obtain ⟨hf, hB, hBl, _, hBw⟩ := form_k k hk
    obtain ⟨f, hfe⟩ : ∃ f, (kd k).2.1 = f := ⟨_, rfl⟩
    suffices hs : ∃ N, Reads f (kB k) r a b imm N by
      obtain ⟨N, hN⟩ := hs
      exact dec_of_reads hk hfe hN
    rw [hfe] at hf hB hBw hr0 ha0 hb0 h4 h5 h6
    clear hfe
    generalize kB k = B at *
    have hBw' : Within (oN f) B := hBw
    clear hBw hk
    rcases hf with rfl | rfl | rfl | rfl | rfl | rfl | rfl | rfl | rfl
    · have e1 : (0 : Int) ≤ imm := h4
      have e2 : imm ≤ 0 := h5
      obtain rfl : imm = 0 := Int.le_antisymm e2 e1
      exact reads0 hB hBw' hr ha hb
    · have e1 : (-2048 : Int) ≤ imm := h4
      have e2 : imm ≤ 2047 := h5
      obtain rfl : b = 0 := hb0 rfl
      exact reads1 hB hBw' hr ha hm hm' e1 e2
    · have e1 : (0 : Int) ≤ imm := h4
      have e2 : imm ≤ 63 := h5
      obtain rfl : b = 0 := hb0 rfl
      obtain rfl : imm = (m : Int) := by clear hB hBw' hm; omega
      exact reads2 hB hBw' hr ha hm (by clear hB hBw' hm; omega)
    · have e1 : (0 : Int) ≤ imm := h4
      have e2 : imm ≤ 31 := h5
      obtain rfl : b = 0 := hb0 rfl
      obtain rfl : imm = (m : Int) := by clear hB hBw' hm; omega
      exact reads3 hB hBw' hr ha hm (by clear hB hBw' hm; omega)
    · have e1 : (-2048 : Int) ≤ imm := h4
      have e2 : imm ≤ 2047 := h5
      obtain rfl : r = 0 := hr0 rfl
      exact reads4 hB hBw' ha hb hm hm' e1 e2
    · have e1 : (-4096 : Int) ≤ imm := h4
      have e2 : imm ≤ 4094 := h5
      have e3 : (imm.tmod 2 != 0) = false := h6
      obtain rfl : r = 0 := hr0 rfl
      exact reads5 hB hBw' ha hb hm hm' e1 e2 (tmod2.1 (by simpa using e3))
    · have e1 : (-524288 : Int) ≤ imm := h4
      have e2 : imm ≤ 524287 := h5
      obtain rfl : a = 0 := ha0 rfl
      obtain rfl : b = 0 := hb0 rfl
      exact reads6 hB hBw' hr hm hm' e1 e2
    · have e1 : (-1048576 : Int) ≤ imm := h4
      have e2 : imm ≤ 1048574 := h5
      have e3 : (imm.tmod 2 != 0) = false := h6
      obtain rfl : a = 0 := ha0 rfl
      obtain rfl : b = 0 := hb0 rfl
      exact reads7 hB hBw' hr hm hm' e1 e2 (tmod2.1 (by simpa using e3))
    · have e1 : (0 : Int) ≤ imm := h4
      have e2 : imm ≤ 0 := h5
      obtain rfl : imm = 0 := Int.le_antisymm e2 e1
      obtain rfl : r = 0 := hr0 rfl
      obtain rfl : a = 0 := ha0 rfl
      obtain rfl : b = 0 := hb0 rfl
      exact reads8 hBl hBw'
  · exfalso
    unfold encF at h
    rw [if_neg hc] at h
    cases h
end Go.Proofs.Ytciehejifdbpoaa.Rv
