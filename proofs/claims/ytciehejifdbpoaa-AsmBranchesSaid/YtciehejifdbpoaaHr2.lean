import Derived.Test.YtciehejifdbpoaaHr1
namespace Go.Proofs.Ytciehejifdbpoaa.Ht
open Go.RowKit Go.Maps Go.Proofs.Ytciehejifdbpoaa.Grow Go.Proofs.Ytciehejifdbpoaa.Rv Go.Proofs.Ytciehejifdbpoaa.As Go.Proofs.Ytciehejifdbpoaa.PHartQuotients
open Go.Proofs.YtciehejifdbpoaaW.PrintWords Go.Proofs.YtciehejifdbpoaaW.PrintLast Go.Proofs.YtciehejifdbpoaaW.PrintMore

theorem rk_mulh : Rk nMulhu ∧ Rk nMulh ∧ Rk nMulhsu := by
  refine ⟨⟨?_, ?_⟩, ⟨?_, ?_⟩, ⟨?_, ?_⟩⟩ <;> kernel_rfl
theorem ran_one {w : World} {L cap : Nat} {nm : ByteArray} {ra rb : Int} {bs : List Int} (he : encB [⟨nm, 3, ra, rb, 0⟩] = some bs) (h1 : Rk nm)
    (hL : w.heap[L]? = some (.cells #[.string nm, .int .i64 3, .int .i64 ra, .int .i64 rb, .int .i64 0] 24 (0, 0))) {a b r : Int} (ha : U64 a) (hb : U64 b) (hr : reckF nm ((ranH bs a b).ra ra) ((ranH bs a b).ra rb) = r) :
    Calls Try.prog 36 #[.slice (some ⟨L, 0, none⟩) 1 cap, .int .u64 a, .int .u64 b, .int .i64 3] w fun e w' => e = .returned (.tuple #[.int .u64 r, .bool true]) ∧ Below w.heap.size w w' := by
  have RC := ran_line (w := w) (L := L) (cap := cap) [⟨nm, 3, ra, rb, 0⟩] hL (by simp) (by simp) he (by
    intro x hx
    simp only [List.mem_cons, List.not_mem_nil, or_false] at hx
    subst hx
    exact .inr h1.1) ha hb 3 rfl
  rw [one_line h1, hr] at RC
  exact RC
theorem mulhu_calls {w : World} {L cap : Nat} (hL : w.heap[L]? = some (.cells #[.string nMulhu, .int .i64 3, .int .i64 1, .int .i64 2, .int .i64 0] 24 (0, 0))) {a b r : Int} (ha : U64 a) (hb : U64 b) (hr : hiF a b = r) :
    Calls Try.prog 36 #[.slice (some ⟨L, 0, none⟩) 1 cap, .int .u64 a, .int .u64 b, .int .i64 3] w fun e w' => e = .returned (.tuple #[.int .u64 r, .bool true]) ∧ Below w.heap.size w w' := by
  obtain ⟨bs, he⟩ := enc_some [⟨nMulhu, 3, 1, 2, 0⟩] (by kernel_rfl)
  exact ran_one he rk_mulh.1 hL ha hb (by rw [ranH_1, ranH_2, r_mulhu]; exact hr)
theorem mulhu2_calls {w : World} {L cap : Nat} (hL : w.heap[L]? = some (.cells #[.string nMulhu, .int .i64 3, .int .i64 2, .int .i64 1, .int .i64 0] 24 (0, 0))) {a b r : Int} (ha : U64 a) (hb : U64 b) (hr : hiF b a = r) :
    Calls Try.prog 36 #[.slice (some ⟨L, 0, none⟩) 1 cap, .int .u64 a, .int .u64 b, .int .i64 3] w fun e w' => e = .returned (.tuple #[.int .u64 r, .bool true]) ∧ Below w.heap.size w w' := by
  obtain ⟨bs, he⟩ := enc_some [⟨nMulhu, 3, 2, 1, 0⟩] (by kernel_rfl)
  exact ran_one he rk_mulh.1 hL ha hb (by rw [ranH_1, ranH_2, r_mulhu]; exact hr)
theorem mulh_calls {w : World} {L cap : Nat} (hL : w.heap[L]? = some (.cells #[.string nMulh, .int .i64 3, .int .i64 1, .int .i64 2, .int .i64 0] 24 (0, 0))) {a b r : Int} (ha : U64 a) (hb : U64 b) (hr : reckF nMulh a b = r) :
    Calls Try.prog 36 #[.slice (some ⟨L, 0, none⟩) 1 cap, .int .u64 a, .int .u64 b, .int .i64 3] w fun e w' => e = .returned (.tuple #[.int .u64 r, .bool true]) ∧ Below w.heap.size w w' := by
  obtain ⟨bs, he⟩ := enc_some [⟨nMulh, 3, 1, 2, 0⟩] (by kernel_rfl)
  exact ran_one he rk_mulh.2.1 hL ha hb (by rw [ranH_1, ranH_2]; exact hr)
theorem mulhsu_calls {w : World} {L cap : Nat} (hL : w.heap[L]? = some (.cells #[.string nMulhsu, .int .i64 3, .int .i64 1, .int .i64 2, .int .i64 0] 24 (0, 0))) {a b r : Int} (ha : U64 a) (hb : U64 b) (hr : reckF nMulhsu a b = r) :
    Calls Try.prog 36 #[.slice (some ⟨L, 0, none⟩) 1 cap, .int .u64 a, .int .u64 b, .int .i64 3] w fun e w' => e = .returned (.tuple #[.int .u64 r, .bool true]) ∧ Below w.heap.size w w' := by
  obtain ⟨bs, he⟩ := enc_some [⟨nMulhsu, 3, 1, 2, 0⟩] (by kernel_rfl)
  exact ran_one he rk_mulh.2.2 hL ha hb (by rw [ranH_1, ranH_2]; exact hr)
theorem neg_iff {a : Int} (ha : U64 a) : wrap64 a < 0 ↔ a / 9223372036854775808 = 1 := by unfold wrap64; have := ha.1; have := ha.2; omega
/-- What the law's numbers are: u, and u less by what the signs stand for. -/
theorem halves {a b : Int} (ha : U64 a) (hb : U64 b) : ∃ u m s, hiF a b = u ∧ hiF b a = u ∧ reckF nMulhsu a b = m ∧ reckF nMulh a b = s ∧ U64 u ∧
    (a / 9223372036854775808 = 1 → m = IntKind.u64.wrap (u - b)) ∧ (¬ a / 9223372036854775808 = 1 → m = u) ∧ (b / 9223372036854775808 = 1 → s = IntKind.u64.wrap (m - a)) ∧ (¬ b / 9223372036854775808 = 1 → s = m) ∧
    (a ≤ 4294967295 → b ≤ 4294967295 → u = 0) := by
  have h1 := hi_val ha hb
  have h2 := hi_val hb ha
  have hm := r_mulhsu a b
  have hs := r_mulh a b
  have hz : a ≤ 4294967295 → b ≤ 4294967295 → hiF a b = 0 := fun h3 h4 => by
    have p1 : 0 ≤ a * b := Int.mul_nonneg ha.1 hb.1
    have p2 : a * b ≤ 18446744065119617025 := Int.le_trans (Int.mul_le_mul h3 h4 hb.1 (by decide)) (by decide)
    rw [h1]; omega
  have hu : U64 (hiF a b) := by
    have := (reckF_some nMulhu (by decide) (by decide) ha hb).2
    rw [r_mulhu] at this; exact this
  have hc : hiF b a = hiF a b := by rw [h1, h2, Int.mul_comm]
  refine ⟨hiF a b, _, _, rfl, hc, rfl, rfl, hu, fun h => ?_, fun h => ?_, fun h => ?_, fun h => ?_, hz⟩
  · rw [hm, if_pos ((neg_iff ha).2 h)]
  · rw [hm, if_neg (fun h' => h ((neg_iff ha).1 h'))]
  · rw [hs, hm, if_pos ((neg_iff hb).2 h)]
    split
    · simp only [IntKind.wrap_u64]; omega
    · rfl
  · rw [hs, hm, if_neg (fun h' => h ((neg_iff hb).1 h'))]
set_option maxHeartbeats 8000000 in
set_option maxRecDepth 100000 in
theorem halves_walk {a b : Int} (ha : U64 a) (hb : U64 b) (w : World) : Calls Try.prog 10 #[.int .u64 a, .int .u64 b] w fun e w' => e = .returned (.bool true) ∧ Below w.heap.size w w' := by
  obtain ⟨u, m, s, hu, ht, hm, hs, hU, m1, m2, s1, s2, hz⟩ := halves ha hb
  have HA := Aside0.mk ha
  have HB := Aside0.mk hb
  have HU := Aside0.mk hu
  have HT := Aside0.mk ht
  have HM := Aside0.mk hm
  have HS := Aside0.mk hs
  have M1 := Aside0.mk m1
  have M2 := Aside0.mk m2
  have S1 := Aside0.mk s1
  have S2 := Aside0.mk s2
  have HZ := Aside0.mk hz
  obtain ⟨a0, a1⟩ := ha
  obtain ⟨b0, b1⟩ := hb
  clear hu ht hm hs m1 m2 s1 s2 hz hU
  go_enter Try.func10, Try.ntmps10
  go_wp2_with fail
  refine (hworks_calls w).mono ?_
  rintro e w1 ⟨rfl, hb1⟩
  have B1 := Aside0.mk hb1
  clear hb1
  go_wp2_with fail
  refine (mulhu_calls (heap_alloc_last _ _) HA.out HB.out HU.out).mono ?_
  rintro e w2 ⟨rfl, hb2⟩
  have B2 := Aside0.mk ((below_alloc B1.out _).trans (hb2.mono (below_alloc B1.out _).size))
  clear hb2
  go_wp2_with fail
  refine (mulh_calls (heap_alloc_last _ _) HA.out HB.out HS.out).mono ?_
  rintro e w3 ⟨rfl, hb3⟩
  have B3 := Aside0.mk ((below_alloc B2.out _).trans (hb3.mono (below_alloc B2.out _).size))
  clear hb3
  go_wp2_with fail
  refine (mulhsu_calls (heap_alloc_last _ _) HA.out HB.out HM.out).mono ?_
  rintro e w4 ⟨rfl, hb4⟩
  have B4 := Aside0.mk ((below_alloc B3.out _).trans (hb4.mono (below_alloc B3.out _).size))
  clear hb4
  go_wp2_with fail
  refine (mulhu2_calls (heap_alloc_last _ _) HA.out HB.out HT.out).mono ?_
  rintro e w5 ⟨rfl, hb5⟩
  have B5 := Aside0.mk ((below_alloc B4.out _).trans (hb5.mono (below_alloc B4.out _).size))
  clear hb5
  by_cases ga : a / 9223372036854775808 = 1
  all_goals by_cases gb : b / 9223372036854775808 = 1
  all_goals by_cases la : a ≤ 4294967295
  all_goals by_cases lb : b ≤ 4294967295
  all_goals
    first | have e1 := M1.out ga | have e1 := M2.out ga
    first | have e2 := S1.out gb | have e2 := S2.out gb
    try have e3 := HZ.out la lb
    clear M1 M2 S1 S2 HZ HS HM HT HU
    subst e2
    subst e1
    try subst e3
    go_wp2
    all_goals
      go_ret
      refine ⟨?_, B5.out⟩
      first | rfl | (simp; done)
end Go.Proofs.Ytciehejifdbpoaa.Ht
