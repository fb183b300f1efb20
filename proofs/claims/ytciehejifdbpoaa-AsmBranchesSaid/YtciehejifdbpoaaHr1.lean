import Derived.Test.YtciehejifdbpoaaHtM4
set_option linter.unusedSimpArgs false
set_option linter.unusedVariables false
namespace Go.Proofs.Ytciehejifdbpoaa.Ht
open Go.RowKit Go.Maps Go.Proofs.Ytciehejifdbpoaa.Grow Go.Proofs.Ytciehejifdbpoaa.Rv Go.Proofs.Ytciehejifdbpoaa.As Go.Proofs.Ytciehejifdbpoaa.PHartQuotients
open Go.Proofs.YtciehejifdbpoaaW.PrintWords Go.Proofs.YtciehejifdbpoaaW.PrintLast Go.Proofs.YtciehejifdbpoaaW.PrintMore

def wkL : List OpI := [⟨⟨#[97, 100, 100, 105]⟩, 1, 0, 0, -1⟩, ⟨⟨#[115, 114, 108, 105]⟩, 1, 1, 0, 60⟩]
theorem wk_enc : encB wkL = some [147, 0, 240, 255, 147, 208, 192, 3] := by kernel_rfl
theorem wk_reg : (lineF wkL (ranH [147, 0, 240, 255, 147, 208, 192, 3] 0 0)).reg 1 = 15 := by kernel_rfl
theorem wk_plain : ∀ x ∈ wkL, Plain x := by
  intro x hx
  simp only [wkL, List.mem_cons, List.not_mem_nil, or_false] at hx
  rcases hx with rfl | rfl <;> exact .inr (by kernel_rfl)
set_option maxHeartbeats 8000000 in
set_option maxRecDepth 100000 in
theorem hworks_calls (w : World) : Calls Try.prog 35 #[] w fun e w' => e = .returned (.bool true) ∧ Below w.heap.size w w' := by
  go_enter Try.func35, Try.ntmps35
  go_wp2_with fail
  have RC := ran_line (w := w.alloc (.cells (wkL.flatMap OpI.cells).toArray 24)) (L := w.heap.size) (cap := 2) wkL (heap_alloc_last _ _) (by decide) (by decide) wk_enc wk_plain (a := 0) (b := 0) ⟨by decide, by decide⟩ ⟨by decide, by decide⟩ 1 rfl
  rw [wk_reg] at RC
  refine RC.mono ?_
  rintro e w1 ⟨rfl, hb1⟩
  have B1 := Aside0.mk ((below_alloc (Below.refl w.heap.size w) (.cells (wkL.flatMap OpI.cells).toArray 24)).trans (hb1.mono (below_alloc (Below.refl w.heap.size w) _).size))
  clear RC hb1
  go_wp2
  go_ret
  exact ⟨by simp, B1.out⟩

abbrev quotL (n1 n2 n3 n4 : ByteArray) : List OpI := [⟨n1, 3, 1, 2, 0⟩, ⟨n2, 4, 1, 2, 0⟩, ⟨n3, 3, 3, 2, 0⟩, ⟨n4, 3, 3, 4, 0⟩]
theorem rk_plain {nm : ByteArray} (h : Rk nm) (a b c d : Int) : Plain ⟨nm, a, b, c, d⟩ := .inr h.1
theorem ran_quot {w : World} {L cap : Nat} {n1 n2 n3 n4 : ByteArray} {bs : List Int} (he : encB (quotL n1 n2 n3 n4) = some bs) (h1 : Rk n1) (h2 : Rk n2) (h3 : Rk n3) (h4 : Rk n4)
    (hL : w.heap[L]? = some (.cells ((quotL n1 n2 n3 n4).flatMap OpI.cells).toArray 24 (0, 0))) {a b r : Int} (ha : U64 a) (hb : U64 b) (hr : reckF n4 (reckF n3 (reckF n1 a b) b) (reckF n2 a b) = r) :
    Calls Try.prog 36 #[.slice (some ⟨L, 0, none⟩) 4 cap, .int .u64 a, .int .u64 b, .int .i64 3] w fun e w' => e = .returned (.tuple #[.int .u64 r, .bool true]) ∧ Below w.heap.size w w' := by
  have RC := ran_line (w := w) (L := L) (cap := cap) (quotL n1 n2 n3 n4) hL (by simp) (by simp) he (by
    intro x hx
    simp only [quotL, List.mem_cons, List.not_mem_nil, or_false] at hx
    rcases hx with rfl | rfl | rfl | rfl
    · exact rk_plain h1 ..
    · exact rk_plain h2 ..
    · exact rk_plain h3 ..
    · exact rk_plain h4 ..) ha hb 3 rfl
  rw [quot_line h1 h2 h3 h4, hr] at RC
  exact RC
theorem rk_all : Rk nDiv ∧ Rk nRem ∧ Rk nDivu ∧ Rk nRemu ∧ Rk nMul ∧ Rk nAdd ∧ Rk nDivw ∧ Rk nRemw ∧ Rk nDivuw ∧ Rk nRemuw ∧ Rk nMulw ∧ Rk nAddw := by
  refine ⟨⟨?_, ?_⟩, ⟨?_, ?_⟩, ⟨?_, ?_⟩, ⟨?_, ?_⟩, ⟨?_, ?_⟩, ⟨?_, ?_⟩, ⟨?_, ?_⟩, ⟨?_, ?_⟩, ⟨?_, ?_⟩, ⟨?_, ?_⟩, ⟨?_, ?_⟩, ⟨?_, ?_⟩⟩ <;> kernel_rfl
theorem enc_some (l : List OpI) (h : (encB l).isSome = true) : ∃ bs, encB l = some bs := Option.isSome_iff_exists.1 h
theorem q1 {w : World} {L cap : Nat} (hL : w.heap[L]? = some (.cells ((quotL nDiv nRem nMul nAdd).flatMap OpI.cells).toArray 24 (0, 0))) {a b : Int} (ha : U64 a) (hb : U64 b) :
    Calls Try.prog 36 #[.slice (some ⟨L, 0, none⟩) 4 cap, .int .u64 a, .int .u64 b, .int .i64 3] w fun e w' => e = .returned (.tuple #[.int .u64 a, .bool true]) ∧ Below w.heap.size w w' := by
  obtain ⟨bs, he⟩ := enc_some (quotL nDiv nRem nMul nAdd) (by kernel_rfl)
  obtain ⟨k1, k2, k3, k4, k5, k6, k7, k8, k9, k10, k11, k12⟩ := rk_all
  exact ran_quot he k1 k2 k5 k6 hL ha hb (by rw [r_add, r_mul, r_div hb, r_rem hb]; exact quot_end (key_s ha hb))
theorem q2 {w : World} {L cap : Nat} (hL : w.heap[L]? = some (.cells ((quotL nDivu nRemu nMul nAdd).flatMap OpI.cells).toArray 24 (0, 0))) {a b : Int} (ha : U64 a) (hb : U64 b) :
    Calls Try.prog 36 #[.slice (some ⟨L, 0, none⟩) 4 cap, .int .u64 a, .int .u64 b, .int .i64 3] w fun e w' => e = .returned (.tuple #[.int .u64 a, .bool true]) ∧ Below w.heap.size w w' := by
  obtain ⟨bs, he⟩ := enc_some (quotL nDivu nRemu nMul nAdd) (by kernel_rfl)
  obtain ⟨k1, k2, k3, k4, k5, k6, k7, k8, k9, k10, k11, k12⟩ := rk_all
  exact ran_quot he k3 k4 k5 k6 hL ha hb (by rw [r_add, r_mul, r_divu, r_remu]; exact quot_end (key_u ha hb))
theorem q3 {w : World} {L cap : Nat} (hL : w.heap[L]? = some (.cells ((quotL nDivw nRemw nMulw nAddw).flatMap OpI.cells).toArray 24 (0, 0))) {a b : Int} (ha : U64 a) (hb : U64 b) :
    Calls Try.prog 36 #[.slice (some ⟨L, 0, none⟩) 4 cap, .int .u64 a, .int .u64 b, .int .i64 3] w fun e w' => e = .returned (.tuple #[.int .u64 (eF a), .bool true]) ∧ Below w.heap.size w w' := by
  obtain ⟨bs, he⟩ := enc_some (quotL nDivw nRemw nMulw nAddw) (by kernel_rfl)
  obtain ⟨k1, k2, k3, k4, k5, k6, k7, k8, k9, k10, k11, k12⟩ := rk_all
  refine ran_quot he k7 k8 k11 k12 hL ha hb ?_
  rw [r_addw, r_mulw, r_divw, r_remw]
  exact words (key_s (extF_some a 32).2 (extF_some b 32).2) (by rw [ext_val]; exact eF_mod b) (by rw [ext_val]; exact eF_mod a)
theorem low_u64 {x : Int} (hx : U64 x) : U64 (lowF x) := by rw [low_val hx]; omega
theorem q4 {w : World} {L cap : Nat} (hL : w.heap[L]? = some (.cells ((quotL nDivuw nRemuw nMulw nAddw).flatMap OpI.cells).toArray 24 (0, 0))) {a b : Int} (ha : U64 a) (hb : U64 b) :
    Calls Try.prog 36 #[.slice (some ⟨L, 0, none⟩) 4 cap, .int .u64 a, .int .u64 b, .int .i64 3] w fun e w' => e = .returned (.tuple #[.int .u64 (eF a), .bool true]) ∧ Below w.heap.size w w' := by
  obtain ⟨bs, he⟩ := enc_some (quotL nDivuw nRemuw nMulw nAddw) (by kernel_rfl)
  obtain ⟨k1, k2, k3, k4, k5, k6, k7, k8, k9, k10, k11, k12⟩ := rk_all
  refine ran_quot he k9 k10 k11 k12 hL ha hb ?_
  rw [r_addw, r_mulw, r_divuw, r_remuw]
  exact words (key_u (low_u64 ha) (low_u64 hb)) (by rw [low_val hb]; omega) (by rw [low_val ha]; omega)
theorem lt_plus2 {b n : Nat} (h : b < n) : ∀ j, b < n + j := fun j => by omega
set_option maxHeartbeats 8000000 in
set_option maxRecDepth 100000 in
theorem quot_walk {a b : Int} (ha : U64 a) (hb : U64 b) (w : World) : Calls Try.prog 9 #[.int .u64 a, .int .u64 b] w fun e w' => e = .returned (.bool true) ∧ Below w.heap.size w w' := by
  have HA := Aside0.mk ha
  have HB := Aside0.mk hb
  clear ha hb
  have hE : IntKind.u64.wrap (wrap64 (wrap32 (a % 4294967296))) = eF a := by unfold wrap64 wrap32 eF sx; rw [IntKind.wrap_u64]; omega
  go_enter Try.func9, Try.ntmps9
  go_wp2_with fail
  refine (hworks_calls w).mono ?_
  rintro e w1 ⟨rfl, hb1⟩
  go_wp2
  go_loopw [6, 7, 8, 19] (fun _ _ _ v19 wr => ∃ k : Nat, k ≤ 2 ∧ v19 = .int .i64 k ∧ wr.heap[w1.heap.size]? = some (.cells #[.string ⟨#[100, 105, 118]⟩, .string ⟨#[114, 101, 109]⟩, .string ⟨#[100, 105, 118, 117]⟩, .string ⟨#[114, 101, 109, 117]⟩] 66 (0, 0)) ∧ Below w.heap.size w wr) (fun _ _ _ v19 _ => 2 - (intOf v19).toNat)
  case atStart => exact ⟨0, by omega, rfl, heap_alloc_last _ _, below_alloc hb1 _⟩
  case round =>
    obtain ⟨k, hk, rfl, hblk, hb⟩ := hrel
    have hz0 := blk_lt hblk
    have hz := lt_plus2 hz0
    have p := blk_cell hblk
    have hks : k = 0 ∨ k = 1 ∨ k = 2 := by omega
    rcases hks with rfl | rfl | rfl
    · go_wp2_with fail
      have RC := q1 (w := (wr.alloc (.cells #[.string ⟨#[100, 105, 118]⟩, .string ⟨#[114, 101, 109]⟩] 66)).alloc (.cells #[.string ⟨#[100, 105, 118]⟩, .int .i64 3, .int .i64 1, .int .i64 2, .int .i64 0, .string ⟨#[114, 101, 109]⟩, .int .i64 4, .int .i64 1, .int .i64 2, .int .i64 0, .string ⟨#[109, 117, 108]⟩, .int .i64 3, .int .i64 3, .int .i64 2, .int .i64 0, .string ⟨#[97, 100, 100]⟩, .int .i64 3, .int .i64 3, .int .i64 4, .int .i64 0] 24)) (L := wr.heap.size + 1) (cap := 4) (heap_alloc_at _ _ (by simp)) HA.out HB.out
      refine RC.mono ?_
      rintro e w3 ⟨rfl, hb3⟩
      have B3 := (below_alloc (below_alloc hb (.cells #[.string ⟨#[100, 105, 118]⟩, .string ⟨#[114, 101, 109]⟩] 66)) (.cells #[.string ⟨#[100, 105, 118]⟩, .int .i64 3, .int .i64 1, .int .i64 2, .int .i64 0, .string ⟨#[114, 101, 109]⟩, .int .i64 4, .int .i64 1, .int .i64 2, .int .i64 0, .string ⟨#[109, 117, 108]⟩, .int .i64 3, .int .i64 3, .int .i64 2, .int .i64 0, .string ⟨#[97, 100, 100]⟩, .int .i64 3, .int .i64 3, .int .i64 4, .int .i64 0] 24)).trans (hb3.mono (below_alloc (below_alloc hb (.cells #[.string ⟨#[100, 105, 118]⟩, .string ⟨#[114, 101, 109]⟩] 66)) (.cells #[.string ⟨#[100, 105, 118]⟩, .int .i64 3, .int .i64 1, .int .i64 2, .int .i64 0, .string ⟨#[114, 101, 109]⟩, .int .i64 4, .int .i64 1, .int .i64 2, .int .i64 0, .string ⟨#[109, 117, 108]⟩, .int .i64 3, .int .i64 3, .int .i64 2, .int .i64 0, .string ⟨#[97, 100, 100]⟩, .int .i64 3, .int .i64 3, .int .i64 4, .int .i64 0] 24)).size)
      have K3 := blk_below (blk_alloc (blk_alloc hblk (.cells #[.string ⟨#[100, 105, 118]⟩, .string ⟨#[114, 101, 109]⟩] 66)) (.cells #[.string ⟨#[100, 105, 118]⟩, .int .i64 3, .int .i64 1, .int .i64 2, .int .i64 0, .string ⟨#[114, 101, 109]⟩, .int .i64 4, .int .i64 1, .int .i64 2, .int .i64 0, .string ⟨#[109, 117, 108]⟩, .int .i64 3, .int .i64 3, .int .i64 2, .int .i64 0, .string ⟨#[97, 100, 100]⟩, .int .i64 3, .int .i64 3, .int .i64 4, .int .i64 0] 24)) hb3
      have HB3 := Aside0.mk B3
      have HK3 := Aside0.mk K3
      clear RC hb3 B3 K3 hb hblk p hz0 hz
      go_wp2
      go_roundw
      case rel => exact ⟨1, by omega, by go_num, HK3.out, HB3.out⟩
      case measure => simp [intOf]
    · go_wp2_with fail
      have RC := q2 (w := (wr.alloc (.cells #[.string ⟨#[100, 105, 118, 117]⟩, .string ⟨#[114, 101, 109, 117]⟩] 66)).alloc (.cells #[.string ⟨#[100, 105, 118, 117]⟩, .int .i64 3, .int .i64 1, .int .i64 2, .int .i64 0, .string ⟨#[114, 101, 109, 117]⟩, .int .i64 4, .int .i64 1, .int .i64 2, .int .i64 0, .string ⟨#[109, 117, 108]⟩, .int .i64 3, .int .i64 3, .int .i64 2, .int .i64 0, .string ⟨#[97, 100, 100]⟩, .int .i64 3, .int .i64 3, .int .i64 4, .int .i64 0] 24)) (L := wr.heap.size + 1) (cap := 4) (heap_alloc_at _ _ (by simp)) HA.out HB.out
      refine RC.mono ?_
      rintro e w3 ⟨rfl, hb3⟩
      have B3 := (below_alloc (below_alloc hb (.cells #[.string ⟨#[100, 105, 118, 117]⟩, .string ⟨#[114, 101, 109, 117]⟩] 66)) (.cells #[.string ⟨#[100, 105, 118, 117]⟩, .int .i64 3, .int .i64 1, .int .i64 2, .int .i64 0, .string ⟨#[114, 101, 109, 117]⟩, .int .i64 4, .int .i64 1, .int .i64 2, .int .i64 0, .string ⟨#[109, 117, 108]⟩, .int .i64 3, .int .i64 3, .int .i64 2, .int .i64 0, .string ⟨#[97, 100, 100]⟩, .int .i64 3, .int .i64 3, .int .i64 4, .int .i64 0] 24)).trans (hb3.mono (below_alloc (below_alloc hb (.cells #[.string ⟨#[100, 105, 118, 117]⟩, .string ⟨#[114, 101, 109, 117]⟩] 66)) (.cells #[.string ⟨#[100, 105, 118, 117]⟩, .int .i64 3, .int .i64 1, .int .i64 2, .int .i64 0, .string ⟨#[114, 101, 109, 117]⟩, .int .i64 4, .int .i64 1, .int .i64 2, .int .i64 0, .string ⟨#[109, 117, 108]⟩, .int .i64 3, .int .i64 3, .int .i64 2, .int .i64 0, .string ⟨#[97, 100, 100]⟩, .int .i64 3, .int .i64 3, .int .i64 4, .int .i64 0] 24)).size)
      have K3 := blk_below (blk_alloc (blk_alloc hblk (.cells #[.string ⟨#[100, 105, 118, 117]⟩, .string ⟨#[114, 101, 109, 117]⟩] 66)) (.cells #[.string ⟨#[100, 105, 118, 117]⟩, .int .i64 3, .int .i64 1, .int .i64 2, .int .i64 0, .string ⟨#[114, 101, 109, 117]⟩, .int .i64 4, .int .i64 1, .int .i64 2, .int .i64 0, .string ⟨#[109, 117, 108]⟩, .int .i64 3, .int .i64 3, .int .i64 2, .int .i64 0, .string ⟨#[97, 100, 100]⟩, .int .i64 3, .int .i64 3, .int .i64 4, .int .i64 0] 24)) hb3
      have HB3 := Aside0.mk B3
      have HK3 := Aside0.mk K3
      clear RC hb3 B3 K3 hb hblk p hz0 hz
      go_wp2
      go_roundw
      case rel => exact ⟨2, by omega, by go_num, HK3.out, HB3.out⟩
      case measure => simp [intOf]
    · have HBB := Aside0.mk hb
      clear hblk p hz0 hz hb
      rw [show ((2 : Nat) : Int) = (2 : Int) from rfl]
      go_wp2_with fail
      obtain ⟨w2, hw2⟩ : ∃ w2, wr = w2 := ⟨_, rfl⟩
      rw [hw2] at HBB ⊢
      clear hw2
      go_loopw [10, 11, 12, 50] (fun _ _ _ v50 wr => ∃ k : Nat, k ≤ 2 ∧ v50 = .int .i64 k ∧ wr.heap[w2.heap.size]? = some (.cells #[.string ⟨#[100, 105, 118, 119]⟩, .string ⟨#[114, 101, 109, 119]⟩, .string ⟨#[100, 105, 118, 117, 119]⟩, .string ⟨#[114, 101, 109, 117, 119]⟩] 66 (0, 0)) ∧ Below w.heap.size w wr) (fun _ _ _ v50 _ => 2 - (intOf v50).toNat)
      case atStart => exact ⟨0, by omega, rfl, heap_alloc_last _ _, below_alloc HBB.out _⟩
      case round =>
        obtain ⟨k, hk, rfl, hblk, hb⟩ := hrel
        have hz0 := blk_lt hblk
        have hz := lt_plus2 hz0
        have p := blk_cell hblk
        have hks : k = 0 ∨ k = 1 ∨ k = 2 := by omega
        rcases hks with rfl | rfl | rfl
        · go_wp2_with fail
          have RC := q3 (w := (wr.alloc (.cells #[.string ⟨#[100, 105, 118, 119]⟩, .string ⟨#[114, 101, 109, 119]⟩] 66)).alloc (.cells #[.string ⟨#[100, 105, 118, 119]⟩, .int .i64 3, .int .i64 1, .int .i64 2, .int .i64 0, .string ⟨#[114, 101, 109, 119]⟩, .int .i64 4, .int .i64 1, .int .i64 2, .int .i64 0, .string ⟨#[109, 117, 108, 119]⟩, .int .i64 3, .int .i64 3, .int .i64 2, .int .i64 0, .string ⟨#[97, 100, 100, 119]⟩, .int .i64 3, .int .i64 3, .int .i64 4, .int .i64 0] 24)) (L := wr.heap.size + 1) (cap := 4) (heap_alloc_at _ _ (by simp)) HA.out HB.out
          refine RC.mono ?_
          rintro e w3 ⟨rfl, hb3⟩
          have B3 := (below_alloc (below_alloc hb (.cells #[.string ⟨#[100, 105, 118, 119]⟩, .string ⟨#[114, 101, 109, 119]⟩] 66)) (.cells #[.string ⟨#[100, 105, 118, 119]⟩, .int .i64 3, .int .i64 1, .int .i64 2, .int .i64 0, .string ⟨#[114, 101, 109, 119]⟩, .int .i64 4, .int .i64 1, .int .i64 2, .int .i64 0, .string ⟨#[109, 117, 108, 119]⟩, .int .i64 3, .int .i64 3, .int .i64 2, .int .i64 0, .string ⟨#[97, 100, 100, 119]⟩, .int .i64 3, .int .i64 3, .int .i64 4, .int .i64 0] 24)).trans (hb3.mono (below_alloc (below_alloc hb (.cells #[.string ⟨#[100, 105, 118, 119]⟩, .string ⟨#[114, 101, 109, 119]⟩] 66)) (.cells #[.string ⟨#[100, 105, 118, 119]⟩, .int .i64 3, .int .i64 1, .int .i64 2, .int .i64 0, .string ⟨#[114, 101, 109, 119]⟩, .int .i64 4, .int .i64 1, .int .i64 2, .int .i64 0, .string ⟨#[109, 117, 108, 119]⟩, .int .i64 3, .int .i64 3, .int .i64 2, .int .i64 0, .string ⟨#[97, 100, 100, 119]⟩, .int .i64 3, .int .i64 3, .int .i64 4, .int .i64 0] 24)).size)
          have K3 := blk_below (blk_alloc (blk_alloc hblk (.cells #[.string ⟨#[100, 105, 118, 119]⟩, .string ⟨#[114, 101, 109, 119]⟩] 66)) (.cells #[.string ⟨#[100, 105, 118, 119]⟩, .int .i64 3, .int .i64 1, .int .i64 2, .int .i64 0, .string ⟨#[114, 101, 109, 119]⟩, .int .i64 4, .int .i64 1, .int .i64 2, .int .i64 0, .string ⟨#[109, 117, 108, 119]⟩, .int .i64 3, .int .i64 3, .int .i64 2, .int .i64 0, .string ⟨#[97, 100, 100, 119]⟩, .int .i64 3, .int .i64 3, .int .i64 4, .int .i64 0] 24)) hb3
          have HB3 := Aside0.mk B3
          have HK3 := Aside0.mk K3
          clear RC hb3 B3 K3 hb hblk p hz0 hz
          go_wp2
          go_roundw
          case rel => exact ⟨1, by omega, by go_num, HK3.out, HB3.out⟩
          case measure => simp [intOf]
        · go_wp2_with fail
          have RC := q4 (w := (wr.alloc (.cells #[.string ⟨#[100, 105, 118, 117, 119]⟩, .string ⟨#[114, 101, 109, 117, 119]⟩] 66)).alloc (.cells #[.string ⟨#[100, 105, 118, 117, 119]⟩, .int .i64 3, .int .i64 1, .int .i64 2, .int .i64 0, .string ⟨#[114, 101, 109, 117, 119]⟩, .int .i64 4, .int .i64 1, .int .i64 2, .int .i64 0, .string ⟨#[109, 117, 108, 119]⟩, .int .i64 3, .int .i64 3, .int .i64 2, .int .i64 0, .string ⟨#[97, 100, 100, 119]⟩, .int .i64 3, .int .i64 3, .int .i64 4, .int .i64 0] 24)) (L := wr.heap.size + 1) (cap := 4) (heap_alloc_at _ _ (by simp)) HA.out HB.out
          refine RC.mono ?_
          rintro e w3 ⟨rfl, hb3⟩
          have B3 := (below_alloc (below_alloc hb (.cells #[.string ⟨#[100, 105, 118, 117, 119]⟩, .string ⟨#[114, 101, 109, 117, 119]⟩] 66)) (.cells #[.string ⟨#[100, 105, 118, 117, 119]⟩, .int .i64 3, .int .i64 1, .int .i64 2, .int .i64 0, .string ⟨#[114, 101, 109, 117, 119]⟩, .int .i64 4, .int .i64 1, .int .i64 2, .int .i64 0, .string ⟨#[109, 117, 108, 119]⟩, .int .i64 3, .int .i64 3, .int .i64 2, .int .i64 0, .string ⟨#[97, 100, 100, 119]⟩, .int .i64 3, .int .i64 3, .int .i64 4, .int .i64 0] 24)).trans (hb3.mono (below_alloc (below_alloc hb (.cells #[.string ⟨#[100, 105, 118, 117, 119]⟩, .string ⟨#[114, 101, 109, 117, 119]⟩] 66)) (.cells #[.string ⟨#[100, 105, 118, 117, 119]⟩, .int .i64 3, .int .i64 1, .int .i64 2, .int .i64 0, .string ⟨#[114, 101, 109, 117, 119]⟩, .int .i64 4, .int .i64 1, .int .i64 2, .int .i64 0, .string ⟨#[109, 117, 108, 119]⟩, .int .i64 3, .int .i64 3, .int .i64 2, .int .i64 0, .string ⟨#[97, 100, 100, 119]⟩, .int .i64 3, .int .i64 3, .int .i64 4, .int .i64 0] 24)).size)
          have K3 := blk_below (blk_alloc (blk_alloc hblk (.cells #[.string ⟨#[100, 105, 118, 117, 119]⟩, .string ⟨#[114, 101, 109, 117, 119]⟩] 66)) (.cells #[.string ⟨#[100, 105, 118, 117, 119]⟩, .int .i64 3, .int .i64 1, .int .i64 2, .int .i64 0, .string ⟨#[114, 101, 109, 117, 119]⟩, .int .i64 4, .int .i64 1, .int .i64 2, .int .i64 0, .string ⟨#[109, 117, 108, 119]⟩, .int .i64 3, .int .i64 3, .int .i64 2, .int .i64 0, .string ⟨#[97, 100, 100, 119]⟩, .int .i64 3, .int .i64 3, .int .i64 4, .int .i64 0] 24)) hb3
          have HB3 := Aside0.mk B3
          have HK3 := Aside0.mk K3
          clear RC hb3 B3 K3 hb hblk p hz0 hz
          go_wp2
          go_roundw
          case rel => exact ⟨2, by omega, by go_num, HK3.out, HB3.out⟩
          case measure => simp [intOf]
        · have HBC := Aside0.mk hb
          clear hblk p hz0 hz hb
          go_wp2
          go_ret
          exact ⟨by simp, HBC.out⟩
end Go.Proofs.Ytciehejifdbpoaa.Ht
