import Derived.Test.YtciehejifdbpoaaRvRefH
namespace Go.Proofs.Ytciehejifdbpoaa.Rv
open Go.RowKit

/-! ### A decoded word is its instruction's own word -/
theorem nIdx_kd : ∀ k, k < 64 → nIdx (kd k).1 = k := by decide +kernel
theorem reg_mk {r : Nat} {has : Bool} (hr : r < 32) (h0 : has = false → r = 0) : regB (r : Int) has = true := by
  cases has
  · rw [h0 rfl]; rfl
  · by_cases e : r = 0
    · rw [e]; rfl
    · unfold regB
      simp only [Bool.true_and, Bool.or_eq_true, Bool.and_eq_true, decide_eq_true_eq, beq_iff_eq]
      right; omega
theorem enc_of {k n r a b m : Nat} {f imm : Int} (hk : k < 64) (hf : (kd k).2.1 = f) (hr : r < 32) (ha : a < 32) (hb : b < 32)
    (hr0 : (prt f).1 = false → r = 0) (ha0 : (prt f).2.1 = false → a = 0) (hb0 : (prt f).2.2.1 = false → b = 0)
    (hm : IntKind.u32.wrap imm = (m : Int)) (h2 : f = 2 → m < 64) (h3 : f = 3 → m < 32)
    (lo : (prt f).2.2.2.1 ≤ imm) (hi : imm ≤ (prt f).2.2.2.2.1) (by' : imm.tmod (prt f).2.2.2.2.2 = 0)
    (hs : kB k + r * 128 + a * 32768 + b * 1048576 + scN f m = n) : encF (kd k).1 (r : Int) (a : Int) (b : Int) imm = ((n : Int), 0) := by
  obtain ⟨hF, hB, hBl, hBe, hBw⟩ := form_k k hk
  have hok : encOk (kd k).2.1 (r : Int) (a : Int) (b : Int) imm = true := by
    rw [hf]
    refine encOk_iff.2 ⟨reg_mk hr hr0, reg_mk ha ha0, reg_mk hb hb0, lo, hi, ?_⟩
    rw [by']; rfl
  rw [hf] at hF hBw
  obtain ⟨hv, _⟩ := word_val (f := f) (imm := imm) hF (show Within (oN f) (kB k) from hBw) hr ha hb hr0 ha0 hb0 hm h2 h3
  unfold encF
  rw [nIdx_kd k hk, if_pos ⟨hk, hok⟩, hBe, hf, hv, hs]
theorem u32_m {imm : Int} : IntKind.u32.wrap imm = ((imm % 4294967296).toNat : Int) := by rw [IntKind.wrap_u32]; omega

theorem sum0 (n : Nat) (h : n < 4294967296) : n % 128 + n / 4096 % 8 * 4096 + n / 33554432 % 128 * 33554432 + n / 128 % 32 * 128 + n / 32768 % 32 * 32768 + n / 1048576 % 32 * 1048576 = n := by omega
theorem sum1 (n : Nat) (_h : n < 4294967296) : n % 128 + n / 4096 % 8 * 4096 + n / 128 % 32 * 128 + n / 32768 % 32 * 32768 + n / 1048576 * 1048576 = n := by omega
theorem sum2 (n : Nat) (h : n < 4294967296) : n % 128 + n / 4096 % 8 * 4096 + n / 67108864 % 64 * 67108864 + n / 128 % 32 * 128 + n / 32768 % 32 * 32768 + n / 1048576 % 64 * 1048576 = n := by omega
theorem sum4 (n : Nat) (_h : n < 4294967296) : n % 128 + n / 4096 % 8 * 4096 + n / 32768 % 32 * 32768 + n / 1048576 % 32 * 1048576 + (n / 128 % 32 * 128 + n / 33554432 * 33554432) = n := by omega
theorem sum5 (n : Nat) (_h : n < 4294967296) : n % 128 + n / 4096 % 8 * 4096 + n / 32768 % 32 * 32768 + n / 1048576 % 32 * 1048576 + (n / 128 % 2 * 128 + n / 256 % 16 * 256 + n / 33554432 % 64 * 33554432 + n / 2147483648 * 2147483648) = n := by omega
theorem sum6 (n : Nat) (_h : n < 4294967296) : n % 128 + n / 128 % 32 * 128 + n / 4096 * 4096 = n := by omega
theorem sum7 (n : Nat) (_h : n < 4294967296) : n % 128 + n / 128 % 32 * 128 + (n / 4096 % 256 * 4096 + n / 1048576 % 2 * 1048576 + n / 2097152 % 1024 * 2097152 + n / 2147483648 * 2147483648) = n := by
  have h1 : n % 4096 = n % 128 + n / 128 % 32 * 128 := by omega
  have h2 : n % 1048576 = n % 4096 + n / 4096 % 256 * 4096 := by clear h1; omega
  have h3 : n % 2097152 = n % 1048576 + n / 1048576 % 2 * 1048576 := by clear h1 h2; omega
  have h4 : n % 2147483648 = n % 2097152 + n / 2097152 % 1024 * 2097152 := by clear h1 h2 h3; omega
  have h5 : n = n % 2147483648 + n / 2147483648 * 2147483648 := by clear h1 h2 h3 h4; omega
  omega
theorem wr_nat (n : Nat) (h : n < 4294967296) : wrap32 (n : Int) = if n < 2147483648 then (n : Int) else (n : Int) - 4294967296 := by unfold wrap32; split <;> omega
theorem im1 (n : Nat) (h : n < 4294967296) : -2048 ≤ wrap32 (n : Int) / 1048576 ∧ wrap32 (n : Int) / 1048576 ≤ 2047 ∧ (wrap32 (n : Int) / 1048576 % 4294967296).toNat % 4096 = n / 1048576 := by
  rw [wr_nat n h]; split
  · refine ⟨?_, ?_, ?_⟩ <;> omega
  · refine ⟨?_, ?_, ?_⟩ <;> omega
theorem im6 (n : Nat) (h : n < 4294967296) : -524288 ≤ wrap32 (n : Int) / 4096 ∧ wrap32 (n : Int) / 4096 ≤ 524287 ∧ (wrap32 (n : Int) / 4096 % 4294967296).toNat % 1048576 = n / 4096 := by
  rw [wr_nat n h]; split
  · refine ⟨?_, ?_, ?_⟩ <;> omega
  · refine ⟨?_, ?_, ?_⟩ <;> omega
theorem im4 (n : Nat) (h : n < 4294967296) : ∃ m : Nat, (wrap32 (n : Int) / 33554432 * 32 + ((n / 128 % 32 : Nat) : Int)) % 4294967296 = (m : Int) ∧ -2048 ≤ wrap32 (n : Int) / 33554432 * 32 + ((n / 128 % 32 : Nat) : Int) ∧ wrap32 (n : Int) / 33554432 * 32 + ((n / 128 % 32 : Nat) : Int) ≤ 2047 ∧
    m % 32 = n / 128 % 32 ∧ m / 32 % 128 = n / 33554432 := by
  have hw : wrap32 (n : Int) / 33554432 = if n / 33554432 < 64 then ((n / 33554432 : Nat) : Int) else ((n / 33554432 : Nat) : Int) - 128 := by
    rw [wr_nat n h]; split <;> split <;> omega
  have hu : n / 33554432 < 128 := by omega
  have hv : n / 128 % 32 < 32 := by omega
  rw [hw]
  clear hw
  generalize n / 33554432 = u at *
  generalize n / 128 % 32 = v at *
  clear h
  split
  · exact ⟨u * 32 + v, by omega, by omega, by omega, by omega, by omega⟩
  · exact ⟨u * 32 + v + 4294963200, by omega, by omega, by omega, by omega, by omega⟩
theorem im5 (n : Nat) (h : n < 4294967296) : ∃ m : Nat, ∃ i : Int, wrap32 (n : Int) / 2147483648 * 4096 + ((n / 128 % 2 * 2048 + n / 33554432 % 64 * 32 + n / 256 % 16 * 2 : Nat) : Int) = i ∧ i % 4294967296 = (m : Int) ∧ -4096 ≤ i ∧ i ≤ 4094 ∧ i % 2 = 0 ∧
    m / 2048 % 2 = n / 128 % 2 ∧ m / 2 % 16 = n / 256 % 16 ∧ m / 32 % 64 = n / 33554432 % 64 ∧ m / 4096 % 2 = n / 2147483648 := by
  have hw : wrap32 (n : Int) / 2147483648 = - ((n / 2147483648 : Nat) : Int) := by
    rw [wr_nat n h]; split <;> omega
  have ht : n / 2147483648 = 0 ∨ n / 2147483648 = 1 := by omega
  have hu : n / 128 % 2 < 2 := by omega
  have hs : n / 33554432 % 64 < 64 := by omega
  have hv : n / 256 % 16 < 16 := by omega
  rw [hw]
  clear hw
  generalize n / 2147483648 = t at *
  generalize n / 128 % 2 = u at *
  generalize n / 33554432 % 64 = s at *
  generalize n / 256 % 16 = v at *
  clear h
  rcases ht with rfl | rfl
  · exact ⟨u * 2048 + s * 32 + v * 2, _, rfl, by omega, by omega, by omega, by omega, by omega, by omega, by omega, by omega⟩
  · exact ⟨4294963200 + (u * 2048 + s * 32 + v * 2), _, rfl, by omega, by omega, by omega, by omega, by omega, by omega, by omega, by omega⟩
theorem im7 (n : Nat) (h : n < 4294967296) : ∃ m : Nat, ∃ i : Int, wrap32 (n : Int) / 2147483648 * 1048576 + ((n / 4096 % 256 * 4096 + n / 1048576 % 2 * 2048 + n / 2097152 % 1024 * 2 : Nat) : Int) = i ∧ i % 4294967296 = (m : Int) ∧ -1048576 ≤ i ∧ i ≤ 1048574 ∧ i % 2 = 0 ∧
    m / 4096 % 256 = n / 4096 % 256 ∧ m / 2048 % 2 = n / 1048576 % 2 ∧ m / 2 % 1024 = n / 2097152 % 1024 ∧ m / 1048576 % 2 = n / 2147483648 := by
  have hw : wrap32 (n : Int) / 2147483648 = - ((n / 2147483648 : Nat) : Int) := by
    rw [wr_nat n h]; split <;> omega
  have ht : n / 2147483648 = 0 ∨ n / 2147483648 = 1 := by omega
  have hu : n / 4096 % 256 < 256 := by omega
  have hs : n / 1048576 % 2 < 2 := by omega
  have hv : n / 2097152 % 1024 < 1024 := by omega
  rw [hw]
  clear hw
  generalize n / 2147483648 = t at *
  generalize n / 4096 % 256 = u at *
  generalize n / 1048576 % 2 = s at *
  generalize n / 2097152 % 1024 = v at *
  clear h
  rcases ht with rfl | rfl
  · exact ⟨u * 4096 + s * 2048 + v * 2, _, rfl, by omega, by omega, by omega, by omega, by omega, by omega, by omega, by omega⟩
  · exact ⟨4293918720 + (u * 4096 + s * 2048 + v * 2), _, rfl, by omega, by omega, by omega, by omega, by omega, by omega, by omega, by omega⟩

theorem enc0 {k n : Nat} (hk : k < 64) (hf : (kd k).2.1 = 0) (hn : n < 4294967296) (hM : mat 0 n = kB k) : encF (kd k).1 (rgN true (n : Int) 7) (rgN true (n : Int) 15) (rgN true (n : Int) 20) (gat 0 (n : Int)) = ((n : Int), 0) := by
  obtain ⟨r1, r2, r3⟩ := rgs n hn
  rw [r1, r2, r3, gat0]
  refine enc_of (m := 0) hk hf (Nat.mod_lt _ (by decide)) (Nat.mod_lt _ (by decide)) (Nat.mod_lt _ (by decide)) (fun h => absurd h (by decide)) (fun h => absurd h (by decide)) (fun h => absurd h (by decide)) rfl (fun h => absurd h (by decide)) (fun h => absurd h (by decide)) (by decide) (by decide) rfl ?_
  rw [← hM]
  exact sum0 n hn
theorem enc1 {k n : Nat} (hk : k < 64) (hf : (kd k).2.1 = 1) (hn : n < 4294967296) (hM : mat 1 n = kB k) : encF (kd k).1 (rgN true (n : Int) 7) (rgN true (n : Int) 15) ((0 : Nat) : Int) (gat 1 (n : Int)) = ((n : Int), 0) := by
  obtain ⟨r1, r2, r3⟩ := rgs n hn
  obtain ⟨i1, i2, i3⟩ := im1 n hn
  rw [r1, r2, gat1]
  refine enc_of hk hf (Nat.mod_lt _ (by decide)) (Nat.mod_lt _ (by decide)) (by decide) (fun h => absurd h (by decide)) (fun h => absurd h (by decide)) (fun _ => rfl) u32_m (fun h => absurd h (by decide)) (fun h => absurd h (by decide)) i1 i2 (Int.tmod_one _) ?_
  have e : scN 1 (wrap32 (n : Int) / 1048576 % 4294967296).toNat = n / 1048576 * 1048576 := congrArg (· * 1048576) i3
  rw [← hM, e, Nat.zero_mul, Nat.add_zero]
  exact sum1 n hn
theorem enc2 {k n : Nat} (hk : k < 64) (hf : (kd k).2.1 = 2) (hn : n < 4294967296) (hM : mat 2 n = kB k) : encF (kd k).1 (rgN true (n : Int) 7) (rgN true (n : Int) 15) ((0 : Nat) : Int) (gat 2 (n : Int)) = ((n : Int), 0) := by
  obtain ⟨r1, r2, r3⟩ := rgs n hn
  have hv : n / 1048576 % 64 < 64 := Nat.mod_lt _ (by decide)
  rw [r1, r2, gat2 n hn]
  refine enc_of hk hf (Nat.mod_lt _ (by decide)) (Nat.mod_lt _ (by decide)) (by decide) (fun h => absurd h (by decide)) (fun h => absurd h (by decide)) (fun _ => rfl) (m := n / 1048576 % 64) ?_ (fun _ => hv) (fun h => absurd h (by decide)) ?_ ?_ (Int.tmod_one _) ?_
  · clear r1 r2 r3 hM; generalize n / 1048576 % 64 = z at *; rw [IntKind.wrap_u32]; omega
  · exact Int.natCast_nonneg _
  · show ((n / 1048576 % 64 : Nat) : Int) ≤ 63
    clear r1 r2 r3 hM; omega
  have e : scN 2 (n / 1048576 % 64) = n / 1048576 % 64 * 1048576 := congrArg (· * 1048576) (Nat.mod_eq_of_lt (by omega))
  rw [← hM, e, Nat.zero_mul, Nat.add_zero]
  exact sum2 n hn
theorem enc3 {k n : Nat} (hk : k < 64) (hf : (kd k).2.1 = 3) (hn : n < 4294967296) (hM : mat 3 n = kB k) : encF (kd k).1 (rgN true (n : Int) 7) (rgN true (n : Int) 15) ((0 : Nat) : Int) (gat 3 (n : Int)) = ((n : Int), 0) := by
  obtain ⟨r1, r2, r3⟩ := rgs n hn
  have hv : n / 1048576 % 32 < 32 := Nat.mod_lt _ (by decide)
  rw [r1, r2, gat3 n hn]
  refine enc_of hk hf (Nat.mod_lt _ (by decide)) (Nat.mod_lt _ (by decide)) (by decide) (fun h => absurd h (by decide)) (fun h => absurd h (by decide)) (fun _ => rfl) (m := n / 1048576 % 32) ?_ (fun h => absurd h (by decide)) (fun _ => hv) ?_ ?_ (Int.tmod_one _) ?_
  · clear r1 r2 r3 hM; generalize n / 1048576 % 32 = z at *; rw [IntKind.wrap_u32]; omega
  · exact Int.natCast_nonneg _
  · show ((n / 1048576 % 32 : Nat) : Int) ≤ 31
    clear r1 r2 r3 hM; omega
  have e : scN 3 (n / 1048576 % 32) = n / 1048576 % 32 * 1048576 := congrArg (· * 1048576) (Nat.mod_eq_of_lt (by omega))
  rw [← hM, e, Nat.zero_mul, Nat.add_zero]
  exact sum0 n hn
theorem enc4 {k n : Nat} (hk : k < 64) (hf : (kd k).2.1 = 4) (hn : n < 4294967296) (hM : mat 4 n = kB k) : encF (kd k).1 ((0 : Nat) : Int) (rgN true (n : Int) 15) (rgN true (n : Int) 20) (gat 4 (n : Int)) = ((n : Int), 0) := by
  obtain ⟨r1, r2, r3⟩ := rgs n hn
  obtain ⟨m, i0, i1, i2, i3, i4⟩ := im4 n hn
  rw [r2, r3, gat4 n hn]
  refine enc_of (m := m) hk hf (by decide) (Nat.mod_lt _ (by decide)) (Nat.mod_lt _ (by decide)) (fun _ => rfl) (fun h => absurd h (by decide)) (fun h => absurd h (by decide)) (by rw [IntKind.wrap_u32]; exact i0) (fun h => absurd h (by decide)) (fun h => absurd h (by decide)) i1 i2 (Int.tmod_one _) ?_
  have e : scN 4 m = n / 128 % 32 * 128 + n / 33554432 * 33554432 := by show m % 32 * 128 + m / 32 % 128 * 33554432 = _; rw [i3, i4]
  rw [← hM, e, Nat.zero_mul, Nat.add_zero]
  exact sum4 n hn
theorem enc5 {k n : Nat} (hk : k < 64) (hf : (kd k).2.1 = 5) (hn : n < 4294967296) (hM : mat 5 n = kB k) : encF (kd k).1 ((0 : Nat) : Int) (rgN true (n : Int) 15) (rgN true (n : Int) 20) (gat 5 (n : Int)) = ((n : Int), 0) := by
  obtain ⟨r1, r2, r3⟩ := rgs n hn
  obtain ⟨m, i, ie, i0, i1, i2, i3, j1, j2, j3, j4⟩ := im5 n hn
  rw [r2, r3, gat5 n hn, ie]
  refine enc_of (m := m) hk hf (by decide) (Nat.mod_lt _ (by decide)) (Nat.mod_lt _ (by decide)) (fun _ => rfl) (fun h => absurd h (by decide)) (fun h => absurd h (by decide)) (by rw [IntKind.wrap_u32]; exact i0) (fun h => absurd h (by decide)) (fun h => absurd h (by decide)) i1 i2 (tmod2.2 i3) ?_
  have e : scN 5 m = n / 128 % 2 * 128 + n / 256 % 16 * 256 + n / 33554432 % 64 * 33554432 + n / 2147483648 * 2147483648 := by show m / 2048 % 2 * 128 + m / 2 % 16 * 256 + m / 32 % 64 * 33554432 + m / 4096 % 2 * 2147483648 = _; rw [j1, j2, j3, j4]
  rw [← hM, e, Nat.zero_mul, Nat.add_zero]
  exact sum5 n hn
theorem enc6 {k n : Nat} (hk : k < 64) (hf : (kd k).2.1 = 6) (hn : n < 4294967296) (hM : mat 6 n = kB k) : encF (kd k).1 (rgN true (n : Int) 7) ((0 : Nat) : Int) ((0 : Nat) : Int) (gat 6 (n : Int)) = ((n : Int), 0) := by
  obtain ⟨r1, r2, r3⟩ := rgs n hn
  obtain ⟨i1, i2, i3⟩ := im6 n hn
  rw [r1, gat6]
  refine enc_of hk hf (Nat.mod_lt _ (by decide)) (by decide) (by decide) (fun h => absurd h (by decide)) (fun _ => rfl) (fun _ => rfl) u32_m (fun h => absurd h (by decide)) (fun h => absurd h (by decide)) i1 i2 (Int.tmod_one _) ?_
  have e : scN 6 (wrap32 (n : Int) / 4096 % 4294967296).toNat = n / 4096 * 4096 := congrArg (· * 4096) i3
  rw [← hM, e]
  simp only [Nat.zero_mul, Nat.add_zero]
  exact sum6 n hn
theorem enc7 {k n : Nat} (hk : k < 64) (hf : (kd k).2.1 = 7) (hn : n < 4294967296) (hM : mat 7 n = kB k) : encF (kd k).1 (rgN true (n : Int) 7) ((0 : Nat) : Int) ((0 : Nat) : Int) (gat 7 (n : Int)) = ((n : Int), 0) := by
  obtain ⟨r1, r2, r3⟩ := rgs n hn
  obtain ⟨m, i, ie, i0, i1, i2, i3, j1, j2, j3, j4⟩ := im7 n hn
  rw [r1, gat7 n hn, ie]
  refine enc_of (m := m) hk hf (Nat.mod_lt _ (by decide)) (by decide) (by decide) (fun h => absurd h (by decide)) (fun _ => rfl) (fun _ => rfl) (by rw [IntKind.wrap_u32]; exact i0) (fun h => absurd h (by decide)) (fun h => absurd h (by decide)) i1 i2 (tmod2.2 i3) ?_
  have e : scN 7 m = n / 4096 % 256 * 4096 + n / 1048576 % 2 * 1048576 + n / 2097152 % 1024 * 2097152 + n / 2147483648 * 2147483648 := by show m / 4096 % 256 * 4096 + m / 2048 % 2 * 1048576 + m / 2 % 1024 * 2097152 + m / 1048576 % 2 * 2147483648 = _; rw [j1, j2, j3, j4]
  rw [← hM, e]
  simp only [Nat.zero_mul, Nat.add_zero]
  exact sum7 n hn
theorem enc8 {k n : Nat} (hk : k < 64) (hf : (kd k).2.1 = 8) (hM : mat 8 n = kB k) : encF (kd k).1 ((0 : Nat) : Int) ((0 : Nat) : Int) ((0 : Nat) : Int) (gat 8 (n : Int)) = ((n : Int), 0) := by
  rw [gat8]
  refine enc_of (m := 0) hk hf (by decide) (by decide) (by decide) (fun _ => rfl) (fun _ => rfl) (fun _ => rfl) rfl (fun h => absurd h (by decide)) (fun h => absurd h (by decide)) (by decide) (by decide) rfl ?_
  rw [← hM]
  rfl
theorem enc_at {k n : Nat} (hk : k < 64) (hn : n < 4294967296) (hM : mat (kd k).2.1 n = kB k) : encF (decAt k (n : Int)).name (decAt k (n : Int)).rd (decAt k (n : Int)).ra (decAt k (n : Int)).rb (decAt k (n : Int)).imm = ((n : Int), 0) := by
  have hF := (form_k k hk).1
  unfold decAt
  obtain ⟨f, hf⟩ : ∃ f, (kd k).2.1 = f := ⟨_, rfl⟩
  rw [hf] at hF hM ⊢
  rcases hF with rfl | rfl | rfl | rfl | rfl | rfl | rfl | rfl | rfl
  · exact enc0 hk hf hn hM
  · exact enc1 hk hf hn hM
  · exact enc2 hk hf hn hM
  · exact enc3 hk hf hn hM
  · exact enc4 hk hf hn hM
  · exact enc5 hk hf hn hM
  · exact enc6 hk hf hn hM
  · exact enc7 hk hf hn hM
  · exact enc8 hk hf hM
/-- Each word is of one kind at most; what a word of a kind is. -/
theorem dec_cases (n : Nat) (hn : n < 4294967296) : (∃ k, k < 64 ∧ mat (kd k).2.1 n = kB k ∧ decF (n : Int) = (decAt k (n : Int), 0)) ∨ ((∀ k, k < 64 → mat (kd k).2.1 n ≠ kB k) ∧ decF (n : Int) = (⟨⟨#[]⟩, 0, 0, 0, 0⟩, 260)) := by
  by_cases h : ∃ k, k < 64 ∧ mat (kd k).2.1 n = kB k
  · obtain ⟨k, hk, hM⟩ := h
    left
    refine ⟨k, hk, hM, ?_⟩
    have e := dIdx_of (n := n) hn hk (by rw [hM, (kB_eq k hk).1])
    unfold decF
    rw [e, if_pos hk]
  · right
    have hno : ∀ k, k < 64 → mat (kd k).2.1 n ≠ kB k := fun k hk hM => h ⟨k, hk, hM⟩
    refine ⟨hno, ?_⟩
    have e := dIdx_none (n := n) hn fun k hk hM => hno k hk (by rw [(kB_eq k hk).1] at hM; exact Int.ofNat_inj.1 hM)
    unfold decF
    rw [e, if_neg (by decide)]
theorem dec_enc (x : Int) (h0 : 0 ≤ x) (h1 : x < 4294967296) (h : (decF x).2 = 0) :
    encF (decF x).1.name (decF x).1.rd (decF x).1.ra (decF x).1.rb (decF x).1.imm = (x, 0) := by
  obtain ⟨n, rfl⟩ := Int.eq_ofNat_of_zero_le h0
  have hn : n < 4294967296 := by omega
  rcases dec_cases n hn with ⟨k, hk, hM, e⟩ | ⟨_, e⟩
  · rw [e]; exact enc_at hk hn hM
  · rw [e] at h; exact absurd h (by decide)
end Go.Proofs.Ytciehejifdbpoaa.Rv
