import Derived.Test.YtciehejifdbpoaaRvMake
namespace Go.Proofs.Ytciehejifdbpoaa.Rv
open Go.RowKit

theorem rg_val (N s : Nat) (hN : N < 4294967296) (hs : s ≤ 31) : rgN true (N : Int) (s : Int) = ((N / 2 ^ s % 32 : Nat) : Int) := by
  have e : cutI (N : Int) (s : Int) 5 = ((N / 2 ^ s % 2 ^ 5 : Nat) : Int) := cutI_val N s 5 hN hs (by decide)
  have hb : N / 2 ^ s % 2 ^ 5 < 32 := Nat.mod_lt _ (by decide)
  unfold rgN
  rw [if_pos rfl, e]
  generalize N / 2 ^ s % 2 ^ 5 = z at *
  exact w64 _ (by omega) (by omega)
theorem rg_no (x s : Int) : rgN false x s = 0 := rfl

theorem form_k : ∀ k, k < 64 → ((kd k).2.1 = 0 ∨ (kd k).2.1 = 1 ∨ (kd k).2.1 = 2 ∨ (kd k).2.1 = 3 ∨ (kd k).2.1 = 4 ∨ (kd k).2.1 = 5 ∨ (kd k).2.1 = 6 ∨ (kd k).2.1 = 7 ∨ (kd k).2.1 = 8) ∧
    mat (kd k).2.1 (kB k) = kB k ∧ kB k < 4294967296 ∧ (kd k).2.2 = (kB k : Int) ∧ kB k &&& oN (kd k).2.1 = kB k := by decide +kernel

theorem nIdx_is {nm : ByteArray} (h : nIdx nm < 64) : (kd (nIdx nm)).1 = nm := by
  have hl : nIdx nm < kinds.length := by rw [kinds_len]; exact h
  have := List.findIdx_getElem (p := fun x : ByteArray × Int × Int => decide (x.1 = nm)) (xs := kinds) (w := hl)
  rw [kd_eq _ h]
  exact of_decide_eq_true this

theorem reg_of {z : Int} {has : Bool} (h : regB z has = true) : ∃ r : Nat, z = (r : Int) ∧ r < 32 ∧ (has = false → r = 0) := by
  unfold regB at h
  by_cases h0 : z = 0
  · exact ⟨0, by rw [h0]; rfl, by decide, fun _ => rfl⟩
  · have : (z == 0) = false := beq_eq_false_iff_ne.2 h0
    rw [this] at h
    simp only [Bool.false_or, Bool.and_eq_true, decide_eq_true_eq] at h
    exact ⟨z.toNat, by omega, by omega, fun e => by rw [e] at h; exact absurd h.1.1 (by decide)⟩

theorem u32_of (imm : Int) : ∃ m : Nat, IntKind.u32.wrap imm = (m : Int) ∧ (m : Int) = imm % 4294967296 := by
  refine ⟨(imm % 4294967296).toNat, ?_, ?_⟩
  · rw [IntKind.wrap_u32]; omega
  · omega


/-- What is read off a word that was made. -/
def Reads (f : Int) (B r a b : Nat) (imm : Int) (N : Nat) : Prop :=
  N < 4294967296 ∧ wordOf (B : Int) f (r : Int) (a : Int) (b : Int) imm = (N : Int) ∧ mat f N = B ∧
  rgN (prt f).1 (N : Int) 7 = (r : Int) ∧ rgN (prt f).2.1 (N : Int) 15 = (a : Int) ∧ rgN (prt f).2.2.1 (N : Int) 20 = (b : Int) ∧ gat f (N : Int) = imm
theorem rd_at {N r : Nat} (hN : N < 4294967296) (h : N / 128 % 32 = r) : rgN true (N : Int) 7 = (r : Int) := by
  rw [← h]; exact rg_val N 7 hN (by decide)
theorem ra_at {N r : Nat} (hN : N < 4294967296) (h : N / 32768 % 32 = r) : rgN true (N : Int) 15 = (r : Int) := by
  rw [← h]; exact rg_val N 15 hN (by decide)
theorem rb_at {N r : Nat} (hN : N < 4294967296) (h : N / 1048576 % 32 = r) : rgN true (N : Int) 20 = (r : Int) := by
  rw [← h]; exact rg_val N 20 hN (by decide)
theorem reads0 {B r a b : Nat} (hB : mat 0 B = B) (hw : Within (oN 0) B) (hr : r < 32) (ha : a < 32) (hb : b < 32) : ∃ N, Reads 0 B r a b 0 N := by
  have hz : IntKind.u32.wrap 0 = ((0 : Nat) : Int) := rfl
  obtain ⟨hv, hl⟩ := word_val (f := 0) (imm := 0) (.inl rfl) hw hr ha hb (fun h => absurd h (by decide)) (fun h => absurd h (by decide)) (fun h => absurd h (by decide)) hz (fun h => absurd h (by decide)) (fun h => absurd h (by decide))
  obtain ⟨q1, q2, q3, q4⟩ := mk0 hB hr ha hb
  have e : B + r * 128 + a * 32768 + b * 1048576 + scN 0 0 = B + r * 128 + a * 32768 + b * 1048576 := by show _ + 0 = _; rw [Nat.add_zero]
  rw [e] at hv hl
  exact ⟨_, hl, hv, q1, rd_at hl q2, ra_at hl q3, rb_at hl q4, gat0 _⟩
theorem reads1 {B r a m : Nat} {imm : Int} (hB : mat 1 B = B) (hw : Within (oN 1) B) (hr : r < 32) (ha : a < 32) (hm : IntKind.u32.wrap imm = (m : Int)) (hm' : (m : Int) = imm % 4294967296) (h1 : -2048 ≤ imm) (h2 : imm ≤ 2047) : ∃ N, Reads 1 B r a 0 imm N := by
  obtain ⟨hv, hl⟩ := word_val (f := 1) (.inr (.inl rfl)) hw hr ha (b := 0) (by decide) (fun h => absurd h (by decide)) (fun h => absurd h (by decide)) (fun _ => rfl) hm (fun h => absurd h (by decide)) (fun h => absurd h (by decide))
  obtain ⟨q1, q2, q3, q4⟩ := mk1 hB hr ha hm' h1 h2
  have e : B + r * 128 + a * 32768 + 0 * 1048576 + scN 1 m = B + r * 128 + a * 32768 + m % 4096 * 1048576 := by show _ + m % 4096 * 1048576 = _; rw [Nat.zero_mul, Nat.add_zero]
  rw [e] at hv hl
  exact ⟨_, hl, hv, q1, rd_at hl q2, ra_at hl q3, rfl, (gat1 _).trans q4⟩
theorem reads2 {B r a m : Nat} (hB : mat 2 B = B) (hw : Within (oN 2) B) (hr : r < 32) (ha : a < 32) (hm : IntKind.u32.wrap (m : Int) = (m : Int)) (h : m < 64) : ∃ N, Reads 2 B r a 0 (m : Int) N := by
  obtain ⟨hv, hl⟩ := word_val (f := 2) (.inr (.inr (.inl rfl))) hw hr ha (b := 0) (by decide) (fun h => absurd h (by decide)) (fun h => absurd h (by decide)) (fun _ => rfl) hm (fun _ => h) (fun h => absurd h (by decide))
  obtain ⟨q1, q2, q3, q4⟩ := mk2 hB hr ha h
  have e : scN 2 m = m * 1048576 := by show m % 4096 * 1048576 = _; rw [Nat.mod_eq_of_lt (by omega)]
  have e2 : B + r * 128 + a * 32768 + 0 * 1048576 + m * 1048576 = B + r * 128 + a * 32768 + m * 1048576 := by rw [Nat.zero_mul, Nat.add_zero]
  rw [e, e2] at hv hl
  exact ⟨_, hl, hv, q1, rd_at hl q2, ra_at hl q3, rfl, by rw [gat2 _ hl]; exact congrArg _ q4⟩
theorem mk3 {B r a m : Nat} (hB : mat 3 B = B) (hr : r < 32) (ha : a < 32) (hm : m < 32) :
    mat 3 (B + r * 128 + a * 32768 + m * 1048576) = B ∧ (B + r * 128 + a * 32768 + m * 1048576) / 128 % 32 = r ∧ (B + r * 128 + a * 32768 + m * 1048576) / 32768 % 32 = a ∧ (B + r * 128 + a * 32768 + m * 1048576) / 1048576 % 32 = m :=
  mk0 (b := m) hB hr ha hm
theorem reads3 {B r a m : Nat} (hB : mat 3 B = B) (hw : Within (oN 3) B) (hr : r < 32) (ha : a < 32) (hm : IntKind.u32.wrap (m : Int) = (m : Int)) (h : m < 32) : ∃ N, Reads 3 B r a 0 (m : Int) N := by
  obtain ⟨hv, hl⟩ := word_val (f := 3) (.inr (.inr (.inr (.inl rfl)))) hw hr ha (b := 0) (by decide) (fun h => absurd h (by decide)) (fun h => absurd h (by decide)) (fun _ => rfl) hm (fun h => absurd h (by decide)) (fun _ => h)
  obtain ⟨q1, q2, q3, q4⟩ := mk3 hB hr ha h
  have e : scN 3 m = m * 1048576 := by show m % 4096 * 1048576 = _; rw [Nat.mod_eq_of_lt (by omega)]
  have e2 : B + r * 128 + a * 32768 + 0 * 1048576 + m * 1048576 = B + r * 128 + a * 32768 + m * 1048576 := by rw [Nat.zero_mul, Nat.add_zero]
  rw [e, e2] at hv hl
  exact ⟨_, hl, hv, q1, rd_at hl q2, ra_at hl q3, rfl, by rw [gat3 _ hl]; exact congrArg _ q4⟩
theorem reads4 {B a b m : Nat} {imm : Int} (hB : mat 4 B = B) (hw : Within (oN 4) B) (ha : a < 32) (hb : b < 32) (hm : IntKind.u32.wrap imm = (m : Int)) (hm' : (m : Int) = imm % 4294967296) (h1 : -2048 ≤ imm) (h2 : imm ≤ 2047) : ∃ N, Reads 4 B 0 a b imm N := by
  obtain ⟨hv, hl⟩ := word_val (f := 4) (.inr (.inr (.inr (.inr (.inl rfl))))) hw (r := 0) (by decide) ha hb (fun _ => rfl) (fun h => absurd h (by decide)) (fun h => absurd h (by decide)) hm (fun h => absurd h (by decide)) (fun h => absurd h (by decide))
  obtain ⟨q1, q2, q3, q4⟩ := mk4 hB ha hb hm' h1 h2
  have e : B + 0 * 128 + a * 32768 + b * 1048576 + scN 4 m = B + a * 32768 + b * 1048576 + (m % 32 * 128 + m / 32 % 128 * 33554432) := by show _ + (m % 32 * 128 + m / 32 % 128 * 33554432) = _; rw [Nat.zero_mul, Nat.add_zero]
  rw [e] at hv hl
  exact ⟨_, hl, hv, q1, rfl, ra_at hl q2, rb_at hl q3, (gat4 _ hl).trans q4⟩
theorem reads5 {B a b m : Nat} {imm : Int} (hB : mat 5 B = B) (hw : Within (oN 5) B) (ha : a < 32) (hb : b < 32) (hm : IntKind.u32.wrap imm = (m : Int)) (hm' : (m : Int) = imm % 4294967296) (h1 : -4096 ≤ imm) (h2 : imm ≤ 4094) (h3 : imm % 2 = 0) : ∃ N, Reads 5 B 0 a b imm N := by
  obtain ⟨hv, hl⟩ := word_val (f := 5) (.inr (.inr (.inr (.inr (.inr (.inl rfl)))))) hw (r := 0) (by decide) ha hb (fun _ => rfl) (fun h => absurd h (by decide)) (fun h => absurd h (by decide)) hm (fun h => absurd h (by decide)) (fun h => absurd h (by decide))
  obtain ⟨N, hN, q1, q2, q3, q4⟩ := mk5 hB ha hb hm' h1 h2 h3
  have e : B + 0 * 128 + a * 32768 + b * 1048576 + scN 5 m = N := by rw [← hN, Nat.zero_mul, Nat.add_zero]; rfl
  rw [e] at hv hl
  exact ⟨_, hl, hv, q1, rfl, ra_at hl q2, rb_at hl q3, (gat5 _ hl).trans q4⟩
theorem reads6 {B r m : Nat} {imm : Int} (hB : mat 6 B = B) (hw : Within (oN 6) B) (hr : r < 32) (hm : IntKind.u32.wrap imm = (m : Int)) (hm' : (m : Int) = imm % 4294967296) (h1 : -524288 ≤ imm) (h2 : imm ≤ 524287) : ∃ N, Reads 6 B r 0 0 imm N := by
  obtain ⟨hv, hl⟩ := word_val (f := 6) (.inr (.inr (.inr (.inr (.inr (.inr (.inl rfl))))))) hw hr (a := 0) (b := 0) (by decide) (by decide) (fun h => absurd h (by decide)) (fun _ => rfl) (fun _ => rfl) hm (fun h => absurd h (by decide)) (fun h => absurd h (by decide))
  obtain ⟨q1, q2, q3⟩ := mk6 hB hr hm' h1 h2
  have e : B + r * 128 + 0 * 32768 + 0 * 1048576 + scN 6 m = B + r * 128 + m % 1048576 * 4096 := by show _ + m % 1048576 * 4096 = _; rw [Nat.zero_mul, Nat.add_zero]
  rw [e] at hv hl
  exact ⟨_, hl, hv, q1, rd_at hl q2, rfl, rfl, (gat6 _).trans q3⟩
theorem reads7 {B r m : Nat} {imm : Int} (hB : mat 7 B = B) (hw : Within (oN 7) B) (hr : r < 32) (hm : IntKind.u32.wrap imm = (m : Int)) (hm' : (m : Int) = imm % 4294967296) (h1 : -1048576 ≤ imm) (h2 : imm ≤ 1048574) (h3 : imm % 2 = 0) : ∃ N, Reads 7 B r 0 0 imm N := by
  obtain ⟨hv, hl⟩ := word_val (f := 7) (.inr (.inr (.inr (.inr (.inr (.inr (.inr (.inl rfl)))))))) hw hr (a := 0) (b := 0) (by decide) (by decide) (fun h => absurd h (by decide)) (fun _ => rfl) (fun _ => rfl) hm (fun h => absurd h (by decide)) (fun h => absurd h (by decide))
  obtain ⟨N, hN, q1, q2, q3⟩ := mk7 hB hr hm' h1 h2 h3
  have e : B + r * 128 + 0 * 32768 + 0 * 1048576 + scN 7 m = N := by rw [← hN, Nat.zero_mul, Nat.add_zero]; rfl
  rw [e] at hv hl
  exact ⟨_, hl, hv, q1, rd_at hl q2, rfl, rfl, (gat7 _ hl).trans q3⟩
theorem reads8 {B : Nat} (hl : B < 4294967296) (hw : Within (oN 8) B) : ∃ N, Reads 8 B 0 0 0 0 N := by
  have hz : IntKind.u32.wrap 0 = ((0 : Nat) : Int) := rfl
  obtain ⟨hv, _⟩ := word_val (f := 8) (imm := 0) (.inr (.inr (.inr (.inr (.inr (.inr (.inr (.inr (rfl))))))))) hw (r := 0) (a := 0) (b := 0) (by decide) (by decide) (by decide) (fun _ => rfl) (fun _ => rfl) (fun _ => rfl) hz (fun h => absurd h (by decide)) (fun h => absurd h (by decide))
  exact ⟨B, hl, hv, rfl, rfl, rfl, rfl, gat8 _⟩
end Go.Proofs.Ytciehejifdbpoaa.Rv
