import Derived.Test.YtciehejifdbpoaaRvRefJ
namespace Go.Proofs.Ytciehejifdbpoaa.Rv
open Go.RowKit Go.Proofs.YtciehejifdbpoaaW.PrintWords Go.Proofs.YtciehejifdbpoaaW.PrintLast Go.Proofs.YtciehejifdbpoaaW.PrintMore
open Go.Proofs.Ytciehejifdbpoaa.PRvcodeDecodes

/-! ### Words of no kind -/
def NoName (o : Option (ByteArray × Int × Int × Int × Int)) : Prop := ∃ a b c d, o = some (⟨#[]⟩, a, b, c, d)
/-- Is there a kind of a form with these bits? -/
def hasK (f : Int) (B : Nat) : Bool := (List.range 64).any fun k => decide ((kd k).2.1 = f) && decide (kB k = B)
theorem hasK_some {f : Int} {B : Nat} (h : hasK f B = true) : ∃ k, k < 64 ∧ (kd k).2.1 = f ∧ kB k = B := by
  unfold hasK at h
  obtain ⟨k, hk, h⟩ := List.any_eq_true.1 h
  rw [Bool.and_eq_true, decide_eq_true_eq, decide_eq_true_eq] at h
  exact ⟨k, List.mem_range.1 hk, h.1, h.2⟩
def NoK (n : Nat) : Prop := ∀ k, k < 64 → mat (kd k).2.1 n ≠ kB k
theorem noK {n : Nat} (h : NoK n) {f : Int} {B : Nat} (hM : mat f n = B) : hasK f B = false := by
  refine Bool.eq_false_iff.2 fun e => ?_
  obtain ⟨k, hk, h1, h2⟩ := hasK_some e
  exact h k hk (by rw [h1, h2, hM])

theorem opR51 : ∀ f3, f3 < 8 → ∀ f7, f7 < 128 → hasK 0 (51 + f3 * 4096 + f7 * 33554432) = true ∨ burinref26_opR.f 19 51 (f3 : Nat) (f7 : Nat) = some ⟨#[]⟩ := by decide +kernel
theorem opR59 : ∀ f3, f3 < 8 → ∀ f7, f7 < 128 → hasK 0 (59 + f3 * 4096 + f7 * 33554432) = true ∨ burinref26_opR.f 19 59 (f3 : Nat) (f7 : Nat) = some ⟨#[]⟩ := by decide +kernel

theorem noR {n o : Nat} (h : n < 4294967296) (hno : NoK n) (ho : o = 51 ∨ o = 59) (q0 : n % 128 = o) : NoName (burinref26_Read.f 20 (n : Int)) := by
  have h3 : n / 4096 % 8 < 8 := Nat.mod_lt _ (by decide)
  have h7 : n / 33554432 % 128 < 128 := Nat.mod_lt _ (by decide)
  have hM : mat 0 n = o + n / 4096 % 8 * 4096 + n / 33554432 % 128 * 33554432 := by rw [← q0]; rfl
  have hk := noK hno hM
  generalize n / 4096 % 8 = f3 at *
  generalize n / 33554432 % 128 = f7 at *
  rcases ho with rfl | rfl
  · rcases opR51 f3 h3 f7 h7 with e | e
    · rw [hk] at e; cases e
    · exact ⟨_, _, _, _, foundR (o := 51) h (.inl rfl) h3 h7 rfl hM e⟩
  · rcases opR59 f3 h3 f7 h7 with e | e
    · rw [hk] at e; cases e
    · exact ⟨_, _, _, _, foundR (o := 59) h (.inr rfl) h3 h7 rfl hM e⟩

theorem sh6_none (h f3 : Nat) (hf : f3 = 1 ∨ f3 = 5) (h0 : h ≠ 0) (h1 : f3 = 5 → h ≠ 16) (rd ra im : Int) : sh6 (h : Int) (f3 : Int) rd ra im = some (⟨#[]⟩, rd, ra, 0, im) := by
  have e0 : ¬ ((h : Nat) : Int) = 0 := by omega
  have e1 : f3 = 5 → ¬ ((h : Nat) : Int) = 16 := fun e => by have := h1 e; omega
  generalize ((h : Nat) : Int) = z at *
  clear h0 h1
  have e : (z == 0) = false := beq_eq_false_iff_ne.2 e0
  rcases hf with rfl | rfl
  · have l : sh6 z 1 rd ra im = burinref26_shift.j1 16 ⟨#[]⟩ z 1 16 (z == 0) ⟨#[]⟩ rd ra 0 im := by kernel_rfl
    have l2 : burinref26_shift.j1 16 ⟨#[]⟩ z 1 16 false ⟨#[]⟩ rd ra 0 im = some (⟨#[]⟩, rd, ra, 0, im) := by kernel_rfl
    rw [e] at l
    exact l.trans l2
  · have l : sh6 z 5 rd ra im = burinref26_shift.j3 14 ⟨#[]⟩ z 5 16 (z == 0) ⟨#[]⟩ rd ra 0 im := by kernel_rfl
    have l2 : burinref26_shift.j3 14 ⟨#[]⟩ z 5 16 false ⟨#[]⟩ rd ra 0 im = if z = 16 then some (⟨#[115, 114, 97, 105]⟩ ++ ⟨#[]⟩, rd, ra, 0, im) else some (⟨#[]⟩, rd, ra, 0, im) := by kernel_rfl
    rw [e, l2, if_neg (e1 rfl)] at l
    exact l
theorem sh5_none (h f3 : Nat) (hf : f3 = 1 ∨ f3 = 5) (h0 : h ≠ 0) (h1 : f3 = 5 → h ≠ 32) (rd ra im : Int) : sh5 (h : Int) (f3 : Int) rd ra im = some (⟨#[]⟩, rd, ra, 0, im) := by
  have e0 : ¬ ((h : Nat) : Int) = 0 := by omega
  have e1 : f3 = 5 → ¬ ((h : Nat) : Int) = 32 := fun e => by have := h1 e; omega
  generalize ((h : Nat) : Int) = z at *
  clear h0 h1
  have e : (z == 0) = false := beq_eq_false_iff_ne.2 e0
  rcases hf with rfl | rfl
  · have l : sh5 z 1 rd ra im = burinref26_shift.j1 15 ⟨#[119]⟩ z 1 32 (z == 0) ⟨#[]⟩ rd ra 0 im := by kernel_rfl
    have l2 : burinref26_shift.j1 15 ⟨#[119]⟩ z 1 32 false ⟨#[]⟩ rd ra 0 im = some (⟨#[]⟩, rd, ra, 0, im) := by kernel_rfl
    rw [e] at l
    exact l.trans l2
  · have l : sh5 z 5 rd ra im = burinref26_shift.j3 13 ⟨#[119]⟩ z 5 32 (z == 0) ⟨#[]⟩ rd ra 0 im := by kernel_rfl
    have l2 : burinref26_shift.j3 13 ⟨#[119]⟩ z 5 32 false ⟨#[]⟩ rd ra 0 im = if z = 32 then some (⟨#[115, 114, 97, 105, 119]⟩, rd, ra, 0, im) else some (⟨#[]⟩, rd, ra, 0, im) := by kernel_rfl
    rw [e, l2, if_neg (e1 rfl)] at l
    exact l

theorem noSh6 {n f3 : Nat} (h : n < 4294967296) (hno : NoK n) (q0 : n % 128 = 19) (q1 : n / 4096 % 8 = f3) (hf : f3 = 1 ∨ f3 = 5) : NoName (burinref26_Read.f 20 (n : Int)) := by
  have hM : mat 2 n = 19 + f3 * 4096 + n / 67108864 % 64 * 67108864 := by rw [← q0, ← q1]; rfl
  have hk := noK hno hM
  rw [foundH6 h q0 q1 hf]
  generalize n / 67108864 % 64 = f7 at *
  refine ⟨_, _, _, _, sh6_none f7 f3 hf ?_ ?_ _ _ _⟩
  · rintro rfl
    rcases hf with rfl | rfl
    · exact absurd hk (by decide +kernel)
    · exact absurd hk (by decide +kernel)
  · rintro rfl rfl
    exact absurd hk (by decide +kernel)
theorem noSh5 {n f3 : Nat} (h : n < 4294967296) (hno : NoK n) (q0 : n % 128 = 27) (q1 : n / 4096 % 8 = f3) (hf : f3 = 1 ∨ f3 = 5) : NoName (burinref26_Read.f 20 (n : Int)) := by
  have hM : mat 3 n = 27 + f3 * 4096 + n / 33554432 % 128 * 33554432 := by rw [← q0, ← q1]; rfl
  have hk := noK hno hM
  rw [foundH5 h q0 q1 hf]
  generalize n / 33554432 % 128 = f7 at *
  refine ⟨_, _, _, _, sh5_none f7 f3 hf ?_ ?_ _ _ _⟩
  · rintro rfl
    rcases hf with rfl | rfl
    · exact absurd hk (by decide +kernel)
    · exact absurd hk (by decide +kernel)
  · rintro rfl rfl
    exact absurd hk (by decide +kernel)

theorem o3 (n : Nat) (o f3 : Nat) (q0 : n % 128 = o) (q1 : n / 4096 % 8 = f3) : mat 1 n = o + f3 * 4096 := by rw [← q0, ← q1]; rfl
theorem o4 (n : Nat) (o f3 : Nat) (q0 : n % 128 = o) (q1 : n / 4096 % 8 = f3) : mat 4 n = o + f3 * 4096 := by rw [← q0, ← q1]; rfl
theorem o5 (n : Nat) (o f3 : Nat) (q0 : n % 128 = o) (q1 : n / 4096 % 8 = f3) : mat 5 n = o + f3 * 4096 := by rw [← q0, ← q1]; rfl
theorem eight {f3 : Nat} (h : f3 < 8) : f3 = 0 ∨ f3 = 1 ∨ f3 = 2 ∨ f3 = 3 ∨ f3 = 4 ∨ f3 = 5 ∨ f3 = 6 ∨ f3 = 7 := by omega

theorem no19 {n : Nat} (h : n < 4294967296) (hno : NoK n) (q0 : n % 128 = 19) : NoName (burinref26_Read.f 20 (n : Int)) := by
  have h3 : n / 4096 % 8 < 8 := Nat.mod_lt _ (by decide)
  obtain ⟨f3, q1⟩ : ∃ f3, n / 4096 % 8 = f3 := ⟨_, rfl⟩
  rw [q1] at h3
  have hk := noK hno (o3 n 19 f3 q0 q1)
  rcases eight h3 with rfl | rfl | rfl | rfl | rfl | rfl | rfl | rfl
  · exact absurd hk (by decide +kernel)
  · exact noSh6 h hno q0 q1 (.inl rfl)
  · exact absurd hk (by decide +kernel)
  · exact absurd hk (by decide +kernel)
  · exact absurd hk (by decide +kernel)
  · exact noSh6 h hno q0 q1 (.inr rfl)
  · exact absurd hk (by decide +kernel)
  · exact absurd hk (by decide +kernel)
theorem noI (o f3 : Nat) (ho : o < 128) (hf : f3 < 8) (hl : ∀ x rd ra rb, readO x (o : Int) rd (f3 : Int) ra rb = (burinref26_Bits.f x 20 12).bind fun t => (burinref26_signed.f t 12).bind fun im => some (⟨#[]⟩, rd, ra, 0, im)) {n : Nat} (h : n < 4294967296) (q0 : n % 128 = o) (q1 : n / 4096 % 8 = f3) : NoName (burinref26_Read.f 20 (n : Int)) :=
  ⟨_, _, _, _, foundI h ho hf (o3 n o f3 q0 q1) hl⟩
theorem no27 {n : Nat} (h : n < 4294967296) (hno : NoK n) (q0 : n % 128 = 27) : NoName (burinref26_Read.f 20 (n : Int)) := by
  have h3 : n / 4096 % 8 < 8 := Nat.mod_lt _ (by decide)
  obtain ⟨f3, q1⟩ : ∃ f3, n / 4096 % 8 = f3 := ⟨_, rfl⟩
  rw [q1] at h3
  have hk := noK hno (o3 n 27 f3 q0 q1)
  rcases eight h3 with rfl | rfl | rfl | rfl | rfl | rfl | rfl | rfl
  · exact absurd hk (by decide +kernel)
  · exact noSh5 h hno q0 q1 (.inl rfl)
  · exact noI 27 2 (by decide) (by decide) (by intro x rd ra rb; kernel_rfl) h q0 q1
  · exact noI 27 3 (by decide) (by decide) (by intro x rd ra rb; kernel_rfl) h q0 q1
  · exact noI 27 4 (by decide) (by decide) (by intro x rd ra rb; kernel_rfl) h q0 q1
  · exact noSh5 h hno q0 q1 (.inr rfl)
  · exact noI 27 6 (by decide) (by decide) (by intro x rd ra rb; kernel_rfl) h q0 q1
  · exact noI 27 7 (by decide) (by decide) (by intro x rd ra rb; kernel_rfl) h q0 q1
theorem no3 {n : Nat} (h : n < 4294967296) (hno : NoK n) (q0 : n % 128 = 3) : NoName (burinref26_Read.f 20 (n : Int)) := by
  have h3 : n / 4096 % 8 < 8 := Nat.mod_lt _ (by decide)
  obtain ⟨f3, q1⟩ : ∃ f3, n / 4096 % 8 = f3 := ⟨_, rfl⟩
  rw [q1] at h3
  have hk := noK hno (o3 n 3 f3 q0 q1)
  rcases eight h3 with rfl | rfl | rfl | rfl | rfl | rfl | rfl | rfl
  · exact absurd hk (by decide +kernel)
  · exact absurd hk (by decide +kernel)
  · exact absurd hk (by decide +kernel)
  · exact absurd hk (by decide +kernel)
  · exact absurd hk (by decide +kernel)
  · exact absurd hk (by decide +kernel)
  · exact absurd hk (by decide +kernel)
  · exact noI 3 7 (by decide) (by decide) (by intro x rd ra rb; kernel_rfl) h q0 q1
theorem no103 {n : Nat} (h : n < 4294967296) (hno : NoK n) (q0 : n % 128 = 103) : NoName (burinref26_Read.f 20 (n : Int)) := by
  have h3 : n / 4096 % 8 < 8 := Nat.mod_lt _ (by decide)
  obtain ⟨f3, q1⟩ : ∃ f3, n / 4096 % 8 = f3 := ⟨_, rfl⟩
  rw [q1] at h3
  have hk := noK hno (o3 n 103 f3 q0 q1)
  rcases eight h3 with rfl | rfl | rfl | rfl | rfl | rfl | rfl | rfl
  · exact absurd hk (by decide +kernel)
  · exact noI 103 1 (by decide) (by decide) (by intro x rd ra rb; kernel_rfl) h q0 q1
  · exact noI 103 2 (by decide) (by decide) (by intro x rd ra rb; kernel_rfl) h q0 q1
  · exact noI 103 3 (by decide) (by decide) (by intro x rd ra rb; kernel_rfl) h q0 q1
  · exact noI 103 4 (by decide) (by decide) (by intro x rd ra rb; kernel_rfl) h q0 q1
  · exact noI 103 5 (by decide) (by decide) (by intro x rd ra rb; kernel_rfl) h q0 q1
  · exact noI 103 6 (by decide) (by decide) (by intro x rd ra rb; kernel_rfl) h q0 q1
  · exact noI 103 7 (by decide) (by decide) (by intro x rd ra rb; kernel_rfl) h q0 q1
theorem noS (f3 : Nat) (hf : f3 < 8) (hl : ∀ x rd ra rb, readO x 35 rd (f3 : Int) ra rb = (burinref26_Bits.f x 25 7).bind fun t => (burinref26_signed.f (wrap64 ((wrap64 (t * 32)) + rd)) 12).bind fun im => some (⟨#[]⟩, 0, ra, rb, im)) {n : Nat} (h : n < 4294967296) (q0 : n % 128 = 35) (q1 : n / 4096 % 8 = f3) : NoName (burinref26_Read.f 20 (n : Int)) :=
  ⟨_, _, _, _, foundS h hf (o4 n 35 f3 q0 q1) hl⟩
theorem no35 {n : Nat} (h : n < 4294967296) (hno : NoK n) (q0 : n % 128 = 35) : NoName (burinref26_Read.f 20 (n : Int)) := by
  have h3 : n / 4096 % 8 < 8 := Nat.mod_lt _ (by decide)
  obtain ⟨f3, q1⟩ : ∃ f3, n / 4096 % 8 = f3 := ⟨_, rfl⟩
  rw [q1] at h3
  have hk := noK hno (o4 n 35 f3 q0 q1)
  rcases eight h3 with rfl | rfl | rfl | rfl | rfl | rfl | rfl | rfl
  · exact absurd hk (by decide +kernel)
  · exact absurd hk (by decide +kernel)
  · exact absurd hk (by decide +kernel)
  · exact absurd hk (by decide +kernel)
  · exact noS 4 (by decide) (by intro x rd ra rb; kernel_rfl) h q0 q1
  · exact noS 5 (by decide) (by intro x rd ra rb; kernel_rfl) h q0 q1
  · exact noS 6 (by decide) (by intro x rd ra rb; kernel_rfl) h q0 q1
  · exact noS 7 (by decide) (by intro x rd ra rb; kernel_rfl) h q0 q1
theorem no99 {n : Nat} (h : n < 4294967296) (hno : NoK n) (q0 : n % 128 = 99) : NoName (burinref26_Read.f 20 (n : Int)) := by
  have h3 : n / 4096 % 8 < 8 := Nat.mod_lt _ (by decide)
  obtain ⟨f3, q1⟩ : ∃ f3, n / 4096 % 8 = f3 := ⟨_, rfl⟩
  rw [q1] at h3
  have hM := o5 n 99 f3 q0 q1
  have hk := noK hno hM
  rcases eight h3 with rfl | rfl | rfl | rfl | rfl | rfl | rfl | rfl
  · exact absurd hk (by decide +kernel)
  · exact absurd hk (by decide +kernel)
  · exact ⟨_, _, _, _, foundB (f3 := 2) h hM (by decide) leafB2⟩
  · exact ⟨_, _, _, _, foundB (f3 := 3) h hM (by decide) leafB3⟩
  · exact absurd hk (by decide +kernel)
  · exact absurd hk (by decide +kernel)
  · exact absurd hk (by decide +kernel)
  · exact absurd hk (by decide +kernel)
theorem leaf115 (x rd f3 ra rb : Int) : readO x 115 rd f3 ra rb = if x = 115 then some (⟨#[101, 99, 97, 108, 108]⟩, 0, 0, 0, 0) else if x = 1048691 then some (⟨#[101, 98, 114, 101, 97, 107]⟩, 0, 0, 0, 0) else some (⟨#[]⟩, 0, 0, 0, 0) := by kernel_rfl
theorem no115 {n : Nat} (h : n < 4294967296) (hno : NoK n) (q0 : n % 128 = 115) : NoName (burinref26_Read.f 20 (n : Int)) := by
  have h1 : ¬ ((n : Nat) : Int) = 115 := by
    intro e
    have e' : n = 115 := by omega
    have := noK hno (f := 8) (B := 115) e'
    exact absurd this (by decide +kernel)
  have h2 : ¬ ((n : Nat) : Int) = 1048691 := by
    intro e
    have e' : n = 1048691 := by omega
    have := noK hno (f := 8) (B := 1048691) e'
    exact absurd this (by decide +kernel)
  rw [read_start n h, q0, show ((115 : Nat) : Int) = 115 from rfl, leaf115, if_neg h1, if_neg h2]
  exact ⟨_, _, _, _, rfl⟩
theorem noU {n o : Nat} (hno : NoK n) (q0 : n % 128 = o) (f : Int) (hf : f = 6 ∨ f = 7) (hk : hasK f o = true) : False := by
  have hM : mat f n = o := by rcases hf with rfl | rfl <;> exact q0
  have := noK hno hM
  rw [hk] at this; cases this
theorem noElse1 (x o rd f3 ra rb : Int) (h7 : o ≠ 35) (h8 : o ≠ 99) (h9 : o ≠ 55) (h10 : o ≠ 23) (h11 : o ≠ 111) (h12 : o ≠ 115) : burinref26_Read.j1 19 x o rd f3 ra rb o false = some (⟨#[]⟩, 0, 0, 0, 0) := by
  show burinref26_Read.j1 (18 + 1) x o rd f3 ra rb o false = _
  rw [burinref26_Read.j1, if_neg (by decide), if_neg h7, if_neg h8, if_neg h9, if_neg h10, if_neg h11, if_neg h12]
theorem noElse (x o rd f3 ra rb : Int) (h : o ≠ 51 ∧ o ≠ 59 ∧ o ≠ 19 ∧ o ≠ 27 ∧ o ≠ 3 ∧ o ≠ 103 ∧ o ≠ 35 ∧ o ≠ 99 ∧ o ≠ 55 ∧ o ≠ 23 ∧ o ≠ 111 ∧ o ≠ 115) : NoName (readO x o rd f3 ra rb) := by
  obtain ⟨h1, h2, h3, h4, h5, h6, h7, h8, h9, h10, h11, h12⟩ := h
  have b2 : (o == 59) = false := beq_eq_false_iff_ne.2 h2
  have b6 : (o == 103) = false := beq_eq_false_iff_ne.2 h6
  refine ⟨0, 0, 0, 0, ?_⟩
  unfold readO
  rw [if_neg h1, b2]
  have l : burinref26_Read.j0 20 x o rd f3 ra rb o false = if o = 19 then burinref26_Read.j1 19 x o rd f3 ra rb o (o == 19) else if o = 27 then burinref26_Read.j1 19 x o rd f3 ra rb o (o == 27) else if o = 3 then burinref26_Read.j1 19 x o rd f3 ra rb o (o == 3) else burinref26_Read.j1 19 x o rd f3 ra rb o (o == 103) := by kernel_rfl
  rw [l, if_neg h3, if_neg h4, if_neg h5, b6]
  exact noElse1 x o rd f3 ra rb h7 h8 h9 h10 h11 h12
theorem read_none {n : Nat} (h : n < 4294967296) (hno : NoK n) : NoName (burinref26_Read.f 20 (n : Int)) := by
  by_cases q1 : n % 128 = 51
  · exact noR h hno (.inl rfl) q1
  by_cases q2 : n % 128 = 59
  · exact noR h hno (.inr rfl) q2
  by_cases q3 : n % 128 = 19
  · exact no19 h hno q3
  by_cases q4 : n % 128 = 27
  · exact no27 h hno q4
  by_cases q5 : n % 128 = 3
  · exact no3 h hno q5
  by_cases q6 : n % 128 = 103
  · exact no103 h hno q6
  by_cases q7 : n % 128 = 35
  · exact no35 h hno q7
  by_cases q8 : n % 128 = 99
  · exact no99 h hno q8
  by_cases q9 : n % 128 = 55
  · exact (noU hno q9 6 (.inl rfl) (by decide +kernel)).elim
  by_cases q10 : n % 128 = 23
  · exact (noU hno q10 6 (.inl rfl) (by decide +kernel)).elim
  by_cases q11 : n % 128 = 111
  · exact (noU hno q11 7 (.inr rfl) (by decide +kernel)).elim
  by_cases q12 : n % 128 = 115
  · exact no115 h hno q12
  rw [read_start n h]
  refine noElse _ _ _ _ _ _ ?_
  clear hno
  generalize n % 128 = o at *
  refine ⟨?_, ?_, ?_, ?_, ?_, ?_, ?_, ?_, ?_, ?_, ?_, ?_⟩ <;> omega

/-! ### The reference decodes as the table does -/
theorem names_some : ∀ k, k < 64 → ¬ (kd k).1.toList = [] := by decide +kernel
theorem ref_dec (x : Int) (h0 : 0 ≤ x) (h1 : x < 4294967296) :
    burinref26_Decode.f 20 x = some ((decF x).1.name, (decF x).1.rd, (decF x).1.ra, (decF x).1.rb, (decF x).1.imm, (decF x).2) := by
  obtain ⟨n, rfl⟩ := Int.eq_ofNat_of_zero_le h0
  have hn : n < 4294967296 := by omega
  have hw : wrap64 ((n : Nat) : Int) = (n : Int) := w64 _ (by omega) (by omega)
  unfold burinref26_Decode.f
  rw [hw]
  rcases dec_cases n hn with ⟨k, hk, hM, e⟩ | ⟨hno, e⟩
  · rw [refk_all k hk n hn hM, e, Option.bind_some, if_neg (names_some k hk)]
    rfl
  · obtain ⟨a, b, c, d, e'⟩ := read_none hn hno
    rw [e', e, Option.bind_some, if_pos (show (⟨#[]⟩ : ByteArray).toList = [] by decide +kernel)]
end Go.Proofs.Ytciehejifdbpoaa.Rv
