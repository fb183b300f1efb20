import Derived.Test.YtciehejifdbpoaaRvRefG
namespace Go.Proofs.Ytciehejifdbpoaa.Rv
open Go.RowKit Go.Proofs.YtciehejifdbpoaaW.PrintWords Go.Proofs.YtciehejifdbpoaaW.PrintLast Go.Proofs.YtciehejifdbpoaaW.PrintMore
open Go.Proofs.Ytciehejifdbpoaa.PRvcodeDecodes
/-- A word of a kind, as the reference reads it. -/
def RefK (k : Nat) : Prop := ∀ n : Nat, n < 4294967296 → mat (kd k).2.1 n = kB k → burinref26_Read.f 20 (n : Int) = some ((kd k).1, (decAt k (n : Int)).rd, (decAt k (n : Int)).ra, (decAt k (n : Int)).rb, (decAt k (n : Int)).imm)
theorem refk0 : RefK 0 := fun n h hM => by have hM' : mat 0 n = 51 := hM; exact foundR (nm := ⟨#[97, 100, 100]⟩) (o := 51) (f3 := 0) (f7 := 0) h (.inl rfl) (by decide) (by decide) rfl hM' (by kernel_rfl)
theorem refk1 : RefK 1 := fun n h hM => by have hM' : mat 0 n = 1073741875 := hM; exact foundR (nm := ⟨#[115, 117, 98]⟩) (o := 51) (f3 := 0) (f7 := 32) h (.inl rfl) (by decide) (by decide) rfl hM' (by kernel_rfl)
theorem refk2 : RefK 2 := fun n h hM => by have hM' : mat 0 n = 4147 := hM; exact foundR (nm := ⟨#[115, 108, 108]⟩) (o := 51) (f3 := 1) (f7 := 0) h (.inl rfl) (by decide) (by decide) rfl hM' (by kernel_rfl)
theorem refk3 : RefK 3 := fun n h hM => by have hM' : mat 0 n = 8243 := hM; exact foundR (nm := ⟨#[115, 108, 116]⟩) (o := 51) (f3 := 2) (f7 := 0) h (.inl rfl) (by decide) (by decide) rfl hM' (by kernel_rfl)
theorem refk4 : RefK 4 := fun n h hM => by have hM' : mat 0 n = 12339 := hM; exact foundR (nm := ⟨#[115, 108, 116, 117]⟩) (o := 51) (f3 := 3) (f7 := 0) h (.inl rfl) (by decide) (by decide) rfl hM' (by kernel_rfl)
theorem refk5 : RefK 5 := fun n h hM => by have hM' : mat 0 n = 16435 := hM; exact foundR (nm := ⟨#[120, 111, 114]⟩) (o := 51) (f3 := 4) (f7 := 0) h (.inl rfl) (by decide) (by decide) rfl hM' (by kernel_rfl)
theorem refk6 : RefK 6 := fun n h hM => by have hM' : mat 0 n = 20531 := hM; exact foundR (nm := ⟨#[115, 114, 108]⟩) (o := 51) (f3 := 5) (f7 := 0) h (.inl rfl) (by decide) (by decide) rfl hM' (by kernel_rfl)
theorem refk7 : RefK 7 := fun n h hM => by have hM' : mat 0 n = 1073762355 := hM; exact foundR (nm := ⟨#[115, 114, 97]⟩) (o := 51) (f3 := 5) (f7 := 32) h (.inl rfl) (by decide) (by decide) rfl hM' (by kernel_rfl)
theorem refk8 : RefK 8 := fun n h hM => by have hM' : mat 0 n = 24627 := hM; exact foundR (nm := ⟨#[111, 114]⟩) (o := 51) (f3 := 6) (f7 := 0) h (.inl rfl) (by decide) (by decide) rfl hM' (by kernel_rfl)
theorem refk9 : RefK 9 := fun n h hM => by have hM' : mat 0 n = 28723 := hM; exact foundR (nm := ⟨#[97, 110, 100]⟩) (o := 51) (f3 := 7) (f7 := 0) h (.inl rfl) (by decide) (by decide) rfl hM' (by kernel_rfl)
theorem refk10 : RefK 10 := fun n h hM => by have hM' : mat 0 n = 33554483 := hM; exact foundR (nm := ⟨#[109, 117, 108]⟩) (o := 51) (f3 := 0) (f7 := 1) h (.inl rfl) (by decide) (by decide) rfl hM' (by kernel_rfl)
theorem refk11 : RefK 11 := fun n h hM => by have hM' : mat 0 n = 33558579 := hM; exact foundR (nm := ⟨#[109, 117, 108, 104]⟩) (o := 51) (f3 := 1) (f7 := 1) h (.inl rfl) (by decide) (by decide) rfl hM' (by kernel_rfl)
theorem refk12 : RefK 12 := fun n h hM => by have hM' : mat 0 n = 33562675 := hM; exact foundR (nm := ⟨#[109, 117, 108, 104, 115, 117]⟩) (o := 51) (f3 := 2) (f7 := 1) h (.inl rfl) (by decide) (by decide) rfl hM' (by kernel_rfl)
theorem refk13 : RefK 13 := fun n h hM => by have hM' : mat 0 n = 33566771 := hM; exact foundR (nm := ⟨#[109, 117, 108, 104, 117]⟩) (o := 51) (f3 := 3) (f7 := 1) h (.inl rfl) (by decide) (by decide) rfl hM' (by kernel_rfl)
theorem refk14 : RefK 14 := fun n h hM => by have hM' : mat 0 n = 33570867 := hM; exact foundR (nm := ⟨#[100, 105, 118]⟩) (o := 51) (f3 := 4) (f7 := 1) h (.inl rfl) (by decide) (by decide) rfl hM' (by kernel_rfl)
theorem refk15 : RefK 15 := fun n h hM => by have hM' : mat 0 n = 33574963 := hM; exact foundR (nm := ⟨#[100, 105, 118, 117]⟩) (o := 51) (f3 := 5) (f7 := 1) h (.inl rfl) (by decide) (by decide) rfl hM' (by kernel_rfl)
theorem refk16 : RefK 16 := fun n h hM => by have hM' : mat 0 n = 33579059 := hM; exact foundR (nm := ⟨#[114, 101, 109]⟩) (o := 51) (f3 := 6) (f7 := 1) h (.inl rfl) (by decide) (by decide) rfl hM' (by kernel_rfl)
theorem refk17 : RefK 17 := fun n h hM => by have hM' : mat 0 n = 33583155 := hM; exact foundR (nm := ⟨#[114, 101, 109, 117]⟩) (o := 51) (f3 := 7) (f7 := 1) h (.inl rfl) (by decide) (by decide) rfl hM' (by kernel_rfl)
theorem refk18 : RefK 18 := fun n h hM => by have hM' : mat 0 n = 59 := hM; exact foundR (nm := ⟨#[97, 100, 100, 119]⟩) (o := 59) (f3 := 0) (f7 := 0) h (.inr rfl) (by decide) (by decide) rfl hM' (by kernel_rfl)
theorem refk19 : RefK 19 := fun n h hM => by have hM' : mat 0 n = 1073741883 := hM; exact foundR (nm := ⟨#[115, 117, 98, 119]⟩) (o := 59) (f3 := 0) (f7 := 32) h (.inr rfl) (by decide) (by decide) rfl hM' (by kernel_rfl)
theorem refk20 : RefK 20 := fun n h hM => by have hM' : mat 0 n = 4155 := hM; exact foundR (nm := ⟨#[115, 108, 108, 119]⟩) (o := 59) (f3 := 1) (f7 := 0) h (.inr rfl) (by decide) (by decide) rfl hM' (by kernel_rfl)
theorem refk21 : RefK 21 := fun n h hM => by have hM' : mat 0 n = 20539 := hM; exact foundR (nm := ⟨#[115, 114, 108, 119]⟩) (o := 59) (f3 := 5) (f7 := 0) h (.inr rfl) (by decide) (by decide) rfl hM' (by kernel_rfl)
theorem refk22 : RefK 22 := fun n h hM => by have hM' : mat 0 n = 1073762363 := hM; exact foundR (nm := ⟨#[115, 114, 97, 119]⟩) (o := 59) (f3 := 5) (f7 := 32) h (.inr rfl) (by decide) (by decide) rfl hM' (by kernel_rfl)
theorem refk23 : RefK 23 := fun n h hM => by have hM' : mat 0 n = 33554491 := hM; exact foundR (nm := ⟨#[109, 117, 108, 119]⟩) (o := 59) (f3 := 0) (f7 := 1) h (.inr rfl) (by decide) (by decide) rfl hM' (by kernel_rfl)
theorem refk24 : RefK 24 := fun n h hM => by have hM' : mat 0 n = 33570875 := hM; exact foundR (nm := ⟨#[100, 105, 118, 119]⟩) (o := 59) (f3 := 4) (f7 := 1) h (.inr rfl) (by decide) (by decide) rfl hM' (by kernel_rfl)
theorem refk25 : RefK 25 := fun n h hM => by have hM' : mat 0 n = 33574971 := hM; exact foundR (nm := ⟨#[100, 105, 118, 117, 119]⟩) (o := 59) (f3 := 5) (f7 := 1) h (.inr rfl) (by decide) (by decide) rfl hM' (by kernel_rfl)
theorem refk26 : RefK 26 := fun n h hM => by have hM' : mat 0 n = 33579067 := hM; exact foundR (nm := ⟨#[114, 101, 109, 119]⟩) (o := 59) (f3 := 6) (f7 := 1) h (.inr rfl) (by decide) (by decide) rfl hM' (by kernel_rfl)
theorem refk27 : RefK 27 := fun n h hM => by have hM' : mat 0 n = 33583163 := hM; exact foundR (nm := ⟨#[114, 101, 109, 117, 119]⟩) (o := 59) (f3 := 7) (f7 := 1) h (.inr rfl) (by decide) (by decide) rfl hM' (by kernel_rfl)
theorem refk28 : RefK 28 := fun n h hM => by have hM' : mat 1 n = 19 := hM; exact foundI (o := 19) (f3 := 0) h (by decide) (by decide) hM' (by intro x rd ra rb; kernel_rfl)
theorem refk29 : RefK 29 := fun n h hM => by have hM' : mat 1 n = 8211 := hM; exact foundI (o := 19) (f3 := 2) h (by decide) (by decide) hM' (by intro x rd ra rb; kernel_rfl)
theorem refk30 : RefK 30 := fun n h hM => by have hM' : mat 1 n = 12307 := hM; exact foundI (o := 19) (f3 := 3) h (by decide) (by decide) hM' (by intro x rd ra rb; kernel_rfl)
theorem refk31 : RefK 31 := fun n h hM => by have hM' : mat 1 n = 16403 := hM; exact foundI (o := 19) (f3 := 4) h (by decide) (by decide) hM' (by intro x rd ra rb; kernel_rfl)
theorem refk32 : RefK 32 := fun n h hM => by have hM' : mat 1 n = 24595 := hM; exact foundI (o := 19) (f3 := 6) h (by decide) (by decide) hM' (by intro x rd ra rb; kernel_rfl)
theorem refk33 : RefK 33 := fun n h hM => by have hM' : mat 1 n = 28691 := hM; exact foundI (o := 19) (f3 := 7) h (by decide) (by decide) hM' (by intro x rd ra rb; kernel_rfl)
theorem refk34 : RefK 34 := fun n h hM => by have hM' : mat 1 n = 27 := hM; exact foundI (o := 27) (f3 := 0) h (by decide) (by decide) hM' (by intro x rd ra rb; kernel_rfl)
theorem refk35 : RefK 35 := fun n h hM => by have hM' : mat 1 n = 3 := hM; exact foundI (o := 3) (f3 := 0) h (by decide) (by decide) hM' (by intro x rd ra rb; kernel_rfl)
theorem refk36 : RefK 36 := fun n h hM => by have hM' : mat 1 n = 4099 := hM; exact foundI (o := 3) (f3 := 1) h (by decide) (by decide) hM' (by intro x rd ra rb; kernel_rfl)
theorem refk37 : RefK 37 := fun n h hM => by have hM' : mat 1 n = 8195 := hM; exact foundI (o := 3) (f3 := 2) h (by decide) (by decide) hM' (by intro x rd ra rb; kernel_rfl)
theorem refk38 : RefK 38 := fun n h hM => by have hM' : mat 1 n = 12291 := hM; exact foundI (o := 3) (f3 := 3) h (by decide) (by decide) hM' (by intro x rd ra rb; kernel_rfl)
theorem refk39 : RefK 39 := fun n h hM => by have hM' : mat 1 n = 16387 := hM; exact foundI (o := 3) (f3 := 4) h (by decide) (by decide) hM' (by intro x rd ra rb; kernel_rfl)
theorem refk40 : RefK 40 := fun n h hM => by have hM' : mat 1 n = 20483 := hM; exact foundI (o := 3) (f3 := 5) h (by decide) (by decide) hM' (by intro x rd ra rb; kernel_rfl)
theorem refk41 : RefK 41 := fun n h hM => by have hM' : mat 1 n = 24579 := hM; exact foundI (o := 3) (f3 := 6) h (by decide) (by decide) hM' (by intro x rd ra rb; kernel_rfl)
theorem refk42 : RefK 42 := fun n h hM => by have hM' : mat 1 n = 103 := hM; exact foundI (o := 103) (f3 := 0) h (by decide) (by decide) hM' (by intro x rd ra rb; kernel_rfl)
theorem refk43 : RefK 43 := fun n h hM => by have hM' : mat 2 n = 4115 := hM; exact found2 (f3 := 1) (f7 := 0) h (.inl rfl) hM' (by decide) leaf2a
theorem refk44 : RefK 44 := fun n h hM => by have hM' : mat 2 n = 20499 := hM; exact found2 (f3 := 5) (f7 := 0) h (.inr rfl) hM' (by decide) leaf2b
theorem refk45 : RefK 45 := fun n h hM => by have hM' : mat 2 n = 1073762323 := hM; exact found2 (f3 := 5) (f7 := 16) h (.inr rfl) hM' (by decide) leaf2c
theorem refk46 : RefK 46 := fun n h hM => by have hM' : mat 3 n = 4123 := hM; exact found3 (f3 := 1) (f7 := 0) h (.inl rfl) hM' (by decide) leaf3a
theorem refk47 : RefK 47 := fun n h hM => by have hM' : mat 3 n = 20507 := hM; exact found3 (f3 := 5) (f7 := 0) h (.inr rfl) hM' (by decide) leaf3b
theorem refk48 : RefK 48 := fun n h hM => by have hM' : mat 3 n = 1073762331 := hM; exact found3 (f3 := 5) (f7 := 32) h (.inr rfl) hM' (by decide) leaf3c
theorem refk49 : RefK 49 := fun n h hM => by have hM' : mat 4 n = 35 := hM; exact foundS (f3 := 0) h (by decide) hM' (by intro x rd ra rb; kernel_rfl)
theorem refk50 : RefK 50 := fun n h hM => by have hM' : mat 4 n = 4131 := hM; exact foundS (f3 := 1) h (by decide) hM' (by intro x rd ra rb; kernel_rfl)
theorem refk51 : RefK 51 := fun n h hM => by have hM' : mat 4 n = 8227 := hM; exact foundS (f3 := 2) h (by decide) hM' (by intro x rd ra rb; kernel_rfl)
theorem refk52 : RefK 52 := fun n h hM => by have hM' : mat 4 n = 12323 := hM; exact foundS (f3 := 3) h (by decide) hM' (by intro x rd ra rb; kernel_rfl)
def namesB : List ByteArray := [⟨#[98, 101, 113]⟩, ⟨#[98, 110, 101]⟩, ⟨#[]⟩, ⟨#[]⟩, ⟨#[98, 108, 116]⟩, ⟨#[98, 103, 101]⟩, ⟨#[98, 108, 116, 117]⟩, ⟨#[98, 103, 101, 117]⟩]
theorem leafBr (x rd f3 ra rb : Int) : readO x 99 rd f3 ra rb = (some namesB).bind fun y => if 0 ≤ f3 then (if f3 < (y.length : Int) then ((burinref26_Bits.f x 31 1).bind fun t1 => (burinref26_Bits.f x 7 1).bind fun t2 => (burinref26_Bits.f x 25 6).bind fun t3 => (burinref26_Bits.f x 8 4).bind fun t4 =>
      (burinref26_signed.f (wrap64 ((wrap64 ((wrap64 ((wrap64 (t1 * 4096)) + (wrap64 (t2 * 2048)))) + (wrap64 (t3 * 32)))) + (wrap64 (t4 * 2)))) 13).bind fun im => some (rdOf ByteArray.empty y f3, 0, ra, rb, im)) else none) else none := by kernel_rfl
theorem leafB2 (x rd ra rb : Int) : readO x 99 rd 2 ra rb = (burinref26_Bits.f x 31 1).bind fun t1 => (burinref26_Bits.f x 7 1).bind fun t2 => (burinref26_Bits.f x 25 6).bind fun t3 => (burinref26_Bits.f x 8 4).bind fun t4 =>
      (burinref26_signed.f (wrap64 ((wrap64 ((wrap64 ((wrap64 (t1 * 4096)) + (wrap64 (t2 * 2048)))) + (wrap64 (t3 * 32)))) + (wrap64 (t4 * 2)))) 13).bind fun im => some ((⟨#[]⟩ : ByteArray), 0, ra, rb, im) := by
  have e : rdOf ByteArray.empty namesB 2 = (⟨#[]⟩ : ByteArray) := by kernel_rfl
  rw [leafBr, Option.bind_some, if_pos (by decide), if_pos (by decide), e]
theorem leafB3 (x rd ra rb : Int) : readO x 99 rd 3 ra rb = (burinref26_Bits.f x 31 1).bind fun t1 => (burinref26_Bits.f x 7 1).bind fun t2 => (burinref26_Bits.f x 25 6).bind fun t3 => (burinref26_Bits.f x 8 4).bind fun t4 =>
      (burinref26_signed.f (wrap64 ((wrap64 ((wrap64 ((wrap64 (t1 * 4096)) + (wrap64 (t2 * 2048)))) + (wrap64 (t3 * 32)))) + (wrap64 (t4 * 2)))) 13).bind fun im => some ((⟨#[]⟩ : ByteArray), 0, ra, rb, im) := by
  have e : rdOf ByteArray.empty namesB 3 = (⟨#[]⟩ : ByteArray) := by kernel_rfl
  rw [leafBr, Option.bind_some, if_pos (by decide), if_pos (by decide), e]
theorem leafB0 (x rd ra rb : Int) : readO x 99 rd 0 ra rb = (burinref26_Bits.f x 31 1).bind fun t1 => (burinref26_Bits.f x 7 1).bind fun t2 => (burinref26_Bits.f x 25 6).bind fun t3 => (burinref26_Bits.f x 8 4).bind fun t4 =>
      (burinref26_signed.f (wrap64 ((wrap64 ((wrap64 ((wrap64 (t1 * 4096)) + (wrap64 (t2 * 2048)))) + (wrap64 (t3 * 32)))) + (wrap64 (t4 * 2)))) 13).bind fun im => some (⟨#[98, 101, 113]⟩, 0, ra, rb, im) := by
  have e : rdOf ByteArray.empty namesB 0 = (⟨#[98, 101, 113]⟩ : ByteArray) := by kernel_rfl
  rw [leafBr, Option.bind_some, if_pos (by decide), if_pos (by decide), e]
theorem refk53 : RefK 53 := fun n h hM => by have hM' : mat 5 n = 99 := hM; exact foundB (f3 := 0) h hM' (by decide) (leafB0)
theorem leafB1 (x rd ra rb : Int) : readO x 99 rd 1 ra rb = (burinref26_Bits.f x 31 1).bind fun t1 => (burinref26_Bits.f x 7 1).bind fun t2 => (burinref26_Bits.f x 25 6).bind fun t3 => (burinref26_Bits.f x 8 4).bind fun t4 =>
      (burinref26_signed.f (wrap64 ((wrap64 ((wrap64 ((wrap64 (t1 * 4096)) + (wrap64 (t2 * 2048)))) + (wrap64 (t3 * 32)))) + (wrap64 (t4 * 2)))) 13).bind fun im => some (⟨#[98, 110, 101]⟩, 0, ra, rb, im) := by
  have e : rdOf ByteArray.empty namesB 1 = (⟨#[98, 110, 101]⟩ : ByteArray) := by kernel_rfl
  rw [leafBr, Option.bind_some, if_pos (by decide), if_pos (by decide), e]
theorem refk54 : RefK 54 := fun n h hM => by have hM' : mat 5 n = 4195 := hM; exact foundB (f3 := 1) h hM' (by decide) (leafB1)
theorem leafB4 (x rd ra rb : Int) : readO x 99 rd 4 ra rb = (burinref26_Bits.f x 31 1).bind fun t1 => (burinref26_Bits.f x 7 1).bind fun t2 => (burinref26_Bits.f x 25 6).bind fun t3 => (burinref26_Bits.f x 8 4).bind fun t4 =>
      (burinref26_signed.f (wrap64 ((wrap64 ((wrap64 ((wrap64 (t1 * 4096)) + (wrap64 (t2 * 2048)))) + (wrap64 (t3 * 32)))) + (wrap64 (t4 * 2)))) 13).bind fun im => some (⟨#[98, 108, 116]⟩, 0, ra, rb, im) := by
  have e : rdOf ByteArray.empty namesB 4 = (⟨#[98, 108, 116]⟩ : ByteArray) := by kernel_rfl
  rw [leafBr, Option.bind_some, if_pos (by decide), if_pos (by decide), e]
theorem refk55 : RefK 55 := fun n h hM => by have hM' : mat 5 n = 16483 := hM; exact foundB (f3 := 4) h hM' (by decide) (leafB4)
theorem leafB5 (x rd ra rb : Int) : readO x 99 rd 5 ra rb = (burinref26_Bits.f x 31 1).bind fun t1 => (burinref26_Bits.f x 7 1).bind fun t2 => (burinref26_Bits.f x 25 6).bind fun t3 => (burinref26_Bits.f x 8 4).bind fun t4 =>
      (burinref26_signed.f (wrap64 ((wrap64 ((wrap64 ((wrap64 (t1 * 4096)) + (wrap64 (t2 * 2048)))) + (wrap64 (t3 * 32)))) + (wrap64 (t4 * 2)))) 13).bind fun im => some (⟨#[98, 103, 101]⟩, 0, ra, rb, im) := by
  have e : rdOf ByteArray.empty namesB 5 = (⟨#[98, 103, 101]⟩ : ByteArray) := by kernel_rfl
  rw [leafBr, Option.bind_some, if_pos (by decide), if_pos (by decide), e]
theorem refk56 : RefK 56 := fun n h hM => by have hM' : mat 5 n = 20579 := hM; exact foundB (f3 := 5) h hM' (by decide) (leafB5)
theorem leafB6 (x rd ra rb : Int) : readO x 99 rd 6 ra rb = (burinref26_Bits.f x 31 1).bind fun t1 => (burinref26_Bits.f x 7 1).bind fun t2 => (burinref26_Bits.f x 25 6).bind fun t3 => (burinref26_Bits.f x 8 4).bind fun t4 =>
      (burinref26_signed.f (wrap64 ((wrap64 ((wrap64 ((wrap64 (t1 * 4096)) + (wrap64 (t2 * 2048)))) + (wrap64 (t3 * 32)))) + (wrap64 (t4 * 2)))) 13).bind fun im => some (⟨#[98, 108, 116, 117]⟩, 0, ra, rb, im) := by
  have e : rdOf ByteArray.empty namesB 6 = (⟨#[98, 108, 116, 117]⟩ : ByteArray) := by kernel_rfl
  rw [leafBr, Option.bind_some, if_pos (by decide), if_pos (by decide), e]
theorem refk57 : RefK 57 := fun n h hM => by have hM' : mat 5 n = 24675 := hM; exact foundB (f3 := 6) h hM' (by decide) (leafB6)
theorem leafB7 (x rd ra rb : Int) : readO x 99 rd 7 ra rb = (burinref26_Bits.f x 31 1).bind fun t1 => (burinref26_Bits.f x 7 1).bind fun t2 => (burinref26_Bits.f x 25 6).bind fun t3 => (burinref26_Bits.f x 8 4).bind fun t4 =>
      (burinref26_signed.f (wrap64 ((wrap64 ((wrap64 ((wrap64 (t1 * 4096)) + (wrap64 (t2 * 2048)))) + (wrap64 (t3 * 32)))) + (wrap64 (t4 * 2)))) 13).bind fun im => some (⟨#[98, 103, 101, 117]⟩, 0, ra, rb, im) := by
  have e : rdOf ByteArray.empty namesB 7 = (⟨#[98, 103, 101, 117]⟩ : ByteArray) := by kernel_rfl
  rw [leafBr, Option.bind_some, if_pos (by decide), if_pos (by decide), e]
theorem refk58 : RefK 58 := fun n h hM => by have hM' : mat 5 n = 28771 := hM; exact foundB (f3 := 7) h hM' (by decide) (leafB7)
theorem refk59 : RefK 59 := fun n h hM => by have hM' : mat 6 n = 55 := hM; exact foundU (o := 55) h hM' (by intro x rd f3 ra rb; kernel_rfl)
theorem refk60 : RefK 60 := fun n h hM => by have hM' : mat 6 n = 23 := hM; exact foundU (o := 23) h hM' (by intro x rd f3 ra rb; kernel_rfl)
theorem refk61 : RefK 61 := fun n h hM => by have hM' : mat 7 n = 111 := hM; exact foundJ h hM' (by intro x rd f3 ra rb; kernel_rfl)
theorem refk62 : RefK 62 := fun n h hM => by have hM' : mat 8 n = 115 := hM; exact foundA (c := 115) h hM' rfl (by intro rd f3 ra rb; kernel_rfl)
theorem refk63 : RefK 63 := fun n h hM => by have hM' : mat 8 n = 1048691 := hM; exact foundA (c := 1048691) h hM' rfl (by intro rd f3 ra rb; kernel_rfl)
theorem refk_all : ∀ k, k < 64 → RefK k
  | 0, _ => refk0
  | 1, _ => refk1
  | 2, _ => refk2
  | 3, _ => refk3
  | 4, _ => refk4
  | 5, _ => refk5
  | 6, _ => refk6
  | 7, _ => refk7
  | 8, _ => refk8
  | 9, _ => refk9
  | 10, _ => refk10
  | 11, _ => refk11
  | 12, _ => refk12
  | 13, _ => refk13
  | 14, _ => refk14
  | 15, _ => refk15
  | 16, _ => refk16
  | 17, _ => refk17
  | 18, _ => refk18
  | 19, _ => refk19
  | 20, _ => refk20
  | 21, _ => refk21
  | 22, _ => refk22
  | 23, _ => refk23
  | 24, _ => refk24
  | 25, _ => refk25
  | 26, _ => refk26
  | 27, _ => refk27
  | 28, _ => refk28
  | 29, _ => refk29
  | 30, _ => refk30
  | 31, _ => refk31
  | 32, _ => refk32
  | 33, _ => refk33
  | 34, _ => refk34
  | 35, _ => refk35
  | 36, _ => refk36
  | 37, _ => refk37
  | 38, _ => refk38
  | 39, _ => refk39
  | 40, _ => refk40
  | 41, _ => refk41
  | 42, _ => refk42
  | 43, _ => refk43
  | 44, _ => refk44
  | 45, _ => refk45
  | 46, _ => refk46
  | 47, _ => refk47
  | 48, _ => refk48
  | 49, _ => refk49
  | 50, _ => refk50
  | 51, _ => refk51
  | 52, _ => refk52
  | 53, _ => refk53
  | 54, _ => refk54
  | 55, _ => refk55
  | 56, _ => refk56
  | 57, _ => refk57
  | 58, _ => refk58
  | 59, _ => refk59
  | 60, _ => refk60
  | 61, _ => refk61
  | 62, _ => refk62
  | 63, _ => refk63
  | k + 64, h => absurd h (by omega)
end Go.Proofs.Ytciehejifdbpoaa.Rv
