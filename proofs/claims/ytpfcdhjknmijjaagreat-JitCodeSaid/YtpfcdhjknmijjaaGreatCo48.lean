import Derived.Test.YtpfcdhjknmijjaaGreatCo40
import Derived.Test.YtpfcdhjknmijjaaGreatCo47
section
set_option linter.unusedSimpArgs false
set_option linter.unusedVariables false
set_option maxRecDepth 100000
namespace Go.Proofs.YtpfcdhjknmijjaaGreat.Jd
open Go.RowKit Go.Proofs.YtpfcdhjknmijjaaGreat.Em Go.Proofs.YtpfcdhjknmijjaaGreat.Ve Go.Proofs.YtpfcdhjknmijjaaGreat.Rv Go.Proofs.YtpfcdhjknmijjaaGreat.As Go.Proofs.YtpfcdhjknmijjaaGreat.PEmitFinds Go.Proofs.YtpfcdhjknmijjaaGreat.Ew
/-! ### The second example's code, by parts (one evaluation is too deep) -/
def textM (A : AsmS) (k : Nat) : Nat → Option (List Int)
  | 0 => some []
  | m + 1 => (textM A k m).bind fun bs => (A.ps[k + m]?).bind fun x => (pieceB A (k + m) x).map fun cs => bs ++ cs
theorem textL_add (A : AsmS) (k : Nat) (bs : List Int) (h : textL A k = some bs) : ∀ (m : Nat) (cs : List Int), textM A k m = some cs → textL A (k + m) = some (bs ++ cs)
  | 0, cs, hc => by
    have : cs = [] := by simpa [textM] using hc.symm
    rw [this, List.append_nil]; exact h
  | m + 1, cs, hc => by
    unfold textM at hc
    obtain ⟨a, h1, hc⟩ := Option.bind_eq_some_iff.1 hc
    obtain ⟨x, h2, hc⟩ := Option.bind_eq_some_iff.1 hc
    obtain ⟨b, h3, rfl⟩ := Option.map_eq_some_iff.1 hc
    have ih := textL_add A k bs h m a h1
    show (textL A (k + m)).bind _ = _
    rw [ih, Option.bind_some]
    simp only [Nat.add_eq]
    rw [h2, Option.bind_some, h3]
    simp
def shortN (A : AsmS) (a n : Nat) : Bool := (List.range n).all fun i => !needs A (fun _ => false) (a + i) && !((A.ps[a + i]?).map Pc.long).getD false
def seg (a b : Nat) : List Int := ((T2s.data.toList.drop a).take (b - a)).map fun x => (x.toNat : Int)
theorem n2 : (codeA P2 5 2).ps.length = 161 := by decide +kernel
theorem s2a : shortN (codeA P2 5 2) 0 41 = true := by decide +kernel
theorem s2b : shortN (codeA P2 5 2) 41 41 = true := by decide +kernel
theorem s2c : shortN (codeA P2 5 2) 82 41 = true := by decide +kernel
theorem s2d : shortN (codeA P2 5 2) 123 38 = true := by decide +kernel
theorem t2a : textM (codeA P2 5 2) 0 41 = some (seg 0 164) := by decide +kernel
theorem t2b : textM (codeA P2 5 2) 41 41 = some (seg 164 328) := by decide +kernel
theorem t2c : textM (codeA P2 5 2) 82 41 = some (seg 328 492) := by decide +kernel
theorem t2d : textM (codeA P2 5 2) 123 38 = some (seg 492 648) := by decide +kernel
theorem seg_add {a b c : Nat} (h1 : a ≤ b) (h2 : b ≤ c) : seg a b ++ seg b c = seg a c := by
  unfold seg
  rw [← List.map_append]
  congr 1
  rw [show c - a = (b - a) + (c - b) by omega, List.take_add, List.drop_drop, show a + (b - a) = b by omega]
theorem size2 : T2s.size = 648 := by decide +kernel
theorem str_back (s : ByteArray) : strOf (s.data.toList.map fun x => (x.toNat : Int)) = s := by
  apply Ht.ba_inj
  rw [Ht.strOf_data, List.map_map]
  conv => rhs; rw [← List.map_id s.data.toList]
  apply List.map_congr_left
  intro x _
  show UInt8.ofNat ((x.toNat : Int).toNat) = x
  rw [Int.toNat_natCast, UInt8.ofNat_toNat]
theorem t2s : strOf (((seg 0 164 ++ seg 164 328) ++ seg 328 492) ++ seg 492 648) = T2s := by
  rw [seg_add (by decide) (by decide), seg_add (by decide) (by decide), seg_add (by decide) (by decide)]
  have e : seg 0 648 = T2s.data.toList.map fun x => (x.toNat : Int) := by
    unfold seg
    rw [List.drop_zero, List.take_of_length_le]
    have := size2
    show T2s.data.toList.length ≤ 648
    rw [Array.length_toList]
    exact Nat.le_of_eq this
  rw [e, str_back]
theorem shortN_at {A : AsmS} {a n : Nat} (h : shortN A a n = true) {i : Nat} (h1 : a ≤ i) (h2 : i < a + n) : (!needs A (fun _ => false) i && !((A.ps[i]?).map Pc.long).getD false) = true := by
  have := List.all_eq_true.1 h (i - a) (List.mem_range.2 (by omega))
  rw [show a + (i - a) = i by omega] at this
  exact this
theorem short2 : shortB (codeA P2 5 2) = true := by
  refine List.all_eq_true.2 fun i hi => ?_
  have hi := List.mem_range.1 hi
  rw [n2] at hi
  by_cases h1 : i < 41
  · exact shortN_at s2a (Nat.zero_le _) (by omega)
  · by_cases h2 : i < 82
    · exact shortN_at s2b (by omega) (by omega)
    · by_cases h3 : i < 123
      · exact shortN_at s2c (by omega) (by omega)
      · exact shortN_at s2d (by omega) (by omega)
theorem text2 : textT (codeA P2 5 2) = (T2s, 0) := by
  have a1 := textL_add (codeA P2 5 2) 0 [] rfl 41 _ t2a
  have a2 := textL_add (codeA P2 5 2) (0 + 41) _ a1 41 _ t2b
  have a3 := textL_add (codeA P2 5 2) (0 + 41 + 41) _ a2 41 _ t2c
  have a4 := textL_add (codeA P2 5 2) (0 + 41 + 41 + 41) _ a3 38 _ t2d
  unfold textT
  rw [n2]
  rw [show 0 + 41 + 41 + 41 + 38 = 161 from rfl] at a4
  rw [a4, List.nil_append]
  show (strOf (((seg 0 164 ++ seg 164 328) ++ seg 328 492) ++ seg 492 648), (0 : Int)) = _
  rw [t2s]
theorem code2 : codeT P2 5 2 = (T2s, 0) := by
  unfold codeT
  rw [settle_short short2, text2]
  dsimp only
  rw [if_neg (by rw [size2]; decide)]
end Go.Proofs.YtpfcdhjknmijjaaGreat.Jd
end
section
set_option linter.unusedSimpArgs false
set_option linter.unusedVariables false
set_option maxRecDepth 100000
namespace Go.Proofs.YtpfcdhjknmijjaaGreat.Jd
open Go.RowKit Go.Proofs.YtpfcdhjknmijjaaGreat.Em Go.Proofs.YtpfcdhjknmijjaaGreat.Ve Go.Proofs.YtpfcdhjknmijjaaGreat.Rv Go.Proofs.YtpfcdhjknmijjaaGreat.As Go.Proofs.YtpfcdhjknmijjaaGreat.PEmitFinds Go.Proofs.YtpfcdhjknmijjaaGreat.Ew Go.Proofs.YtpfcdhjknmijjaaGreat.Ht
/-! ### The second example's runs -/
def R2 : List RegIn := [⟨65536, T2s, 4⟩, ⟨16777216, tabS, 1⟩, ⟨33554432, ⟨#[97, 98]⟩, 1⟩, ⟨67108864, rep 255 16 ++ rep 0 328, 3⟩]
def O2 (lo : Bool) : HartS × Nat × Int := runF 32768 4608 0 (readyF (memOf R2) 2 0 false lo)
def chk2 (lo : Bool) (z : Int) : Bool := (O2 lo).2.2 == 0 && decide (0 < (O2 lo).2.1) && (O2 lo).1.reg 10 == 1 && ((workB (O2 lo) 3).length == 344) && ((workB (O2 lo) 3).drop 16).take 16 == [0, 0, 0, 0, 0, 0, 0, 0, z, 0, 0, 0, 0, 0, 0, 0]
set_option maxHeartbeats 4000000 in
theorem run2a : chk2 false 1 = true := by decide +kernel
set_option maxHeartbeats 4000000 in
theorem run2b : chk2 true 2 = true := by decide +kernel
end Go.Proofs.YtpfcdhjknmijjaaGreat.Jd
end
section
set_option linter.unusedSimpArgs false
set_option linter.unusedVariables false
set_option maxRecDepth 100000
namespace Go.Proofs.YtpfcdhjknmijjaaGreat.Jd
open Go.RowKit Go.Proofs.YtpfcdhjknmijjaaGreat.Em Go.Proofs.YtpfcdhjknmijjaaGreat.Ve Go.Proofs.YtpfcdhjknmijjaaGreat.Rv Go.Proofs.YtpfcdhjknmijjaaGreat.As Go.Proofs.YtpfcdhjknmijjaaGreat.PEmitFinds Go.Proofs.YtpfcdhjknmijjaaGreat.Ew Go.Proofs.YtpfcdhjknmijjaaGreat.Ht
theorem regs2 : jit_regions.f 100 (four T2s ⟨#[97, 98]⟩ 16 328) = some (four T2s ⟨#[97, 98]⟩ 16 328) := by kernel_rfl
theorem work2 : workF 6 2 2 = 344 := by decide
theorem fuel2 : fuelF 6 2 = 4608 := by decide
theorem R2_0 : RegOk (endF R2 0) ⟨65536, T2s, 4⟩ := ⟨by decide +kernel, by decide +kernel, by decide +kernel, by decide +kernel, by decide +kernel, by decide +kernel, by decide +kernel⟩
theorem R2_1 : RegOk (endF R2 1) ⟨16777216, tabS, 1⟩ := ⟨by decide +kernel, by decide +kernel, by decide +kernel, by decide +kernel, by decide +kernel, by decide +kernel, by decide +kernel⟩
theorem R2_2 : RegOk (endF R2 2) ⟨33554432, ⟨#[97, 98]⟩, 1⟩ := ⟨by decide +kernel, by decide +kernel, by decide +kernel, by decide +kernel, by decide +kernel, by decide +kernel, by decide +kernel⟩
theorem R2_3 : RegOk (endF R2 3) ⟨67108864, rep 255 16 ++ rep 0 328, 3⟩ := ⟨by decide +kernel, by decide +kernel, by decide +kernel, by decide +kernel, by decide +kernel, by decide +kernel, by decide +kernel⟩
theorem R2_ok : RegsOk R2
  | 0, _ => R2_0
  | 1, _ => R2_1
  | 2, _ => R2_2
  | 3, _ => R2_3
  | k + 4, h => absurd h (by show ¬ k + 4 < 4; omega)
theorem same2 : ∀ (i : Nat) (h : i < R2.length), (rd_T89 (four T2s ⟨#[97, 98]⟩ 16 328) i).f0 = R2[i].base ∧ (rd_T89 (four T2s ⟨#[97, 98]⟩ 16 328) i).f1 = R2[i].data ∧ (rd_T89 (four T2s ⟨#[97, 98]⟩ 16 328) i).f2 = R2[i].rights
  | 0, _ => ⟨rfl, rfl, rfl⟩
  | 1, _ => ⟨rfl, rfl, rfl⟩
  | 2, _ => ⟨rfl, rfl, rfl⟩
  | 3, _ => ⟨rfl, rfl, rfl⟩
  | n + 4, h => absurd h (by show ¬ n + 4 < 4; omega)
theorem ready_good {M : MemS} (hM : GoodM M ∧ GoodB M) {sz from_ : Int} (h1 : U64 sz) (h2 : U64 from_) (an lo : Bool) : GoodH (readyF M sz from_ an lo) := by
  have f : ∀ b, U64 (flagF b) := fun b => by cases b <;> (unfold U64 flagF; decide)
  unfold readyF
  exact put_good (put_good (put_good (put_good (put_good (put_good (put_good (put_good (new_good hM (by unfold U64; omega)) _ (by unfold U64; omega)) _ (by unfold U64; omega)) _ h1) _ h2) _ (f an)) _ (f lo)) _ (by unfold U64; omega)) _ (by unfold U64; omega)
end Go.Proofs.YtpfcdhjknmijjaaGreat.Jd
end
