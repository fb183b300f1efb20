import Derived.Test.YtpfcdhjknmijjaaGreatCo38
import Derived.Test.YtpfcdhjknmijjaaGreatCo39
section
set_option linter.unusedSimpArgs false
set_option linter.unusedVariables false
set_option maxRecDepth 100000
namespace Go.Proofs.YtpfcdhjknmijjaaGreat.Ew
open Go.RowKit Go.Maps Go.Proofs.YtpfcdhjknmijjaaGreat.Em Go.Proofs.YtpfcdhjknmijjaaGreat.Ve Go.Proofs.YtpfcdhjknmijjaaGreat.Grow Go.Proofs.YtpfcdhjknmijjaaGreat.Rv Go.Proofs.YtpfcdhjknmijjaaGreat.PEmitFinds Go.Proofs.YtpfcdhjknmijjaaGreat.Ht
open Go.Proofs.YtpfcdhjknmijjaaGreatW.PrintWords Go.Proofs.YtpfcdhjknmijjaaGreatW.PrintLast Go.Proofs.YtpfcdhjknmijjaaGreatW.PrintMore
attribute [local irreducible] runF setsF H1 O1 workB burinref30_Regions.f burinref30_Told.f T1s L1 R1 codeT
end Go.Proofs.YtpfcdhjknmijjaaGreat.Ew
end
section
set_option linter.unusedSimpArgs false
set_option linter.unusedVariables false
set_option maxRecDepth 100000
namespace Go.Proofs.YtpfcdhjknmijjaaGreat.Ew
open Go.RowKit Go.Maps Go.Proofs.YtpfcdhjknmijjaaGreat.Em Go.Proofs.YtpfcdhjknmijjaaGreat.Ve Go.Proofs.YtpfcdhjknmijjaaGreat.Grow Go.Proofs.YtpfcdhjknmijjaaGreat.Rv Go.Proofs.YtpfcdhjknmijjaaGreat.PEmitFinds Go.Proofs.YtpfcdhjknmijjaaGreat.Ht
open Go.Proofs.YtpfcdhjknmijjaaGreatW.PrintWords Go.Proofs.YtpfcdhjknmijjaaGreatW.PrintLast Go.Proofs.YtpfcdhjknmijjaaGreatW.PrintMore
theorem own61 {w : World} {g : Nat} {l : List S61} (h : w.heap[g]? = some (.cells (l.flatMap c61).toArray 61 (0, 0))) (hp : l.length ≤ 1000000) : Kd.C k61 w (some ⟨g, 0, none⟩) l.length l :=
  (Kd.R_reads' (k61_of_row (base := 0) ⟨by rw [flat_len c61 5 c61_len], .inr ⟨g, l.length, _, rfl, Nat.zero_le _, h, Nat.le_refl _, by unfold maxLen; omega, by simp [flat_len c61 5 c61_len], by rw [List.take_of_length_le (by simp [flat_len c61 5 c61_len])]⟩⟩)).2.2
theorem ints_C {w : World} {g : Nat} {l : List Int} (h : w.heap[g]? = some (.cells (l.map (Value.int .i64)).toArray 3 (0, 0))) (hp : l.length ≤ 1000000) : Kd.C (Kd.int .i64) w (some ⟨g, 0, none⟩) l.length l :=
  (Kd.R_reads' (Kd.R_of_own (ok := fun _ => True) (base := 0) (e := 3) ⟨by simp [encs], .inr ⟨g, l.length, _, rfl, Nat.zero_le _, h, Nat.le_refl _, by unfold maxLen; omega, by simp, by rw [List.take_of_length_le (by simp [encs])]; rfl⟩⟩ (fun _ _ => trivial))).2.2
end Go.Proofs.YtpfcdhjknmijjaaGreat.Ew
end
