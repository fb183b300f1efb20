import Derived.Test.YtciehejifdbpoaaRvTab
namespace Go.Proofs.Ytciehejifdbpoaa.Rv
open Go.RowKit
open Go.Proofs.YtciehejifdbpoaaW.PrintWords Go.Proofs.YtciehejifdbpoaaW.PrintLast Go.Proofs.YtciehejifdbpoaaW.PrintMore
open Go.Proofs.Ytciehejifdbpoaa.PRvcodeDecodes

def ownI (f : Int) : Int := if f = 0 ∨ f = 3 then 4261441663 else if f = 2 then 4227887231 else if f = 6 ∨ f = 7 then 127 else if f = 8 then 4294967295 else 28799
theorem own_val (f : Int) : rvcode_form_own.f 9 f = some (ownI f) := by
  by_cases h0 : f = 0
  · subst h0; rfl
  by_cases h3 : f = 3
  · subst h3; rfl
  by_cases h2 : f = 2
  · subst h2; rfl
  by_cases h6 : f = 6
  · subst h6; rfl
  by_cases h7 : f = 7
  · subst h7; rfl
  by_cases h8 : f = 8
  · subst h8; rfl
  simp [rvcode_form_own.f, rvcode_form_own.j0, rvcode_form_own.j1, ownI, h0, h3, h2, h6, h7, h8]
theorem own_any (f : Int) (w : World) : Calls Try.prog 53 #[.int .i64 f] w fun e w' => e = .returned (.int .u32 (ownI f)) ∧ ∃ n, w' = w.drewN n :=
  (rvcode_form_own.calls 9 f _ w (own_val f)).mono fun _ _ ⟨he, hd⟩ => ⟨he, hd.out⟩

/-- What a form has: the parts of an instruction, and where its number lies. -/
def prt (f : Int) : Bool × Bool × Bool × Int × Int × Int :=
  if f = 0 then (true, true, true, 0, 0, 1) else if f = 1 then (true, true, false, -2048, 2047, 1) else if f = 2 then (true, true, false, 0, 63, 1)
  else if f = 3 then (true, true, false, 0, 31, 1) else if f = 4 then (false, true, true, -2048, 2047, 1) else if f = 5 then (false, true, true, -4096, 4094, 2)
  else if f = 6 then (true, false, false, -524288, 524287, 1) else if f = 7 then (true, false, false, -1048576, 1048574, 2) else (false, false, false, 0, 0, 1)

set_option maxHeartbeats 1000000 in
set_option maxRecDepth 100000 in
theorem parts_any (f : Int) (w : World) : Calls Try.prog 54 #[.int .i64 f] w fun e w' => e = .returned (.agg #[.bool (prt f).1, .bool (prt f).2.1, .bool (prt f).2.2.1, .int .i64 (prt f).2.2.2.1, .int .i64 (prt f).2.2.2.2.1, .int .i64 (prt f).2.2.2.2.2]) ∧ ∃ o, w.alloc o = w' := by
  go_enter Try.func54, Try.ntmps54
  go_wp2
  all_goals
    refine bodyPost_ret (v := .agg #[.bool (prt f).1, .bool (prt f).2.1, .bool (prt f).2.2.1, .int .i64 (prt f).2.2.2.1, .int .i64 (prt f).2.2.2.2.1, .int .i64 (prt f).2.2.2.2.2]) ?_ rfl ⟨rfl, _, rfl⟩
    simp_all [results, Try.results54, go_sem, prt]
end Go.Proofs.Ytciehejifdbpoaa.Rv
