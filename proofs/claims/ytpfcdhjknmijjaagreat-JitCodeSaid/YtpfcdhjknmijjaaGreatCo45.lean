import Derived.Test.YtpfcdhjknmijjaaGreatCo40
import Derived.Test.YtpfcdhjknmijjaaGreatCo43
section
set_option linter.unusedSimpArgs false
set_option linter.unusedVariables false
set_option maxRecDepth 100000
namespace Go.Proofs.YtpfcdhjknmijjaaGreat.Jd
open Go.RowKit Go.Maps Go.Proofs.YtpfcdhjknmijjaaGreat.Em Go.Proofs.YtpfcdhjknmijjaaGreat.Ve Go.Proofs.YtpfcdhjknmijjaaGreat.Grow Go.Proofs.YtpfcdhjknmijjaaGreat.Rv Go.Proofs.YtpfcdhjknmijjaaGreat.PEmitFinds Go.Proofs.YtpfcdhjknmijjaaGreat.Ht Go.Proofs.YtpfcdhjknmijjaaGreat.Ew
open Go.Proofs.YtpfcdhjknmijjaaGreatW.PrintWords Go.Proofs.YtpfcdhjknmijjaaGreatW.PrintLast Go.Proofs.YtpfcdhjknmijjaaGreatW.PrintMore
variable {w0 w : World} {g : Nat} {l : List S61} {st sl : Int} {out : List Int}
/-! ### The pairs of a search -/
def bitF (n sz : Int) : Int := if Int.tdiv 262144 (sz + 1) < n then 262145 else n * (sz + 1)
set_option maxHeartbeats 2000000 in
theorem bits_calls (h : IsS63 w0 w g l st sl out) (hn : l.length ≤ 4000) (s : ByteArray) (hs : s.size ≤ 1000000) : Calls Tryz.prog 50 #[.pointer (some ⟨g, 0, none⟩), .string s] w fun e w' => e = .returned (.int .i64 (bitF l.length s.size)) ∧ Below w.heap.size w w' := by
  have LC := Aside0.mk (fun k => (lenc63 (h.drewN k)).mono (fun e w' hh => show e = .returned (.int .i64 (l.length : Int)) ∧ w' = w.drewN k from ⟨hh.1, hh.2.symm⟩))
  have LC2 := Aside0.mk (fun k => lenc63 (h.drewN k))
  obtain ⟨n, hN⟩ : ∃ n, l.length = n := ⟨_, rfl⟩
  obtain ⟨z, hz⟩ : ∃ z, s.size = z := ⟨_, rfl⟩
  rw [hN] at LC LC2 hn ⊢
  rw [hz] at hs ⊢
  clear hN h
  have e1 : IntKind.i64.wrap ((z : Int) + 1) = (z : Int) + 1 := IntWalk.i64_in _ (by omega)
  have ez : ((z : Int) + 1 == 0) = false := beq_eq_false_iff_ne.2 (by omega)
  have e0 : ¬ (z : Int) + 1 = 0 := by omega
  obtain ⟨q, hq⟩ : ∃ q, Int.tdiv 262144 ((z : Int) + 1) = q := ⟨_, rfl⟩
  have hqb : 0 ≤ q ∧ q ≤ 262144 ∧ (q * ((z : Int) + 1) ≤ 262144) := by
    rw [Int.tdiv_eq_ediv_of_nonneg (by decide)] at hq
    have h1 := Int.ediv_nonneg (show (0 : Int) ≤ 262144 by decide) (show (0 : Int) ≤ (z : Int) + 1 by omega)
    have h2 := Int.ediv_mul_le 262144 (show (z : Int) + 1 ≠ 0 by omega)
    have h3 := Int.ediv_le_self (b := (z : Int) + 1) (show (0 : Int) ≤ 262144 by decide)
    rw [hq] at h1 h2 h3
    exact ⟨h1, h3, h2⟩
  have eq_ : IntKind.i64.wrap q = q := IntWalk.i64_in _ (by omega)
  unfold bitF
  rw [hq]
  by_cases hlt : q < (n : Int)
  · have hd : decide (q < (n : Int)) = true := decide_eq_true hlt
    rw [if_pos hlt]
    clear hqb hlt hs hn
    go_enter Tryz.func50, Tryz.ntmps50
    go_wp2_with fail
    go_quiet ((go_at_call 35; exact Calls.quiet_of_same (LC.out _)))
    go_wp2_with fail
    go_ret
    exact ⟨rfl, pw_below_drewN (Below.refl _ _) _⟩
  · have hd : decide (q < (n : Int)) = false := decide_eq_false hlt
    have hm : (n : Int) * ((z : Int) + 1) ≤ 262144 := Int.le_trans (Int.mul_le_mul_of_nonneg_right (by omega) (by omega)) hqb.2.2
    have hm0 : 0 ≤ (n : Int) * ((z : Int) + 1) := Int.mul_nonneg (by omega) (by omega)
    have e2 : IntKind.i64.wrap ((n : Int) * ((z : Int) + 1)) = (n : Int) * ((z : Int) + 1) := IntWalk.i64_in _ (by omega)
    have e3 : wrap64 ((n : Int) * ((z : Int) + 1)) = (n : Int) * ((z : Int) + 1) := by unfold wrap64; omega
    rw [if_neg hlt]
    clear hqb hlt hs hn hm hm0
    go_enter Tryz.func50, Tryz.ntmps50
    go_wp2_with fail
    go_quiet ((go_at_call 35; exact Calls.quiet_of_same (LC.out _)))
    go_wp2_with (first | (go_at_call 35; refine (LC2.out _).mono ?_; rintro e wq ⟨rfl, rfl⟩))
    go_ret
    exact ⟨rfl, pw_below_drewN (Below.refl _ _) _⟩

/-! ### The machine's object, its text -/
structure JitIs (w0 w : World) (J g : Nat) (l : List S61) (st sl : Nat) (out : List Int) (T : ByteArray) : Prop where
  chk : IsS63 w0 w g l st sl out
  old : Below w0.heap.size w0 w
  obj : w.heap[J]? = some (.cells #[.pointer (some ⟨g, 0, none⟩), .string T] 101 (0, 0))
theorem JitIs.below {w0 w w' : World} {J g : Nat} {l : List S61} {st sl : Nat} {out : List Int} {T : ByteArray} (h : JitIs w0 w J g l st sl out T) (hb : Below w.heap.size w w') : JitIs w0 w' J g l st sl out T :=
  ⟨h.chk.below hb, h.old.trans (hb.mono h.old.size), blk_below h.obj hb⟩
set_option maxHeartbeats 2000000 in
theorem jnew_calls {w0 w : World} {g : Nat} {l : List S61} {st sl : Nat} {out : List Int} (h : IsS63 w0 w g l st sl out) (hB : Below w0.heap.size w0 w) (hV : ValidP l st sl) {T : ByteArray} (hc : codeT l st sl = (T, 0)) :
    Calls Tryz.prog 20 #[.pointer (some ⟨g, 0, none⟩)] w fun e w' => ∃ J, e = .returned (.tuple #[.pointer (some ⟨J, 0, none⟩), .int .i64 0]) ∧ JitIs w0 w' J g l st sl out T ∧ Below w.heap.size w w' := by
  have CC := Aside0.mk (code_calls h hB hV)
  rw [hc] at CC
  have H := Aside0.mk h
  have HB := Aside0.mk hB
  clear h hB hc
  go_enter Tryz.func20, Tryz.ntmps20
  go_wp2_with fail
  refine CC.out.mono ?_
  rintro e w1 ⟨rfl, hb⟩
  have HH := Aside0.mk hb
  clear hb CC
  go_wp2_with fail
  refine bodyPost_ret (v := .tuple #[.pointer (some ⟨w1.heap.size, 0, none⟩), .int .i64 0]) (by simp [results, Tryz.results20, go_sem]) rfl ⟨w1.heap.size, rfl, ⟨(H.out.below HH.out).alloc _, below_alloc (HB.out.trans (HH.out.mono HB.out.size)) _, heap_alloc_new _ _⟩, below_alloc HH.out _⟩
set_option maxHeartbeats 1000000 in
theorem jtext_calls {w : World} {J : Nat} {a : Value} {T : ByteArray} (h : w.heap[J]? = some (.cells #[a, .string T] 101 (0, 0))) : Calls Tryz.prog 25 #[.pointer (some ⟨J, 0, none⟩)] w fun e w' => e = .returned (.string T) ∧ w = w' := by
  have c1 := blk_cell h 1
  have z := blk_lt h
  clear h
  go_enter Tryz.func25, Tryz.ntmps25
  go_wp2
  go_ret
  exact ⟨rfl, rfl⟩
end Go.Proofs.YtpfcdhjknmijjaaGreat.Jd
end
