import Derived.Test.YtpfcdhjknmijjaaGreatCo51
import Derived.Test.YtpfcdhjknmijjaaGreatCo41
section
set_option linter.unusedSimpArgs false
set_option linter.unusedVariables false
set_option maxRecDepth 100000
namespace Go.Proofs.YtpfcdhjknmijjaaGreat.Jd
open Go.RowKit Go.Maps Go.Proofs.YtpfcdhjknmijjaaGreat.Em Go.Proofs.YtpfcdhjknmijjaaGreat.Ve Go.Proofs.YtpfcdhjknmijjaaGreat.Grow Go.Proofs.YtpfcdhjknmijjaaGreat.Rv Go.Proofs.YtpfcdhjknmijjaaGreat.PEmitFinds Go.Proofs.YtpfcdhjknmijjaaGreat.Ht Go.Proofs.YtpfcdhjknmijjaaGreat.Ew
open Go.Proofs.YtpfcdhjknmijjaaGreatW.PrintWords Go.Proofs.YtpfcdhjknmijjaaGreatW.PrintLast Go.Proofs.YtpfcdhjknmijjaaGreatW.PrintMore
/-! ### The law -/
theorem size_ne {T : ByteArray} (h : 4 ≤ T.size) : T.toList.isEmpty = false := by
  rw [ByteArray.toList_eq]
  cases hh : T.data.toList with
  | nil => have : T.data.toList.length = 0 := by rw [hh]; rfl
           have h2 : T.size = T.data.toList.length := rfl
           omega
  | cons a l => rfl
set_option maxHeartbeats 8000000 in
theorem code6_calls {w : World} {A : Option Addr} {cap : Nat} {l : List S61} (st sl : Int) (h : Kd.C k61 w A l.length l) (hc : l.length ≤ cap) :
    Calls Tryz.prog 6 #[.agg #[.slice A l.length cap, .int .i64 st, .int .i64 sl]] w fun e w' => e = .returned (.bool true) ∧ Below w.heap.size w w' := by
  obtain ⟨wa, hwa⟩ : ∃ wa, w.alloc (.cells #[.slice A l.length cap, .int .i64 st, .int .i64 sl] 24) = wa := ⟨_, rfl⟩
  have hx : wa.heap[w.heap.size]? = some (.cells #[.slice A l.length cap, .int .i64 st, .int .i64 sl] 24 (0, 0)) := by rw [← hwa]; exact heap_alloc_new _ _
  have B1 : Below w.heap.size w wa := by rw [← hwa]; exact below_alloc (Below.refl _ _) _
  have BA := Aside0.mk B1
  have HX := Aside0.mk hx
  have KL := Aside0.mk (And.intro (Kd.C_below h B1) hc)
  obtain ⟨n, hn⟩ : ∃ n, l.length = n := ⟨_, rfl⟩
  have HN := Aside0.mk hn
  rw [hn] at hx HX hwa ⊢
  clear h hc B1 hn
  go_enter Tryz.func6, Tryz.ntmps6
  go_wp2_with fail
  try rw [hwa]
  clear hwa hx
  refine (works31_calls wa).mono ?_
  rintro e w0' ⟨rfl, hb⟩
  have B2 := Aside0.mk (BA.out.trans (hb.mono BA.out.size))
  have X2 := Aside0.mk (blk_below HX.out hb)
  have K2 := Aside0.mk (Kd.C_below KL.out.1 hb)
  have hx2 := X2.out
  have CN := Aside0.mk (new_calls st sl K2.out KL.out.2)
  rw [HN.out] at CN
  clear hb HX BA
  go_wp2_with (first | (refine wpList_load24 rfl _ rfl w.heap.size _ _ _ rfl hx2 ?_))
  clear hx2
  refine CN.out.mono ?_
  rintro e w1 hr
  rcases hr with ⟨g, w0, out, rfl, hv, ho, hI, hb0, hb1⟩ | ⟨c, rfl, hbad, hb⟩
  · have hb := hb0.trans (hb1.mono hb0.size)
    have B3 := Aside0.mk (B2.out.trans (hb.mono B2.out.size))
    have X3 := Aside0.mk (blk_below X2.out hb)
    have e0 := blk_cell X3.out 0
    have z0 := blk_lt X3.out
    obtain ⟨stn, rfl⟩ : ∃ k : Nat, st = (k : Int) := ⟨st.toNat, by have := hv.chk.st; omega⟩
    obtain ⟨sln, rfl⟩ : ∃ k : Nat, sl = (k : Int) := ⟨sl.toNat, by have := hv.chk.sl; omega⟩
    have hI2 := Aside0.mk hI
    have hV := Aside0.mk hv
    have HB1 := Aside0.mk hb1
    clear hb0 hb1 hb ho CN hI hv X2 K2
    by_cases hlen : n ≤ 200
    · have hd : decide ((200 : Int) < (n : Int)) = false := decide_eq_false (by omega)
      obtain ⟨w1_, w2_, w3_, w4_⟩ := Jc.code_whole hV.out (by rw [HN.out]; exact hlen)
      obtain ⟨T, hT⟩ : ∃ T, (codeT l stn sln).1 = T := ⟨_, rfl⟩
      have hcode : codeT l stn sln = (T, 0) := by rw [← hT]; exact Prod.ext rfl w1_
      rw [hT] at w2_ w3_ w4_
      have CJ := Aside0.mk (jnew_calls hI2.out HB1.out hV.out hcode)
      have HC := Aside0.mk hcode
      have hne := size_ne w3_
      have hrem : Int.tmod (T.size : Int) 4 = 0 := by rw [Int.tmod_eq_emod_of_nonneg (by omega)]; omega
      clear hT hlen w1_ w2_ w3_ w4_ hcode
      go_wp2_with fail
      refine CJ.out.mono ?_
      rintro e w2 ⟨J, rfl, hJ, hb⟩
      have B4 := Aside0.mk (B3.out.trans (hb.mono B3.out.size))
      have J4 := Aside0.mk hJ
      have CC0 := code_calls (hI2.out.below hb) (HB1.out.trans (hb.mono HB1.out.size)) hV.out
      rw [HC.out] at CC0
      have CC := Aside0.mk CC0
      clear CC0 hb hJ CJ e0 z0
      go_wp2_with fail
      refine CC.out.mono ?_
      rintro e w3 ⟨rfl, hb⟩
      have B5 := Aside0.mk (B4.out.trans (hb.mono B4.out.size))
      have TX := Aside0.mk (jtext_calls (J4.out.below hb).obj)
      clear hb CC
      go_wp2_with (first | (go_at_call 25; refine TX.out.mono ?_; rintro e wq ⟨rfl, rfl⟩))
      go_ret
      exact ⟨rfl, B5.out⟩
    · have hd : decide ((200 : Int) < (n : Int)) = true := decide_eq_true (by omega)
      clear hlen
      go_wp2_with fail
      go_ret
      exact ⟨rfl, B3.out⟩
  · have B3 := Aside0.mk (B2.out.trans (hb.mono B2.out.size))
    clear hb CN X2 K2
    rcases hbad with ⟨rfl, _⟩ | ⟨rfl, _⟩ | ⟨rfl, _⟩ | ⟨rfl, _⟩
    all_goals
      go_wp2_with fail
      go_ret
      exact ⟨rfl, B3.out⟩
end Go.Proofs.YtpfcdhjknmijjaaGreat.Jd
end
