import Derived.Test.YtpfcdhjknmijjaaGreatTe44
section
set_option linter.unusedSimpArgs false
set_option linter.unusedVariables false
set_option maxRecDepth 100000
namespace Go.Proofs.YtpfcdhjknmijjaaGreat.Ew
open Go.RowKit Go.Maps Go.Proofs.YtpfcdhjknmijjaaGreat.Em Go.Proofs.YtpfcdhjknmijjaaGreat.Ve Go.Proofs.YtpfcdhjknmijjaaGreat.Grow Go.Proofs.YtpfcdhjknmijjaaGreat.Rv Go.Proofs.YtpfcdhjknmijjaaGreat.PEmitFinds Go.Proofs.YtpfcdhjknmijjaaGreat.Ht
open Go.Proofs.YtpfcdhjknmijjaaGreatW.PrintWords Go.Proofs.YtpfcdhjknmijjaaGreatW.PrintLast Go.Proofs.YtpfcdhjknmijjaaGreatW.PrintMore
theorem w64_of {z : Int} (h : -9223372036854775808 ≤ z ∧ z < 9223372036854775808) : wrap64 z = z := by unfold wrap64; omega
theorem pairs_eq {l : List S61} (hn : l.length ≤ 4000) (st sl len : Int) : burinref30_Pairs.f l st sl len = some (pairsF l.length len) := by
  unfold burinref30_Pairs.f pairsF
  split
  · rfl
  · split
    · rfl
    · have h1 : 0 ≤ (l.length : Int) * (len + 1) := Int.mul_nonneg (by omega) (by omega)
      have h2 : (l.length : Int) * (len + 1) ≤ 4000 * 262145 := Int.mul_le_mul (by omega) (by omega) (by omega) (by omega)
      rw [w64_of (z := len + 1) (by omega), w64_of (by omega)]
theorem work_eq {l : List S61} (hn : l.length ≤ 4000) (st : Int) {sl : Int} (hs : 0 ≤ sl ∧ sl ≤ 64) (len : Int) : burinref30_Work.f l st sl len = some (workF l.length sl len) := by
  unfold burinref30_Work.f workF
  rw [pairs_eq hn]
  have hp := pairsF_b hn len
  generalize pairsF (l.length : Int) len = p at *
  simp only [Option.bind_some]
  by_cases h0 : p = 0
  · rw [if_pos h0, if_pos h0]
  · rw [if_neg h0, if_neg h0]
    have ht : Int.tdiv p 64 = p / 64 := Int.tdiv_eq_ediv_of_nonneg hp.1
    have hm : Int.tmod p 64 = p % 64 := Int.tmod_eq_emod_of_nonneg hp.1
    rw [ht, hm]
    split
    · rw [w64_of (z := p / 64) (by omega), w64_of (z := 16 * sl) (by omega), w64_of (z := 8 * (p / 64)) (by omega), w64_of (z := p + 1) (by omega), w64_of (z := 16 * (p + 1)) (by omega), w64_of (z := 16 * sl + 8 * (p / 64)) (by omega), w64_of (by omega)]
      congr 1; omega
    · rw [w64_of (z := p / 64) (by omega), w64_of (z := p / 64 + 1) (by omega), w64_of (z := 16 * sl) (by omega), w64_of (z := 8 * (p / 64 + 1)) (by omega), w64_of (z := p + 1) (by omega), w64_of (z := 16 * (p + 1)) (by omega), w64_of (z := 16 * sl + 8 * (p / 64 + 1)) (by omega), w64_of (by omega)]
      congr 1; omega
set_option maxHeartbeats 8000000 in
theorem tells_calls {w : World} {A : Option Addr} {cap : Nat} {l : List S61} (st sl len : Int) (h : Kd.C k61 w A l.length l) (hc : l.length ≤ cap) :
    Calls Tryz.prog 3 #[.agg #[.slice A l.length cap, .int .i64 st, .int .i64 sl], .int .i64 len] w fun e w' => e = .returned (.bool true) ∧ Below w.heap.size w w' := by
  obtain ⟨wa, hwa⟩ : ∃ wa, w.alloc (.cells #[.slice A l.length cap, .int .i64 st, .int .i64 sl] 24) = wa := ⟨_, rfl⟩
  have hx : wa.heap[w.heap.size]? = some (.cells #[.slice A l.length cap, .int .i64 st, .int .i64 sl] 24 (0, 0)) := by rw [← hwa]; exact heap_alloc_new _ _
  have B1 : Below w.heap.size w wa := by rw [← hwa]; exact below_alloc (Below.refl _ _) _
  have CN := Aside0.mk (new_calls st sl (Kd.C_below h B1) hc)
  have BA := Aside0.mk B1
  have HX := Aside0.mk hx
  have KL := Aside0.mk (And.intro (Kd.C_below h B1) hc)
  obtain ⟨n, hn⟩ : ∃ n, l.length = n := ⟨_, rfl⟩
  have HN := Aside0.mk hn
  rw [hn] at CN hx HX hwa ⊢
  clear h hc B1 hn
  go_enter Tryz.func3, Tryz.ntmps3
  go_wp2_with (first | (refine wpList_load24 rfl _ rfl w.heap.size _ _ _ rfl hx ?_))
  try rw [hwa]
  clear hwa hx
  refine CN.out.mono ?_
  rintro e w1 hr
  rcases hr with ⟨g, w0, out, rfl, hv, ho, hI, hb0, hb1⟩ | ⟨c, rfl, hbad, hb⟩
  · have hb := hb0.trans (hb1.mono hb0.size)
    have B2 := Aside0.mk (BA.out.trans (hb.mono BA.out.size))
    have X2 := Aside0.mk (blk_below HX.out hb)
    have e0 := blk_cell X2.out 0
    have z0 := blk_lt X2.out
    have hI2 := Aside0.mk hI
    have hV := Aside0.mk hv
    have K2 := Aside0.mk (Kd.C_below KL.out.1 hb)
    clear hb0 hb1 hb ho CN hI hv HX
    by_cases hlen : n ≤ 100
    · have hd : decide ((100 : Int) < (n : Int)) = false := decide_eq_false (by omega)
      go_wp2_with fail
      obtain ⟨ts, hts⟩ : ∃ ts, tabS = ts := ⟨_, rfl⟩
      obtain ⟨wk, hwk⟩ : ∃ wk, workF l.length sl len = wk := ⟨_, rfl⟩
      obtain ⟨pr, hpr⟩ : ∃ pr, pairsF l.length len = pr := ⟨_, rfl⟩
      have hl4 : l.length ≤ 4000 := hV.out.chk.n.2
      have hpb := pairsF_b hl4 len
      rw [hpr] at hpb
      have CT := Aside0.mk (fun (w5 : World) => (table_calls w5).mono (fun e w' hh => show e = .returned (.string ts) ∧ Below w5.heap.size w5 w' from ⟨by rw [hh.1, hts], hh.2⟩))
      have CR := Aside0.mk (fun (w5 : World) => (burinref30_Table.calls 300 tabS w5 table_ref).mono (fun e w' hh => show e = .returned (.string ts) ∧ Below w5.heap.size w5 w' from ⟨by rw [hh.1, hts], hh.2⟩))
      have CW := Aside0.mk (fun (w5 : World) (hb : Below w1.heap.size w1 w5) => (work_calls (hI2.out.below hb) hl4 hV.out.chk.sl len).mono (fun e w' hh => show e = .returned (.int .i64 wk) ∧ Below w5.heap.size w5 w' from ⟨by rw [hh.1, hwk], by rw [← hh.2]; exact Below.refl _ _⟩))
      have CV := Aside0.mk (fun (w5 : World) (hb : Below w1.heap.size w1 w5) => (burinref30_Work.calls A cap l st sl len _ w5 (Kd.C_below K2.out hb) KL.out.2 (work_eq hl4 st hV.out.chk.sl len)).mono (fun e w' hh => show e = .returned (.int .i64 wk) ∧ Below w5.heap.size w5 w' from ⟨by rw [hh.1, hwk], hh.2⟩))
      have CF := Aside0.mk (fun (w5 : World) (hb : Below w1.heap.size w1 w5) => (fuel_calls (hI2.out.below hb) hl4 len).mono (fun e w' hh => show e = .returned (.int .i64 (256 * pr)) ∧ Below w5.heap.size w5 w' from ⟨by rw [hh.1]; unfold fuelF; rw [hpr], by rw [← hh.2]; exact Below.refl _ _⟩))
      have CP := Aside0.mk (fun (w5 : World) (hb : Below w1.heap.size w1 w5) => (burinref30_Pairs.calls A cap l st sl len _ w5 (Kd.C_below K2.out hb) KL.out.2 (pairs_eq hl4 st sl len)).mono (fun e w' hh => show e = .returned (.int .i64 pr) ∧ Below w5.heap.size w5 w' from ⟨by rw [hh.1, hpr], hh.2⟩))
      have C8 := Aside0.mk (fun (w5 : World) => (works30_calls w5).mono (fun e w' hh => show e = .returned (.bool true) ∧ Below w5.heap.size w5 w' from hh))
      rw [HN.out] at CV CP
      have hmul : IntKind.i64.wrap (256 * pr) = 256 * pr := by rw [IntKind.wrap_i64]; omega
      clear hts hwk hpr hl4 hI2 hV K2 hd
      refine wp_region_grow2 [21, 22, 23, 24, 25, 26, 27, 28, 29, 30, 31, 32, 33, 34, 35, 36, 37, 38, 39, 40, 41, 42, 43, 44, 45, 4] (fun j v w2 => match j with
        | 0 => v = .string ts
        | 1 => v = .string ts
        | 2 => v = .bool true
        | 3 => v = .bool true
        | 4 => v = .pointer (some ⟨g, 0, none⟩)
        | 5 => v = .int .i64 len
        | 6 => v = .int .i64 wk
        | 7 => v = .agg #[.slice A n cap, .int .i64 st, .int .i64 sl]
        | 8 => v = .int .i64 len
        | 9 => v = .int .i64 wk
        | 10 => v = .bool true
        | 11 => v = .bool true
        | 12 => v = .bool true
        | 13 => v = .pointer (some ⟨g, 0, none⟩)
        | 14 => v = .int .i64 len
        | 15 => v = .int .i64 (256 * pr)
        | 16 => v = .agg #[.slice A n cap, .int .i64 st, .int .i64 sl]
        | 17 => v = .int .i64 len
        | 18 => v = .int .i64 pr
        | 19 => v = .int .i64 (256 * pr)
        | 20 => v = .bool true
        | 21 => v = .bool true
        | 22 => v = .bool true
        | 23 => v = .bool true
        | 24 => v = .bool true
        | 25 => v = .bool true
        | _ => True) (by kernel_rfl) (by kernel_rfl) ?_ ?_ ?_
      · intro j v w2 w3 hv hb
        rcases j with _ | _ | _ | _ | _ | _ | _ | _ | _ | _ | _ | _ | _ | _ | _ | _ | _ | _ | _ | _ | _ | _ | _ | _ | _ | _ | j <;> exact hv
      · refine ⟨?_, ?_, ?_, ?_, ?_, ?_, ?_, ?_, ?_, ?_, ?_, ?_, ?_, ?_, ?_, ?_, ?_, ?_, ?_, ?_, ?_, ?_, ?_, ?_, ?_, ?_, trivial⟩
        all_goals
          intro a w5 hB hoth hdep
          have h1 := hoth 1 (by decide)
          have h2 := hoth 2 (by decide)
          have h5 := hoth 5 (by decide)
          have hX5 := blk_below X2.out hB
          clear hoth
          simp [Ve.bd1, Ve.bd2, Ve.bd3, Ve.bd5] at hdep h1 h2 h5
          simp only [StepTo]
        all_goals first
          | (intro d hd; obtain rfl := Option.some.inj hd; refine ⟨fun _ => ?_, fun hne => (hne (by simp [hdep])).elim⟩)
          | skip
        all_goals first
          | exact grows_load24 (.tmp 2) rfl w.heap.size (by simp [Act.eval, h2]) _ _ _ hX5 rfl
          | (simp only [Oper.grows]
             go_simp
             first
              | with_reducible exact Below.refl _ _
              | exact ⟨Below.refl _ _, rfl⟩
              | exact ⟨Below.refl _ _, CT.out _⟩
              | exact ⟨Below.refl _ _, CR.out _⟩
              | exact ⟨Below.refl _ _, CW.out _ hB⟩
              | exact ⟨Below.refl _ _, CV.out _ hB⟩
              | exact ⟨Below.refl _ _, CF.out _ hB⟩
              | exact ⟨Below.refl _ _, CP.out _ hB⟩
              | exact ⟨Below.refl _ _, C8.out _⟩)
      · intro v w5 hB hV
        have B3 := Aside0.mk (B2.out.trans (hB.mono B2.out.size))
        have q0 : v 0 = .string ts := hV 0 (by decide)
        have q1 : v 1 = .string ts := hV 1 (by decide)
        have q2 : v 2 = .bool true := hV 2 (by decide)
        have q3 : v 3 = .bool true := hV 3 (by decide)
        have q4 : v 4 = .pointer (some ⟨g, 0, none⟩) := hV 4 (by decide)
        have q5 : v 5 = .int .i64 len := hV 5 (by decide)
        have q6 : v 6 = .int .i64 wk := hV 6 (by decide)
        have q7 : v 7 = .agg #[.slice A n cap, .int .i64 st, .int .i64 sl] := hV 7 (by decide)
        have q8 : v 8 = .int .i64 len := hV 8 (by decide)
        have q9 : v 9 = .int .i64 wk := hV 9 (by decide)
        have q10 : v 10 = .bool true := hV 10 (by decide)
        have q11 : v 11 = .bool true := hV 11 (by decide)
        have q12 : v 12 = .bool true := hV 12 (by decide)
        have q13 : v 13 = .pointer (some ⟨g, 0, none⟩) := hV 13 (by decide)
        have q14 : v 14 = .int .i64 len := hV 14 (by decide)
        have q15 : v 15 = .int .i64 (256 * pr) := hV 15 (by decide)
        have q16 : v 16 = .agg #[.slice A n cap, .int .i64 st, .int .i64 sl] := hV 16 (by decide)
        have q17 : v 17 = .int .i64 len := hV 17 (by decide)
        have q18 : v 18 = .int .i64 pr := hV 18 (by decide)
        have q19 : v 19 = .int .i64 (256 * pr) := hV 19 (by decide)
        have q20 : v 20 = .bool true := hV 20 (by decide)
        have q21 : v 21 = .bool true := hV 21 (by decide)
        have q22 : v 22 = .bool true := hV 22 (by decide)
        have q23 : v 23 = .bool true := hV 23 (by decide)
        have q24 : v 24 = .bool true := hV 24 (by decide)
        have q25 : v 25 = .bool true := hV 25 (by decide)
        clear hV hB e0 z0
        simp only [fillF, q0, q1, q2, q3, q4, q5, q6, q7, q8, q9, q10, q11, q12, q13, q14, q15, q16, q17, q18, q19, q20, q21, q22, q23, q24, q25, Act.put, List.setIfInBounds_toArray, List.set_cons_zero, List.set_cons_succ, List.length_cons, List.length_nil, Nat.reduceAdd, List.drop_succ_cons, List.drop_zero]
        clear q0 q1 q2 q3 q4 q5 q6 q7 q8 q9 q10 q11 q12 q13 q14 q15 q16 q17 q18 q19 q20 q21 q22 q23 q24 q25
        go_wp2_with fail
        go_ret
        exact ⟨rfl, B3.out⟩
    · have hd : decide ((100 : Int) < (n : Int)) = true := decide_eq_true (by omega)
      go_wp2_with fail
      refine (works30_calls _).mono ?_
      rintro e w3 ⟨rfl, hb⟩
      have B3 := Aside0.mk (B2.out.trans (hb.mono B2.out.size))
      clear hb e0 z0
      go_wp2_with fail
      go_ret
      exact ⟨rfl, B3.out⟩
  · have B2 := Aside0.mk (BA.out.trans (hb.mono BA.out.size))
    clear hb CN
    rcases hbad with ⟨rfl, _⟩ | ⟨rfl, _⟩ | ⟨rfl, _⟩ | ⟨rfl, _⟩
    all_goals
      go_wp2_with fail
      refine (works30_calls _).mono ?_
      rintro e w3 ⟨rfl, hb⟩
      have B3 := Aside0.mk (B2.out.trans (hb.mono B2.out.size))
      clear hb
      go_wp2_with fail
      go_ret
      exact ⟨rfl, B3.out⟩
end Go.Proofs.YtpfcdhjknmijjaaGreat.Ew
end
