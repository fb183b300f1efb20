import Derived.Test.YtpfcdhjknmijjaaGreatCo45
import Derived.Test.YtpfcdhjknmijjaaGreatCo44
section
set_option linter.unusedSimpArgs false
set_option linter.unusedVariables false
set_option maxRecDepth 100000
namespace Go.Proofs.YtpfcdhjknmijjaaGreat.Jd
open Go.RowKit Go.Maps Go.Proofs.YtpfcdhjknmijjaaGreat.Em Go.Proofs.YtpfcdhjknmijjaaGreat.Ve Go.Proofs.YtpfcdhjknmijjaaGreat.Grow Go.Proofs.YtpfcdhjknmijjaaGreat.Rv Go.Proofs.YtpfcdhjknmijjaaGreat.PEmitFinds Go.Proofs.YtpfcdhjknmijjaaGreat.Ht Go.Proofs.YtpfcdhjknmijjaaGreat.Ew
open Go.Proofs.YtpfcdhjknmijjaaGreatW.PrintWords Go.Proofs.YtpfcdhjknmijjaaGreatW.PrintLast Go.Proofs.YtpfcdhjknmijjaaGreatW.PrintMore
/-! ### The memory of a search -/
def rep (b : UInt8) (c : Nat) : ByteArray := ⟨(Lib.repeatL [b] c).toArray⟩
theorem rep_size (b : UInt8) : ∀ c, (rep b c).size = c := by
  intro c
  show (Lib.repeatL [b] c).toArray.size = c
  rw [List.size_toArray]
  induction c with
  | zero => rfl
  | succ c ih => simp only [Lib.repeatL, List.length_append, List.length_cons, List.length_nil, ih]; omega
theorem rep_calls (b : UInt8) (c : Nat) (hc : c ≤ 140737488355328) (w : World) : Calls Tryz.prog 101 #[.string ⟨#[b]⟩, .int .i64 (c : Int)] w fun e w' => e = .returned (.string (rep b c)) ∧ Below w.heap.size w w' :=
  Tryz.strings_Repeat ⟨#[b]⟩ c w (by omega) (by show 1 * c ≤ _; omega)
def four (T s : ByteArray) (a c : Nat) : List S89 := [⟨65536, T, 4⟩, ⟨16777216, tabS, 1⟩, ⟨33554432, s, 1⟩, ⟨67108864, rep 255 a ++ rep 0 c, 3⟩]
def c89 (x : S89) : List Value := [.int .u64 x.f0, .string x.f1, .int .i64 x.f2]
theorem c89_len (x : S89) : (c89 x).length = 3 := rfl
theorem own89 {w : World} {g : Nat} {l : List S89} (h : w.heap[g]? = some (.cells (l.flatMap c89).toArray 89 (0, 0))) (hp : l.length ≤ 1000000) : Kd.C k89 w (some ⟨g, 0, none⟩) l.length l :=
  ⟨rfl, by omega, fun _ => ⟨⟨g, 0, none⟩, rfl, fun j p hj => ⟨c89 p, rfl, k89_mk w p, fun i u hu => by
    have hi : i < 3 := (List.getElem?_eq_some_iff.1 hu).1
    rw [show j * Kd.sz k89 + i = j * 3 + i from rfl, at_add, blk_cell h]
    rw [List.getElem?_toArray, flat_at c89 3 c89_len l j i p hj hi]
    exact hu⟩⟩⟩
set_option maxHeartbeats 4000000 in
theorem memory_calls {w0 w : World} {J g : Nat} {l : List S61} {st sl : Nat} {out : List Int} {T : ByteArray} (h : JitIs w0 w J g l st sl out T) (hV : ValidP l st sl) (s : ByteArray) {wk : Nat} (hw : workF l.length sl s.size = wk) (h8 : 8 * sl ≤ wk) (hwk : wk ≤ 100000000000) {L : List S89} {R : List RegIn} (hr : jit_regions.f 100 (four T s (8 * sl) (wk - 8 * sl)) = some L)
    (hL : L.length = R.length) (hR : 1 ≤ R.length ∧ R.length < 1000000) (hok : RegsOk R) (hsame : ∀ (i : Nat) (h : i < R.length), (rd_T89 L i).f0 = R[i].base ∧ (rd_T89 L i).f1 = R[i].data ∧ (rd_T89 L i).f2 = R[i].rights) :
    Calls Tryz.prog 51 #[.pointer (some ⟨J, 0, none⟩), .string s] w fun e w' => (∃ mp pv gs b, e = .returned (.tuple #[.pointer (some ⟨mp, 0, none⟩), .int .i64 ((R.length : Int) - 1), .int .i64 0]) ∧ w.heap.size ≤ b ∧ b ≤ mp ∧ NewS b w' mp R R.length pv gs) ∧ Below w.heap.size w w' := by
  have HJ := Aside0.mk h
  have HO := Aside0.mk (And.intro hL (And.intro hR (And.intro hok hsame)))
  have HR := Aside0.mk hr
  have SC := Aside0.mk (slots63 h.chk)
  have WC := Aside0.mk (work_calls h.chk hV.chk.n.2 hV.chk.sl (s.size : Int))
  rw [hw] at WC
  have c0 := blk_cell h.obj 0
  have c1 := blk_cell h.obj 1
  have z := blk_lt h.obj
  have hsl : sl ≤ 64 := by have := hV.chk.sl; omega
  have e8 : IntKind.i64.wrap (8 * (sl : Int)) = ((8 * sl : Nat) : Int) := by rw [IntKind.wrap_i64]; omega
  clear h hr hL hR hok hsame hw hV
  go_enter Tryz.func51, Tryz.ntmps51
  go_wp2_with (first | (go_at_call 33; refine SC.out.mono ?_; rintro e wq ⟨rfl, rfl⟩) | (go_at_call 11; refine WC.out.mono ?_; rintro e wq ⟨rfl, rfl⟩))
  obtain ⟨ts, hts⟩ : ∃ ts, tabS = ts := ⟨_, rfl⟩
  obtain ⟨ra, hra⟩ : ∃ ra, rep 255 (8 * sl) = ra := ⟨_, rfl⟩
  obtain ⟨rb, hrb⟩ : ∃ rb, rep 0 (wk - 8 * sl) = rb := ⟨_, rfl⟩
  have hf : four T s (8 * sl) (wk - 8 * sl) = [⟨65536, T, 4⟩, ⟨16777216, ts, 1⟩, ⟨33554432, s, 1⟩, ⟨67108864, ra ++ rb, 3⟩] := by unfold four; rw [hts, hra, hrb]
  rw [hf] at HR
  have CT := Aside0.mk (fun (w5 : World) => (table_calls w5).mono (fun e w' hh => show e = .returned (.string ts) ∧ Below w5.heap.size w5 w' from ⟨by rw [hh.1, hts], hh.2⟩))
  have CA := Aside0.mk (fun (w5 : World) => (show Calls Tryz.prog 101 #[.string ⟨#[255]⟩, .int .i64 (8 * (sl : Int))] w5 fun e w' => e = .returned (.string ra) ∧ Below w5.heap.size w5 w' from by
    have h := rep_calls 255 (8 * sl) (by omega) w5
    rw [hra, show ((8 * sl : Nat) : Int) = 8 * (sl : Int) by omega] at h
    exact h))
  have CB := Aside0.mk (fun (w5 : World) => (show Calls Tryz.prog 101 #[.string ⟨#[0]⟩, .int .i64 ((wk : Int) - 8 * (sl : Int))] w5 fun e w' => e = .returned (.string rb) ∧ Below w5.heap.size w5 w' from by
    have h := rep_calls 0 (wk - 8 * sl) (by omega) w5
    rw [hrb, show ((wk - 8 * sl : Nat) : Int) = (wk : Int) - 8 * (sl : Int) by omega] at h
    exact h))
  have CG := Aside0.mk (fun (w5 : World) (q : Nat) (hq : w5.heap[q]? = some (.cells #[.int .u64 65536, .string T, .int .i64 4, .int .u64 16777216, .string ts, .int .i64 1, .int .u64 33554432, .string s, .int .i64 1, .int .u64 67108864, .string (ra ++ rb), .int .i64 3] 89 (0, 0))) =>
    jit_regions.calls 100 (some ⟨q, 0, none⟩) 4 [⟨65536, T, 4⟩, ⟨16777216, ts, 1⟩, ⟨33554432, s, 1⟩, ⟨67108864, ra ++ rb, 3⟩] L w5 (own89 (l := [⟨65536, T, 4⟩, ⟨16777216, ts, 1⟩, ⟨33554432, s, 1⟩, ⟨67108864, ra ++ rb, 3⟩]) hq (by simp)) (by simp) HR.out)
  have e9 : IntKind.i64.wrap ((wk : Int) - 8 * (sl : Int)) = (wk : Int) - 8 * (sl : Int) := by rw [IntKind.wrap_i64]; omega
  have hra2 : ra.size = 8 * sl := by rw [← hra]; exact rep_size _ _
  have hrb2 : rb.size = wk - 8 * sl := by rw [← hrb]; exact rep_size _ _
  clear hts hra hrb hf c0 e8
  refine wp_region_grow2 [25, 26, 27, 28, 29, 30, 31, 32, 33, 34, 35, 36, 37, 38, 39, 40, 41, 42, 43, 9] (fun j v w2 => match j with
    | 0 => v = .pointer (some ⟨J, 0, none⟩)
    | 1 => v = .pointer (some ⟨J, 0, none⟩)
    | 2 => v = .pointer (some ⟨J, 1, none⟩)
    | 3 => v = .string T
    | 4 => v = .agg #[.int .u64 65536, .string T, .int .i64 4]
    | 5 => v = .string ts
    | 6 => v = .agg #[.int .u64 16777216, .string ts, .int .i64 1]
    | 7 => v = .string s
    | 8 => v = .agg #[.int .u64 33554432, .string s, .int .i64 1]
    | 9 => v = .int .i64 (8 * (sl : Int))
    | 10 => v = .string ra
    | 11 => v = .int .i64 (wk : Int)
    | 12 => v = .int .i64 (8 * (sl : Int))
    | 13 => v = .int .i64 ((wk : Int) - 8 * (sl : Int))
    | 14 => v = .string rb
    | 15 => v = .string (ra ++ rb)
    | 16 => v = .agg #[.int .u64 67108864, .string (ra ++ rb), .int .i64 3]
    | 17 => ∃ q, v = .slice (some ⟨q, 0, none⟩) 4 4 ∧ w2.heap[q]? = some (.cells #[.int .u64 65536, .string T, .int .i64 4, .int .u64 16777216, .string ts, .int .i64 1, .int .u64 33554432, .string s, .int .i64 1, .int .u64 67108864, .string (ra ++ rb), .int .i64 3] 89 (0, 0))
    | 18 => Kd.R k89 89 w2 w.heap.size (fun _ => True) v L
    | 19 => Kd.R k89 89 w2 w.heap.size (fun _ => True) v L
    | _ => True) (by kernel_rfl) (by kernel_rfl) ?_ ?_ ?_
  · intro j v w2 w3 hv hb
    rcases j with _ | _ | _ | _ | _ | _ | _ | _ | _ | _ | _ | _ | _ | _ | _ | _ | _ | _ | _ | _ | j <;> first | exact hv | (obtain ⟨q, rfl, hq⟩ := hv; exact ⟨q, rfl, blk_below hq hb⟩) | exact Kd.R_below hv hb
  · refine ⟨?_, ?_, ?_, ?_, ?_, ?_, ?_, ?_, ?_, ?_, ?_, ?_, ?_, ?_, ?_, ?_, ?_, ?_, ?_, ?_, trivial⟩
    all_goals
      intro a w5 hB hoth hdep
      have h0 := hoth 0 (by decide)
      have h1 := hoth 1 (by decide)
      have h7 := hoth 7 (by decide)
      have h8 := hoth 8 (by decide)
      have hO5 := blk_below HJ.out.obj hB
      have c1 := blk_cell hO5 1
      have z := blk_lt hO5
      clear hoth
      simp [Ve.bd1, Ve.bd2, Ve.bd3, Ve.bd5] at hdep h0 h1 h7 h8
      simp only [StepTo, Oper.grows]
    all_goals first
      | (obtain ⟨⟨q, d1, d2⟩, _⟩ := hdep
         have CG1 := Aside0.mk ((CG.out w5 q d2).mono (fun e w' hh => show ∃ v, e = .returned v ∧ Below w5.heap.size w5 w' ∧ Kd.R k89 89 w' w.heap.size (fun _ => True) v L from by
           obtain ⟨v, he, hR, hb⟩ := hh
           exact ⟨v, he, hb, Kd.R_lower hR hB.size⟩))
         clear d2 c1 z hO5
         go_simp
         exact ⟨Below.refl _ _, CG1.out⟩)
      | (go_simp
         first
          | with_reducible exact Below.refl _ _
          | (refine ⟨Below.refl _ _, ?_⟩; with_reducible rfl)
          | (refine ⟨Below.refl _ _, ?_⟩; with_reducible exact CT.out _)
          | (refine ⟨Below.refl _ _, ?_⟩; with_reducible exact CA.out _)
          | (refine ⟨Below.refl _ _, ?_⟩; with_reducible exact CB.out _)
          | (refine ⟨Below.refl _ _, ?_⟩; with_reducible exact hdep.1)
          | (rw [if_neg (show ¬ 9223372036854775807 < wk by omega)]; exact ⟨Below.refl _ _, rfl⟩)
          | exact ⟨below_alloc (Below.refl _ _) _, (Array.getElem?_eq_some_iff.1 (heap_alloc_new _ _)).2⟩)
  · intro v w5 hB hV
    have q0 : v 0 = .pointer (some ⟨J, 0, none⟩) := hV 0 (by decide)
    have q1 : v 1 = .pointer (some ⟨J, 0, none⟩) := hV 1 (by decide)
    have q2 : v 2 = .pointer (some ⟨J, 1, none⟩) := hV 2 (by decide)
    have q3 : v 3 = .string T := hV 3 (by decide)
    have q4 : v 4 = .agg #[.int .u64 65536, .string T, .int .i64 4] := hV 4 (by decide)
    have q5 : v 5 = .string ts := hV 5 (by decide)
    have q6 : v 6 = .agg #[.int .u64 16777216, .string ts, .int .i64 1] := hV 6 (by decide)
    have q7 : v 7 = .string s := hV 7 (by decide)
    have q8 : v 8 = .agg #[.int .u64 33554432, .string s, .int .i64 1] := hV 8 (by decide)
    have q9 : v 9 = .int .i64 (8 * (sl : Int)) := hV 9 (by decide)
    have q10 : v 10 = .string ra := hV 10 (by decide)
    have q11 : v 11 = .int .i64 (wk : Int) := hV 11 (by decide)
    have q12 : v 12 = .int .i64 (8 * (sl : Int)) := hV 12 (by decide)
    have q13 : v 13 = .int .i64 ((wk : Int) - 8 * (sl : Int)) := hV 13 (by decide)
    have q14 : v 14 = .string rb := hV 14 (by decide)
    have q15 : v 15 = .string (ra ++ rb) := hV 15 (by decide)
    have q16 : v 16 = .agg #[.int .u64 67108864, .string (ra ++ rb), .int .i64 3] := hV 16 (by decide)
    have hR9 : Kd.R k89 89 w5 w.heap.size (fun _ => True) (v 19) L := hV 19 (by decide)
    obtain ⟨o1, ⟨o2, o3⟩, o4, o5⟩ := HO.out
    obtain ⟨gL, capL, q19, hgL, hgL2, _⟩ := Kd.R_form hR9 (by omega)
    rw [q19] at hR9
    have hcl := (Kd.R_reads' hR9).2.2
    rw [o1] at hcl q19
    have CM := Aside0.mk (MemNew_calls (w := w5) (L := gL) (off := 0) (cap := capL) R o4 o3 (fun i hi => by
      obtain ⟨ad, e, h1, h2, h3⟩ := at_T89 hcl (i : Int) (by omega) (by omega)
      cases e
      obtain ⟨s1, s2, s3⟩ := o5 i hi
      simp only [Int.toNat_natCast] at h1 h2 h3
      rw [s1] at h1
      rw [s2] at h2
      rw [s3] at h3
      rw [at_add] at h1 h2 h3
      rw [Nat.zero_add]
      exact ⟨h1, h2, h3⟩) hgL2)
    have HBB := Aside0.mk hB
    have e10 : IntKind.i64.wrap ((R.length : Int) - 1) = (R.length : Int) - 1 := by rw [IntKind.wrap_i64]; omega
    obtain ⟨v17, q17⟩ : ∃ x, v 17 = x := ⟨_, rfl⟩
    obtain ⟨v18, q18⟩ : ∃ x, v 18 = x := ⟨_, rfl⟩
    clear hV hB hR9 hcl o1 o2 o3 o4 o5 hgL hgL2 c1 z
    simp only [fillF, q0, q1, q2, q3, q4, q5, q6, q7, q8, q9, q10, q11, q12, q13, q14, q15, q16, q17, q18, q19, Act.put, List.setIfInBounds_toArray, List.set_cons_zero, List.set_cons_succ, List.length_cons, List.length_nil, Nat.reduceAdd, List.drop_succ_cons, List.drop_zero]
    clear q0 q1 q2 q3 q4 q5 q6 q7 q8 q9 q10 q11 q12 q13 q14 q15 q16 q17 q18 q19
    go_wp2_with fail
    refine CM.out.mono ?_
    rintro e w6 ⟨⟨mp, pv, gs, rfl, hmp, hS⟩, hb⟩
    have FIN := Aside0.mk (And.intro hmp (And.intro hS hb))
    clear hmp hS hb CM
    go_wp2_with fail
    have hsz := HBB.out.size
    exact bodyPost_ret (v := .tuple #[.pointer (some ⟨mp, 0, none⟩), .int .i64 ((R.length : Int) - 1), .int .i64 0]) (by simp [results, Tryz.results51, go_sem]) rfl ⟨⟨mp, pv, gs, w5.heap.size, rfl, hsz, FIN.out.1, FIN.out.2.1⟩, HBB.out.trans (FIN.out.2.2.mono hsz)⟩
end Go.Proofs.YtpfcdhjknmijjaaGreat.Jd
end
