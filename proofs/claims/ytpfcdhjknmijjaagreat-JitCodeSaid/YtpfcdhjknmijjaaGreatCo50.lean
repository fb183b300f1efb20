import Derived.Test.YtpfcdhjknmijjaaGreatCo49
section
set_option linter.unusedSimpArgs false
set_option linter.unusedVariables false
set_option maxRecDepth 100000
namespace Go.Proofs.YtpfcdhjknmijjaaGreat.Jd
open Go.RowKit Go.Maps Go.Proofs.YtpfcdhjknmijjaaGreat.Em Go.Proofs.YtpfcdhjknmijjaaGreat.Ve Go.Proofs.YtpfcdhjknmijjaaGreat.Grow Go.Proofs.YtpfcdhjknmijjaaGreat.Rv Go.Proofs.YtpfcdhjknmijjaaGreat.PEmitFinds Go.Proofs.YtpfcdhjknmijjaaGreat.Ht Go.Proofs.YtpfcdhjknmijjaaGreat.Ew
open Go.Proofs.YtpfcdhjknmijjaaGreatW.PrintWords Go.Proofs.YtpfcdhjknmijjaaGreatW.PrintLast Go.Proofs.YtpfcdhjknmijjaaGreatW.PrintMore
/-! ### A search that is refused -/
set_option maxHeartbeats 8000000 in
theorem run_refuse {w0 w : World} {J g : Nat} {l : List S61} {st sl : Nat} {out : List Int} {T : ByteArray} (h : JitIs w0 w J g l st sl out T) (hV : ValidP l st sl) (s : ByteArray) (sz : s.size ≤ 1000000) (from_ : Int) (f0 : 0 ≤ from_) (f1 : from_ ≤ (s.size : Int)) (an lo : Bool) (budget : Int)
    (hb1 : budget < bitF l.length s.size ∨ 262144 < bitF l.length s.size) :
    Calls Tryz.prog 21 #[.pointer (some ⟨J, 0, none⟩), .agg #[.string s, .int .i64 from_, .bool an, .bool lo], .int .i64 budget] w fun e w' => ∃ v, e = .returned (.tuple #[.agg #[.bool false, v], .int .i64 0, .int .i64 210]) ∧ Kd.R (Kd.int .i64) 3 w' w.heap.size (fun _ => True) v [] ∧ Below w.heap.size w w' := by
  obtain ⟨wa, hwa⟩ : ∃ wa, (w.alloc (.cells #[.string s, .int .i64 from_, .bool an, .bool lo] 35)).alloc (.cells #[.bool false, .slice none 0 0] 40) = wa := ⟨_, rfl⟩
  have hx : wa.heap[w.heap.size]? = some (.cells #[.string s, .int .i64 from_, .bool an, .bool lo] 35 (0, 0)) := by rw [← hwa]; exact blk_alloc (heap_alloc_new _ _) _
  have hrr : wa.heap[w.heap.size + 1]? = some (.cells #[.bool false, .slice none 0 0] 40 (0, 0)) := by rw [← hwa]; exact heap_alloc_at _ _ (by simp)
  have B1 : Below w.heap.size w wa := by rw [← hwa]; exact below_alloc (below_alloc (Below.refl _ _) _) _
  have hza : wa.heap.size = w.heap.size + 2 := by rw [← hwa]; simp
  have HJ := Aside0.mk (h.below B1)
  have h0 := Aside0.mk h
  have HVV := Aside0.mk hV
  have hl4 : l.length ≤ 4000 := hV.chk.n.2
  have hl1 : 1 ≤ l.length := hV.chk.n.1
  have hsl : sl ≤ 64 := by have := hV.chk.sl; omega
  have HL4 := Aside0.mk (And.intro hl4 (And.intro hl1 hsl))
  have HX := Aside0.mk hx
  have HR := Aside0.mk hrr
  have HZ := Aside0.mk hza
  have BA := Aside0.mk B1
  obtain ⟨bf, hbf⟩ : ∃ bf, bitF l.length s.size = bf := ⟨_, rfl⟩
  have CB := Aside0.mk (fun (w5 : World) (hb5 : Below wa.heap.size wa w5) => bits_calls ((HJ.out.below hb5).chk) hl4 s sz)
  rw [hbf] at CB hb1
  have x0 := blk_cell hx 0
  have x1 := blk_cell hx 1
  have xz := blk_lt hx
  have d1 : decide (from_ < 0) = false := decide_eq_false (by omega)
  have d2 : decide (from_ > (s.size : Int)) = false := decide_eq_false (by omega)
  have BND := Aside0.mk (And.intro f0 (And.intro f1 sz))
  clear h hV B1 hza hbf hl4 hl1 hsl hx hrr
  go_enter Tryz.func21, Tryz.ntmps21
  go_wp2_with fail
  refine wp_region_grow2 [26, 27, 28, 29, 30, 31, 32, 9] (fun j v w2 => match j with
    | 0 => v = .pointer (some ⟨J, 0, none⟩)
    | 1 => v = .pointer (some ⟨J, 0, none⟩)
    | 2 => v = .pointer (some ⟨J, 0, none⟩)
    | 3 => v = .pointer (some ⟨g, 0, none⟩)
    | 4 => v = .pointer (some ⟨w.heap.size, 0, none⟩)
    | 5 => v = .string s
    | 6 => v = .int .i64 bf
    | 7 => v = .int .i64 bf
    | _ => True) (by kernel_rfl) (by kernel_rfl) ?_ ?_ ?_
  · intro j v w2 w3 hv hb
    exact hv
  · refine ⟨?_, ?_, ?_, ?_, ?_, ?_, ?_, ?_, trivial⟩
    all_goals
      intro a w5 hB hoth hdep
      have h0 := hoth 0 (by decide)
      have h4 := hoth 4 (by decide)
      have hO5 := blk_below HJ.out.obj hB
      have hX5 := blk_below HX.out hB
      have c0 := blk_cell hO5 0
      have z := blk_lt hO5
      have x0 := blk_cell hX5 0
      have xz := blk_lt hX5
      have CB5 := Aside0.mk (CB.out w5 hB)
      clear hoth
      simp [Ve.bd1, Ve.bd2, Ve.bd3, Ve.bd5] at hdep h0 h4
      simp only [StepTo, Oper.grows]
    all_goals
      go_simp
      first
        | with_reducible exact Below.refl _ _
        | (refine ⟨Below.refl _ _, ?_⟩; with_reducible rfl)
        | (refine ⟨Below.refl _ _, ?_⟩; with_reducible exact hdep.1)
        | (refine ⟨Below.refl _ _, ?_⟩; with_reducible exact CB5.out)
  · intro v w5 hB hVV2
    have q0 : v 0 = .pointer (some ⟨J, 0, none⟩) := hVV2 0 (by decide)
    have q1 : v 1 = .pointer (some ⟨J, 0, none⟩) := hVV2 1 (by decide)
    have q2 : v 2 = .pointer (some ⟨J, 0, none⟩) := hVV2 2 (by decide)
    have q3 : v 3 = .pointer (some ⟨g, 0, none⟩) := hVV2 3 (by decide)
    have q4 : v 4 = .pointer (some ⟨w.heap.size, 0, none⟩) := hVV2 4 (by decide)
    have q5 : v 5 = .string s := hVV2 5 (by decide)
    have q6 : v 6 = .int .i64 bf := hVV2 6 (by decide)
    have q7 : v 7 = .int .i64 bf := hVV2 7 (by decide)
    have BB := Aside0.mk hB
    have X5 := Aside0.mk (blk_below HX.out hB)
    have R5 := Aside0.mk (blk_below HR.out hB)
    have J5 := Aside0.mk (HJ.out.below hB)
    have x0 := blk_cell X5.out 0
    have xz := blk_lt X5.out
    clear hVV2 hB hwa x1
    simp only [fillF, q0, q1, q2, q3, q4, q5, q6, q7, Act.put, List.setIfInBounds_toArray, List.set_cons_zero, List.set_cons_succ, List.length_cons, List.length_nil, Nat.reduceAdd, List.drop_succ_cons, List.drop_zero]
    clear q0 q1 q2 q3 q4 q5 q6 q7
    have B8 := Aside0.mk (BA.out.trans (BB.out.mono BA.out.size))
    have hR8 := R5.out
    have rz := blk_lt hR8
    by_cases h3 : bf > budget
    · have d3 : decide (bf > budget) = true := decide_eq_true h3
      clear h3 hb1
      go_wp2_with (first | (refine wpList_store_row rfl 40 (.tmp 6) (.tmp 40) rfl (w.heap.size + 1) #[.bool false, .slice none 0 0] rfl rfl 40 _ hR8 (by kernel_rfl) (by kernel_rfl) (by kernel_rfl) ?_))
      have hu := setRow_heap _ _ _ #[.bool false, .slice none 0 0] 40 (0, 0) hR8
      have hb := below_setRow B8.out (g := w.heap.size + 1) (by omega) #[.bool false, .slice none 0 0]
      have c0 := blk_cell hu 0
      have c1 := blk_cell hu 1
      exact bodyPost_ret (v := .tuple #[.agg #[.bool false, .slice none 0 0], .int .i64 0, .int .i64 210]) (by simp [results, Tryz.results21, asAddr, go_sem, c0, c1]) rfl ⟨.slice none 0 0, rfl, Kd.R_nil _ _ _ _ _, hb⟩
    · have d3 : decide (bf > budget) = false := decide_eq_false h3
      have d4 : decide (bf > 262144) = true := decide_eq_true (by omega)
      clear h3 hb1
      go_wp2_with (first | (refine wpList_store_row rfl 40 (.tmp 6) (.tmp 40) rfl (w.heap.size + 1) #[.bool false, .slice none 0 0] rfl rfl 40 _ hR8 (by kernel_rfl) (by kernel_rfl) (by kernel_rfl) ?_))
      have hu := setRow_heap _ _ _ #[.bool false, .slice none 0 0] 40 (0, 0) hR8
      have hb := below_setRow B8.out (g := w.heap.size + 1) (by omega) #[.bool false, .slice none 0 0]
      have c0 := blk_cell hu 0
      have c1 := blk_cell hu 1
      exact bodyPost_ret (v := .tuple #[.agg #[.bool false, .slice none 0 0], .int .i64 0, .int .i64 210]) (by simp [results, Tryz.results21, asAddr, go_sem, c0, c1]) rfl ⟨.slice none 0 0, rfl, Kd.R_nil _ _ _ _ _, hb⟩
end Go.Proofs.YtpfcdhjknmijjaaGreat.Jd
end
