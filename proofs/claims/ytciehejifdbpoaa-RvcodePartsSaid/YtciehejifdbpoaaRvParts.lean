import Derived.Test.YtciehejifdbpoaaRvIn
import Derived.Test.YtciehejifdbpoaaRvBack
import Derived.Test.YtciehejifdbpoaaRvPureB
namespace Go.Proofs.Ytciehejifdbpoaa.Rv
open Go.RowKit Go.Proofs.Ytciehejifdbpoaa.Grow
open Go.Proofs.YtciehejifdbpoaaW.PrintWords Go.Proofs.YtciehejifdbpoaaW.PrintLast Go.Proofs.YtciehejifdbpoaaW.PrintMore
open Go.Proofs.Ytciehejifdbpoaa.PRvcodeDecodes

theorem ownsRow_below {w W : World} {B e size n : Nat} {v : Value} {xs : List Value} (h : w.ownsRow B e size v n xs) (hb : Below w.heap.size w W) : W.ownsRow B e size v n xs := by
  obtain ⟨h1, h2⟩ := h
  refine ⟨h1, ?_⟩
  rcases h2 with h2 | ⟨g, cap, cur, hv, hg, hh, r⟩
  · exact .inl h2
  · exact .inr ⟨g, cap, cur, hv, hg, (hb.block g (blk_lt hh)).trans hh, r⟩
set_option maxHeartbeats 2000000 in
set_option maxRecDepth 100000 in
theorem parts_walk (nm : ByteArray) (rd ra rb imm : Int) (w : World) : Calls Try.prog 6 #[.agg #[.string nm, .int .i64 rd, .int .i64 ra, .int .i64 rb, .int .i64 imm]] w fun e w' => e = .returned (.bool true) ∧ Below w.heap.size w w' := by
  have hq := enc_parts nm rd ra rb imm
  have hc := encF_code nm rd ra rb imm
  obtain ⟨⟨a, c⟩, hd⟩ : ∃ d, encF nm rd ra rb imm = d := ⟨_, rfl⟩
  rw [hd] at hq hc
  have D := Aside0.mk hd
  clear hd
  simp only [Prod.mk.injEq] at hq hc
  have Q := Aside0.mk hq
  clear hq
  go_enter Try.func6, Try.ntmps6
  go_wp2_with fail
  refine (works_any _).mono ?_
  rintro e w1 ⟨rfl, hb1⟩
  have hk := (hb1.block w.heap.size (by simp)).trans (heap_alloc_last _ _)
  have hb := (below_alloc (Below.refl w.heap.size w) _).trans (hb1.mono (below_alloc (Below.refl _ _) _).size)
  clear hb1
  have p := blk_cell hk
  go_wp2_with fail
  refine (encode_at D.out _).mono ?_
  rintro e w2 ⟨rfl, hb2⟩
  clear p
  replace hb := hb.trans (hb2.mono hb.size)
  replace hk := blk5 hk hb2
  clear hb2
  have p := blk_cell hk
  go_wp2_with fail
  refine wp_region_grow [17, 18, 19, 20] (fun j v w1 => match j with
    | 0 => ∃ B, w1.ownsRow B 9 1 v 64 (nmV 64)
    | 1 => v = .pointer (some ⟨w.heap.size, 0, none⟩)
    | 2 => v = .string nm
    | 3 => v = .bool (decide (nIdx nm < 64))
    | _ => True) (by kernel_rfl) (by kernel_rfl) ?_ ?_ ?_
  · intro j v w1 w2 hv hb
    rcases j with _ | _ | _ | _ | j
    · obtain ⟨B, h⟩ := hv
      exact ⟨B, ownsRow_below h hb⟩
    · exact hv
    · exact hv
    · exact hv
    · trivial
  · clear p
    refine ⟨?_, ?_, ?_, ?_, trivial⟩
    all_goals
      intro a w3 hB hoth hdep
      have p := blk_cell ((hB.block _ (blk_lt hk)).trans hk)
      have h1 := hoth 1 (by decide)
      clear hoth hB
      simp at hdep h1
      simp only [StepTo, Oper.grows]
      go_simp
      all_goals first
        | exact Below.refl _ _
        | (refine ⟨Below.refl _ _, (names_any _).mono ?_⟩; rintro e w' ⟨v, rfl, h, hb⟩; exact ⟨_, rfl, hb, _, h⟩)
        | (refine ⟨Below.refl _ _, ?_⟩; obtain ⟨⟨B, hdo⟩, _⟩ := hdep; obtain ⟨g, cap, hdv, _, hdc⟩ := own_names hdo; rw [hdv]; refine (in_any _ _ _ _ hdc).mono ?_; rintro e w' ⟨rfl, rfl⟩; exact ⟨rfl, Below.refl _ _⟩)
  · intro v w3 hB hv
    obtain ⟨_, _⟩ := hv 0 (by decide)
    have q1 : v 1 = _ := hv 1 (by decide)
    have q2 : v 2 = _ := hv 2 (by decide)
    have q3 : v 3 = _ := hv 3 (by decide)
    replace hb := hb.trans (hB.mono hb.size)
    replace hk := blk5 hk hB
    simp only [fillF, q1, q2, q3, Act.put, List.setIfInBounds_toArray, List.set_cons_zero, List.set_cons_succ, List.length_cons, List.length_nil, Nat.reduceAdd, List.drop_succ_cons, List.drop_zero]
    clear q1 q2 q3 hv hB p
    have p := blk_cell hk
    have hz0 := blk_lt hk
    have hz := lt_plus hz0
    rcases hc with rfl | ⟨rfl, rfl⟩
    · obtain ⟨hs6, hn, h1, h2, h3, h4, h5, h6, h7, h8, E⟩ := Q.out rfl
      rw [hn]
      clear hn
      have E := Aside0.mk E
      go_wp2_with fail
      go_outline
      go_loopw [7, 8, 9, 121] (fun _ _ _ v121 wr => ∃ k : Nat, k ≤ 5 ∧ v121 = .int .i64 k ∧ Below w.heap.size w wr ∧ wr.heap[w3.heap.size]? = some (.cells #[.string nm, .int .i64 32, .int .i64 ra, .int .i64 rb, .int .i64 imm,
          .string nm, .int .i64 rd, .int .i64 (-1), .int .i64 rb, .int .i64 imm, .string nm, .int .i64 rd, .int .i64 ra, .int .i64 32, .int .i64 imm, .string (xd nm), .int .i64 rd, .int .i64 ra, .int .i64 rb, .int .i64 imm,
          .string nm, .int .i64 rd, .int .i64 ra, .int .i64 rb, .int .i64 1048576] 24 (0, 0))) (fun _ _ _ v121 _ => 5 - (intOf v121).toNat)
      case atStart => exact ⟨0, by omega, rfl, below_alloc hb _, heap_alloc_last _ _⟩
      case round =>
        obtain ⟨k, hk5, rfl, hbr, hkr⟩ := hrel
        clear p hz hz0 hb hk hs6 h1 h2 h3 h4 h5 h6 h7 h8
        have hz0 := blk_lt hkr
        have hz := lt_plus hz0
        have p := blk_cell hkr
        have hks : k = 0 ∨ k = 1 ∨ k = 2 ∨ k = 3 ∨ k = 4 ∨ k = 5 := by omega
        rcases hks with rfl | rfl | rfl | rfl | rfl | rfl
        · go_wp2_with (first | (go_at_call 17; refine (encode_at E.out.1 _).mono ?_; rintro e w' ⟨rfl, hb1⟩))
          go_roundw
          case rel => exact ⟨1, by omega, rfl, (below_alloc hbr _).trans (hb1.mono (below_alloc hbr _).size), (hb1.block _ (by simp; omega)).trans (blk_alloc hkr _)⟩
          case measure => simp [intOf]
        · go_wp2_with (first | (go_at_call 17; refine (encode_at E.out.2.1 _).mono ?_; rintro e w' ⟨rfl, hb1⟩))
          go_roundw
          case rel => exact ⟨2, by omega, rfl, (below_alloc hbr _).trans (hb1.mono (below_alloc hbr _).size), (hb1.block _ (by simp; omega)).trans (blk_alloc hkr _)⟩
          case measure => simp [intOf]
        · go_wp2_with (first | (go_at_call 17; refine (encode_at E.out.2.2.1 _).mono ?_; rintro e w' ⟨rfl, hb1⟩))
          go_roundw
          case rel => exact ⟨3, by omega, rfl, (below_alloc hbr _).trans (hb1.mono (below_alloc hbr _).size), (hb1.block _ (by simp; omega)).trans (blk_alloc hkr _)⟩
          case measure => simp [intOf]
        · go_wp2_with (first | (go_at_call 17; refine (encode_at E.out.2.2.2.1 _).mono ?_; rintro e w' ⟨rfl, hb1⟩))
          go_roundw
          case rel => exact ⟨4, by omega, rfl, (below_alloc hbr _).trans (hb1.mono (below_alloc hbr _).size), (hb1.block _ (by simp; omega)).trans (blk_alloc hkr _)⟩
          case measure => simp [intOf]
        · go_wp2_with (first | (go_at_call 17; refine (encode_at E.out.2.2.2.2 _).mono ?_; rintro e w' ⟨rfl, hb1⟩))
          go_roundw
          case rel => exact ⟨5, by omega, rfl, (below_alloc hbr _).trans (hb1.mono (below_alloc hbr _).size), (hb1.block _ (by simp; omega)).trans (blk_alloc hkr _)⟩
          case measure => simp [intOf]
        · go_wp2
          go_ret
          exact ⟨rfl, hbr⟩
    · go_wp2
      all_goals
        go_ret
        exact ⟨rfl, hb⟩
end Go.Proofs.Ytciehejifdbpoaa.Rv
