import Derived.Test.YtciehejifdbpoaaRvPureA
import Derived.Test.YtciehejifdbpoaaRvEq
namespace Go.Proofs.Ytciehejifdbpoaa.Rv
open Go.RowKit Go.Proofs.Ytciehejifdbpoaa.Grow
open Go.Proofs.YtciehejifdbpoaaW.PrintWords Go.Proofs.YtciehejifdbpoaaW.PrintLast Go.Proofs.YtciehejifdbpoaaW.PrintMore
open Go.Proofs.Ytciehejifdbpoaa.PRvcodeDecodes

theorem decF_code (x : Int) : (decF x).2 = 0 ∨ (decF x).2 = 260 := by
  unfold decF; split
  · exact .inl rfl
  · exact .inr rfl
theorem encF_code (nm : ByteArray) (rd ra rb imm : Int) : (encF nm rd ra rb imm).2 = 0 ∨ (encF nm rd ra rb imm) = (0, 260) := by
  unfold encF; split
  · exact .inl rfl
  · exact .inr rfl
/-- What the later text of a law knows of a block of five cells. -/
theorem blk5 {w W : World} {b : Nat} {cs : Array Value} (h : w.heap[b]? = some (.cells cs 24 (0, 0))) (hb : Below w.heap.size w W) : W.heap[b]? = some (.cells cs 24 (0, 0)) := (hb.block b (blk_lt h)).trans h
theorem lt_plus {b n : Nat} (h : b < n) : ∀ j, b < n + j := fun j => by omega

set_option maxHeartbeats 1000000 in
set_option maxRecDepth 100000 in
theorem back_walk (nm : ByteArray) (rd ra rb imm : Int) (nm' : ByteArray) (rd' ra' rb' imm' : Int) (w : World) :
    Calls Try.prog 5 #[.agg #[.string nm, .int .i64 rd, .int .i64 ra, .int .i64 rb, .int .i64 imm], .agg #[.string nm', .int .i64 rd', .int .i64 ra', .int .i64 rb', .int .i64 imm']] w fun e w' => e = .returned (.bool true) ∧ Below w.heap.size w w' := by
  have hq := enc_dec nm rd ra rb imm
  have hq' := enc_dec nm' rd' ra' rb' imm'
  have hc := encF_code nm rd ra rb imm
  have hc' := encF_code nm' rd' ra' rb' imm'
  obtain ⟨⟨a, c⟩, hd⟩ : ∃ d, encF nm rd ra rb imm = d := ⟨_, rfl⟩
  obtain ⟨⟨a', c'⟩, hd'⟩ : ∃ d, encF nm' rd' ra' rb' imm' = d := ⟨_, rfl⟩
  rw [hd] at hq hc
  rw [hd'] at hq' hc'
  have D := Aside0.mk hd
  have D' := Aside0.mk hd'
  simp only [Prod.mk.injEq] at hq hc hq' hc'
  -- what the law compares at its end
  have key : c = 0 → c' = 0 → (a' == a) = eqOp nm nm' rd rd' ra ra' rb rb' imm imm' := by
    intro h h'
    rw [Bool.eq_iff_iff, eqOp_iff, beq_iff_eq]
    constructor
    · rintro rfl
      have h1 := (hq h).2.2
      have h2 := (hq' h').2.2
      rw [h1] at h2
      simp only [Prod.mk.injEq, OpI.mk.injEq, and_true] at h2
      exact h2
    · rintro ⟨rfl, rfl, rfl, rfl, rfl⟩
      rw [hd] at hd'
      exact (Prod.mk.inj hd').1.symm
  clear hd hd' hq'
  have g1 := eql24
  have g1' := neq24
  have g2 := guard24
  have g3 := eqOp_same
  go_enter Try.func5, Try.ntmps5
  go_wp2_with fail
  refine (works_any _).mono ?_
  rintro e w1 ⟨rfl, hb1⟩
  have hk := (hb1.block w.heap.size (by simp; omega)).trans (blk_alloc (heap_alloc_last _ _) _)
  have hk' := (hb1.block (w.heap.size + 1) (by simp)).trans (heap_alloc_at _ _ (by simp))
  have hb := (below_alloc (below_alloc (Below.refl w.heap.size w) _) _).trans (hb1.mono (below_alloc (below_alloc (Below.refl _ _) _) _).size)
  clear hb1
  have p := blk_cell hk
  go_wp2_with fail
  refine (encode_at D.out _).mono ?_
  rintro e w2 ⟨rfl, hb2⟩
  clear p
  replace hb := hb.trans (hb2.mono hb.size)
  replace hk := blk5 hk hb2
  replace hk' := blk5 hk' hb2
  clear hb2
  rcases hc with rfl | ⟨rfl, rfl⟩
  · obtain ⟨h0, h1, h2⟩ := hq rfl
    have R := Aside0.mk h2
    clear hq h2
    go_wp2_with fail
    refine (decode_at R.out _).mono ?_
    rintro e w3 ⟨rfl, hb3⟩
    replace hb := hb.trans (hb3.mono hb.size)
    replace hk := blk5 hk hb3
    replace hk' := blk5 hk' hb3
    have hz0 := blk_lt hk
    have hz := lt_plus hz0
    have hz0' := blk_lt hk'
    have hz' := lt_plus hz0'
    have p := blk_cell hk
    have p' := blk_cell hk'
    clear hb3 h0 h1
    have K := Aside0.mk key
    clear key
    go_wp2_with fail
    refine (encode_at D'.out _).mono ?_
    rintro e w4 ⟨rfl, hb4⟩
    clear p p' hz hz' hz0 hz0'
    replace hb := (below_alloc hb _).trans (hb4.mono (below_alloc hb _).size)
    replace hk := blk5 (blk_alloc hk _) hb4
    replace hk' := blk5 (blk_alloc hk' _) hb4
    have p := blk_cell hk
    have p' := blk_cell hk'
    clear hb4
    rcases hc' with rfl | ⟨rfl, rfl⟩
    · have kk := K.out
      go_wp2
      go_ret
      first
        | exact ⟨rfl, hb⟩
        | exact ⟨trivial, hb⟩
        | (refine ⟨?_, hb⟩; simp)
    · go_wp2
      go_ret
      first
        | exact ⟨rfl, hb⟩
        | exact ⟨trivial, hb⟩
  · clear hq key
    go_wp2
    go_ret
    first
      | exact ⟨rfl, hb⟩
      | exact ⟨trivial, hb⟩
end Go.Proofs.Ytciehejifdbpoaa.Rv
