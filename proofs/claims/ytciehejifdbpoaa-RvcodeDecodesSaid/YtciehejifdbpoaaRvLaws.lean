import Derived.Test.YtciehejifdbpoaaRvRefI
import Derived.Test.YtciehejifdbpoaaRvEq
namespace Go.Proofs.Ytciehejifdbpoaa.Rv
open Go.RowKit Go.Proofs.Ytciehejifdbpoaa.Grow
open Go.Proofs.YtciehejifdbpoaaW.PrintWords Go.Proofs.YtciehejifdbpoaaW.PrintLast Go.Proofs.YtciehejifdbpoaaW.PrintMore
open Go.Proofs.Ytciehejifdbpoaa.PRvcodeDecodes

theorem decF_code (x : Int) : (decF x).2 = 0 ∨ (decF x).2 = 260 := by
  unfold decF; split
  · exact .inl rfl
  · exact .inr rfl
theorem encF_code (nm : ByteArray) (rd ra rb imm : Int) : (encF nm rd ra rb imm).2 = 0 ∨ (encF nm rd ra rb imm) = (0, 260) := by
  unfold encF; split
  · exact .inl rfl
  · exact .inr rfl
theorem refd_any (x : Int) (h0 : 0 ≤ x) (h1 : x < 4294967296) (w : World) : Calls Try.prog 16 #[.int .u32 x] w fun e w' =>
    e = .returned (.tuple #[.agg #[.string (decF x).1.name, .int .i64 (decF x).1.rd, .int .i64 (decF x).1.ra, .int .i64 (decF x).1.rb, .int .i64 (decF x).1.imm], .int .i64 (decF x).2]) ∧ Below w.heap.size w w' :=
  burinref26_Decode.calls 20 x _ _ _ _ _ _ w (ref_dec x h0 h1)

set_option maxHeartbeats 1000000 in
set_option maxRecDepth 100000 in
theorem decodes_walk (x : Int) (h0 : 0 ≤ x) (h1 : x < 4294967296) (w : World) : Calls Try.prog 3 #[.int .u32 x] w fun e w' => e = .returned (.bool true) ∧ Below w.heap.size w w' := by
  have hr := fun w1 => refd_any x h0 h1 w1
  have HR := Aside0.mk hr
  have hq := dec_enc x h0 h1
  have hc := decF_code x
  clear hr
  obtain ⟨⟨⟨nm, rd, ra, rb, imm⟩, c⟩, hd⟩ : ∃ d, decF x = d := ⟨_, rfl⟩
  rw [hd] at HR hq hc
  have D := Aside0.mk hd
  clear hd
  simp only at HR hq hc
  have g1 := neq24
  have g2 := guard24
  have g3 := eqOp_same
  go_enter Try.func3, Try.ntmps3
  go_wp2_with fail
  refine (decode_at D.out _).mono ?_
  rintro e w1 ⟨rfl, hb1⟩
  go_wp2_with fail
  refine (HR.out _).mono ?_
  rintro e w2 ⟨rfl, hb2⟩
  have hk := (hb2.block w1.heap.size (by simp)).trans (heap_alloc_last _ _)
  have hb := (below_alloc hb1 _).trans (hb2.mono (below_alloc hb1 _).size)
  have hz : ∀ j, w1.heap.size < w2.heap.size + j := fun j => by have := blk_lt hk; omega
  have hz0 := blk_lt hk
  have p := blk_cell hk
  clear hb1 hb2 h0 h1 HR hk
  rcases hc with rfl | rfl
  · have E := Aside0.mk (hq rfl)
    clear hq
    go_wp2_with fail
    refine (encode_at E.out _).mono ?_
    rintro e w3 ⟨rfl, hb3⟩
    have hb' := (below_alloc hb _).trans (hb3.mono (below_alloc hb _).size)
    clear hb hb3 p hz hz0
    go_wp2_with fail
    refine (works_any _).mono ?_
    rintro e w4 ⟨rfl, hb4⟩
    have hb := hb'.trans (hb4.mono hb'.size)
    clear hb' hb4
    go_wp2
    go_ret
    exact ⟨rfl, hb⟩
  · clear hq
    go_wp2_with fail
    refine (works_any _).mono ?_
    rintro e w4 ⟨rfl, hb4⟩
    have hb' := (below_alloc hb _).trans (hb4.mono (below_alloc hb _).size)
    clear hb hb4 p hz hz0
    go_wp2
    go_ret
    exact ⟨rfl, hb'⟩

/-- What the later text of a law knows of a block of five cells. -/
theorem blk5 {w W : World} {b : Nat} {cs : Array Value} (h : w.heap[b]? = some (.cells cs 24 (0, 0))) (hb : Below w.heap.size w W) : W.heap[b]? = some (.cells cs 24 (0, 0)) := (hb.block b (blk_lt h)).trans h
theorem lt_plus {b n : Nat} (h : b < n) : ∀ j, b < n + j := fun j => by omega

set_option maxHeartbeats 1000000 in
set_option maxRecDepth 100000 in
theorem encodes_walk (nm : ByteArray) (rd ra rb imm : Int) (w : World) : Calls Try.prog 4 #[.agg #[.string nm, .int .i64 rd, .int .i64 ra, .int .i64 rb, .int .i64 imm]] w fun e w' => e = .returned (.bool true) ∧ Below w.heap.size w w' := by
  have hq := enc_dec nm rd ra rb imm
  have hc := encF_code nm rd ra rb imm
  obtain ⟨⟨a, c⟩, hd⟩ : ∃ d, encF nm rd ra rb imm = d := ⟨_, rfl⟩
  rw [hd] at hq hc
  have D := Aside0.mk hd
  clear hd
  simp only [Prod.mk.injEq] at hq hc
  have g1 := eql24
  have g2 := guard24
  have g3 := eqOp_same
  go_enter Try.func4, Try.ntmps4
  go_wp2_with fail
  refine (encode_at D.out _).mono ?_
  rintro e w1 ⟨rfl, hb1⟩
  have hk := (hb1.block w.heap.size (by simp)).trans (heap_alloc_last _ _)
  have hb := (below_alloc (Below.refl w.heap.size w) _).trans (hb1.mono (below_alloc (Below.refl _ _) _).size)
  clear hb1
  rcases hc with rfl | ⟨rfl, rfl⟩
  · obtain ⟨h0, h1, h2⟩ := hq rfl
    have R := Aside0.mk (fun w1 => refd_any a h0 h1 w1)
    rw [h2] at R
    clear hq h0 h1 h2
    go_wp2_with fail
    refine (R.out _).mono ?_
    rintro e w3 ⟨rfl, hb3⟩
    have hb' := hb.trans (hb3.mono hb.size)
    have hk' := blk5 hk hb3
    have hz0 := blk_lt hk'
    have hz := lt_plus hz0
    have p := blk_cell hk'
    clear hb hb3 hk hk'
    go_wp2_with fail
    refine (works_any _).mono ?_
    rintro e w4 ⟨rfl, hb4⟩
    have hb := (below_alloc hb' _).trans (hb4.mono (below_alloc hb' _).size)
    clear hb' hb4 hz hz0 p
    go_wp2
    go_ret
    exact ⟨rfl, hb⟩
  · clear hq
    go_wp2_with fail
    refine (works_any _).mono ?_
    rintro e w4 ⟨rfl, hb4⟩
    have hb' := hb.trans (hb4.mono hb.size)
    clear hb hb4
    go_wp2
    go_ret
    exact ⟨rfl, hb'⟩

end Go.Proofs.Ytciehejifdbpoaa.Rv
