import Derived.Test.YtciehejifdbpoaaRvNames
namespace Go.Proofs.Ytciehejifdbpoaa.Rv
open Go.RowKit Go.Proofs.Ytciehejifdbpoaa.Grow
open Go.Proofs.YtciehejifdbpoaaW.PrintWords Go.Proofs.YtciehejifdbpoaaW.PrintLast Go.Proofs.YtciehejifdbpoaaW.PrintMore
open Go.Proofs.Ytciehejifdbpoaa.PRvcodeDecodes

set_option maxHeartbeats 1000000 in
set_option maxRecDepth 100000 in
theorem named_any (w : World) : Calls Try.prog 60 #[] w fun e w' => e = .returned (.bool true) ∧ Below w.heap.size w w' := by
  go_enter Try.func60, Try.ntmps60
  go_wp2_with fail
  refine (names_any _).mono ?_
  rintro e w1 ⟨v, rfl, hown1, hb1⟩
  obtain ⟨g1, cap1, rfl, hg1, hc1⟩ := own_names hown1
  go_wp2_with fail
  refine (order_any _).mono ?_
  rintro e w2 ⟨v2, rfl, hown2, hb2⟩
  obtain ⟨g2, cap2, rfl, hg2, hc2⟩ := own_names hown2
  have hc1' : ∀ k, k < 64 → w2.cell? ⟨g1, k, none⟩ = some (.string (kd k).1) := fun k hk => (hb2.cell hg1).trans (hc1 k hk)
  have hb := hb1.trans (hb2.mono hb1.size)
  clear hc1 hb1 hb2 hown1 hown2 hg1 hg2
  have X1 := Aside0.mk hc1'
  have X2 := Aside0.mk hc2
  clear hc1' hc2
  go_wp2
  go_loopw [3] (fun v3 wr => ∃ k : Nat, k ≤ 64 ∧ v3 = .int .i64 k ∧ ∃ n, wr = w2.drewN n) (fun v3 _ => 64 - (intOf v3).toNat)
  case atStart => exact ⟨0, by omega, rfl, 0, rfl⟩
  case round =>
    obtain ⟨k, hk, rfl, n, rfl⟩ := hrel
    by_cases hlt : k < 64
    · have h1 := X1.out k hlt
      have h2 := X2.out k hlt
      have h3 : (k : Int) < 64 := by omega
      have h4 : (0 : Int) ≤ (k : Int) := by omega
      go_wp2
      go_quiet (fail)
      go_wp2
      go_roundw
      case rel => exact ⟨k + 1, by omega, by go_num, _, rfl⟩
      case measure => simp [intOf]; omega
    · go_wp2
      go_ret
      exact ⟨rfl, pw_below_drewN hb _⟩

theorem encode_at {nm : ByteArray} {rd ra rb imm a b : Int} (h : encF nm rd ra rb imm = (a, b)) (w : World) : Calls Try.prog 17 #[.agg #[.string nm, .int .i64 rd, .int .i64 ra, .int .i64 rb, .int .i64 imm]] w fun e w' =>
    e = .returned (.tuple #[.int .u32 a, .int .i64 b]) ∧ Below w.heap.size w w' := by
  have := encode_any nm rd ra rb imm w
  rw [h] at this
  exact this
theorem decode_at {x : Int} {y : OpI} {c : Int} (h : decF x = (y, c)) (w : World) : Calls Try.prog 15 #[.int .u32 x] w fun e w' =>
    e = .returned (.tuple #[.agg #[.string y.name, .int .i64 y.rd, .int .i64 y.ra, .int .i64 y.rb, .int .i64 y.imm], .int .i64 c]) ∧ Below w.heap.size w w' := by
  have := decode_any x w
  rw [h] at this
  exact this

theorem enc_addi : encF ⟨#[97, 100, 100, 105]⟩ 1 0 0 (-1) = (4293918867, 0) := by kernel_rfl
theorem enc_jal : encF ⟨#[106, 97, 108]⟩ 0 0 0 8 = (8388719, 0) := by kernel_rfl
theorem enc_nop : encF ⟨#[110, 111, 112]⟩ 0 0 0 0 = (0, 260) := by kernel_rfl
theorem dec_0 : decF 0 = (⟨⟨#[]⟩, 0, 0, 0, 0⟩, 260) := by kernel_rfl

set_option maxHeartbeats 1000000 in
set_option maxRecDepth 100000 in
theorem works_any (w : World) : Calls Try.prog 18 #[] w fun e w' => e = .returned (.bool true) ∧ Below w.heap.size w w' := by
  go_enter Try.func18, Try.ntmps18
  go_wp2_with fail
  refine (encode_at enc_addi _).mono ?_
  rintro e w1 ⟨rfl, hb1⟩
  go_wp2_with fail
  refine (encode_at enc_jal _).mono ?_
  rintro e w2 ⟨rfl, hb2⟩
  replace hb1 := hb1.trans (hb2.mono hb1.size)
  clear hb2
  go_wp2_with fail
  refine (decode_at dec_0 _).mono ?_
  rintro e w3 ⟨rfl, hb3⟩
  replace hb1 := hb1.trans (hb3.mono hb1.size)
  clear hb3
  go_wp2_with fail
  refine (encode_at enc_nop _).mono ?_
  rintro e w4 ⟨rfl, hb4⟩
  replace hb1 := (below_alloc hb1 _).trans (hb4.mono (below_alloc hb1 _).size)
  clear hb4
  go_wp2_with fail
  refine (named_any _).mono ?_
  rintro e w5 ⟨rfl, hb5⟩
  replace hb1 := hb1.trans (hb5.mono hb1.size)
  clear hb5
  go_wp2
  go_ret
  exact ⟨rfl, hb1⟩
end Go.Proofs.Ytciehejifdbpoaa.Rv
