import Derived.Test.YtpfcdhjknmijjaaGreatCo29
import Derived.Test.YtpfcdhjknmijjaaGreatCo34
section
set_option linter.unusedSimpArgs false
set_option linter.unusedVariables false
namespace Go.Proofs.YtpfcdhjknmijjaaGreat.Ew
open Go.RowKit Go.Maps Go.Proofs.YtpfcdhjknmijjaaGreat.Em Go.Proofs.YtpfcdhjknmijjaaGreat.Ve Go.Proofs.YtpfcdhjknmijjaaGreat.Grow Go.Proofs.YtpfcdhjknmijjaaGreat.Rv Go.Proofs.YtpfcdhjknmijjaaGreat.PEmitFinds Go.Proofs.YtpfcdhjknmijjaaGreat.Ht
open Go.Proofs.YtpfcdhjknmijjaaGreatW.PrintWords Go.Proofs.YtpfcdhjknmijjaaGreatW.PrintLast Go.Proofs.YtpfcdhjknmijjaaGreatW.PrintMore

/-! ### Pairs, work and fuel -/
def pairsF (n len : Int) : Int := if len < 0 then 0 else if 262144 < len then 0 else n * (len + 1)
def workF (n sl len : Int) : Int := if pairsF n len = 0 then 0 else 16 * sl + (pairsF n len + 63) / 64 * 8 + 16 * (pairsF n len + 1)
def fuelF (n len : Int) : Int := 256 * pairsF n len
theorem pairsF_b {n : Nat} (hn : n ≤ 4000) (len : Int) : 0 ≤ pairsF n len ∧ pairsF n len ≤ 1048580000 := by
  unfold pairsF
  split
  · omega
  · split
    · omega
    · have h1 : 0 ≤ (n : Int) * (len + 1) := Int.mul_nonneg (by omega) (by omega)
      have h2 : (n : Int) * (len + 1) ≤ 4000 * (len + 1) := Int.mul_le_mul_of_nonneg_right (by omega) (by omega)
      omega
section
variable {w0 w : World} {g : Nat} {l : List S61} {st sl : Int} {out : List Int}
theorem chk63 (h : IsS63 w0 w g l st sl out) : ∃ A0 c0 A3 n3 c3, (∀ k, w.cell? ⟨g, k, none⟩ = (#[.slice A0 l.length c0, .int .i64 st, .int .i64 sl, .slice A3 n3 c3] : Array Value)[k]?) ∧ g < w.heap.size := by
  obtain ⟨A0, c0, A3, c3, hg, hge, hC0, hC3⟩ := h
  exact ⟨A0, c0, A3, _, c3, blk_cell hg, blk_lt hg⟩
set_option maxHeartbeats 1000000 in
theorem slots63 (h : IsS63 w0 w g l st sl out) : Calls Tryz.prog 33 #[.pointer (some ⟨g, 0, none⟩)] w fun e w' => e = .returned (.int .i64 sl) ∧ w = w' := by
  obtain ⟨A0, c0, A3, n3, c3, hc, hz⟩ := chk63 h
  have c2 := (hc 2).trans (show _ = some (.int .i64 sl) from rfl)
  clear hc h
  go_enter Tryz.func33, Tryz.ntmps33
  go_wp2
  go_ret
  exact ⟨rfl, rfl⟩
set_option maxHeartbeats 1000000 in
theorem lenc63 (h : IsS63 w0 w g l st sl out) : Calls Tryz.prog 35 #[.pointer (some ⟨g, 0, none⟩)] w fun e w' => e = .returned (.int .i64 (l.length : Int)) ∧ w = w' := by
  obtain ⟨A0, c0, A3, n3, c3, hc, hz⟩ := chk63 h
  have c2 := (hc 0).trans (show _ = some (.slice A0 l.length c0) from rfl)
  clear hc h
  go_enter Tryz.func35, Tryz.ntmps35
  go_wp2
  go_ret
  exact ⟨rfl, rfl⟩
set_option maxHeartbeats 2000000 in
theorem pairs_calls (h : IsS63 w0 w g l st sl out) (hn : l.length ≤ 4000) (len : Int) : Calls Tryz.prog 32 #[.pointer (some ⟨g, 0, none⟩), .int .i64 len] w fun e w' => e = .returned (.int .i64 (pairsF l.length len)) ∧ w = w' := by
  have LC := Aside0.mk (lenc63 h)
  have PB := Aside0.mk (pairsF_b hn len)
  unfold pairsF at *
  clear h
  obtain ⟨n, hN⟩ : ∃ n, l.length = n := ⟨_, rfl⟩
  rw [hN] at LC PB hn ⊢
  clear hN
  by_cases h1 : len < 0
  · rw [if_pos h1] at *
    go_enter Tryz.func32, Tryz.ntmps32
    go_wp2
    go_ret
    exact ⟨rfl, rfl⟩
  · rw [if_neg h1] at *
    have h1' : 0 ≤ len := by omega
    by_cases h2 : 262144 < len
    · rw [if_pos h2] at *
      clear h1
      go_enter Tryz.func32, Tryz.ntmps32
      go_wp2
      go_ret
      exact ⟨rfl, rfl⟩
    · rw [if_neg h2] at *
      have h2' : len ≤ 262144 := by omega
      have e1 : IntKind.i64.wrap ((n : Int) * (len + 1)) = (n : Int) * (len + 1) := IntWalk.i64_in _ (by have := PB.out; omega)
      have e2 : wrap64 ((n : Int) * (len + 1)) = (n : Int) * (len + 1) := by have := PB.out; unfold wrap64; omega
      clear h1 h2 hn PB
      go_enter Tryz.func32, Tryz.ntmps32
      go_wp2_with (first | (go_at_call 35; refine LC.out.mono ?_; rintro e wq ⟨rfl, rfl⟩))
      go_ret
      exact ⟨rfl, rfl⟩
set_option maxHeartbeats 2000000 in
theorem work_calls (h : IsS63 w0 w g l st sl out) (hn : l.length ≤ 4000) (hs : 0 ≤ sl ∧ sl ≤ 64) (len : Int) : Calls Tryz.prog 11 #[.pointer (some ⟨g, 0, none⟩), .int .i64 len] w fun e w' => e = .returned (.int .i64 (workF l.length sl len)) ∧ w = w' := by
  have LC := Aside0.mk (slots63 h)
  have PC := Aside0.mk (pairs_calls h hn len)
  have hp := pairsF_b hn len
  unfold workF
  obtain ⟨p, hpp⟩ : ∃ p, pairsF l.length len = p := ⟨_, rfl⟩
  rw [hpp] at PC hp ⊢
  obtain ⟨p0, p1⟩ := hp
  obtain ⟨s0, s1⟩ := hs
  clear h hn hpp
  by_cases h0 : p = 0
  · subst h0
    rw [if_pos rfl]
    go_enter Tryz.func11, Tryz.ntmps11
    go_wp2_with (first | (go_at_call 32; refine PC.out.mono ?_; rintro e wq ⟨rfl, rfl⟩))
    go_ret
    exact ⟨rfl, rfl⟩
  · rw [if_neg h0]
    have h0' : (p == 0) = false := beq_eq_false_iff_ne.2 h0
    clear h0
    go_enter Tryz.func11, Tryz.ntmps11
    go_wp2_with (first | (go_at_call 32; refine PC.out.mono ?_; rintro e wq ⟨rfl, rfl⟩) | (go_at_call 33; refine LC.out.mono ?_; rintro e wq ⟨rfl, rfl⟩))
    go_ret
    exact ⟨rfl, rfl⟩
set_option maxHeartbeats 2000000 in
theorem fuel_calls (h : IsS63 w0 w g l st sl out) (hn : l.length ≤ 4000) (len : Int) : Calls Tryz.prog 13 #[.pointer (some ⟨g, 0, none⟩), .int .i64 len] w fun e w' => e = .returned (.int .i64 (fuelF l.length len)) ∧ w = w' := by
  have PC := Aside0.mk (pairs_calls h hn len)
  have hp := pairsF_b hn len
  unfold fuelF
  obtain ⟨p, hpp⟩ : ∃ p, pairsF l.length len = p := ⟨_, rfl⟩
  rw [hpp] at PC hp ⊢
  obtain ⟨p0, p1⟩ := hp
  clear h hn hpp
  go_enter Tryz.func13, Tryz.ntmps13
  go_wp2_with (first | (go_at_call 32; refine PC.out.mono ?_; rintro e wq ⟨rfl, rfl⟩))
  go_ret
  exact ⟨rfl, rfl⟩
end
end Go.Proofs.YtpfcdhjknmijjaaGreat.Ew
end
section
set_option linter.unusedSimpArgs false
set_option linter.unusedVariables false
namespace Go.Proofs.YtpfcdhjknmijjaaGreat.Ew
open Go.RowKit Go.Maps Go.Proofs.YtpfcdhjknmijjaaGreat.Em Go.Proofs.YtpfcdhjknmijjaaGreat.Ve Go.Proofs.YtpfcdhjknmijjaaGreat.Grow Go.Proofs.YtpfcdhjknmijjaaGreat.Rv Go.Proofs.YtpfcdhjknmijjaaGreat.PEmitFinds Go.Proofs.YtpfcdhjknmijjaaGreat.Ht
open Go.Proofs.YtpfcdhjknmijjaaGreatW.PrintWords Go.Proofs.YtpfcdhjknmijjaaGreatW.PrintLast Go.Proofs.YtpfcdhjknmijjaaGreatW.PrintMore

/-! ### The registers that code is called with -/
def flagF (b : Bool) : Int := if b = true then 1 else 0
def regL (len from_ : Int) (an lo : Bool) : List Int := [0, 32768, 0, 0, 0, 0, 0, 0, 0, 0, 33554432, len, from_, flagF an, flagF lo, 67108864, 16777216, 0, 0, 0, 0, 0, 0, 0, 0, 0, 0, 0, 0, 0, 0, 0]
def regC (len from_ : Int) (an lo : Bool) : Array Value := ((regL len from_ an lo).map (Value.int .u64)).toArray
/-! ### A region of the memory -/
theorem within_any (a b c : Int) (w : World) : Calls Tryz.prog 104 #[.int .i64 a, .int .i64 b, .int .i64 c] w fun e w' => e = .returned (.bool (decide (b ≤ a) && decide (a ≤ c))) ∧ w = w' := by
  go_enter Tryz.func104, Tryz.ntmps104
  by_cases h : b ≤ a
  · have h' : decide (b ≤ a) = true := decide_eq_true h
    go_wp2
    go_ret
    exact ⟨by simp [*], rfl⟩
  · have h2 : a < b := by omega
    have h' : decide (b ≤ a) = false := decide_eq_false h
    go_wp2
    go_ret
    exact ⟨by simp [*], rfl⟩
theorem own_bytes {w : World} {g : Nat} {bs : List Int} (h : w.heap[g]? = some (.cells ((bs.map (Value.int .u8)).toArray) 5 (0, 0))) (hl : bs.length ≤ 1000000000) : w.ownsRow 0 5 1 (.slice (some ⟨g, 0, none⟩) bs.length bs.length) bs.length (bs.map (Value.int .u8)) :=
  ⟨by simp, .inr ⟨g, bs.length, _, rfl, Nat.zero_le _, h, Nat.le_refl _, by unfold maxLen; omega, by simp, by simpa using List.take_of_length_le (by simp)⟩⟩
set_option maxHeartbeats 4000000 in
set_option maxRecDepth 100000 in
theorem region_calls {w : World} {mp q : Nat} {gs : List Nat} {S : MemS} (h : MemIs w mp q gs S) (hG : GoodM S) {i : Nat} (hi : i < S.rs.length) :
    Calls Tryz.prog 55 #[.pointer (some ⟨mp, 0, none⟩), .int .i64 (i : Int)] w fun e w' => e = .returned (.tuple #[.agg #[.int .u64 S.rs[i].base, .string (As.strOf S.rs[i].bytes), .int .i64 S.rs[i].rights], .int .i64 0]) ∧ Below w.heap.size w w' := by
  obtain ⟨cap, h1⟩ := h.head
  obtain ⟨cur, h2, h3⟩ := h.row
  have hg : i < gs.length := by rw [h.len]; exact hi
  obtain ⟨r0, r1, r2⟩ := h3 i hi hg
  have hb := h.bytes i hi hg
  have hlen := hG.lens _ (List.getElem_mem hi)
  have hfew := hG.few
  obtain ⟨r, hr⟩ : ∃ r, S.rs[i] = r := ⟨_, rfl⟩
  obtain ⟨gg, hgg⟩ : ∃ x, gs[i] = x := ⟨_, rfl⟩
  rw [hr] at r0 r1 r2 hb hlen ⊢
  rw [hgg] at r1 hb
  obtain ⟨n, hn⟩ : ∃ n, S.rs.length = n := ⟨_, rfl⟩
  rw [hn] at h1 hi hfew
  clear h h3 hg hr hgg hn hG
  have k1 := blk_cell h1
  have k2 := blk_cell h2
  have k0 := (k2 (i * 3)).trans r0
  have k3 := (k2 (i * 3 + 1)).trans r1
  have k4 := (k2 (i * 3 + 2)).trans r2
  have z1 := blk_lt h1
  have z2 := blk_lt h2
  have z3 := blk_lt hb
  have B2 := Aside0.mk (below_alloc (below_alloc (Below.refl w.heap.size w) (.cells #[.int .u64 0, .string ⟨#[]⟩, .int .i64 0] 89)) (.cells #[.int .u64 r.base, .slice (some ⟨gg, 0, none⟩) r.bytes.length r.bytes.length, .int .i64 r.rights] 182))
  have HCV := Aside0.mk (As.own_string (own_bytes (blk_below hb B2.out) (by omega)) rfl)
  have cv := HCV.out
  obtain ⟨s, hs⟩ : ∃ s, As.strOf r.bytes = s := ⟨_, rfl⟩
  rw [hs] at cv ⊢
  have hal := blk_alloc (heap_alloc_new w (.cells #[.int .u64 0, .string ⟨#[]⟩, .int .i64 0] 89)) (.cells #[.int .u64 r.base, .slice (some ⟨gg, 0, none⟩) r.bytes.length r.bytes.length, .int .i64 r.rights] 182)
  have i0 : (0 : Int) ≤ (i : Int) := by omega
  have i1 : (i : Int) < (n : Int) := by omega
  have i2 : (n : Int) < 1000000 := by omega
  have WA := Aside0.mk (fun (w9 : World) => within_any (i : Int) 0 ((n : Int) - 1) w9)
  have d1 : decide ((0 : Int) ≤ (i : Int)) = true := decide_eq_true i0
  have d2 : decide ((i : Int) ≤ (n : Int) - 1) = true := decide_eq_true (by omega)
  rw [d1, d2] at WA
  clear k2 r0 r1 r2 d1 d2 hi hfew hlen HCV hs h1 h2 hb
  go_enter Tryz.func55, Tryz.ntmps55
  go_wp2_with (first | (go_at_call 104; refine (WA.out _).mono ?_; rintro e wq ⟨rfl, rfl⟩) | (refine wpList_store_row rfl 89 (.tmp 4) (.tmp 31) rfl w.heap.size #[.int .u64 r.base, .string s, .int .i64 r.rights] rfl rfl 89 _ hal (by kernel_rfl) (by rfl) (by simp [Value.oneCell']) ?_))
  have H5 := setRow_heap _ w.heap.size _ #[.int .u64 r.base, .string s, .int .i64 r.rights] 89 (0, 0) hal
  have B5 := Aside0.mk (below_setRow B2.out (Nat.le_refl _) #[.int .u64 r.base, .string s, .int .i64 r.rights])
  generalize ((w.alloc (.cells #[.int .u64 0, .string ⟨#[]⟩, .int .i64 0] 89)).alloc (.cells #[.int .u64 r.base, .slice (some ⟨gg, 0, none⟩) r.bytes.length r.bytes.length, .int .i64 r.rights] 182)).setRow w.heap.size #[.int .u64 r.base, .string s, .int .i64 r.rights] = W at *
  have c0 := blk_cell H5 0
  have c1 := blk_cell H5 1
  have c2 := blk_cell H5 2
  have cz := blk_lt H5
  refine bodyPost_ret (v := .tuple #[.agg #[.int .u64 r.base, .string s, .int .i64 r.rights], .int .i64 0]) ?_ rfl ⟨rfl, B5.out⟩
  simp [results, Tryz.results55, go_sem, c0, c1, c2, cz]
end Go.Proofs.YtpfcdhjknmijjaaGreat.Ew
end
