import Derived.Test.YtciehejifdbpoaaHy12
import Derived.Test.YtciehejifdbpoaaHy4
import Derived.Test.YtciehejifdbpoaaHy11
import Derived.Test.YtciehejifdbpoaaHy8
section
set_option linter.unusedSimpArgs false
set_option linter.unusedVariables false
namespace Go.Proofs.Ytciehejifdbpoaa.Hl
open Go.RowKit Go.Maps Go.Proofs.Ytciehejifdbpoaa.Grow Go.Proofs.Ytciehejifdbpoaa.Rv Go.Proofs.Ytciehejifdbpoaa.As Go.Proofs.Ytciehejifdbpoaa.Ht Go.Proofs.Ytciehejifdbpoaa.PHartQuotients Go.Proofs.Ytciehejifdbpoaa.PHartSteps
open Go.Proofs.YtciehejifdbpoaaW.PrintWords Go.Proofs.YtciehejifdbpoaaW.PrintLast Go.Proofs.YtciehejifdbpoaaW.PrintMore

theorem x_step {x : Int} (hx : U64 x) (k : Nat) : (x / 256 ^ k).tmod 256 % 256 = x / 256 ^ k % 256 ∧ IntKind.u64.wrap ((x / 256 ^ k).tdiv 256) = x / 256 ^ (k + 1) := by
  have h0 : 0 ≤ x / 256 ^ k := Int.ediv_nonneg hx.1 (Int.le_of_lt (Int.pow_pos (by decide)))
  have h1 : x / 256 ^ k ≤ x := Int.ediv_le_self _ hx.1
  have h2 := hx.2
  rw [show x / 256 ^ (k + 1) = x / 256 ^ k / 256 by rw [Int.pow_succ, Int.ediv_ediv_of_nonneg (Int.le_of_lt (Int.pow_pos (by decide)))]]
  generalize x / 256 ^ k = X at *
  rw [tmod_pos h0, tdiv_pos h0]
  refine ⟨by omega, uw_id ⟨by omega, by omega⟩⟩
theorem BytesAt.grow {w w' : World} {G N : Nat} {bs : List Int} (h : BytesAt w G N bs) (hg : w.grownBy w' (Value.slice none 0 0).ownBlock) : BytesAt w' G N bs := by
  obtain ⟨cur, hh, r⟩ := h.ex
  exact ⟨cur, (hg.block G (blk_lt hh) (by simp [Value.ownBlock])).trans hh, r⟩
theorem cell4 {w : World} {gn capn : Nat} {cur : Array Value} (hh : w.heap[gn]? = some (.cells cur 92 (0, 0))) (h3 : cur.size = capn * 3) (h : 2 ≤ capn) : ∃ y, w.cell? ⟨gn, 4, none⟩ = some y :=
  ⟨_, (blk_cell hh 4).trans (Array.getElem?_eq_getElem (by omega))⟩
theorem small_k {k m : Nat} (h : k < m) (h8 : m ≤ 8) : k + 1 < 1000000 := by omega
theorem w64_nat {n : Nat} (h : n < 1000000) : wrap64 (n : Int) = n := by unfold wrap64; omega
theorem w64_sum {f k p : Nat} (h : f + k = p) (h2 : p < 1000000) : wrap64 ((f : Int) + (k : Int)) = (p : Int) := by rw [← Int.natCast_add, h]; exact w64_nat h2
set_option maxHeartbeats 8000000 in
set_option maxRecDepth 100000 in
theorem store_ref {w : World} {mv : Value} {d0 d1 : ByteArray} {S : MemS} (h : RefRow w mv d0 d1) (hM : Mem2 S d0 d1) {a n x : Int} (ha : U64 a) (hx : U64 x) :
    Calls Try.prog 88 #[mv, .int .u64 a, .int .i64 n, .int .u64 x] w fun e w' => ∃ mv', e = .returned (.tuple #[mv', .int .i64 (storeF S a n x).2]) ∧ ∃ d1', RefRow w' mv' d0 d1' ∧ Mem2 (storeF S a n x).1 d0 d1' ∧ Below w.heap.size w w' := by
  obtain ⟨g, cap, hmv, hc2, hglt, hgc⟩ := h.form
  have H := Aside0.mk h
  have HM := Aside0.mk hM
  obtain ⟨R, hR⟩ : ∃ R, storeF S a n x = R := ⟨_, rfl⟩
  rw [hR]
  have HR := Aside0.mk hR
  subst hmv
  have SZ := Aside0.mk (fun w9 => burinref27_Size.calls n (sizeOk n) w9 (size_f n))
  clear h hR hgc
  go_enter Try.func88, Try.ntmps88
  go_wp2_with fail
  refine (SZ.out _).mono ?_
  rintro e w1 ⟨rfl, hd1⟩
  have B1 := Aside0.mk hd1.below
  clear hd1
  cases hs : sizeOk n
  · have hF : R = (S, 1) := by rw [← HR.out]; unfold storeF; rw [if_neg (by rw [hs]; decide)]
    subst hF
    go_wp2
    refine bodyPost_ret (v := .tuple #[.slice (some ⟨g, 0, none⟩) 2 cap, .int .i64 1]) (by simp [results, Try.results88, go_sem]) rfl ?_
    exact ⟨.slice (some ⟨g, 0, none⟩) 2 cap, rfl, d1, H.out.below B1.out, HM.out, B1.out⟩
  · obtain ⟨m, rfl, hm1, hm8⟩ := sizeOk_nat hs
    have WC := Aside0.mk (where_ref (H.out.below B1.out) hM.s0.2 hM.s1.2 ha (n := (m : Int)) ⟨by omega, by omega⟩)
    have hF := find_data hM (a := a) (n := (m : Int)) (right := 2) ha ⟨by omega, by omega⟩ (Or.inr rfl)
    have hWV : whereV d0 d1 a m 2 = if 8192 ≤ a ∧ a + (m : Int) ≤ 8192 + (d1.size : Int) then 1 else -1 := by unfold whereV; rw [if_neg (by decide)]
    go_wp2_with fail
    refine WC.out.mono ?_
    rintro e w2 ⟨rfl, hb2⟩
    have B2 := Aside0.mk (B1.out.trans (hb2.mono B1.out.size))
    clear hb2 WC
    rw [hWV]
    by_cases c : 8192 ≤ a ∧ a + (m : Int) ≤ 8192 + (d1.size : Int)
    · rw [if_pos c]
      rw [if_pos c] at hF
      obtain ⟨g', cap', eg, l8, z2, hc⟩ := (H.out.below B2.out).form
      cases eg
      clear l8
      have q0 : w2.cell? ⟨g, 3, none⟩ = some (.int .u64 8192) := hc 3 _ rfl
      have q1 : w2.cell? ⟨g, 4, none⟩ = some (.string d1) := hc 4 _ rfl
      have kb := print_bytes (P := Try.prog) 9 130 5 und9 Ht.under130 und5 d1 w2
      have HK := Aside0.mk (bytesWorld_bytes w2 d1)
      have BW := Aside0.mk (bytes_below B2.out B2.out.size 5 d1)
      have B2s := B2.out.size
      have HW := Aside0.mk (bytes_below (Below.refl w2.heap.size w2) (Nat.le_refl _) 5 d1)
      obtain ⟨f, hf⟩ : ∃ f : Nat, (a - 8192).toNat = f := ⟨_, rfl⟩
      have hf2 : f + m ≤ d1.size := by have := c.1; have := c.2; omega
      have hsz := hM.s1.2
      have hw1 : IntKind.u64.wrap (a - 8192) = (f : Int) := by rw [uw_id ⟨by omega, by have := ha.2; omega⟩]; omega
      have HF := Aside0.mk hF
      have CA := Aside0.mk c
      have hh1 := HK.out
      obtain ⟨N, hN⟩ := hh1
      have HN := Aside0.mk hN
      have hGs : w2.heap.size < (Lib.bytesWorld w2 5 d1).heap.size := hN.lt
      have HSO := Aside0.mk hs
      clear hc hs hF hWV hN HK
      go_wp2_with fail
      clear kb q0 q1 hGs
      generalize Lib.bytesWorld w2 5 d1 = wb at *
      generalize grownCap w2 d1.size 0 5 = GC at *
      go_loopw [3, 12] (fun v3 v12 wr => ∃ k : Nat, k ≤ m ∧ v12 = .int .i64 k ∧ v3 = .int .u64 (x / 256 ^ k) ∧ Aside0 (BytesAt wr w2.heap.size N (putB (dataB d1) f x k) ∧ Below w2.heap.size w2 wr)) (fun _ v12 _ => m - (intOf v12).toNat)
      case atStart => exact ⟨0, by omega, rfl, by simp, ⟨HN.out, HW.out⟩⟩
      case round =>
        obtain ⟨k, hk, rfl, rfl, hI⟩ := hrel
        by_cases hlt : k < m
        · obtain ⟨hb, hw⟩ := hI.out
          obtain ⟨g', cap', eg, l9, z3, hc⟩ := ((H.out.below B2.out).below hw).form
          cases eg
          clear l9
          have q0 : wr.cell? ⟨g, 3, none⟩ = some (.int .u64 8192) := hc 3 _ rfl
          obtain ⟨p, hp⟩ : ∃ p, f + k = p := ⟨_, rfl⟩
          have hfk : p < (putB (dataB d1) f x k).length := by rw [putB_len, dataB_len]; omega
          have cg : ∃ y, wr.cell? ⟨w2.heap.size, p, none⟩ = some y := ⟨_, hb.cell p hfk⟩
          obtain ⟨y, cg⟩ := cg
          have fg := hb.froz p hfk
          have zg := hb.lt
          have k0 : (0 : Int) ≤ (k : Int) := by omega
          have k1 : (k : Int) < (m : Int) := by omega
          have f1 : (p : Int) < (d1.size : Int) := by omega
          have f2 : p < d1.size := by omega
          have hp2 : p < 1000000 := Nat.lt_of_lt_of_le f2 (Nat.le_trans hsz (by decide))
          have w3 : wrap64 ((f : Int) + (k : Int)) = (p : Int) := w64_sum hp hp2
          have w4 : wrap64 (f : Int) = (f : Int) := w64_nat (Nat.lt_of_le_of_lt (Nat.le_trans (Nat.le_add_right f k) (Nat.le_of_eq hp)) hp2)
          have S2 := Aside0.mk (show BytesAt (wr.setCell ⟨w2.heap.size, p, none⟩ (.int .u8 (x / 256 ^ k % 256))) w2.heap.size N (putB (dataB d1) f x (k + 1)) by
            have := hb.set p hfk (x / 256 ^ k % 256)
            show BytesAt _ _ _ ((putB (dataB d1) f x k).set (f + k) (x / 256 ^ k % 256))
            rw [hp]; exact this)
          have B3 := Aside0.mk (show Below w2.heap.size w2 (wr.setCell ⟨w2.heap.size, p, none⟩ (.int .u8 (x / 256 ^ k % 256))) from hw.setCell (p := ⟨w2.heap.size, p, none⟩) (Nat.le_refl _) _)
          have hdiv := Aside0.mk (x_step hx k)
          obtain ⟨X, hX⟩ : ∃ X, x / 256 ^ k = X := ⟨_, rfl⟩
          rw [hX] at S2 B3 hdiv ⊢
          have HLT := Aside0.mk hlt
          have HK6 := Aside0.mk (small_k hlt hm8)
          clear hb hw hc hX hI hfk hp hp2 f2 hk hlt hf hf2 hsz hm1 hm8 c hc2 hglt z2 B2s ha hx hM HM H HR HF CA SZ B1 B2 BW HW HN
          go_wp2_with fail
          have hlt := HLT.out
          have hk1 : wrap64 ((k : Int) + 1) = ((k + 1 : Nat) : Int) := w64_sum (f := k) (k := 1) rfl HK6.out
          obtain ⟨e1, e2⟩ := hdiv.out
          rw [e1, e2, hk1]
          exact ⟨⟨k + 1, hlt, rfl, rfl, ⟨S2.out, B3.out⟩⟩, by simp only [intOf, Int.toNat_natCast]; exact Nat.sub_lt_sub_left hlt (Nat.lt_succ_self k)⟩
        · have hkm : k = m := Nat.le_antisymm hk (Nat.le_of_not_lt hlt)
          subst hkm
          obtain ⟨hb, hw⟩ := hI.out
          obtain ⟨g', cap', eg, l9, z3, hc⟩ := ((H.out.below B2.out).below hw).form
          cases eg
          clear l9
          obtain ⟨i0, hi, hz0, hz1, hz2⟩ := info_parts info92
          have NW := Aside0.mk (show ∀ j u, (regV 4096 d0 4 ++ regV 8192 d1 3)[j]? = some u → wr.cell? ((⟨g, 0, none⟩ : Addr).add j) = some u from fun j u hu => by rw [Addr.add_mid, Nat.zero_add]; exact hc j u hu)
          have HBS := Aside0.mk (Nat.le_trans B2s hw.size)
          have HB := Aside0.mk hb
          have BWR := Aside0.mk (B2.out.trans (hw.mono B2s))
          have zw := hb.lt
          have LEN := Aside0.mk (show (putB (dataB d1) f x k).length = d1.size by rw [putB_len, dataB_len])
          have HFE := Aside0.mk hf
          have M2 := Aside0.mk (mem2_store HM.out (n := (k : Int)) (x := x) HSO.out HF.out)
          clear hb hw hc hI ha hx hM hf hf2 hsz hm1 hm8 c
          go_wp2_with (first | (at_builtin; refine wpList_append_own _ rfl (.tmp 53) (.tmp 54) 78 rfl w.heap.size 92 i0 _ 3 32 under78 hi hz0 hz1 hz2 rfl (by decide) (.slice none 0 0) 0 [] rfl ⟨rfl, .inl ⟨rfl, rfl⟩⟩ ⟨g, 0, none⟩ 2 cap (regV 4096 d0 4 ++ regV 8192 d1 3) rfl rfl NW.out one_reg (by unfold maxLen; decide) (by decide) HBS.out ?_; intro v' w5 hown' hgrow _; obtain ⟨gn, capn, cur, rfl, hgn, hh5, hc5, hm5, hs5, ht5⟩ := own2_form hown'; have hb5 := HB.out.grow hgrow; have hcv := bytesAt_string GC hb5; rw [LEN.out] at hcv; have z5 := blk_lt hh5; have c5 := cell4 hh5 hs5 hc5; have f5 := frozen_of_row w5 gn 4 _ 92 hh5; obtain ⟨y5, c5⟩ := c5; have B5 := Aside0.mk (BWR.out.grown hgrow HBS.out (fun _ h => by cases h)); have F5 := Aside0.mk (And.intro hh5 (And.intro hc5 (And.intro hm5 (And.intro hs5 ht5)))); have G5 := Aside0.mk hgn; clear hown' hgrow hb5 hh5 hs5 ht5 hm5 hgn))
          refine bodyPost_ret (v := .tuple #[.slice (some ⟨gn, 0, none⟩) 2 capn, .int .i64 0]) (by simp [results, Try.results88, go_sem]) rfl ?_
          obtain ⟨hh5, hcc5, hm5, hs5, ht5⟩ := F5.out
          obtain ⟨m0, m2⟩ := M2.out
          rw [HR.out] at m0 m2
          rw [HFE.out, Int.toNat_natCast] at m2
          rw [m0]
          exact ⟨.slice (some ⟨gn, 0, none⟩) 2 capn, rfl, strOf (putB (dataB d1) f x k), ref_set hh5 hcc5 hm5 hs5 (by simpa using ht5), m2, B5.out.setCell (p := ⟨gn, 4, none⟩) G5.out _⟩
    · rw [if_neg c]
      rw [if_neg c] at hF
      have hF : R = (S, 270) := by rw [← HR.out]; unfold storeF; rw [if_pos hs, hF]
      subst hF
      go_wp2
      refine bodyPost_ret (v := .tuple #[.slice (some ⟨g, 0, none⟩) 2 cap, .int .i64 270]) (by simp [results, Try.results88, go_sem]) rfl ?_
      exact ⟨.slice (some ⟨g, 0, none⟩) 2 cap, rfl, d1, H.out.below B2.out, HM.out, B2.out⟩
end Go.Proofs.Ytciehejifdbpoaa.Hl
end
section
set_option linter.unusedSimpArgs false
set_option linter.unusedVariables false
namespace Go.Proofs.Ytciehejifdbpoaa.Hl
open Go.RowKit Go.Maps Go.Proofs.Ytciehejifdbpoaa.Grow Go.Proofs.Ytciehejifdbpoaa.Rv Go.Proofs.Ytciehejifdbpoaa.As Go.Proofs.Ytciehejifdbpoaa.Ht Go.Proofs.Ytciehejifdbpoaa.PHartQuotients Go.Proofs.Ytciehejifdbpoaa.PHartSteps
open Go.Proofs.YtciehejifdbpoaaW.PrintWords Go.Proofs.YtciehejifdbpoaaW.PrintLast Go.Proofs.YtciehejifdbpoaaW.PrintMore

/-! ### A step of the document's machine: the fetch fails -/
structure RefIs (w : World) (c : Array Value) (S : HartS) : Prop where
  ex : ∃ mv d0 d1, c = stC mv S.pc S.regs ∧ RefRow w mv d0 d1 ∧ Mem2 S.mem d0 d1
  len : S.regs.length = 32
  pc : U64 S.pc
theorem RefIs.below {w w' : World} {c : Array Value} {S : HartS} (h : RefIs w c S) (hb : Below w.heap.size w w') : RefIs w' c S := by
  obtain ⟨mv, d0, d1, e, hr, hm⟩ := h.ex
  exact ⟨⟨mv, d0, d1, e, hr.below hb, hm⟩, h.len, h.pc⟩
theorem RefRow.one {w : World} {mv : Value} {d0 d1 : ByteArray} (h : RefRow w mv d0 d1) : mv.oneCell' = true := by
  obtain ⟨g, cap, rfl, _⟩ := h.form; rfl
theorem fetch_code (S : MemS) (a : Int) : (fetchF S a).2 = 0 ∨ (fetchF S a).2 = 270 := by
  unfold fetchF
  split
  · split
    · exact .inr rfl
    · exact .inl rfl
  · exact .inr rfl
theorem res42 {tmps : Array Value} {w : World} {g : Nat} {cs : Array Value} {v3 : Value} (h3 : tmps.getD 3 undef = v3) (h2 : tmps.getD 2 undef = .pointer (some ⟨g, 0, none⟩)) (hg : w.heap[g]? = some (.cells cs 80 (0, 0))) (hs : cs.size = 34) :
    (results Try.f42 tmps).run Try.prog w = .ok (.tuple #[.agg cs, v3]) w := by
  obtain ⟨fs, hu⟩ := under80
  have h2' : tmps[2]?.getD undef = .pointer (some ⟨g, 0, none⟩) := by simpa using h2
  have h3' : tmps[3]?.getD undef = v3 := by simpa using h3
  have hl := run_loadVar_row (P := Try.prog) w g 80 80 cs (0, 0) _ hg hu rfl (by rw [info80, hs])
  simp [results, Try.results42, h2', h3', asAddr, hl]
set_option maxHeartbeats 4000000 in
set_option maxRecDepth 100000 in
theorem step_err {w : World} {c : Array Value} {S : HartS} (h : RefIs w c S) (he : (fetchF S.mem S.pc).2 ≠ 0) :
    Calls Try.prog 42 #[.agg c] w fun e w' => e = .returned (.tuple #[.agg c, .int .i64 270]) ∧ Below w.heap.size w w' := by
  obtain ⟨mv, d0, d1, hc, hr, hm⟩ := h.ex
  have e270 : (fetchF S.mem S.pc).2 = 270 := (fetch_code S.mem S.pc).resolve_left he
  have hs : c.size = 34 := by rw [hc]; exact stC_size _ _ h.len
  have ho : c.all (·.oneCell') = true := by rw [hc]; exact stC_one' hr.one _ _
  have c0 : c[0]? = some mv := by rw [hc]; rfl
  have c1 : c[1]? = some (.int .u64 S.pc) := by rw [hc]; rfl
  have zs : zC.size = 34 := stC_size _ _ (by simp)
  have h1 := heap_alloc_last w (.cells c 80)
  have h2 := heap_alloc_at (w.alloc (.cells c 80)) (.cells zC 80) (n := w.heap.size + 1) (by simp)
  have h1' := blk_alloc h1 (.cells zC 80)
  have B2 := below_alloc (below_alloc (Below.refl w.heap.size w) (.cells c 80)) (.cells zC 80)
  have FC := Aside0.mk (fun (w9 : World) (hb : Below w.heap.size w w9) => fetch_ref (hr.below hb) hm h.pc)
  have k0 := (blk_cell h1' 0).trans c0
  have k1 := (blk_cell h1' 1).trans c1
  clear h hr hm hc
  go_enter Try.func42, Try.ntmps42
  go_wp2_with (first | (refine wpList_alloc80 rfl rfl ?_))
  have B2' := Aside0.mk B2
  have H1 := Aside0.mk h1'
  have H2 := Aside0.mk h2
  refine (FC.out _ B2).mono ?_
  rintro e w3 ⟨rfl, hb3⟩
  have B3 := Aside0.mk (B2.trans (hb3.mono B2.size))
  have g1 := blk_below h1' hb3
  have g2 := blk_below h2 hb3
  rw [e270]
  clear h1 h2 h1' k0 k1 hb3 B2
  go_wp2_with (first | (refine wpList_load80 rfl _ rfl w.heap.size c rfl g1 hs ?_) | (refine wpList_store80 rfl _ _ rfl (w.heap.size + 1) c zC rfl rfl g2 hs zs ho ?_))
  have hW := setRow_heap _ (w.heap.size + 1) zC c 80 (0, 0) g2
  refine bodyPost_ret (v := .tuple #[.agg c, .int .i64 270]) (res42 (g := w.heap.size + 1) rfl rfl hW hs) rfl ⟨rfl, below_setRow B3.out (by omega) _⟩
end Go.Proofs.Ytciehejifdbpoaa.Hl
end
section
namespace Go.Proofs.Ytciehejifdbpoaa.Rv
open Go.RowKit Go.Proofs.YtciehejifdbpoaaW.PrintWords Go.Proofs.YtciehejifdbpoaaW.PrintLast Go.Proofs.YtciehejifdbpoaaW.PrintMore
open Go.Proofs.Ytciehejifdbpoaa.PHartSteps

theorem wrapu_nat (a : Nat) (h : a < 4294967296) : IntKind.u64.wrap (a : Int) = (a : Int) := by rw [IntKind.wrap_u64]; omega
theorem shr_nat (n a : Nat) (ha : a ≤ 60) : shr .i64 (n : Int) (a : Int) = ((n / 2 ^ a : Nat) : Int) := by
  unfold shr
  rw [Int.toNat_natCast, Nat.min_eq_left (by show a ≤ 64; omega)]
  simp
theorem shl_one (b : Nat) (hb : b ≤ 60) : shl .i64 1 (b : Int) = ((2 ^ b : Nat) : Int) := by
  unfold shl
  rw [Int.toNat_natCast, Nat.min_eq_left (by show b ≤ 64; omega), IntKind.wrap_i64]
  have hp : 2 ^ b ≤ 2 ^ 60 := Nat.pow_le_pow_right (by decide) hb
  have hpos : 0 < 2 ^ b := Nat.two_pow_pos b
  have : ((2 : Int) ^ b) = ((2 ^ b : Nat) : Int) := by simp
  rw [this]
  generalize 2 ^ b = z at *
  omega
/-- The reference's bits of a number. -/
theorem bits_val (n a b : Nat) (hn : n < 4294967296) (ha : a ≤ 31) (hb : b ≤ 31) : burinref26_Bits.f (n : Int) (a : Int) (b : Int) = some ((n / 2 ^ a % 2 ^ b : Nat) : Int) := by
  unfold burinref26_Bits.f
  rw [if_pos (wrapu _), if_pos (wrapu _), wrapu_nat a (by omega), wrapu_nat b (by omega), shr_nat n a (by omega), shl_one b (by omega)]
  have hp : 2 ^ b ≤ 2 ^ 31 := Nat.pow_le_pow_right (by decide) hb
  have hpos : 0 < 2 ^ b := Nat.two_pow_pos b
  have hle : n / 2 ^ a ≤ n := Nat.div_le_self _ _
  have e : wrap64 (((2 ^ b : Nat) : Int) - 1) = (2 : Int) ^ b - 1 := by
    have : ((2 : Int) ^ b) = ((2 ^ b : Nat) : Int) := by simp
    rw [this]
    generalize 2 ^ b = z at *
    exact w64 _ (by omega) (by omega)
  rw [e, bits_mask .i64 63 (by decide) wraps_i64 b (by omega) _ (Int.natCast_nonneg _) (by
    generalize n / 2 ^ a = z at *
    omega)]
  simp
/-- The reference's number with a sign. -/
theorem signed_val (v s : Nat) (hs : s ≤ 30) (hv : v < 2 ^ (s + 1)) : burinref26_signed.f (v : Int) ((s + 1 : Nat) : Int) = some (if 2 ^ s ≤ v then (v : Int) - ((2 ^ (s + 1) : Nat) : Int) else (v : Int)) := by
  unfold burinref26_signed.f
  have e1 : wrap64 (((s + 1 : Nat) : Int) - 1) = (s : Int) := by
    have : ((s + 1 : Nat) : Int) - 1 = (s : Int) := by omega
    rw [this]; exact w64 _ (by omega) (by omega)
  rw [if_pos (wrapu _), e1, wrapu_nat s (by omega), shr_nat v s (by omega)]
  have hp : 2 ^ s ≤ 2 ^ 30 := Nat.pow_le_pow_right (by decide) hs
  have hpos : 0 < 2 ^ s := Nat.two_pow_pos s
  have h2 : 2 ^ (s + 1) = 2 * 2 ^ s := by rw [Nat.pow_succ]; omega
  have hv' : v < 2 * 2 ^ s := by rw [← h2]; exact hv
  have hq : v / 2 ^ s < 2 := by rw [Nat.div_lt_iff_lt_mul hpos]; omega
  have e2 : Go.bits .and .i64 ((v / 2 ^ s : Nat) : Int) 1 = ((v / 2 ^ s : Nat) : Int) := by
    have := bits_mask .i64 63 (by decide) wraps_i64 1 (by decide) ((v / 2 ^ s : Nat) : Int) (Int.natCast_nonneg _) (by
      generalize v / 2 ^ s = z at *
      omega)
    rw [show (2 : Int) ^ 1 - 1 = 1 from rfl] at this
    rw [this]
    generalize v / 2 ^ s = z at *
    omega
  rw [e2]
  by_cases hc : 2 ^ s ≤ v
  · have : v / 2 ^ s = 1 := by
      have h1 : 1 ≤ v / 2 ^ s := (Nat.one_le_div_iff hpos).2 hc
      omega
    rw [this, if_pos (show ((1 : Nat) : Int) = 1 from rfl), if_pos (wrapu _), wrapu_nat (s + 1) (by omega), shl_one (s + 1) (by omega), if_pos hc]
    refine congrArg some ?_
    rw [h2]
    clear h2 e2 this hv
    generalize 2 ^ s = z at *
    exact w64 _ (by omega) (by omega)
  · have : v / 2 ^ s = 0 := Nat.div_eq_of_lt (by omega)
    rw [this, if_neg (show ¬ ((0 : Nat) : Int) = 1 by decide), if_neg hc]
end Go.Proofs.Ytciehejifdbpoaa.Rv

namespace Go.Proofs.Ytciehejifdbpoaa.Rv
open Go.RowKit Go.Proofs.YtciehejifdbpoaaW.PrintWords Go.Proofs.YtciehejifdbpoaaW.PrintLast Go.Proofs.YtciehejifdbpoaaW.PrintMore
open Go.Proofs.Ytciehejifdbpoaa.PHartSteps

/-- The reference's way, its first five numbers told. -/
def readO (x o rd f3 ra rb : Int) : Option (ByteArray × Int × Int × Int × Int) :=
  if o = 51 then burinref26_Read.j0 20 x o rd f3 ra rb o (o == 51) else burinref26_Read.j0 20 x o rd f3 ra rb o (o == 59)
theorem read_start (n : Nat) (h : n < 4294967296) : burinref26_Read.f 20 (n : Int) = readO (n : Int) ((n % 128 : Nat) : Int) ((n / 128 % 32 : Nat) : Int) ((n / 4096 % 8 : Nat) : Int) ((n / 32768 % 32 : Nat) : Int) ((n / 1048576 % 32 : Nat) : Int) := by
  have b0 : burinref26_Bits.f (n : Int) 0 7 = some ((n / 2 ^ 0 % 2 ^ 7 : Nat) : Int) := bits_val n 0 7 h (by decide) (by decide)
  have b1 : burinref26_Bits.f (n : Int) 7 5 = some ((n / 2 ^ 7 % 2 ^ 5 : Nat) : Int) := bits_val n 7 5 h (by decide) (by decide)
  have b2 : burinref26_Bits.f (n : Int) 12 3 = some ((n / 2 ^ 12 % 2 ^ 3 : Nat) : Int) := bits_val n 12 3 h (by decide) (by decide)
  have b3 : burinref26_Bits.f (n : Int) 15 5 = some ((n / 2 ^ 15 % 2 ^ 5 : Nat) : Int) := bits_val n 15 5 h (by decide) (by decide)
  have b4 : burinref26_Bits.f (n : Int) 20 5 = some ((n / 2 ^ 20 % 2 ^ 5 : Nat) : Int) := bits_val n 20 5 h (by decide) (by decide)
  have e0 : n / 2 ^ 0 % 2 ^ 7 = n % 128 := by omega
  have e1 : n / 2 ^ 7 % 2 ^ 5 = n / 128 % 32 := by omega
  have e2 : n / 2 ^ 12 % 2 ^ 3 = n / 4096 % 8 := by omega
  have e3 : n / 2 ^ 15 % 2 ^ 5 = n / 32768 % 32 := by omega
  have e4 : n / 2 ^ 20 % 2 ^ 5 = n / 1048576 % 32 := by omega
  unfold burinref26_Read.f
  rw [b0, b1, b2, b3, b4, e0, e1, e2, e3, e4]
  simp only [Option.bind_some]
  rfl

theorem leafR (x rd f3 ra rb : Int) : readO x 51 rd f3 ra rb = (burinref26_Bits.f x 25 7).bind fun t => (burinref26_opR.f 19 51 f3 t).bind fun nm => some (nm, rd, ra, rb, 0) := by kernel_rfl
theorem leafRw (x rd f3 ra rb : Int) : readO x 59 rd f3 ra rb = (burinref26_Bits.f x 25 7).bind fun t => (burinref26_opR.f 19 59 f3 t).bind fun nm => some (nm, rd, ra, rb, 0) := by kernel_rfl
theorem leafSh1 (x rd ra rb : Int) : readO x 19 rd 1 ra rb = (burinref26_shift.f 17 x 6).bind fun b => some (b.1, b.2.1, b.2.2.1, b.2.2.2.1, b.2.2.2.2) := by kernel_rfl
theorem leafSh5 (x rd ra rb : Int) : readO x 19 rd 5 ra rb = (burinref26_shift.f 17 x 6).bind fun b => some (b.1, b.2.1, b.2.2.1, b.2.2.2.1, b.2.2.2.2) := by kernel_rfl
end Go.Proofs.Ytciehejifdbpoaa.Rv

namespace Go.Proofs.Ytciehejifdbpoaa.Rv
open Go.RowKit
open Go.Proofs.Ytciehejifdbpoaa.PHartSteps

theorem rgs (n : Nat) (h : n < 4294967296) : rgN true (n : Int) 7 = ((n / 128 % 32 : Nat) : Int) ∧ rgN true (n : Int) 15 = ((n / 32768 % 32 : Nat) : Int) ∧ rgN true (n : Int) 20 = ((n / 1048576 % 32 : Nat) : Int) :=
  ⟨rd_at h rfl, ra_at h rfl, rb_at h rfl⟩

/-- A word of form R, as the reference reads it. -/
theorem foundR {n B o f3 f7 : Nat} {nm : ByteArray} (h : n < 4294967296) (ho : o = 51 ∨ o = 59) (hf3 : f3 < 8) (_hf7 : f7 < 128) (hB : B = o + f3 * 4096 + f7 * 33554432) (hM : mat 0 n = B)
    (hn : burinref26_opR.f 19 (o : Int) (f3 : Int) (f7 : Int) = some nm) : burinref26_Read.f 20 (n : Int) = some (nm, rgN true (n : Int) 7, rgN true (n : Int) 15, rgN true (n : Int) 20, 0) := by
  have hM' : n % 128 + (n / 4096 % 8) * 4096 + (n / 33554432 % 128) * 33554432 = B := hM
  have b1 : burinref26_Bits.f (n : Int) 25 7 = some ((n / 2 ^ 25 % 2 ^ 7 : Nat) : Int) := bits_val n 25 7 h (by decide) (by decide)
  obtain ⟨r1, r2, r3⟩ := rgs n h
  rw [read_start n h, r1, r2, r3]
  clear r1 r2 r3 hM
  have q0 : n % 128 = o := by omega
  have q1 : n / 4096 % 8 = f3 := by omega
  have q2 : n / 2 ^ 25 % 2 ^ 7 = f7 := by omega
  rw [q0, q1]
  rw [q2] at b1
  rcases ho with rfl | rfl
  · rw [show ((51 : Nat) : Int) = 51 from rfl] at hn ⊢
    rw [leafR, b1, Option.bind_some, hn]; rfl
  · rw [show ((59 : Nat) : Int) = 59 from rfl] at hn ⊢
    rw [leafRw, b1, Option.bind_some, hn]; rfl
/-- A word of another opcode's form with f3, its number of 12 bits on top. -/
theorem immI_val (n : Nat) (h : n < 4294967296) : ∃ t, burinref26_Bits.f (n : Int) 20 12 = some t ∧ burinref26_signed.f t 12 = some (gat 1 (n : Int)) := by
  have b1 : burinref26_Bits.f (n : Int) 20 12 = some ((n / 2 ^ 20 % 2 ^ 12 : Nat) : Int) := bits_val n 20 12 h (by decide) (by decide)
  have hv : n / 2 ^ 20 % 2 ^ 12 < 2 ^ (11 + 1) := Nat.mod_lt _ (by decide)
  have s1 : burinref26_signed.f ((n / 2 ^ 20 % 2 ^ 12 : Nat) : Int) 12 = _ := signed_val (n / 2 ^ 20 % 2 ^ 12) 11 (by decide) hv
  refine ⟨_, b1, ?_⟩
  rw [s1, gat1]
  clear b1 s1
  refine congrArg some ?_
  have e : n / 2 ^ 20 % 2 ^ 12 = n / 1048576 := by omega
  rw [e] at hv ⊢
  unfold wrap32
  split <;> omega
/-- A word of form I. -/
theorem foundI {n o f3 : Nat} {nm : ByteArray} (h : n < 4294967296) (ho : o < 128) (_hf3 : f3 < 8) (hM : mat 1 n = o + f3 * 4096)
    (hl : ∀ x rd ra rb, readO x (o : Int) rd (f3 : Int) ra rb = (burinref26_Bits.f x 20 12).bind fun t => (burinref26_signed.f t 12).bind fun im => some (nm, rd, ra, 0, im)) :
    burinref26_Read.f 20 (n : Int) = some (nm, rgN true (n : Int) 7, rgN true (n : Int) 15, 0, gat 1 (n : Int)) := by
  have hM' : n % 128 + (n / 4096 % 8) * 4096 = o + f3 * 4096 := hM
  obtain ⟨t, b1, b2⟩ := immI_val n h
  obtain ⟨r1, r2, r3⟩ := rgs n h
  rw [read_start n h, r1, r2]
  clear r1 r2 r3 hM
  have q0 : n % 128 = o := by omega
  have q1 : n / 4096 % 8 = f3 := by omega
  rw [q0, q1, hl, b1, Option.bind_some, b2]; rfl
/-- A word of form S. -/
theorem foundS {n f3 : Nat} {nm : ByteArray} (h : n < 4294967296) (_hf3 : f3 < 8) (hM : mat 4 n = 35 + f3 * 4096)
    (hl : ∀ x rd ra rb, readO x 35 rd (f3 : Int) ra rb = (burinref26_Bits.f x 25 7).bind fun t => (burinref26_signed.f (wrap64 ((wrap64 (t * 32)) + rd)) 12).bind fun im => some (nm, 0, ra, rb, im)) :
    burinref26_Read.f 20 (n : Int) = some (nm, 0, rgN true (n : Int) 15, rgN true (n : Int) 20, gat 4 (n : Int)) := by
  have hM' : n % 128 + (n / 4096 % 8) * 4096 = 35 + f3 * 4096 := hM
  have b1 : burinref26_Bits.f (n : Int) 25 7 = some ((n / 2 ^ 25 % 2 ^ 7 : Nat) : Int) := bits_val n 25 7 h (by decide) (by decide)
  obtain ⟨r1, r2, r3⟩ := rgs n h
  rw [read_start n h, r2, r3, gat4 n h]
  clear r1 r2 r3 hM
  have q0 : n % 128 = 35 := by omega
  have q1 : n / 4096 % 8 = f3 := by omega
  rw [q0, q1, show ((35 : Nat) : Int) = 35 from rfl, hl, b1, Option.bind_some]
  clear b1 hl hM' q0 q1
  have e1 : wrap64 (wrap64 (((n / 2 ^ 25 % 2 ^ 7 : Nat) : Int) * 32) + ((n / 128 % 32 : Nat) : Int)) = ((n / 33554432 * 32 + n / 128 % 32 : Nat) : Int) := by
    have e : n / 2 ^ 25 % 2 ^ 7 = n / 33554432 := by omega
    rw [e]
    have hb : n / 33554432 < 128 := by omega
    have hc : n / 128 % 32 < 32 := by omega
    generalize n / 33554432 = u at *
    generalize n / 128 % 32 = v at *
    rw [w64 ((u : Int) * 32) (by omega) (by omega), w64 _ (by omega) (by omega)]
    omega
  have hv : n / 33554432 * 32 + n / 128 % 32 < 2 ^ (11 + 1) := by
    show _ < 4096
    omega
  have s1 : burinref26_signed.f ((n / 33554432 * 32 + n / 128 % 32 : Nat) : Int) 12 = _ := signed_val _ 11 (by decide) hv
  rw [e1, s1, Option.bind_some]
  clear e1 s1 hv
  have hw : wrap32 (n : Int) / 33554432 = if 64 ≤ n / 33554432 then ((n / 33554432 : Nat) : Int) - 128 else ((n / 33554432 : Nat) : Int) := by
    unfold wrap32; split <;> omega
  rw [hw]
  have hc : n / 128 % 32 < 32 := by omega
  refine congrArg (fun z : Int => some (nm, (0 : Int), ((n / 32768 % 32 : Nat) : Int), ((n / 1048576 % 32 : Nat) : Int), z)) ?_
  generalize n / 33554432 = u at *
  generalize n / 128 % 32 = v at *
  clear hw h
  show (if 2048 ≤ u * 32 + v then ((u * 32 + v : Nat) : Int) - ((4096 : Nat) : Int) else _) = _
  split <;> split <;> omega
end Go.Proofs.Ytciehejifdbpoaa.Rv

namespace Go.Proofs.Ytciehejifdbpoaa.Rv
open Go.RowKit
open Go.Proofs.Ytciehejifdbpoaa.PHartSteps

/-- A word of form U. -/
theorem foundU {n o : Nat} {nm : ByteArray} (h : n < 4294967296) (hM : mat 6 n = o)
    (hl : ∀ x rd f3 ra rb, readO x (o : Int) rd f3 ra rb = (burinref26_Bits.f x 12 20).bind fun t => (burinref26_signed.f t 20).bind fun im => some (nm, rd, 0, 0, im)) :
    burinref26_Read.f 20 (n : Int) = some (nm, rgN true (n : Int) 7, 0, 0, gat 6 (n : Int)) := by
  have q0 : n % 128 = o := hM
  have b1 : burinref26_Bits.f (n : Int) 12 20 = some ((n / 2 ^ 12 % 2 ^ 20 : Nat) : Int) := bits_val n 12 20 h (by decide) (by decide)
  obtain ⟨r1, r2, r3⟩ := rgs n h
  rw [read_start n h, r1, q0, hl, b1, Option.bind_some]
  have hv : n / 2 ^ 12 % 2 ^ 20 < 2 ^ (19 + 1) := Nat.mod_lt _ (by decide)
  have s1 : burinref26_signed.f ((n / 2 ^ 12 % 2 ^ 20 : Nat) : Int) 20 = _ := signed_val (n / 2 ^ 12 % 2 ^ 20) 19 (by decide) hv
  rw [s1, Option.bind_some, gat6]
  clear r1 r2 r3 hM q0 b1 s1 hl
  refine congrArg (fun z : Int => some (nm, ((n / 128 % 32 : Nat) : Int), (0 : Int), (0 : Int), z)) ?_
  have e : n / 2 ^ 12 % 2 ^ 20 = n / 4096 := by omega
  rw [e] at hv ⊢
  unfold wrap32
  split <;> omega
/-- The two that stand alone. -/
theorem foundA {n c : Nat} {nm : ByteArray} (h : n < 4294967296) (hM : mat 8 n = c) (hc : c % 128 = 115)
    (hl : ∀ rd f3 ra rb, readO (c : Int) 115 rd f3 ra rb = some (nm, 0, 0, 0, 0)) :
    burinref26_Read.f 20 (n : Int) = some (nm, 0, 0, 0, 0) := by
  have q0 : n = c := hM
  subst q0
  rw [read_start n h, hc, show ((115 : Nat) : Int) = 115 from rfl, hl]
/-- A word of form B. -/
theorem foundB {n f3 : Nat} {nm : ByteArray} (h : n < 4294967296) (hM : mat 5 n = 99 + f3 * 4096) (_hf3 : f3 < 8)
    (hl : ∀ x rd ra rb, readO x 99 rd (f3 : Int) ra rb = (burinref26_Bits.f x 31 1).bind fun t1 => (burinref26_Bits.f x 7 1).bind fun t2 => (burinref26_Bits.f x 25 6).bind fun t3 => (burinref26_Bits.f x 8 4).bind fun t4 =>
      (burinref26_signed.f (wrap64 ((wrap64 ((wrap64 ((wrap64 (t1 * 4096)) + (wrap64 (t2 * 2048)))) + (wrap64 (t3 * 32)))) + (wrap64 (t4 * 2)))) 13).bind fun im => some (nm, 0, ra, rb, im)) :
    burinref26_Read.f 20 (n : Int) = some (nm, 0, rgN true (n : Int) 15, rgN true (n : Int) 20, gat 5 (n : Int)) := by
  have hM' : n % 128 + (n / 4096 % 8) * 4096 = 99 + f3 * 4096 := hM
  have b1 : burinref26_Bits.f (n : Int) 31 1 = some ((n / 2 ^ 31 % 2 ^ 1 : Nat) : Int) := bits_val n 31 1 h (by decide) (by decide)
  have b2 : burinref26_Bits.f (n : Int) 7 1 = some ((n / 2 ^ 7 % 2 ^ 1 : Nat) : Int) := bits_val n 7 1 h (by decide) (by decide)
  have b3 : burinref26_Bits.f (n : Int) 25 6 = some ((n / 2 ^ 25 % 2 ^ 6 : Nat) : Int) := bits_val n 25 6 h (by decide) (by decide)
  have b4 : burinref26_Bits.f (n : Int) 8 4 = some ((n / 2 ^ 8 % 2 ^ 4 : Nat) : Int) := bits_val n 8 4 h (by decide) (by decide)
  obtain ⟨r1, r2, r3⟩ := rgs n h
  rw [read_start n h, r2, r3, gat5 n h]
  have q0 : n % 128 = 99 := by clear b1 b2 b3 b4 r1 r2 r3; omega
  have q1 : n / 4096 % 8 = f3 := by clear b1 b2 b3 b4 r1 r2 r3; omega
  rw [q0, q1, show ((99 : Nat) : Int) = 99 from rfl, hl, b1, Option.bind_some, b2, Option.bind_some, b3, Option.bind_some, b4, Option.bind_some]
  clear b1 b2 b3 b4 r1 r2 r3 hM hM' q0 q1 hl
  have e1 : n / 2 ^ 31 % 2 ^ 1 = n / 2147483648 := by omega
  have e2 : n / 2 ^ 7 % 2 ^ 1 = n / 128 % 2 := by omega
  have e3 : n / 2 ^ 25 % 2 ^ 6 = n / 33554432 % 64 := by omega
  have e4 : n / 2 ^ 8 % 2 ^ 4 = n / 256 % 16 := by omega
  rw [e1, e2, e3, e4]
  clear e1 e2 e3 e4
  have hw : wrap32 (n : Int) / 2147483648 = - ((n / 2147483648 : Nat) : Int) := by unfold wrap32; omega
  rw [hw]
  have c1 : n / 2147483648 < 2 := by omega
  have c2 : n / 128 % 2 < 2 := by omega
  have c3 : n / 33554432 % 64 < 64 := by omega
  have c4 : n / 256 % 16 < 16 := by omega
  clear hw
  generalize n / 2147483648 = t at *
  generalize n / 128 % 2 = u at *
  generalize n / 33554432 % 64 = s at *
  generalize n / 256 % 16 = v at *
  have f1 : wrap64 ((t : Int) * 4096) = (t : Int) * 4096 := w64 _ (by omega) (by omega)
  have f2 : wrap64 ((u : Int) * 2048) = (u : Int) * 2048 := w64 _ (by omega) (by omega)
  have f3' : wrap64 ((s : Int) * 32) = (s : Int) * 32 := w64 _ (by omega) (by omega)
  have f4 : wrap64 ((v : Int) * 2) = (v : Int) * 2 := w64 _ (by omega) (by omega)
  have g1 : wrap64 ((t : Int) * 4096 + (u : Int) * 2048) = (t : Int) * 4096 + (u : Int) * 2048 := w64 _ (by omega) (by omega)
  have g2 : wrap64 ((t : Int) * 4096 + (u : Int) * 2048 + (s : Int) * 32) = (t : Int) * 4096 + (u : Int) * 2048 + (s : Int) * 32 := w64 _ (by omega) (by omega)
  have g3 : wrap64 ((t : Int) * 4096 + (u : Int) * 2048 + (s : Int) * 32 + (v : Int) * 2) = ((t * 4096 + u * 2048 + s * 32 + v * 2 : Nat) : Int) := by
    have g4 : wrap64 ((t : Int) * 4096 + (u : Int) * 2048 + (s : Int) * 32 + (v : Int) * 2) = (t : Int) * 4096 + (u : Int) * 2048 + (s : Int) * 32 + (v : Int) * 2 := w64 _ (by omega) (by omega)
    simp only [g4]
    clear f1 f2 f3' f4 g1 g2 g4
    omega
  simp only [f1, f2, f3', f4, g1, g2, g3]
  clear f1 f2 f3' f4 g1 g2 g3
  have hv : t * 4096 + u * 2048 + s * 32 + v * 2 < 2 ^ (12 + 1) := by show _ < 8192; omega
  have s1 : burinref26_signed.f ((t * 4096 + u * 2048 + s * 32 + v * 2 : Nat) : Int) 13 = _ := signed_val _ 12 (by decide) hv
  rw [s1, Option.bind_some]
  clear s1 hv
  refine congrArg (fun z : Int => some (nm, (0 : Int), ((n / 32768 % 32 : Nat) : Int), ((n / 1048576 % 32 : Nat) : Int), z)) ?_
  show (if 4096 ≤ t * 4096 + u * 2048 + s * 32 + v * 2 then ((t * 4096 + u * 2048 + s * 32 + v * 2 : Nat) : Int) - ((8192 : Nat) : Int) else _) = _
  split <;> omega
end Go.Proofs.Ytciehejifdbpoaa.Rv

namespace Go.Proofs.Ytciehejifdbpoaa.Rv
open Go.RowKit
open Go.Proofs.Ytciehejifdbpoaa.PHartSteps

/-- A word of form J. -/
theorem foundJ {n : Nat} {nm : ByteArray} (h : n < 4294967296) (hM : mat 7 n = 111)
    (hl : ∀ x rd f3 ra rb, readO x 111 rd f3 ra rb = (burinref26_Bits.f x 31 1).bind fun t1 => (burinref26_Bits.f x 12 8).bind fun t2 => (burinref26_Bits.f x 20 1).bind fun t3 => (burinref26_Bits.f x 21 10).bind fun t4 =>
      (burinref26_signed.f (wrap64 ((wrap64 ((wrap64 ((wrap64 (t1 * 1048576)) + (wrap64 (t2 * 4096)))) + (wrap64 (t3 * 2048)))) + (wrap64 (t4 * 2)))) 21).bind fun im => some (nm, rd, 0, 0, im)) :
    burinref26_Read.f 20 (n : Int) = some (nm, rgN true (n : Int) 7, 0, 0, gat 7 (n : Int)) := by
  have q0 : n % 128 = 111 := hM
  have b1 : burinref26_Bits.f (n : Int) 31 1 = some ((n / 2 ^ 31 % 2 ^ 1 : Nat) : Int) := bits_val n 31 1 h (by decide) (by decide)
  have b2 : burinref26_Bits.f (n : Int) 12 8 = some ((n / 2 ^ 12 % 2 ^ 8 : Nat) : Int) := bits_val n 12 8 h (by decide) (by decide)
  have b3 : burinref26_Bits.f (n : Int) 20 1 = some ((n / 2 ^ 20 % 2 ^ 1 : Nat) : Int) := bits_val n 20 1 h (by decide) (by decide)
  have b4 : burinref26_Bits.f (n : Int) 21 10 = some ((n / 2 ^ 21 % 2 ^ 10 : Nat) : Int) := bits_val n 21 10 h (by decide) (by decide)
  obtain ⟨r1, r2, r3⟩ := rgs n h
  rw [read_start n h, r1, gat7 n h]
  rw [q0, show ((111 : Nat) : Int) = 111 from rfl, hl, b1, Option.bind_some, b2, Option.bind_some, b3, Option.bind_some, b4, Option.bind_some]
  clear b1 b2 b3 b4 r1 r2 r3 hM q0 hl
  have e1 : n / 2 ^ 31 % 2 ^ 1 = n / 2147483648 := by omega
  have e2 : n / 2 ^ 12 % 2 ^ 8 = n / 4096 % 256 := by omega
  have e3 : n / 2 ^ 20 % 2 ^ 1 = n / 1048576 % 2 := by omega
  have e4 : n / 2 ^ 21 % 2 ^ 10 = n / 2097152 % 1024 := by omega
  rw [e1, e2, e3, e4]
  clear e1 e2 e3 e4
  have hw : wrap32 (n : Int) / 2147483648 = - ((n / 2147483648 : Nat) : Int) := by unfold wrap32; omega
  rw [hw]
  have c1 : n / 2147483648 < 2 := by omega
  have c2 : n / 4096 % 256 < 256 := by omega
  have c3 : n / 1048576 % 2 < 2 := by omega
  have c4 : n / 2097152 % 1024 < 1024 := by omega
  clear hw
  generalize n / 2147483648 = t at *
  generalize n / 4096 % 256 = u at *
  generalize n / 1048576 % 2 = s at *
  generalize n / 2097152 % 1024 = v at *
  have f1 : wrap64 ((t : Int) * 1048576) = (t : Int) * 1048576 := w64 _ (by omega) (by omega)
  have f2 : wrap64 ((u : Int) * 4096) = (u : Int) * 4096 := w64 _ (by omega) (by omega)
  have f3' : wrap64 ((s : Int) * 2048) = (s : Int) * 2048 := w64 _ (by omega) (by omega)
  have f4 : wrap64 ((v : Int) * 2) = (v : Int) * 2 := w64 _ (by omega) (by omega)
  have g1 : wrap64 ((t : Int) * 1048576 + (u : Int) * 4096) = (t : Int) * 1048576 + (u : Int) * 4096 := w64 _ (by omega) (by omega)
  have g2 : wrap64 ((t : Int) * 1048576 + (u : Int) * 4096 + (s : Int) * 2048) = (t : Int) * 1048576 + (u : Int) * 4096 + (s : Int) * 2048 := w64 _ (by omega) (by omega)
  have g3 : wrap64 ((t : Int) * 1048576 + (u : Int) * 4096 + (s : Int) * 2048 + (v : Int) * 2) = ((t * 1048576 + u * 4096 + s * 2048 + v * 2 : Nat) : Int) := by
    have g4 : wrap64 ((t : Int) * 1048576 + (u : Int) * 4096 + (s : Int) * 2048 + (v : Int) * 2) = (t : Int) * 1048576 + (u : Int) * 4096 + (s : Int) * 2048 + (v : Int) * 2 := w64 _ (by omega) (by omega)
    simp only [g4]
    clear f1 f2 f3' f4 g1 g2 g4
    omega
  simp only [f1, f2, f3', f4, g1, g2, g3]
  clear f1 f2 f3' f4 g1 g2 g3
  have hv : t * 1048576 + u * 4096 + s * 2048 + v * 2 < 2 ^ (20 + 1) := by show _ < 2097152; omega
  have s1 : burinref26_signed.f ((t * 1048576 + u * 4096 + s * 2048 + v * 2 : Nat) : Int) 21 = _ := signed_val _ 20 (by decide) hv
  rw [s1, Option.bind_some]
  clear s1 hv
  refine congrArg (fun z : Int => some (nm, ((n / 128 % 32 : Nat) : Int), (0 : Int), (0 : Int), z)) ?_
  show (if 1048576 ≤ t * 1048576 + u * 4096 + s * 2048 + v * 2 then ((t * 1048576 + u * 4096 + s * 2048 + v * 2 : Nat) : Int) - ((2097152 : Nat) : Int) else _) = _
  split <;> omega
end Go.Proofs.Ytciehejifdbpoaa.Rv

namespace Go.Proofs.Ytciehejifdbpoaa.Rv
open Go.RowKit
open Go.Proofs.Ytciehejifdbpoaa.PHartSteps

end Go.Proofs.Ytciehejifdbpoaa.Rv

namespace Go.Proofs.Ytciehejifdbpoaa.Rv
open Go.RowKit
open Go.Proofs.Ytciehejifdbpoaa.PHartSteps

/-- What the reference's shift does behind its five numbers. -/
def sh6 (h f3 rd ra im : Int) : Option (ByteArray × Int × Int × Int × Int) :=
  if f3 = 1 then burinref26_shift.j1 16 ⟨#[]⟩ h f3 16 (h == 0) ⟨#[]⟩ rd ra 0 im else burinref26_shift.j1 16 ⟨#[]⟩ h f3 16 false ⟨#[]⟩ rd ra 0 im
def sh5 (h f3 rd ra im : Int) : Option (ByteArray × Int × Int × Int × Int) :=
  if f3 = 1 then burinref26_shift.j1 15 ⟨#[119]⟩ h f3 32 (h == 0) ⟨#[]⟩ rd ra 0 im else burinref26_shift.j1 15 ⟨#[119]⟩ h f3 32 false ⟨#[]⟩ rd ra 0 im
theorem leafSw1 (x rd ra rb : Int) : readO x 27 rd 1 ra rb = (burinref26_shift.f 16 x 5).bind fun b => some (b.1, b.2.1, b.2.2.1, b.2.2.2.1, b.2.2.2.2) := by kernel_rfl
theorem leafSw5 (x rd ra rb : Int) : readO x 27 rd 5 ra rb = (burinref26_shift.f 16 x 5).bind fun b => some (b.1, b.2.1, b.2.2.1, b.2.2.2.1, b.2.2.2.2) := by kernel_rfl
theorem shift5' (x : Int) : burinref26_shift.f 16 x 5 = (burinref26_Bits.f x 7 5).bind fun rd => (burinref26_Bits.f x 15 5).bind fun ra => (burinref26_Bits.f x 20 5).bind fun im => (burinref26_Bits.f x 25 7).bind fun hi => (burinref26_Bits.f x 12 3).bind fun f3 => sh5 hi f3 rd ra im := by kernel_rfl
theorem shift6' (x : Int) : burinref26_shift.f 17 x 6 = (burinref26_Bits.f x 7 5).bind fun rd => (burinref26_Bits.f x 15 5).bind fun ra => (burinref26_Bits.f x 20 6).bind fun im => (burinref26_Bits.f x 26 6).bind fun hi => (burinref26_Bits.f x 12 3).bind fun f3 => sh6 hi f3 rd ra im := by kernel_rfl
theorem eta5 (o : Option (ByteArray × Int × Int × Int × Int)) : (o.bind fun b => some (b.1, b.2.1, b.2.2.1, b.2.2.2.1, b.2.2.2.2)) = o := by cases o <;> rfl

theorem foundH6 {n f3 : Nat} (h : n < 4294967296) (q0 : n % 128 = 19) (q1 : n / 4096 % 8 = f3) (hf : f3 = 1 ∨ f3 = 5) :
    burinref26_Read.f 20 (n : Int) = sh6 ((n / 67108864 % 64 : Nat) : Int) (f3 : Int) (rgN true (n : Int) 7) (rgN true (n : Int) 15) (gat 2 (n : Int)) := by
  have b1 : burinref26_Bits.f (n : Int) 7 5 = some ((n / 2 ^ 7 % 2 ^ 5 : Nat) : Int) := bits_val n 7 5 h (by decide) (by decide)
  have b2 : burinref26_Bits.f (n : Int) 15 5 = some ((n / 2 ^ 15 % 2 ^ 5 : Nat) : Int) := bits_val n 15 5 h (by decide) (by decide)
  have b3 : burinref26_Bits.f (n : Int) 20 6 = some ((n / 2 ^ 20 % 2 ^ 6 : Nat) : Int) := bits_val n 20 6 h (by decide) (by decide)
  have b4 : burinref26_Bits.f (n : Int) 26 6 = some ((n / 2 ^ 26 % 2 ^ 6 : Nat) : Int) := bits_val n 26 6 h (by decide) (by decide)
  have b5 : burinref26_Bits.f (n : Int) 12 3 = some ((n / 2 ^ 12 % 2 ^ 3 : Nat) : Int) := bits_val n 12 3 h (by decide) (by decide)
  obtain ⟨r1, r2, r3⟩ := rgs n h
  have e := shift6' (n : Int)
  rw [b1, Option.bind_some, b2, Option.bind_some, b3, Option.bind_some, b4, Option.bind_some, b5, Option.bind_some] at e
  rw [read_start n h, r1, r2, gat2 n h, q0, q1]
  have e1 : n / 2 ^ 7 % 2 ^ 5 = n / 128 % 32 := by clear b1 b2 b3 b4 b5 r1 r2 r3 e; omega
  have e2 : n / 2 ^ 15 % 2 ^ 5 = n / 32768 % 32 := by clear b1 b2 b3 b4 b5 r1 r2 r3 e; omega
  have e3 : n / 2 ^ 20 % 2 ^ 6 = n / 1048576 % 64 := by clear b1 b2 b3 b4 b5 r1 r2 r3 e; omega
  have e4 : n / 2 ^ 26 % 2 ^ 6 = n / 67108864 % 64 := by clear b1 b2 b3 b4 b5 r1 r2 r3 e; omega
  have e5 : n / 2 ^ 12 % 2 ^ 3 = f3 := by clear b1 b2 b3 b4 b5 r1 r2 r3 e; omega
  rw [e1, e2, e3, e4, e5] at e
  clear b1 b2 b3 b4 b5 r1 r2 r3 e1 e2 e3 e4 e5 q0 q1
  rcases hf with rfl | rfl
  · rw [show ((19 : Nat) : Int) = 19 from rfl, show ((1 : Nat) : Int) = 1 from rfl, leafSh1, eta5, e]; rfl
  · rw [show ((19 : Nat) : Int) = 19 from rfl, show ((5 : Nat) : Int) = 5 from rfl, leafSh5, eta5, e]; rfl
theorem foundH5 {n f3 : Nat} (h : n < 4294967296) (q0 : n % 128 = 27) (q1 : n / 4096 % 8 = f3) (hf : f3 = 1 ∨ f3 = 5) :
    burinref26_Read.f 20 (n : Int) = sh5 ((n / 33554432 % 128 : Nat) : Int) (f3 : Int) (rgN true (n : Int) 7) (rgN true (n : Int) 15) (gat 3 (n : Int)) := by
  have b1 : burinref26_Bits.f (n : Int) 7 5 = some ((n / 2 ^ 7 % 2 ^ 5 : Nat) : Int) := bits_val n 7 5 h (by decide) (by decide)
  have b2 : burinref26_Bits.f (n : Int) 15 5 = some ((n / 2 ^ 15 % 2 ^ 5 : Nat) : Int) := bits_val n 15 5 h (by decide) (by decide)
  have b3 : burinref26_Bits.f (n : Int) 20 5 = some ((n / 2 ^ 20 % 2 ^ 5 : Nat) : Int) := bits_val n 20 5 h (by decide) (by decide)
  have b4 : burinref26_Bits.f (n : Int) 25 7 = some ((n / 2 ^ 25 % 2 ^ 7 : Nat) : Int) := bits_val n 25 7 h (by decide) (by decide)
  have b5 : burinref26_Bits.f (n : Int) 12 3 = some ((n / 2 ^ 12 % 2 ^ 3 : Nat) : Int) := bits_val n 12 3 h (by decide) (by decide)
  obtain ⟨r1, r2, r3⟩ := rgs n h
  have e := shift5' (n : Int)
  rw [b1, Option.bind_some, b2, Option.bind_some, b3, Option.bind_some, b4, Option.bind_some, b5, Option.bind_some] at e
  rw [read_start n h, r1, r2, gat3 n h, q0, q1]
  have e1 : n / 2 ^ 7 % 2 ^ 5 = n / 128 % 32 := by clear b1 b2 b3 b4 b5 r1 r2 r3 e; omega
  have e2 : n / 2 ^ 15 % 2 ^ 5 = n / 32768 % 32 := by clear b1 b2 b3 b4 b5 r1 r2 r3 e; omega
  have e3 : n / 2 ^ 20 % 2 ^ 5 = n / 1048576 % 32 := by clear b1 b2 b3 b4 b5 r1 r2 r3 e; omega
  have e4 : n / 2 ^ 25 % 2 ^ 7 = n / 33554432 % 128 := by clear b1 b2 b3 b4 b5 r1 r2 r3 e; omega
  have e5 : n / 2 ^ 12 % 2 ^ 3 = f3 := by clear b1 b2 b3 b4 b5 r1 r2 r3 e; omega
  rw [e1, e2, e3, e4, e5] at e
  clear b1 b2 b3 b4 b5 r1 r2 r3 e1 e2 e3 e4 e5 q0 q1
  rcases hf with rfl | rfl
  · rw [show ((27 : Nat) : Int) = 27 from rfl, show ((1 : Nat) : Int) = 1 from rfl, leafSw1, eta5, e]; rfl
  · rw [show ((27 : Nat) : Int) = 27 from rfl, show ((5 : Nat) : Int) = 5 from rfl, leafSw5, eta5, e]; rfl
theorem found2 {n f3 f7 : Nat} {nm : ByteArray} (h : n < 4294967296) (hf : f3 = 1 ∨ f3 = 5) (hM : mat 2 n = 19 + f3 * 4096 + f7 * 67108864) (_h7 : f7 < 64)
    (hl : ∀ rd ra im, sh6 (f7 : Int) (f3 : Int) rd ra im = some (nm, rd, ra, 0, im)) :
    burinref26_Read.f 20 (n : Int) = some (nm, rgN true (n : Int) 7, rgN true (n : Int) 15, 0, gat 2 (n : Int)) := by
  have hM' : n % 128 + (n / 4096 % 8) * 4096 + (n / 67108864 % 64) * 67108864 = 19 + f3 * 4096 + f7 * 67108864 := hM
  clear hM
  have q0 : n % 128 = 19 := by omega
  have q1 : n / 4096 % 8 = f3 := by omega
  have q2 : n / 67108864 % 64 = f7 := by omega
  rw [foundH6 h q0 q1 hf, q2, hl]
theorem found3 {n f3 f7 : Nat} {nm : ByteArray} (h : n < 4294967296) (hf : f3 = 1 ∨ f3 = 5) (hM : mat 3 n = 27 + f3 * 4096 + f7 * 33554432) (_h7 : f7 < 128)
    (hl : ∀ rd ra im, sh5 (f7 : Int) (f3 : Int) rd ra im = some (nm, rd, ra, 0, im)) :
    burinref26_Read.f 20 (n : Int) = some (nm, rgN true (n : Int) 7, rgN true (n : Int) 15, 0, gat 3 (n : Int)) := by
  have hM' : n % 128 + (n / 4096 % 8) * 4096 + (n / 33554432 % 128) * 33554432 = 27 + f3 * 4096 + f7 * 33554432 := hM
  clear hM
  have q0 : n % 128 = 27 := by omega
  have q1 : n / 4096 % 8 = f3 := by omega
  have q2 : n / 33554432 % 128 = f7 := by omega
  rw [foundH5 h q0 q1 hf, q2, hl]
theorem leaf2a (rd ra im : Int) : sh6 0 1 rd ra im = some (⟨#[115, 108, 108, 105]⟩, rd, ra, 0, im) := by kernel_rfl
theorem leaf2b (rd ra im : Int) : sh6 0 5 rd ra im = some (⟨#[115, 114, 108, 105]⟩, rd, ra, 0, im) := by kernel_rfl
theorem leaf2c (rd ra im : Int) : sh6 16 5 rd ra im = some (⟨#[115, 114, 97, 105]⟩, rd, ra, 0, im) := by kernel_rfl
theorem leaf3a (rd ra im : Int) : sh5 0 1 rd ra im = some (⟨#[115, 108, 108, 105, 119]⟩, rd, ra, 0, im) := by kernel_rfl
theorem leaf3b (rd ra im : Int) : sh5 0 5 rd ra im = some (⟨#[115, 114, 108, 105, 119]⟩, rd, ra, 0, im) := by kernel_rfl
theorem leaf3c (rd ra im : Int) : sh5 32 5 rd ra im = some (⟨#[115, 114, 97, 105, 119]⟩, rd, ra, 0, im) := by kernel_rfl
end Go.Proofs.Ytciehejifdbpoaa.Rv

namespace Go.Proofs.Ytciehejifdbpoaa.Rv
open Go.RowKit Go.Proofs.YtciehejifdbpoaaW.PrintWords Go.Proofs.YtciehejifdbpoaaW.PrintLast Go.Proofs.YtciehejifdbpoaaW.PrintMore
open Go.Proofs.Ytciehejifdbpoaa.PHartSteps
/-- A word of a kind, as the reference reads it. -/
def RefK (k : Nat) : Prop := ∀ n : Nat, n < 4294967296 → mat (kd k).2.1 n = kB k → burinref26_Read.f 20 (n : Int) = some ((kd k).1, (decAt k (n : Int)).rd, (decAt k (n : Int)).ra, (decAt k (n : Int)).rb, (decAt k (n : Int)).imm)
theorem refk0 : RefK 0 := fun n h hM => by have hM' : mat 0 n = 51 := hM; exact foundR (nm := ⟨#[97, 100, 100]⟩) (o := 51) (f3 := 0) (f7 := 0) h (.inl rfl) (by decide) (by decide) rfl hM' (by kernel_rfl)
theorem refk1 : RefK 1 := fun n h hM => by have hM' : mat 0 n = 1073741875 := hM; exact foundR (nm := ⟨#[115, 117, 98]⟩) (o := 51) (f3 := 0) (f7 := 32) h (.inl rfl) (by decide) (by decide) rfl hM' (by kernel_rfl)
theorem refk2 : RefK 2 := fun n h hM => by have hM' : mat 0 n = 4147 := hM; exact foundR (nm := ⟨#[115, 108, 108]⟩) (o := 51) (f3 := 1) (f7 := 0) h (.inl rfl) (by decide) (by decide) rfl hM' (by kernel_rfl)
theorem refk3 : RefK 3 := fun n h hM => by have hM' : mat 0 n = 8243 := hM; exact foundR (nm := ⟨#[115, 108, 116]⟩) (o := 51) (f3 := 2) (f7 := 0) h (.inl rfl) (by decide) (by decide) rfl hM' (by kernel_rfl)
theorem refk4 : RefK 4 := fun n h hM => by have hM' : mat 0 n = 12339 := hM; exact foundR (nm := ⟨#[115, 108, 116, 117]⟩) (o := 51) (f3 := 3) (f7 := 0) h (.inl rfl) (by decide) (by decide) rfl hM' (by kernel_rfl)
theorem refk5 : RefK 5 := fun n h hM => by have hM' : mat 0 n = 16435 := hM; exact foundR (nm := ⟨#[120, 111, 114]⟩) (o := 51) (f3 := 4) (f7 := 0) h (.inl rfl) (by decide) (by decide) rfl hM' (by kernel_rfl)
theorem refk6 : RefK 6 := fun n h hM => by have hM' : mat 0 n = 20531 := hM; exact foundR (nm := ⟨#[115, 114, 108]⟩) (o := 51) (f3 := 5) (f7 := 0) h (.inl rfl) (by decide) (by decide) rfl hM' (by kernel_rfl)
theorem refk7 : RefK 7 := fun n h hM => by have hM' : mat 0 n = 1073762355 := hM; exact foundR (nm := ⟨#[115, 114, 97]⟩) (o := 51) (f3 := 5) (f7 := 32) h (.inl rfl) (by decide) (by decide) rfl hM' (by kernel_rfl)
theorem refk8 : RefK 8 := fun n h hM => by have hM' : mat 0 n = 24627 := hM; exact foundR (nm := ⟨#[111, 114]⟩) (o := 51) (f3 := 6) (f7 := 0) h (.inl rfl) (by decide) (by decide) rfl hM' (by kernel_rfl)
theorem refk9 : RefK 9 := fun n h hM => by have hM' : mat 0 n = 28723 := hM; exact foundR (nm := ⟨#[97, 110, 100]⟩) (o := 51) (f3 := 7) (f7 := 0) h (.inl rfl) (by decide) (by decide) rfl hM' (by kernel_rfl)
theorem refk10 : RefK 10 := fun n h hM => by have hM' : mat 0 n = 33554483 := hM; exact foundR (nm := ⟨#[109, 117, 108]⟩) (o := 51) (f3 := 0) (f7 := 1) h (.inl rfl) (by decide) (by decide) rfl hM' (by kernel_rfl)
theorem refk11 : RefK 11 := fun n h hM => by have hM' : mat 0 n = 33558579 := hM; exact foundR (nm := ⟨#[109, 117, 108, 104]⟩) (o := 51) (f3 := 1) (f7 := 1) h (.inl rfl) (by decide) (by decide) rfl hM' (by kernel_rfl)
theorem refk12 : RefK 12 := fun n h hM => by have hM' : mat 0 n = 33562675 := hM; exact foundR (nm := ⟨#[109, 117, 108, 104, 115, 117]⟩) (o := 51) (f3 := 2) (f7 := 1) h (.inl rfl) (by decide) (by decide) rfl hM' (by kernel_rfl)
theorem refk13 : RefK 13 := fun n h hM => by have hM' : mat 0 n = 33566771 := hM; exact foundR (nm := ⟨#[109, 117, 108, 104, 117]⟩) (o := 51) (f3 := 3) (f7 := 1) h (.inl rfl) (by decide) (by decide) rfl hM' (by kernel_rfl)
theorem refk14 : RefK 14 := fun n h hM => by have hM' : mat 0 n = 33570867 := hM; exact foundR (nm := ⟨#[100, 105, 118]⟩) (o := 51) (f3 := 4) (f7 := 1) h (.inl rfl) (by decide) (by decide) rfl hM' (by kernel_rfl)
theorem refk15 : RefK 15 := fun n h hM => by have hM' : mat 0 n = 33574963 := hM; exact foundR (nm := ⟨#[100, 105, 118, 117]⟩) (o := 51) (f3 := 5) (f7 := 1) h (.inl rfl) (by decide) (by decide) rfl hM' (by kernel_rfl)
theorem refk16 : RefK 16 := fun n h hM => by have hM' : mat 0 n = 33579059 := hM; exact foundR (nm := ⟨#[114, 101, 109]⟩) (o := 51) (f3 := 6) (f7 := 1) h (.inl rfl) (by decide) (by decide) rfl hM' (by kernel_rfl)
theorem refk17 : RefK 17 := fun n h hM => by have hM' : mat 0 n = 33583155 := hM; exact foundR (nm := ⟨#[114, 101, 109, 117]⟩) (o := 51) (f3 := 7) (f7 := 1) h (.inl rfl) (by decide) (by decide) rfl hM' (by kernel_rfl)
theorem refk18 : RefK 18 := fun n h hM => by have hM' : mat 0 n = 59 := hM; exact foundR (nm := ⟨#[97, 100, 100, 119]⟩) (o := 59) (f3 := 0) (f7 := 0) h (.inr rfl) (by decide) (by decide) rfl hM' (by kernel_rfl)
theorem refk19 : RefK 19 := fun n h hM => by have hM' : mat 0 n = 1073741883 := hM; exact foundR (nm := ⟨#[115, 117, 98, 119]⟩) (o := 59) (f3 := 0) (f7 := 32) h (.inr rfl) (by decide) (by decide) rfl hM' (by kernel_rfl)
theorem refk20 : RefK 20 := fun n h hM => by have hM' : mat 0 n = 4155 := hM; exact foundR (nm := ⟨#[115, 108, 108, 119]⟩) (o := 59) (f3 := 1) (f7 := 0) h (.inr rfl) (by decide) (by decide) rfl hM' (by kernel_rfl)
theorem refk21 : RefK 21 := fun n h hM => by have hM' : mat 0 n = 20539 := hM; exact foundR (nm := ⟨#[115, 114, 108, 119]⟩) (o := 59) (f3 := 5) (f7 := 0) h (.inr rfl) (by decide) (by decide) rfl hM' (by kernel_rfl)
theorem refk22 : RefK 22 := fun n h hM => by have hM' : mat 0 n = 1073762363 := hM; exact foundR (nm := ⟨#[115, 114, 97, 119]⟩) (o := 59) (f3 := 5) (f7 := 32) h (.inr rfl) (by decide) (by decide) rfl hM' (by kernel_rfl)
theorem refk23 : RefK 23 := fun n h hM => by have hM' : mat 0 n = 33554491 := hM; exact foundR (nm := ⟨#[109, 117, 108, 119]⟩) (o := 59) (f3 := 0) (f7 := 1) h (.inr rfl) (by decide) (by decide) rfl hM' (by kernel_rfl)
theorem refk24 : RefK 24 := fun n h hM => by have hM' : mat 0 n = 33570875 := hM; exact foundR (nm := ⟨#[100, 105, 118, 119]⟩) (o := 59) (f3 := 4) (f7 := 1) h (.inr rfl) (by decide) (by decide) rfl hM' (by kernel_rfl)
theorem refk25 : RefK 25 := fun n h hM => by have hM' : mat 0 n = 33574971 := hM; exact foundR (nm := ⟨#[100, 105, 118, 117, 119]⟩) (o := 59) (f3 := 5) (f7 := 1) h (.inr rfl) (by decide) (by decide) rfl hM' (by kernel_rfl)
theorem refk26 : RefK 26 := fun n h hM => by have hM' : mat 0 n = 33579067 := hM; exact foundR (nm := ⟨#[114, 101, 109, 119]⟩) (o := 59) (f3 := 6) (f7 := 1) h (.inr rfl) (by decide) (by decide) rfl hM' (by kernel_rfl)
theorem refk27 : RefK 27 := fun n h hM => by have hM' : mat 0 n = 33583163 := hM; exact foundR (nm := ⟨#[114, 101, 109, 117, 119]⟩) (o := 59) (f3 := 7) (f7 := 1) h (.inr rfl) (by decide) (by decide) rfl hM' (by kernel_rfl)
theorem refk28 : RefK 28 := fun n h hM => by have hM' : mat 1 n = 19 := hM; exact foundI (o := 19) (f3 := 0) h (by decide) (by decide) hM' (by intro x rd ra rb; kernel_rfl)
theorem refk29 : RefK 29 := fun n h hM => by have hM' : mat 1 n = 8211 := hM; exact foundI (o := 19) (f3 := 2) h (by decide) (by decide) hM' (by intro x rd ra rb; kernel_rfl)
theorem refk30 : RefK 30 := fun n h hM => by have hM' : mat 1 n = 12307 := hM; exact foundI (o := 19) (f3 := 3) h (by decide) (by decide) hM' (by intro x rd ra rb; kernel_rfl)
theorem refk31 : RefK 31 := fun n h hM => by have hM' : mat 1 n = 16403 := hM; exact foundI (o := 19) (f3 := 4) h (by decide) (by decide) hM' (by intro x rd ra rb; kernel_rfl)
theorem refk32 : RefK 32 := fun n h hM => by have hM' : mat 1 n = 24595 := hM; exact foundI (o := 19) (f3 := 6) h (by decide) (by decide) hM' (by intro x rd ra rb; kernel_rfl)
theorem refk33 : RefK 33 := fun n h hM => by have hM' : mat 1 n = 28691 := hM; exact foundI (o := 19) (f3 := 7) h (by decide) (by decide) hM' (by intro x rd ra rb; kernel_rfl)
theorem refk34 : RefK 34 := fun n h hM => by have hM' : mat 1 n = 27 := hM; exact foundI (o := 27) (f3 := 0) h (by decide) (by decide) hM' (by intro x rd ra rb; kernel_rfl)
theorem refk35 : RefK 35 := fun n h hM => by have hM' : mat 1 n = 3 := hM; exact foundI (o := 3) (f3 := 0) h (by decide) (by decide) hM' (by intro x rd ra rb; kernel_rfl)
theorem refk36 : RefK 36 := fun n h hM => by have hM' : mat 1 n = 4099 := hM; exact foundI (o := 3) (f3 := 1) h (by decide) (by decide) hM' (by intro x rd ra rb; kernel_rfl)
theorem refk37 : RefK 37 := fun n h hM => by have hM' : mat 1 n = 8195 := hM; exact foundI (o := 3) (f3 := 2) h (by decide) (by decide) hM' (by intro x rd ra rb; kernel_rfl)
theorem refk38 : RefK 38 := fun n h hM => by have hM' : mat 1 n = 12291 := hM; exact foundI (o := 3) (f3 := 3) h (by decide) (by decide) hM' (by intro x rd ra rb; kernel_rfl)
theorem refk39 : RefK 39 := fun n h hM => by have hM' : mat 1 n = 16387 := hM; exact foundI (o := 3) (f3 := 4) h (by decide) (by decide) hM' (by intro x rd ra rb; kernel_rfl)
theorem refk40 : RefK 40 := fun n h hM => by have hM' : mat 1 n = 20483 := hM; exact foundI (o := 3) (f3 := 5) h (by decide) (by decide) hM' (by intro x rd ra rb; kernel_rfl)
theorem refk41 : RefK 41 := fun n h hM => by have hM' : mat 1 n = 24579 := hM; exact foundI (o := 3) (f3 := 6) h (by decide) (by decide) hM' (by intro x rd ra rb; kernel_rfl)
theorem refk42 : RefK 42 := fun n h hM => by have hM' : mat 1 n = 103 := hM; exact foundI (o := 103) (f3 := 0) h (by decide) (by decide) hM' (by intro x rd ra rb; kernel_rfl)
theorem refk43 : RefK 43 := fun n h hM => by have hM' : mat 2 n = 4115 := hM; exact found2 (f3 := 1) (f7 := 0) h (.inl rfl) hM' (by decide) leaf2a
theorem refk44 : RefK 44 := fun n h hM => by have hM' : mat 2 n = 20499 := hM; exact found2 (f3 := 5) (f7 := 0) h (.inr rfl) hM' (by decide) leaf2b
theorem refk45 : RefK 45 := fun n h hM => by have hM' : mat 2 n = 1073762323 := hM; exact found2 (f3 := 5) (f7 := 16) h (.inr rfl) hM' (by decide) leaf2c
theorem refk46 : RefK 46 := fun n h hM => by have hM' : mat 3 n = 4123 := hM; exact found3 (f3 := 1) (f7 := 0) h (.inl rfl) hM' (by decide) leaf3a
theorem refk47 : RefK 47 := fun n h hM => by have hM' : mat 3 n = 20507 := hM; exact found3 (f3 := 5) (f7 := 0) h (.inr rfl) hM' (by decide) leaf3b
theorem refk48 : RefK 48 := fun n h hM => by have hM' : mat 3 n = 1073762331 := hM; exact found3 (f3 := 5) (f7 := 32) h (.inr rfl) hM' (by decide) leaf3c
theorem refk49 : RefK 49 := fun n h hM => by have hM' : mat 4 n = 35 := hM; exact foundS (f3 := 0) h (by decide) hM' (by intro x rd ra rb; kernel_rfl)
theorem refk50 : RefK 50 := fun n h hM => by have hM' : mat 4 n = 4131 := hM; exact foundS (f3 := 1) h (by decide) hM' (by intro x rd ra rb; kernel_rfl)
theorem refk51 : RefK 51 := fun n h hM => by have hM' : mat 4 n = 8227 := hM; exact foundS (f3 := 2) h (by decide) hM' (by intro x rd ra rb; kernel_rfl)
theorem refk52 : RefK 52 := fun n h hM => by have hM' : mat 4 n = 12323 := hM; exact foundS (f3 := 3) h (by decide) hM' (by intro x rd ra rb; kernel_rfl)
def namesB : List ByteArray := [⟨#[98, 101, 113]⟩, ⟨#[98, 110, 101]⟩, ⟨#[]⟩, ⟨#[]⟩, ⟨#[98, 108, 116]⟩, ⟨#[98, 103, 101]⟩, ⟨#[98, 108, 116, 117]⟩, ⟨#[98, 103, 101, 117]⟩]
theorem leafBr (x rd f3 ra rb : Int) : readO x 99 rd f3 ra rb = (some namesB).bind fun y => if 0 ≤ f3 then (if f3 < (y.length : Int) then ((burinref26_Bits.f x 31 1).bind fun t1 => (burinref26_Bits.f x 7 1).bind fun t2 => (burinref26_Bits.f x 25 6).bind fun t3 => (burinref26_Bits.f x 8 4).bind fun t4 =>
      (burinref26_signed.f (wrap64 ((wrap64 ((wrap64 ((wrap64 (t1 * 4096)) + (wrap64 (t2 * 2048)))) + (wrap64 (t3 * 32)))) + (wrap64 (t4 * 2)))) 13).bind fun im => some (rdOf ByteArray.empty y f3, 0, ra, rb, im)) else none) else none := by kernel_rfl
theorem leafB2 (x rd ra rb : Int) : readO x 99 rd 2 ra rb = (burinref26_Bits.f x 31 1).bind fun t1 => (burinref26_Bits.f x 7 1).bind fun t2 => (burinref26_Bits.f x 25 6).bind fun t3 => (burinref26_Bits.f x 8 4).bind fun t4 =>
      (burinref26_signed.f (wrap64 ((wrap64 ((wrap64 ((wrap64 (t1 * 4096)) + (wrap64 (t2 * 2048)))) + (wrap64 (t3 * 32)))) + (wrap64 (t4 * 2)))) 13).bind fun im => some ((⟨#[]⟩ : ByteArray), 0, ra, rb, im) := by
  have e : rdOf ByteArray.empty namesB 2 = (⟨#[]⟩ : ByteArray) := by kernel_rfl
  rw [leafBr, Option.bind_some, if_pos (by decide), if_pos (by decide), e]
theorem leafB3 (x rd ra rb : Int) : readO x 99 rd 3 ra rb = (burinref26_Bits.f x 31 1).bind fun t1 => (burinref26_Bits.f x 7 1).bind fun t2 => (burinref26_Bits.f x 25 6).bind fun t3 => (burinref26_Bits.f x 8 4).bind fun t4 =>
      (burinref26_signed.f (wrap64 ((wrap64 ((wrap64 ((wrap64 (t1 * 4096)) + (wrap64 (t2 * 2048)))) + (wrap64 (t3 * 32)))) + (wrap64 (t4 * 2)))) 13).bind fun im => some ((⟨#[]⟩ : ByteArray), 0, ra, rb, im) := by
  have e : rdOf ByteArray.empty namesB 3 = (⟨#[]⟩ : ByteArray) := by kernel_rfl
  rw [leafBr, Option.bind_some, if_pos (by decide), if_pos (by decide), e]
theorem leafB0 (x rd ra rb : Int) : readO x 99 rd 0 ra rb = (burinref26_Bits.f x 31 1).bind fun t1 => (burinref26_Bits.f x 7 1).bind fun t2 => (burinref26_Bits.f x 25 6).bind fun t3 => (burinref26_Bits.f x 8 4).bind fun t4 =>
      (burinref26_signed.f (wrap64 ((wrap64 ((wrap64 ((wrap64 (t1 * 4096)) + (wrap64 (t2 * 2048)))) + (wrap64 (t3 * 32)))) + (wrap64 (t4 * 2)))) 13).bind fun im => some (⟨#[98, 101, 113]⟩, 0, ra, rb, im) := by
  have e : rdOf ByteArray.empty namesB 0 = (⟨#[98, 101, 113]⟩ : ByteArray) := by kernel_rfl
  rw [leafBr, Option.bind_some, if_pos (by decide), if_pos (by decide), e]
theorem refk53 : RefK 53 := fun n h hM => by have hM' : mat 5 n = 99 := hM; exact foundB (f3 := 0) h hM' (by decide) (leafB0)
theorem leafB1 (x rd ra rb : Int) : readO x 99 rd 1 ra rb = (burinref26_Bits.f x 31 1).bind fun t1 => (burinref26_Bits.f x 7 1).bind fun t2 => (burinref26_Bits.f x 25 6).bind fun t3 => (burinref26_Bits.f x 8 4).bind fun t4 =>
      (burinref26_signed.f (wrap64 ((wrap64 ((wrap64 ((wrap64 (t1 * 4096)) + (wrap64 (t2 * 2048)))) + (wrap64 (t3 * 32)))) + (wrap64 (t4 * 2)))) 13).bind fun im => some (⟨#[98, 110, 101]⟩, 0, ra, rb, im) := by
  have e : rdOf ByteArray.empty namesB 1 = (⟨#[98, 110, 101]⟩ : ByteArray) := by kernel_rfl
  rw [leafBr, Option.bind_some, if_pos (by decide), if_pos (by decide), e]
theorem refk54 : RefK 54 := fun n h hM => by have hM' : mat 5 n = 4195 := hM; exact foundB (f3 := 1) h hM' (by decide) (leafB1)
theorem leafB4 (x rd ra rb : Int) : readO x 99 rd 4 ra rb = (burinref26_Bits.f x 31 1).bind fun t1 => (burinref26_Bits.f x 7 1).bind fun t2 => (burinref26_Bits.f x 25 6).bind fun t3 => (burinref26_Bits.f x 8 4).bind fun t4 =>
      (burinref26_signed.f (wrap64 ((wrap64 ((wrap64 ((wrap64 (t1 * 4096)) + (wrap64 (t2 * 2048)))) + (wrap64 (t3 * 32)))) + (wrap64 (t4 * 2)))) 13).bind fun im => some (⟨#[98, 108, 116]⟩, 0, ra, rb, im) := by
  have e : rdOf ByteArray.empty namesB 4 = (⟨#[98, 108, 116]⟩ : ByteArray) := by kernel_rfl
  rw [leafBr, Option.bind_some, if_pos (by decide), if_pos (by decide), e]
theorem refk55 : RefK 55 := fun n h hM => by have hM' : mat 5 n = 16483 := hM; exact foundB (f3 := 4) h hM' (by decide) (leafB4)
theorem leafB5 (x rd ra rb : Int) : readO x 99 rd 5 ra rb = (burinref26_Bits.f x 31 1).bind fun t1 => (burinref26_Bits.f x 7 1).bind fun t2 => (burinref26_Bits.f x 25 6).bind fun t3 => (burinref26_Bits.f x 8 4).bind fun t4 =>
      (burinref26_signed.f (wrap64 ((wrap64 ((wrap64 ((wrap64 (t1 * 4096)) + (wrap64 (t2 * 2048)))) + (wrap64 (t3 * 32)))) + (wrap64 (t4 * 2)))) 13).bind fun im => some (⟨#[98, 103, 101]⟩, 0, ra, rb, im) := by
  have e : rdOf ByteArray.empty namesB 5 = (⟨#[98, 103, 101]⟩ : ByteArray) := by kernel_rfl
  rw [leafBr, Option.bind_some, if_pos (by decide), if_pos (by decide), e]
theorem refk56 : RefK 56 := fun n h hM => by have hM' : mat 5 n = 20579 := hM; exact foundB (f3 := 5) h hM' (by decide) (leafB5)
theorem leafB6 (x rd ra rb : Int) : readO x 99 rd 6 ra rb = (burinref26_Bits.f x 31 1).bind fun t1 => (burinref26_Bits.f x 7 1).bind fun t2 => (burinref26_Bits.f x 25 6).bind fun t3 => (burinref26_Bits.f x 8 4).bind fun t4 =>
      (burinref26_signed.f (wrap64 ((wrap64 ((wrap64 ((wrap64 (t1 * 4096)) + (wrap64 (t2 * 2048)))) + (wrap64 (t3 * 32)))) + (wrap64 (t4 * 2)))) 13).bind fun im => some (⟨#[98, 108, 116, 117]⟩, 0, ra, rb, im) := by
  have e : rdOf ByteArray.empty namesB 6 = (⟨#[98, 108, 116, 117]⟩ : ByteArray) := by kernel_rfl
  rw [leafBr, Option.bind_some, if_pos (by decide), if_pos (by decide), e]
theorem refk57 : RefK 57 := fun n h hM => by have hM' : mat 5 n = 24675 := hM; exact foundB (f3 := 6) h hM' (by decide) (leafB6)
theorem leafB7 (x rd ra rb : Int) : readO x 99 rd 7 ra rb = (burinref26_Bits.f x 31 1).bind fun t1 => (burinref26_Bits.f x 7 1).bind fun t2 => (burinref26_Bits.f x 25 6).bind fun t3 => (burinref26_Bits.f x 8 4).bind fun t4 =>
      (burinref26_signed.f (wrap64 ((wrap64 ((wrap64 ((wrap64 (t1 * 4096)) + (wrap64 (t2 * 2048)))) + (wrap64 (t3 * 32)))) + (wrap64 (t4 * 2)))) 13).bind fun im => some (⟨#[98, 103, 101, 117]⟩, 0, ra, rb, im) := by
  have e : rdOf ByteArray.empty namesB 7 = (⟨#[98, 103, 101, 117]⟩ : ByteArray) := by kernel_rfl
  rw [leafBr, Option.bind_some, if_pos (by decide), if_pos (by decide), e]
theorem refk58 : RefK 58 := fun n h hM => by have hM' : mat 5 n = 28771 := hM; exact foundB (f3 := 7) h hM' (by decide) (leafB7)
theorem refk59 : RefK 59 := fun n h hM => by have hM' : mat 6 n = 55 := hM; exact foundU (o := 55) h hM' (by intro x rd f3 ra rb; kernel_rfl)
theorem refk60 : RefK 60 := fun n h hM => by have hM' : mat 6 n = 23 := hM; exact foundU (o := 23) h hM' (by intro x rd f3 ra rb; kernel_rfl)
theorem refk61 : RefK 61 := fun n h hM => by have hM' : mat 7 n = 111 := hM; exact foundJ h hM' (by intro x rd f3 ra rb; kernel_rfl)
theorem refk62 : RefK 62 := fun n h hM => by have hM' : mat 8 n = 115 := hM; exact foundA (c := 115) h hM' rfl (by intro rd f3 ra rb; kernel_rfl)
theorem refk63 : RefK 63 := fun n h hM => by have hM' : mat 8 n = 1048691 := hM; exact foundA (c := 1048691) h hM' rfl (by intro rd f3 ra rb; kernel_rfl)
theorem refk_all : ∀ k, k < 64 → RefK k
  | 0, _ => refk0
  | 1, _ => refk1
  | 2, _ => refk2
  | 3, _ => refk3
  | 4, _ => refk4
  | 5, _ => refk5
  | 6, _ => refk6
  | 7, _ => refk7
  | 8, _ => refk8
  | 9, _ => refk9
  | 10, _ => refk10
  | 11, _ => refk11
  | 12, _ => refk12
  | 13, _ => refk13
  | 14, _ => refk14
  | 15, _ => refk15
  | 16, _ => refk16
  | 17, _ => refk17
  | 18, _ => refk18
  | 19, _ => refk19
  | 20, _ => refk20
  | 21, _ => refk21
  | 22, _ => refk22
  | 23, _ => refk23
  | 24, _ => refk24
  | 25, _ => refk25
  | 26, _ => refk26
  | 27, _ => refk27
  | 28, _ => refk28
  | 29, _ => refk29
  | 30, _ => refk30
  | 31, _ => refk31
  | 32, _ => refk32
  | 33, _ => refk33
  | 34, _ => refk34
  | 35, _ => refk35
  | 36, _ => refk36
  | 37, _ => refk37
  | 38, _ => refk38
  | 39, _ => refk39
  | 40, _ => refk40
  | 41, _ => refk41
  | 42, _ => refk42
  | 43, _ => refk43
  | 44, _ => refk44
  | 45, _ => refk45
  | 46, _ => refk46
  | 47, _ => refk47
  | 48, _ => refk48
  | 49, _ => refk49
  | 50, _ => refk50
  | 51, _ => refk51
  | 52, _ => refk52
  | 53, _ => refk53
  | 54, _ => refk54
  | 55, _ => refk55
  | 56, _ => refk56
  | 57, _ => refk57
  | 58, _ => refk58
  | 59, _ => refk59
  | 60, _ => refk60
  | 61, _ => refk61
  | 62, _ => refk62
  | 63, _ => refk63
  | k + 64, h => absurd h (by omega)
end Go.Proofs.Ytciehejifdbpoaa.Rv

namespace Go.Proofs.Ytciehejifdbpoaa.Rv
open Go.RowKit

/-! ### A decoded word is its instruction's own word -/
/-- Each word is of one kind at most; what a word of a kind is. -/
theorem dec_cases (n : Nat) (hn : n < 4294967296) : (∃ k, k < 64 ∧ mat (kd k).2.1 n = kB k ∧ decF (n : Int) = (decAt k (n : Int), 0)) ∨ ((∀ k, k < 64 → mat (kd k).2.1 n ≠ kB k) ∧ decF (n : Int) = (⟨⟨#[]⟩, 0, 0, 0, 0⟩, 260)) := by
  by_cases h : ∃ k, k < 64 ∧ mat (kd k).2.1 n = kB k
  · obtain ⟨k, hk, hM⟩ := h
    left
    refine ⟨k, hk, hM, ?_⟩
    have e := dIdx_of (n := n) hn hk (by rw [hM, (kB_eq k hk).1])
    unfold decF
    rw [e, if_pos hk]
  · right
    have hno : ∀ k, k < 64 → mat (kd k).2.1 n ≠ kB k := fun k hk hM => h ⟨k, hk, hM⟩
    refine ⟨hno, ?_⟩
    have e := dIdx_none (n := n) hn fun k hk hM => hno k hk (by rw [(kB_eq k hk).1] at hM; exact Int.ofNat_inj.1 hM)
    unfold decF
    rw [e, if_neg (by decide)]
end Go.Proofs.Ytciehejifdbpoaa.Rv

namespace Go.Proofs.Ytciehejifdbpoaa.Rv
open Go.RowKit Go.Proofs.YtciehejifdbpoaaW.PrintWords Go.Proofs.YtciehejifdbpoaaW.PrintLast Go.Proofs.YtciehejifdbpoaaW.PrintMore
open Go.Proofs.Ytciehejifdbpoaa.PHartSteps

/-! ### Words of no kind -/
def NoName (o : Option (ByteArray × Int × Int × Int × Int)) : Prop := ∃ a b c d, o = some (⟨#[]⟩, a, b, c, d)
/-- Is there a kind of a form with these bits? -/
def hasK (f : Int) (B : Nat) : Bool := (List.range 64).any fun k => decide ((kd k).2.1 = f) && decide (kB k = B)
theorem hasK_some {f : Int} {B : Nat} (h : hasK f B = true) : ∃ k, k < 64 ∧ (kd k).2.1 = f ∧ kB k = B := by
  unfold hasK at h
  obtain ⟨k, hk, h⟩ := List.any_eq_true.1 h
  rw [Bool.and_eq_true, decide_eq_true_eq, decide_eq_true_eq] at h
  exact ⟨k, List.mem_range.1 hk, h.1, h.2⟩
def NoK (n : Nat) : Prop := ∀ k, k < 64 → mat (kd k).2.1 n ≠ kB k
theorem noK {n : Nat} (h : NoK n) {f : Int} {B : Nat} (hM : mat f n = B) : hasK f B = false := by
  refine Bool.eq_false_iff.2 fun e => ?_
  obtain ⟨k, hk, h1, h2⟩ := hasK_some e
  exact h k hk (by rw [h1, h2, hM])

theorem opR51 : ∀ f3, f3 < 8 → ∀ f7, f7 < 128 → hasK 0 (51 + f3 * 4096 + f7 * 33554432) = true ∨ burinref26_opR.f 19 51 (f3 : Nat) (f7 : Nat) = some ⟨#[]⟩ := by decide +kernel
theorem opR59 : ∀ f3, f3 < 8 → ∀ f7, f7 < 128 → hasK 0 (59 + f3 * 4096 + f7 * 33554432) = true ∨ burinref26_opR.f 19 59 (f3 : Nat) (f7 : Nat) = some ⟨#[]⟩ := by decide +kernel

theorem noR {n o : Nat} (h : n < 4294967296) (hno : NoK n) (ho : o = 51 ∨ o = 59) (q0 : n % 128 = o) : NoName (burinref26_Read.f 20 (n : Int)) := by
  have h3 : n / 4096 % 8 < 8 := Nat.mod_lt _ (by decide)
  have h7 : n / 33554432 % 128 < 128 := Nat.mod_lt _ (by decide)
  have hM : mat 0 n = o + n / 4096 % 8 * 4096 + n / 33554432 % 128 * 33554432 := by rw [← q0]; rfl
  have hk := noK hno hM
  generalize n / 4096 % 8 = f3 at *
  generalize n / 33554432 % 128 = f7 at *
  rcases ho with rfl | rfl
  · rcases opR51 f3 h3 f7 h7 with e | e
    · rw [hk] at e; cases e
    · exact ⟨_, _, _, _, foundR (o := 51) h (.inl rfl) h3 h7 rfl hM e⟩
  · rcases opR59 f3 h3 f7 h7 with e | e
    · rw [hk] at e; cases e
    · exact ⟨_, _, _, _, foundR (o := 59) h (.inr rfl) h3 h7 rfl hM e⟩

theorem sh6_none (h f3 : Nat) (hf : f3 = 1 ∨ f3 = 5) (h0 : h ≠ 0) (h1 : f3 = 5 → h ≠ 16) (rd ra im : Int) : sh6 (h : Int) (f3 : Int) rd ra im = some (⟨#[]⟩, rd, ra, 0, im) := by
  have e0 : ¬ ((h : Nat) : Int) = 0 := by omega
  have e1 : f3 = 5 → ¬ ((h : Nat) : Int) = 16 := fun e => by have := h1 e; omega
  generalize ((h : Nat) : Int) = z at *
  clear h0 h1
  have e : (z == 0) = false := beq_eq_false_iff_ne.2 e0
  rcases hf with rfl | rfl
  · have l : sh6 z 1 rd ra im = burinref26_shift.j1 16 ⟨#[]⟩ z 1 16 (z == 0) ⟨#[]⟩ rd ra 0 im := by kernel_rfl
    have l2 : burinref26_shift.j1 16 ⟨#[]⟩ z 1 16 false ⟨#[]⟩ rd ra 0 im = some (⟨#[]⟩, rd, ra, 0, im) := by kernel_rfl
    rw [e] at l
    exact l.trans l2
  · have l : sh6 z 5 rd ra im = burinref26_shift.j3 14 ⟨#[]⟩ z 5 16 (z == 0) ⟨#[]⟩ rd ra 0 im := by kernel_rfl
    have l2 : burinref26_shift.j3 14 ⟨#[]⟩ z 5 16 false ⟨#[]⟩ rd ra 0 im = if z = 16 then some (⟨#[115, 114, 97, 105]⟩ ++ ⟨#[]⟩, rd, ra, 0, im) else some (⟨#[]⟩, rd, ra, 0, im) := by kernel_rfl
    rw [e, l2, if_neg (e1 rfl)] at l
    exact l
theorem sh5_none (h f3 : Nat) (hf : f3 = 1 ∨ f3 = 5) (h0 : h ≠ 0) (h1 : f3 = 5 → h ≠ 32) (rd ra im : Int) : sh5 (h : Int) (f3 : Int) rd ra im = some (⟨#[]⟩, rd, ra, 0, im) := by
  have e0 : ¬ ((h : Nat) : Int) = 0 := by omega
  have e1 : f3 = 5 → ¬ ((h : Nat) : Int) = 32 := fun e => by have := h1 e; omega
  generalize ((h : Nat) : Int) = z at *
  clear h0 h1
  have e : (z == 0) = false := beq_eq_false_iff_ne.2 e0
  rcases hf with rfl | rfl
  · have l : sh5 z 1 rd ra im = burinref26_shift.j1 15 ⟨#[119]⟩ z 1 32 (z == 0) ⟨#[]⟩ rd ra 0 im := by kernel_rfl
    have l2 : burinref26_shift.j1 15 ⟨#[119]⟩ z 1 32 false ⟨#[]⟩ rd ra 0 im = some (⟨#[]⟩, rd, ra, 0, im) := by kernel_rfl
    rw [e] at l
    exact l.trans l2
  · have l : sh5 z 5 rd ra im = burinref26_shift.j3 13 ⟨#[119]⟩ z 5 32 (z == 0) ⟨#[]⟩ rd ra 0 im := by kernel_rfl
    have l2 : burinref26_shift.j3 13 ⟨#[119]⟩ z 5 32 false ⟨#[]⟩ rd ra 0 im = if z = 32 then some (⟨#[115, 114, 97, 105, 119]⟩, rd, ra, 0, im) else some (⟨#[]⟩, rd, ra, 0, im) := by kernel_rfl
    rw [e, l2, if_neg (e1 rfl)] at l
    exact l

theorem noSh6 {n f3 : Nat} (h : n < 4294967296) (hno : NoK n) (q0 : n % 128 = 19) (q1 : n / 4096 % 8 = f3) (hf : f3 = 1 ∨ f3 = 5) : NoName (burinref26_Read.f 20 (n : Int)) := by
  have hM : mat 2 n = 19 + f3 * 4096 + n / 67108864 % 64 * 67108864 := by rw [← q0, ← q1]; rfl
  have hk := noK hno hM
  rw [foundH6 h q0 q1 hf]
  generalize n / 67108864 % 64 = f7 at *
  refine ⟨_, _, _, _, sh6_none f7 f3 hf ?_ ?_ _ _ _⟩
  · rintro rfl
    rcases hf with rfl | rfl
    · exact absurd hk (by decide +kernel)
    · exact absurd hk (by decide +kernel)
  · rintro rfl rfl
    exact absurd hk (by decide +kernel)
theorem noSh5 {n f3 : Nat} (h : n < 4294967296) (hno : NoK n) (q0 : n % 128 = 27) (q1 : n / 4096 % 8 = f3) (hf : f3 = 1 ∨ f3 = 5) : NoName (burinref26_Read.f 20 (n : Int)) := by
  have hM : mat 3 n = 27 + f3 * 4096 + n / 33554432 % 128 * 33554432 := by rw [← q0, ← q1]; rfl
  have hk := noK hno hM
  rw [foundH5 h q0 q1 hf]
  generalize n / 33554432 % 128 = f7 at *
  refine ⟨_, _, _, _, sh5_none f7 f3 hf ?_ ?_ _ _ _⟩
  · rintro rfl
    rcases hf with rfl | rfl
    · exact absurd hk (by decide +kernel)
    · exact absurd hk (by decide +kernel)
  · rintro rfl rfl
    exact absurd hk (by decide +kernel)

theorem o3 (n : Nat) (o f3 : Nat) (q0 : n % 128 = o) (q1 : n / 4096 % 8 = f3) : mat 1 n = o + f3 * 4096 := by rw [← q0, ← q1]; rfl
theorem o4 (n : Nat) (o f3 : Nat) (q0 : n % 128 = o) (q1 : n / 4096 % 8 = f3) : mat 4 n = o + f3 * 4096 := by rw [← q0, ← q1]; rfl
theorem o5 (n : Nat) (o f3 : Nat) (q0 : n % 128 = o) (q1 : n / 4096 % 8 = f3) : mat 5 n = o + f3 * 4096 := by rw [← q0, ← q1]; rfl
theorem eight {f3 : Nat} (h : f3 < 8) : f3 = 0 ∨ f3 = 1 ∨ f3 = 2 ∨ f3 = 3 ∨ f3 = 4 ∨ f3 = 5 ∨ f3 = 6 ∨ f3 = 7 := by omega

theorem no19 {n : Nat} (h : n < 4294967296) (hno : NoK n) (q0 : n % 128 = 19) : NoName (burinref26_Read.f 20 (n : Int)) := by
  have h3 : n / 4096 % 8 < 8 := Nat.mod_lt _ (by decide)
  obtain ⟨f3, q1⟩ : ∃ f3, n / 4096 % 8 = f3 := ⟨_, rfl⟩
  rw [q1] at h3
  have hk := noK hno (o3 n 19 f3 q0 q1)
  rcases eight h3 with rfl | rfl | rfl | rfl | rfl | rfl | rfl | rfl
  · exact absurd hk (by decide +kernel)
  · exact noSh6 h hno q0 q1 (.inl rfl)
  · exact absurd hk (by decide +kernel)
  · exact absurd hk (by decide +kernel)
  · exact absurd hk (by decide +kernel)
  · exact noSh6 h hno q0 q1 (.inr rfl)
  · exact absurd hk (by decide +kernel)
  · exact absurd hk (by decide +kernel)
theorem noI (o f3 : Nat) (ho : o < 128) (hf : f3 < 8) (hl : ∀ x rd ra rb, readO x (o : Int) rd (f3 : Int) ra rb = (burinref26_Bits.f x 20 12).bind fun t => (burinref26_signed.f t 12).bind fun im => some (⟨#[]⟩, rd, ra, 0, im)) {n : Nat} (h : n < 4294967296) (q0 : n % 128 = o) (q1 : n / 4096 % 8 = f3) : NoName (burinref26_Read.f 20 (n : Int)) :=
  ⟨_, _, _, _, foundI h ho hf (o3 n o f3 q0 q1) hl⟩
theorem no27 {n : Nat} (h : n < 4294967296) (hno : NoK n) (q0 : n % 128 = 27) : NoName (burinref26_Read.f 20 (n : Int)) := by
  have h3 : n / 4096 % 8 < 8 := Nat.mod_lt _ (by decide)
  obtain ⟨f3, q1⟩ : ∃ f3, n / 4096 % 8 = f3 := ⟨_, rfl⟩
  rw [q1] at h3
  have hk := noK hno (o3 n 27 f3 q0 q1)
  rcases eight h3 with rfl | rfl | rfl | rfl | rfl | rfl | rfl | rfl
  · exact absurd hk (by decide +kernel)
  · exact noSh5 h hno q0 q1 (.inl rfl)
  · exact noI 27 2 (by decide) (by decide) (by intro x rd ra rb; kernel_rfl) h q0 q1
  · exact noI 27 3 (by decide) (by decide) (by intro x rd ra rb; kernel_rfl) h q0 q1
  · exact noI 27 4 (by decide) (by decide) (by intro x rd ra rb; kernel_rfl) h q0 q1
  · exact noSh5 h hno q0 q1 (.inr rfl)
  · exact noI 27 6 (by decide) (by decide) (by intro x rd ra rb; kernel_rfl) h q0 q1
  · exact noI 27 7 (by decide) (by decide) (by intro x rd ra rb; kernel_rfl) h q0 q1
theorem no3 {n : Nat} (h : n < 4294967296) (hno : NoK n) (q0 : n % 128 = 3) : NoName (burinref26_Read.f 20 (n : Int)) := by
  have h3 : n / 4096 % 8 < 8 := Nat.mod_lt _ (by decide)
  obtain ⟨f3, q1⟩ : ∃ f3, n / 4096 % 8 = f3 := ⟨_, rfl⟩
  rw [q1] at h3
  have hk := noK hno (o3 n 3 f3 q0 q1)
  rcases eight h3 with rfl | rfl | rfl | rfl | rfl | rfl | rfl | rfl
  · exact absurd hk (by decide +kernel)
  · exact absurd hk (by decide +kernel)
  · exact absurd hk (by decide +kernel)
  · exact absurd hk (by decide +kernel)
  · exact absurd hk (by decide +kernel)
  · exact absurd hk (by decide +kernel)
  · exact absurd hk (by decide +kernel)
  · exact noI 3 7 (by decide) (by decide) (by intro x rd ra rb; kernel_rfl) h q0 q1
theorem no103 {n : Nat} (h : n < 4294967296) (hno : NoK n) (q0 : n % 128 = 103) : NoName (burinref26_Read.f 20 (n : Int)) := by
  have h3 : n / 4096 % 8 < 8 := Nat.mod_lt _ (by decide)
  obtain ⟨f3, q1⟩ : ∃ f3, n / 4096 % 8 = f3 := ⟨_, rfl⟩
  rw [q1] at h3
  have hk := noK hno (o3 n 103 f3 q0 q1)
  rcases eight h3 with rfl | rfl | rfl | rfl | rfl | rfl | rfl | rfl
  · exact absurd hk (by decide +kernel)
  · exact noI 103 1 (by decide) (by decide) (by intro x rd ra rb; kernel_rfl) h q0 q1
  · exact noI 103 2 (by decide) (by decide) (by intro x rd ra rb; kernel_rfl) h q0 q1
  · exact noI 103 3 (by decide) (by decide) (by intro x rd ra rb; kernel_rfl) h q0 q1
  · exact noI 103 4 (by decide) (by decide) (by intro x rd ra rb; kernel_rfl) h q0 q1
  · exact noI 103 5 (by decide) (by decide) (by intro x rd ra rb; kernel_rfl) h q0 q1
  · exact noI 103 6 (by decide) (by decide) (by intro x rd ra rb; kernel_rfl) h q0 q1
  · exact noI 103 7 (by decide) (by decide) (by intro x rd ra rb; kernel_rfl) h q0 q1
theorem noS (f3 : Nat) (hf : f3 < 8) (hl : ∀ x rd ra rb, readO x 35 rd (f3 : Int) ra rb = (burinref26_Bits.f x 25 7).bind fun t => (burinref26_signed.f (wrap64 ((wrap64 (t * 32)) + rd)) 12).bind fun im => some (⟨#[]⟩, 0, ra, rb, im)) {n : Nat} (h : n < 4294967296) (q0 : n % 128 = 35) (q1 : n / 4096 % 8 = f3) : NoName (burinref26_Read.f 20 (n : Int)) :=
  ⟨_, _, _, _, foundS h hf (o4 n 35 f3 q0 q1) hl⟩
theorem no35 {n : Nat} (h : n < 4294967296) (hno : NoK n) (q0 : n % 128 = 35) : NoName (burinref26_Read.f 20 (n : Int)) := by
  have h3 : n / 4096 % 8 < 8 := Nat.mod_lt _ (by decide)
  obtain ⟨f3, q1⟩ : ∃ f3, n / 4096 % 8 = f3 := ⟨_, rfl⟩
  rw [q1] at h3
  have hk := noK hno (o4 n 35 f3 q0 q1)
  rcases eight h3 with rfl | rfl | rfl | rfl | rfl | rfl | rfl | rfl
  · exact absurd hk (by decide +kernel)
  · exact absurd hk (by decide +kernel)
  · exact absurd hk (by decide +kernel)
  · exact absurd hk (by decide +kernel)
  · exact noS 4 (by decide) (by intro x rd ra rb; kernel_rfl) h q0 q1
  · exact noS 5 (by decide) (by intro x rd ra rb; kernel_rfl) h q0 q1
  · exact noS 6 (by decide) (by intro x rd ra rb; kernel_rfl) h q0 q1
  · exact noS 7 (by decide) (by intro x rd ra rb; kernel_rfl) h q0 q1
theorem no99 {n : Nat} (h : n < 4294967296) (hno : NoK n) (q0 : n % 128 = 99) : NoName (burinref26_Read.f 20 (n : Int)) := by
  have h3 : n / 4096 % 8 < 8 := Nat.mod_lt _ (by decide)
  obtain ⟨f3, q1⟩ : ∃ f3, n / 4096 % 8 = f3 := ⟨_, rfl⟩
  rw [q1] at h3
  have hM := o5 n 99 f3 q0 q1
  have hk := noK hno hM
  rcases eight h3 with rfl | rfl | rfl | rfl | rfl | rfl | rfl | rfl
  · exact absurd hk (by decide +kernel)
  · exact absurd hk (by decide +kernel)
  · exact ⟨_, _, _, _, foundB (f3 := 2) h hM (by decide) leafB2⟩
  · exact ⟨_, _, _, _, foundB (f3 := 3) h hM (by decide) leafB3⟩
  · exact absurd hk (by decide +kernel)
  · exact absurd hk (by decide +kernel)
  · exact absurd hk (by decide +kernel)
  · exact absurd hk (by decide +kernel)
theorem leaf115 (x rd f3 ra rb : Int) : readO x 115 rd f3 ra rb = if x = 115 then some (⟨#[101, 99, 97, 108, 108]⟩, 0, 0, 0, 0) else if x = 1048691 then some (⟨#[101, 98, 114, 101, 97, 107]⟩, 0, 0, 0, 0) else some (⟨#[]⟩, 0, 0, 0, 0) := by kernel_rfl
theorem no115 {n : Nat} (h : n < 4294967296) (hno : NoK n) (q0 : n % 128 = 115) : NoName (burinref26_Read.f 20 (n : Int)) := by
  have h1 : ¬ ((n : Nat) : Int) = 115 := by
    intro e
    have e' : n = 115 := by omega
    have := noK hno (f := 8) (B := 115) e'
    exact absurd this (by decide +kernel)
  have h2 : ¬ ((n : Nat) : Int) = 1048691 := by
    intro e
    have e' : n = 1048691 := by omega
    have := noK hno (f := 8) (B := 1048691) e'
    exact absurd this (by decide +kernel)
  rw [read_start n h, q0, show ((115 : Nat) : Int) = 115 from rfl, leaf115, if_neg h1, if_neg h2]
  exact ⟨_, _, _, _, rfl⟩
theorem noU {n o : Nat} (hno : NoK n) (q0 : n % 128 = o) (f : Int) (hf : f = 6 ∨ f = 7) (hk : hasK f o = true) : False := by
  have hM : mat f n = o := by rcases hf with rfl | rfl <;> exact q0
  have := noK hno hM
  rw [hk] at this; cases this
theorem noElse1 (x o rd f3 ra rb : Int) (h7 : o ≠ 35) (h8 : o ≠ 99) (h9 : o ≠ 55) (h10 : o ≠ 23) (h11 : o ≠ 111) (h12 : o ≠ 115) : burinref26_Read.j1 19 x o rd f3 ra rb o false = some (⟨#[]⟩, 0, 0, 0, 0) := by
  show burinref26_Read.j1 (18 + 1) x o rd f3 ra rb o false = _
  rw [burinref26_Read.j1, if_neg (by decide), if_neg h7, if_neg h8, if_neg h9, if_neg h10, if_neg h11, if_neg h12]
theorem noElse (x o rd f3 ra rb : Int) (h : o ≠ 51 ∧ o ≠ 59 ∧ o ≠ 19 ∧ o ≠ 27 ∧ o ≠ 3 ∧ o ≠ 103 ∧ o ≠ 35 ∧ o ≠ 99 ∧ o ≠ 55 ∧ o ≠ 23 ∧ o ≠ 111 ∧ o ≠ 115) : NoName (readO x o rd f3 ra rb) := by
  obtain ⟨h1, h2, h3, h4, h5, h6, h7, h8, h9, h10, h11, h12⟩ := h
  have b2 : (o == 59) = false := beq_eq_false_iff_ne.2 h2
  have b6 : (o == 103) = false := beq_eq_false_iff_ne.2 h6
  refine ⟨0, 0, 0, 0, ?_⟩
  unfold readO
  rw [if_neg h1, b2]
  have l : burinref26_Read.j0 20 x o rd f3 ra rb o false = if o = 19 then burinref26_Read.j1 19 x o rd f3 ra rb o (o == 19) else if o = 27 then burinref26_Read.j1 19 x o rd f3 ra rb o (o == 27) else if o = 3 then burinref26_Read.j1 19 x o rd f3 ra rb o (o == 3) else burinref26_Read.j1 19 x o rd f3 ra rb o (o == 103) := by kernel_rfl
  rw [l, if_neg h3, if_neg h4, if_neg h5, b6]
  exact noElse1 x o rd f3 ra rb h7 h8 h9 h10 h11 h12
theorem read_none {n : Nat} (h : n < 4294967296) (hno : NoK n) : NoName (burinref26_Read.f 20 (n : Int)) := by
  by_cases q1 : n % 128 = 51
  · exact noR h hno (.inl rfl) q1
  by_cases q2 : n % 128 = 59
  · exact noR h hno (.inr rfl) q2
  by_cases q3 : n % 128 = 19
  · exact no19 h hno q3
  by_cases q4 : n % 128 = 27
  · exact no27 h hno q4
  by_cases q5 : n % 128 = 3
  · exact no3 h hno q5
  by_cases q6 : n % 128 = 103
  · exact no103 h hno q6
  by_cases q7 : n % 128 = 35
  · exact no35 h hno q7
  by_cases q8 : n % 128 = 99
  · exact no99 h hno q8
  by_cases q9 : n % 128 = 55
  · exact (noU hno q9 6 (.inl rfl) (by decide +kernel)).elim
  by_cases q10 : n % 128 = 23
  · exact (noU hno q10 6 (.inl rfl) (by decide +kernel)).elim
  by_cases q11 : n % 128 = 111
  · exact (noU hno q11 7 (.inr rfl) (by decide +kernel)).elim
  by_cases q12 : n % 128 = 115
  · exact no115 h hno q12
  rw [read_start n h]
  refine noElse _ _ _ _ _ _ ?_
  clear hno
  generalize n % 128 = o at *
  refine ⟨?_, ?_, ?_, ?_, ?_, ?_, ?_, ?_, ?_, ?_, ?_, ?_⟩ <;> omega

/-! ### The reference decodes as the table does -/
theorem names_some : ∀ k, k < 64 → ¬ (kd k).1.toList = [] := by decide +kernel
theorem ref_dec (x : Int) (h0 : 0 ≤ x) (h1 : x < 4294967296) :
    burinref26_Decode.f 20 x = some ((decF x).1.name, (decF x).1.rd, (decF x).1.ra, (decF x).1.rb, (decF x).1.imm, (decF x).2) := by
  obtain ⟨n, rfl⟩ := Int.eq_ofNat_of_zero_le h0
  have hn : n < 4294967296 := by omega
  have hw : wrap64 ((n : Nat) : Int) = (n : Int) := w64 _ (by omega) (by omega)
  unfold burinref26_Decode.f
  rw [hw]
  rcases dec_cases n hn with ⟨k, hk, hM, e⟩ | ⟨hno, e⟩
  · rw [refk_all k hk n hn hM, e, Option.bind_some, if_neg (names_some k hk)]
    rfl
  · obtain ⟨a, b, c, d, e'⟩ := read_none hn hno
    rw [e', e, Option.bind_some, if_pos (show (⟨#[]⟩ : ByteArray).toList = [] by decide +kernel)]
end Go.Proofs.Ytciehejifdbpoaa.Rv
end
section
set_option linter.unusedSimpArgs false
set_option linter.unusedVariables false
namespace Go.Proofs.Ytciehejifdbpoaa.Hl
open Go.RowKit Go.Maps Go.Proofs.Ytciehejifdbpoaa.Grow Go.Proofs.Ytciehejifdbpoaa.Rv Go.Proofs.Ytciehejifdbpoaa.As Go.Proofs.Ytciehejifdbpoaa.Ht Go.Proofs.Ytciehejifdbpoaa.PHartQuotients Go.Proofs.Ytciehejifdbpoaa.PHartSteps
open Go.Proofs.YtciehejifdbpoaaW.PrintWords Go.Proofs.YtciehejifdbpoaaW.PrintLast Go.Proofs.YtciehejifdbpoaaW.PrintMore

/-! ### The decoding fails -/
theorem dec_calls {x : Int} (h : U32 x) (w : World) : Calls Try.prog 16 #[.int .u32 x] w fun e w' =>
    e = .returned (.tuple #[.agg #[.string (decF x).1.name, .int .i64 (decF x).1.rd, .int .i64 (decF x).1.ra, .int .i64 (decF x).1.rb, .int .i64 (decF x).1.imm], .int .i64 (decF x).2]) ∧ Below w.heap.size w w' :=
  burinref26_Decode.calls 20 x _ _ _ _ _ _ w (ref_dec x h.1 h.2)
theorem dec_code (x : Int) : (decF x).2 = 0 ∨ (decF x).2 = 260 := by
  unfold decF
  split
  · exact .inl rfl
  · exact .inr rfl
set_option maxHeartbeats 4000000 in
set_option maxRecDepth 100000 in
theorem step_dec {w : World} {c : Array Value} {S : HartS} (h : RefIs w c S) (hG : GoodM S.mem) (hB : GoodB S.mem) (he : (fetchF S.mem S.pc).2 = 0) (hd : (decF (fetchF S.mem S.pc).1).2 ≠ 0) :
    Calls Try.prog 42 #[.agg c] w fun e w' => e = .returned (.tuple #[.agg c, .int .i64 260]) ∧ Below w.heap.size w w' := by
  obtain ⟨mv, d0, d1, hc, hr, hm⟩ := h.ex
  have hs : c.size = 34 := by rw [hc]; exact stC_size _ _ h.len
  have ho : c.all (·.oneCell') = true := by rw [hc]; exact stC_one' hr.one _ _
  have c0 : c[0]? = some mv := by rw [hc]; rfl
  have c1 : c[1]? = some (.int .u64 S.pc) := by rw [hc]; rfl
  have zs : zC.size = 34 := stC_size _ _ (by simp)
  have h1 := heap_alloc_last w (.cells c 80)
  have h2 := heap_alloc_at (w.alloc (.cells c 80)) (.cells zC 80) (n := w.heap.size + 1) (by simp)
  have h1' := blk_alloc h1 (.cells zC 80)
  have B2 := below_alloc (below_alloc (Below.refl w.heap.size w) (.cells c 80)) (.cells zC 80)
  have FC := Aside0.mk (fun (w9 : World) (hb : Below w.heap.size w w9) => fetch_ref (hr.below hb) hm h.pc)
  have DC := Aside0.mk (fun w9 : World => dec_calls (fetchF_u32 hG hB S.pc) w9)
  have e260 := Aside0.mk ((dec_code (fetchF S.mem S.pc).1).resolve_left hd)
  have k0 := (blk_cell h1' 0).trans c0
  have k1 := (blk_cell h1' 1).trans c1
  clear h hr hm hc
  go_enter Try.func42, Try.ntmps42
  go_wp2_with (first | (refine wpList_alloc80 rfl rfl ?_))
  refine (FC.out _ B2).mono ?_
  rintro e w3 ⟨rfl, hb3⟩
  have B3 := Aside0.mk (B2.trans (hb3.mono B2.size))
  have b3s := B3.out.size
  have g1 := blk_below h1' hb3
  have g2 := blk_below h2 hb3
  rw [he]
  obtain ⟨W, hW⟩ : ∃ W, (fetchF S.mem S.pc).1 = W := ⟨_, rfl⟩
  rw [hW] at DC e260 ⊢
  clear h1 h2 h1' k0 k1 hb3 B2 hd hW
  go_wp2_with fail
  refine (DC.out _).mono ?_
  rintro e w4 ⟨rfl, hb4⟩
  rw [e260.out]
  have B4 := Aside0.mk (B3.out.trans (hb4.mono b3s))
  have b4s := B4.out.size
  have g1 := blk_below g1 hb4
  have g2 := blk_below g2 hb4
  clear hb4
  obtain ⟨D, hD⟩ : ∃ D, (decF W).1 = D := ⟨_, rfl⟩
  rw [hD]
  have g3 := blk_alloc g1 (.cells #[.string D.name, .int .i64 D.rd, .int .i64 D.ra, .int .i64 D.rb, .int .i64 D.imm] 24)
  have g4 := blk_alloc g2 (.cells #[.string D.name, .int .i64 D.rd, .int .i64 D.ra, .int .i64 D.rb, .int .i64 D.imm] 24)
  have B5 := Aside0.mk (below_alloc B4.out (.cells #[.string D.name, .int .i64 D.rd, .int .i64 D.ra, .int .i64 D.rb, .int .i64 D.imm] 24))
  clear hD
  go_wp2_with (first | (refine wpList_load80 rfl _ rfl w.heap.size c rfl g3 hs ?_) | (refine wpList_store80 rfl _ _ rfl (w.heap.size + 1) c zC rfl rfl g4 hs zs ho ?_))
  have hW := setRow_heap _ (w.heap.size + 1) zC c 80 (0, 0) g4
  refine bodyPost_ret (v := .tuple #[.agg c, .int .i64 260]) (res42 (g := w.heap.size + 1) rfl rfl hW hs) rfl ⟨rfl, below_setRow B5.out (by omega) _⟩
end Go.Proofs.Ytciehejifdbpoaa.Hl
end
section
set_option linter.unusedSimpArgs false
set_option linter.unusedVariables false
namespace Go.Proofs.Ytciehejifdbpoaa.Hl
open Go.RowKit Go.Maps Go.Proofs.Ytciehejifdbpoaa.Grow Go.Proofs.Ytciehejifdbpoaa.Rv Go.Proofs.Ytciehejifdbpoaa.As Go.Proofs.Ytciehejifdbpoaa.Ht Go.Proofs.Ytciehejifdbpoaa.PHartQuotients Go.Proofs.Ytciehejifdbpoaa.PHartSteps
open Go.Proofs.YtciehejifdbpoaaW.PrintWords Go.Proofs.YtciehejifdbpoaaW.PrintLast Go.Proofs.YtciehejifdbpoaaW.PrintMore

/-! ### A call of the system -/
theorem sys_names {nm : ByteArray} (h : clsF nm = 0) : nm = (⟨#[101, 99, 97, 108, 108]⟩ : ByteArray) ∨ nm = (⟨#[101, 98, 114, 101, 97, 107]⟩ : ByteArray) := by
  have hl : sysL.any (isN nm) = true := by
    unfold clsF at h
    by_cases g : sysL.any (isN nm) = true
    · exact g
    · rw [if_neg g] at h
      exfalso
      repeat' split at h
      all_goals omega
  obtain ⟨l, hm, hi⟩ := List.any_eq_true.1 hl
  have hi : nm.toList = l := beq_iff_eq.1 hi
  simp only [sysL, List.mem_cons, List.mem_nil_iff, or_false] at hm
  rcases hm with rfl | rfl
  · exact .inl (is_of (by kernel_rfl) hi)
  · exact .inr (is_of (by kernel_rfl) hi)
set_option maxHeartbeats 4000000 in
set_option maxRecDepth 100000 in
theorem step_sys {w : World} {c : Array Value} {S : HartS} (h : RefIs w c S) (hG : GoodM S.mem) (hB : GoodB S.mem) (he : (fetchF S.mem S.pc).2 = 0) (hd : (decF (fetchF S.mem S.pc).1).2 = 0) (hn : clsF (decF (fetchF S.mem S.pc).1).1.name = 0) :
    Calls Try.prog 42 #[.agg c] w fun e w' => e = .returned (.tuple #[.agg c, .int .i64 260]) ∧ Below w.heap.size w w' := by
  obtain ⟨mv, d0, d1, hc, hr, hm⟩ := h.ex
  have hs : c.size = 34 := by rw [hc]; exact stC_size _ _ h.len
  have ho : c.all (·.oneCell') = true := by rw [hc]; exact stC_one' hr.one _ _
  have c0 : c[0]? = some mv := by rw [hc]; rfl
  have c1 : c[1]? = some (.int .u64 S.pc) := by rw [hc]; rfl
  have zs : zC.size = 34 := stC_size _ _ (by simp)
  have h1 := heap_alloc_last w (.cells c 80)
  have h2 := heap_alloc_at (w.alloc (.cells c 80)) (.cells zC 80) (n := w.heap.size + 1) (by simp)
  have h1' := blk_alloc h1 (.cells zC 80)
  have B2 := below_alloc (below_alloc (Below.refl w.heap.size w) (.cells c 80)) (.cells zC 80)
  have FC := Aside0.mk (fun (w9 : World) (hb : Below w.heap.size w w9) => fetch_ref (hr.below hb) hm h.pc)
  have DC := Aside0.mk (fun w9 : World => dec_calls (fetchF_u32 hG hB S.pc) w9)
  have e260 := Aside0.mk hd
  have HN := Aside0.mk (sys_names hn)
  have k0 := (blk_cell h1' 0).trans c0
  have k1 := (blk_cell h1' 1).trans c1
  clear h hr hm hc
  go_enter Try.func42, Try.ntmps42
  go_wp2_with (first | (refine wpList_alloc80 rfl rfl ?_))
  refine (FC.out _ B2).mono ?_
  rintro e w3 ⟨rfl, hb3⟩
  have B3 := Aside0.mk (B2.trans (hb3.mono B2.size))
  have b3s := B3.out.size
  have g1 := blk_below h1' hb3
  have g2 := blk_below h2 hb3
  rw [he]
  obtain ⟨W, hW⟩ : ∃ W, (fetchF S.mem S.pc).1 = W := ⟨_, rfl⟩
  rw [hW] at DC e260 HN ⊢
  clear hn h1 h2 h1' k0 k1 hb3 B2 hd hW
  go_wp2_with fail
  refine (DC.out _).mono ?_
  rintro e w4 ⟨rfl, hb4⟩
  rw [e260.out]
  have B4 := Aside0.mk (B3.out.trans (hb4.mono b3s))
  have b4s := B4.out.size
  have g1 := blk_below g1 hb4
  have g2 := blk_below g2 hb4
  clear hb4
  obtain ⟨D, hD⟩ : ∃ D, (decF W).1 = D := ⟨_, rfl⟩
  rw [hD]
  have g3 := blk_alloc g1 (.cells #[.string D.name, .int .i64 D.rd, .int .i64 D.ra, .int .i64 D.rb, .int .i64 D.imm] 24)
  have g4 := blk_alloc g2 (.cells #[.string D.name, .int .i64 D.rd, .int .i64 D.ra, .int .i64 D.rb, .int .i64 D.imm] 24)
  have B5 := Aside0.mk (below_alloc B4.out (.cells #[.string D.name, .int .i64 D.rd, .int .i64 D.ra, .int .i64 D.rb, .int .i64 D.imm] 24))
  have hnm := HN.out
  rw [hD] at hnm
  obtain ⟨nm, rd, ra, rb, imm⟩ := D
  have hnm : nm = (⟨#[101, 99, 97, 108, 108]⟩ : ByteArray) ∨ nm = (⟨#[101, 98, 114, 101, 97, 107]⟩ : ByteArray) := hnm
  clear hD HN
  rcases hnm with rfl | rfl
  all_goals
    go_wp2_with (first | (refine wpList_load80 rfl _ rfl w.heap.size c rfl g3 hs ?_) | (refine wpList_store80 rfl _ _ rfl (w.heap.size + 1) c zC rfl rfl g4 hs zs ho ?_))
    have hW := setRow_heap _ (w.heap.size + 1) zC c 80 (0, 0) g4
    refine bodyPost_ret (v := .tuple #[.agg c, .int .i64 260]) (res42 (g := w.heap.size + 1) rfl rfl hW hs) rfl ⟨rfl, below_setRow B5.out (by omega) _⟩
end Go.Proofs.Ytciehejifdbpoaa.Hl
end
section
namespace Go.Proofs.Ytciehejifdbpoaa.PHartSteps
open Go.RowKit Go.Proofs.YtciehejifdbpoaaW.PrintWords Go.Proofs.YtciehejifdbpoaaW.PrintLast Go.Proofs.YtciehejifdbpoaaW.PrintMore
attribute [local go_sem] max2_int min2_int max_two min_two max_three min_three max_four min_four   -- for this text's walks alone
set_option linter.unusedVariables false
set_option linter.unusedSimpArgs false

/-! ### burinref28_div: function 120 -/
def burinref28_div.f (a0 : Int) (a1 : Int) : Option (Int) := if a1 = 0 then (some 18446744073709551615) else ((burinref28_abs.f a0).bind fun t248 => ((burinref28_abs.f a1).bind fun t249 => (if t249 = 0 then (none) else ((burinref28_neg.f a0).bind fun t250 => ((burinref28_neg.f a1).bind fun t251 => (if (t250 != t251) = true then (some (IntKind.u64.wrap (-(IntKind.u64.wrap (Int.tdiv t248 t249))))) else (some (IntKind.u64.wrap (Int.tdiv t248 t249)))))))))
set_option maxHeartbeats 8000000 in
set_option maxRecDepth 100000 in
theorem burinref28_div.calls (a0 : Int) (a1 : Int) (r : Int) (w : World) (h : burinref28_div.f a0 a1 = some r) :
    Calls Try.prog 120 #[.int .u64 a0, .int .u64 a1] w fun e w' => e = .returned (.int .u64 r) ∧ Drawn0 w w' := by
  have H : (if a1 = 0 then (some 18446744073709551615) else ((burinref28_abs.f a0).bind fun t248 => ((burinref28_abs.f a1).bind fun t249 => (if t249 = 0 then (none) else ((burinref28_neg.f a0).bind fun t250 => ((burinref28_neg.f a1).bind fun t251 => (if (t250 != t251) = true then (some (IntKind.u64.wrap (-(IntKind.u64.wrap (Int.tdiv t248 t249))))) else (some (IntKind.u64.wrap (Int.tdiv t248 t249)))))))))) = some r := h
  clear h
  by_cases c3 : a1 = 0
  · rw [if_pos c3] at H
    have c3b0 : (a1 == 0) = true := beq_iff_eq.mpr c3
    have c3b1 : (a1 != 0) = false := bne_eq_false_iff_eq.mpr c3
    clear c3
    obtain rfl := Option.some.inj H
    go_enter Try.func120, Try.ntmps120
    go_wp2
    go_ret
    exact ⟨by first | rfl | (simp; done) | (simp [*]; done), by repeat (first | exact Drawn0.refl _ | apply Drawn0.step)⟩
  · rw [if_neg c3] at H
    have c3b0 : (a1 == 0) = false := beq_eq_false_iff_ne.mpr c3
    have c3b1 : (a1 != 0) = true := bne_iff_ne.mpr c3
    replace H := Option.bind_eq_some_iff.mp H
    obtain ⟨t248, A40, H⟩ := H
    replace H : ((burinref28_abs.f a1).bind fun t249 => (if t249 = 0 then (none) else ((burinref28_neg.f a0).bind fun t250 => ((burinref28_neg.f a1).bind fun t251 => (if (t250 != t251) = true then (some (IntKind.u64.wrap (-(IntKind.u64.wrap (Int.tdiv t248 t249))))) else (some (IntKind.u64.wrap (Int.tdiv t248 t249)))))))) = some r := H
    have A4 := Aside0.mk A40
    clear A40
    replace H := Option.bind_eq_some_iff.mp H
    obtain ⟨t249, A50, H⟩ := H
    replace H : (if t249 = 0 then (none) else ((burinref28_neg.f a0).bind fun t250 => ((burinref28_neg.f a1).bind fun t251 => (if (t250 != t251) = true then (some (IntKind.u64.wrap (-(IntKind.u64.wrap (Int.tdiv t248 t249))))) else (some (IntKind.u64.wrap (Int.tdiv t248 t249))))))) = some r := H
    have A5 := Aside0.mk A50
    clear A50
    by_cases c6 : t249 = 0
    · rw [if_pos c6] at H
      exact absurd H (by simp)
    · rw [if_neg c6] at H
      have c6b0 : (t249 == 0) = false := beq_eq_false_iff_ne.mpr c6
      have c6b1 : (t249 != 0) = true := bne_iff_ne.mpr c6
      replace H := Option.bind_eq_some_iff.mp H
      obtain ⟨t250, A70, H⟩ := H
      replace H : ((burinref28_neg.f a1).bind fun t251 => (if (t250 != t251) = true then (some (IntKind.u64.wrap (-(IntKind.u64.wrap (Int.tdiv t248 t249))))) else (some (IntKind.u64.wrap (Int.tdiv t248 t249))))) = some r := H
      have A7 := Aside0.mk A70
      clear A70
      replace H := Option.bind_eq_some_iff.mp H
      obtain ⟨t251, A80, H⟩ := H
      replace H : (if (t250 != t251) = true then (some (IntKind.u64.wrap (-(IntKind.u64.wrap (Int.tdiv t248 t249))))) else (some (IntKind.u64.wrap (Int.tdiv t248 t249)))) = some r := H
      have A8 := Aside0.mk A80
      clear A80
      by_cases c9 : (t250 != t251) = true
      · rw [if_pos c9] at H
        have c9b0 : (t250 != t251) = true := c9
        (try (have c9b1 : decide (t250 = t251) = false := by simpa using c9))
        (try (have c9b2 : (t250 == t251) = false := by simpa using c9))
        (try (have c9b3 : ¬ (t250 = t251) := by simpa using c9))
        clear c9
        obtain rfl := Option.some.inj H
        go_enter Try.func120, Try.ntmps120
        go_wp2_with (first | ((with_reducible refine gate_callee (f := 129) rfl ?_); refine goesL_ (some 9) rfl rfl Try.func129 (by kernel_rfl) rfl #[.int .u64 a0] rfl (by (try simp only [List.map_toArray, List.map_cons, List.map_nil]); first | done | rfl | (simp only [List.length_drop, List.length_take]; rfl)) ?_; (with_reducible refine (burinref28_abs.calls a0 t248 _ A4.out).mono ?_); rintro e w' ⟨rfl, ⟨nd, rfl⟩⟩; refine ⟨_, rfl, ?_⟩) | ((with_reducible refine gate_callee (f := 129) rfl ?_); refine goesL_ (some 11) rfl rfl Try.func129 (by kernel_rfl) rfl #[.int .u64 a1] rfl (by (try simp only [List.map_toArray, List.map_cons, List.map_nil]); first | done | rfl | (simp only [List.length_drop, List.length_take]; rfl)) ?_; (with_reducible refine (burinref28_abs.calls a1 t249 _ A5.out).mono ?_); rintro e w' ⟨rfl, ⟨nd, rfl⟩⟩; refine ⟨_, rfl, ?_⟩) | ((with_reducible refine gate_callee (f := 128) rfl ?_); refine goesL_ (some 14) rfl rfl Try.func128 (by kernel_rfl) rfl #[.int .u64 a0] rfl (by (try simp only [List.map_toArray, List.map_cons, List.map_nil]); first | done | rfl | (simp only [List.length_drop, List.length_take]; rfl)) ?_; (with_reducible refine (burinref28_neg.calls a0 t250 _ A7.out).mono ?_); rintro e w' ⟨rfl, ⟨nd, rfl⟩⟩; refine ⟨_, rfl, ?_⟩) | ((with_reducible refine gate_callee (f := 128) rfl ?_); refine goesL_ (some 16) rfl rfl Try.func128 (by kernel_rfl) rfl #[.int .u64 a1] rfl (by (try simp only [List.map_toArray, List.map_cons, List.map_nil]); first | done | rfl | (simp only [List.length_drop, List.length_take]; rfl)) ?_; (with_reducible refine (burinref28_neg.calls a1 t251 _ A8.out).mono ?_); rintro e w' ⟨rfl, ⟨nd, rfl⟩⟩; refine ⟨_, rfl, ?_⟩))
        go_ret
        exact ⟨by first | rfl | (simp; done) | (simp [*]; done), by repeat (first | exact Drawn0.refl _ | apply Drawn0.step)⟩
      · rw [if_neg c9] at H
        have c9b0 : (t250 != t251) = false := by simpa using c9
        (try (have c9b1 : decide (t250 = t251) = true := by simpa using c9))
        (try (have c9b2 : (t250 == t251) = true := by simpa using c9))
        clear c9
        obtain rfl := Option.some.inj H
        go_enter Try.func120, Try.ntmps120
        go_wp2_with (first | ((with_reducible refine gate_callee (f := 129) rfl ?_); refine goesL_ (some 9) rfl rfl Try.func129 (by kernel_rfl) rfl #[.int .u64 a0] rfl (by (try simp only [List.map_toArray, List.map_cons, List.map_nil]); first | done | rfl | (simp only [List.length_drop, List.length_take]; rfl)) ?_; (with_reducible refine (burinref28_abs.calls a0 t248 _ A4.out).mono ?_); rintro e w' ⟨rfl, ⟨nd, rfl⟩⟩; refine ⟨_, rfl, ?_⟩) | ((with_reducible refine gate_callee (f := 129) rfl ?_); refine goesL_ (some 11) rfl rfl Try.func129 (by kernel_rfl) rfl #[.int .u64 a1] rfl (by (try simp only [List.map_toArray, List.map_cons, List.map_nil]); first | done | rfl | (simp only [List.length_drop, List.length_take]; rfl)) ?_; (with_reducible refine (burinref28_abs.calls a1 t249 _ A5.out).mono ?_); rintro e w' ⟨rfl, ⟨nd, rfl⟩⟩; refine ⟨_, rfl, ?_⟩) | ((with_reducible refine gate_callee (f := 128) rfl ?_); refine goesL_ (some 14) rfl rfl Try.func128 (by kernel_rfl) rfl #[.int .u64 a0] rfl (by (try simp only [List.map_toArray, List.map_cons, List.map_nil]); first | done | rfl | (simp only [List.length_drop, List.length_take]; rfl)) ?_; (with_reducible refine (burinref28_neg.calls a0 t250 _ A7.out).mono ?_); rintro e w' ⟨rfl, ⟨nd, rfl⟩⟩; refine ⟨_, rfl, ?_⟩) | ((with_reducible refine gate_callee (f := 128) rfl ?_); refine goesL_ (some 16) rfl rfl Try.func128 (by kernel_rfl) rfl #[.int .u64 a1] rfl (by (try simp only [List.map_toArray, List.map_cons, List.map_nil]); first | done | rfl | (simp only [List.length_drop, List.length_take]; rfl)) ?_; (with_reducible refine (burinref28_neg.calls a1 t251 _ A8.out).mono ?_); rintro e w' ⟨rfl, ⟨nd, rfl⟩⟩; refine ⟨_, rfl, ?_⟩))
        go_ret
        exact ⟨by first | rfl | (simp; done) | (simp [*]; done), by repeat (first | exact Drawn0.refl _ | apply Drawn0.step)⟩

/-! ### burinref28_rem: function 121 -/
def burinref28_rem.f (a0 : Int) (a1 : Int) : Option (Int) := if a1 = 0 then (some a0) else ((burinref28_abs.f a0).bind fun t252 => ((burinref28_abs.f a1).bind fun t253 => (if t253 = 0 then (none) else ((burinref28_neg.f a0).bind fun t254 => (if t254 = true then (some (IntKind.u64.wrap (-(Int.tmod t252 t253)))) else (some (Int.tmod t252 t253)))))))
set_option maxHeartbeats 8000000 in
set_option maxRecDepth 100000 in
theorem burinref28_rem.calls (a0 : Int) (a1 : Int) (r : Int) (w : World) (h : burinref28_rem.f a0 a1 = some r) :
    Calls Try.prog 121 #[.int .u64 a0, .int .u64 a1] w fun e w' => e = .returned (.int .u64 r) ∧ Drawn0 w w' := by
  have H : (if a1 = 0 then (some a0) else ((burinref28_abs.f a0).bind fun t252 => ((burinref28_abs.f a1).bind fun t253 => (if t253 = 0 then (none) else ((burinref28_neg.f a0).bind fun t254 => (if t254 = true then (some (IntKind.u64.wrap (-(Int.tmod t252 t253)))) else (some (Int.tmod t252 t253)))))))) = some r := h
  clear h
  by_cases c3 : a1 = 0
  · rw [if_pos c3] at H
    have c3b0 : (a1 == 0) = true := beq_iff_eq.mpr c3
    have c3b1 : (a1 != 0) = false := bne_eq_false_iff_eq.mpr c3
    clear c3
    obtain rfl := Option.some.inj H
    go_enter Try.func121, Try.ntmps121
    go_wp2
    go_ret
    exact ⟨by first | rfl | (simp; done) | (simp [*]; done), by repeat (first | exact Drawn0.refl _ | apply Drawn0.step)⟩
  · rw [if_neg c3] at H
    have c3b0 : (a1 == 0) = false := beq_eq_false_iff_ne.mpr c3
    have c3b1 : (a1 != 0) = true := bne_iff_ne.mpr c3
    replace H := Option.bind_eq_some_iff.mp H
    obtain ⟨t252, A40, H⟩ := H
    replace H : ((burinref28_abs.f a1).bind fun t253 => (if t253 = 0 then (none) else ((burinref28_neg.f a0).bind fun t254 => (if t254 = true then (some (IntKind.u64.wrap (-(Int.tmod t252 t253)))) else (some (Int.tmod t252 t253)))))) = some r := H
    have A4 := Aside0.mk A40
    clear A40
    replace H := Option.bind_eq_some_iff.mp H
    obtain ⟨t253, A50, H⟩ := H
    replace H : (if t253 = 0 then (none) else ((burinref28_neg.f a0).bind fun t254 => (if t254 = true then (some (IntKind.u64.wrap (-(Int.tmod t252 t253)))) else (some (Int.tmod t252 t253))))) = some r := H
    have A5 := Aside0.mk A50
    clear A50
    by_cases c6 : t253 = 0
    · rw [if_pos c6] at H
      exact absurd H (by simp)
    · rw [if_neg c6] at H
      have c6b0 : (t253 == 0) = false := beq_eq_false_iff_ne.mpr c6
      have c6b1 : (t253 != 0) = true := bne_iff_ne.mpr c6
      replace H := Option.bind_eq_some_iff.mp H
      obtain ⟨t254, A70, H⟩ := H
      replace H : (if t254 = true then (some (IntKind.u64.wrap (-(Int.tmod t252 t253)))) else (some (Int.tmod t252 t253))) = some r := H
      have A7 := Aside0.mk A70
      clear A70
      by_cases c8 : t254 = true
      · subst c8
        have H1 : (some (IntKind.u64.wrap (-(Int.tmod t252 t253)))) = some r := by rw [if_pos rfl] at H; exact H
        clear H
        have H := H1
        clear H1
        obtain rfl := Option.some.inj H
        go_enter Try.func121, Try.ntmps121
        go_wp2_with (first | ((with_reducible refine gate_callee (f := 129) rfl ?_); refine goesL_ (some 10) rfl rfl Try.func129 (by kernel_rfl) rfl #[.int .u64 a0] rfl (by (try simp only [List.map_toArray, List.map_cons, List.map_nil]); first | done | rfl | (simp only [List.length_drop, List.length_take]; rfl)) ?_; (with_reducible refine (burinref28_abs.calls a0 t252 _ A4.out).mono ?_); rintro e w' ⟨rfl, ⟨nd, rfl⟩⟩; refine ⟨_, rfl, ?_⟩) | ((with_reducible refine gate_callee (f := 129) rfl ?_); refine goesL_ (some 12) rfl rfl Try.func129 (by kernel_rfl) rfl #[.int .u64 a1] rfl (by (try simp only [List.map_toArray, List.map_cons, List.map_nil]); first | done | rfl | (simp only [List.length_drop, List.length_take]; rfl)) ?_; (with_reducible refine (burinref28_abs.calls a1 t253 _ A5.out).mono ?_); rintro e w' ⟨rfl, ⟨nd, rfl⟩⟩; refine ⟨_, rfl, ?_⟩) | ((with_reducible refine gate_callee (f := 128) rfl ?_); refine goesL_ (some 15) rfl rfl Try.func128 (by kernel_rfl) rfl #[.int .u64 a0] rfl (by (try simp only [List.map_toArray, List.map_cons, List.map_nil]); first | done | rfl | (simp only [List.length_drop, List.length_take]; rfl)) ?_; (with_reducible refine (burinref28_neg.calls a0 true _ A7.out).mono ?_); rintro e w' ⟨rfl, ⟨nd, rfl⟩⟩; refine ⟨_, rfl, ?_⟩))
        go_ret
        exact ⟨by first | rfl | (simp; done) | (simp [*]; done), by repeat (first | exact Drawn0.refl _ | apply Drawn0.step)⟩
      · replace c8 := Bool.eq_false_iff.mpr c8
        subst c8
        have H1 : (some (Int.tmod t252 t253)) = some r := by rw [if_neg (show ¬ (false = true) by decide)] at H; exact H
        clear H
        have H := H1
        clear H1
        obtain rfl := Option.some.inj H
        go_enter Try.func121, Try.ntmps121
        go_wp2_with (first | ((with_reducible refine gate_callee (f := 129) rfl ?_); refine goesL_ (some 10) rfl rfl Try.func129 (by kernel_rfl) rfl #[.int .u64 a0] rfl (by (try simp only [List.map_toArray, List.map_cons, List.map_nil]); first | done | rfl | (simp only [List.length_drop, List.length_take]; rfl)) ?_; (with_reducible refine (burinref28_abs.calls a0 t252 _ A4.out).mono ?_); rintro e w' ⟨rfl, ⟨nd, rfl⟩⟩; refine ⟨_, rfl, ?_⟩) | ((with_reducible refine gate_callee (f := 129) rfl ?_); refine goesL_ (some 12) rfl rfl Try.func129 (by kernel_rfl) rfl #[.int .u64 a1] rfl (by (try simp only [List.map_toArray, List.map_cons, List.map_nil]); first | done | rfl | (simp only [List.length_drop, List.length_take]; rfl)) ?_; (with_reducible refine (burinref28_abs.calls a1 t253 _ A5.out).mono ?_); rintro e w' ⟨rfl, ⟨nd, rfl⟩⟩; refine ⟨_, rfl, ?_⟩) | ((with_reducible refine gate_callee (f := 128) rfl ?_); refine goesL_ (some 15) rfl rfl Try.func128 (by kernel_rfl) rfl #[.int .u64 a0] rfl (by (try simp only [List.map_toArray, List.map_cons, List.map_nil]); first | done | rfl | (simp only [List.length_drop, List.length_take]; rfl)) ?_; (with_reducible refine (burinref28_neg.calls a0 false _ A7.out).mono ?_); rintro e w' ⟨rfl, ⟨nd, rfl⟩⟩; refine ⟨_, rfl, ?_⟩))
        go_ret
        exact ⟨by first | rfl | (simp; done) | (simp [*]; done), by repeat (first | exact Drawn0.refl _ | apply Drawn0.step)⟩

end Go.Proofs.Ytciehejifdbpoaa.PHartSteps
end
