import Derived.Test.YtpfcdhjknmijjaaGreatCo11
import Derived.Test.YtpfcdhjknmijjaaGreatCo18
import Derived.Test.YtpfcdhjknmijjaaGreatCo30
section
namespace Go.Proofs.YtpfcdhjknmijjaaGreat.Ht
open Go.RowKit Go.Maps Go.Proofs.YtpfcdhjknmijjaaGreat.Grow Go.Proofs.YtpfcdhjknmijjaaGreat.Rv
open Go.Proofs.YtpfcdhjknmijjaaGreatW.PrintWords Go.Proofs.YtpfcdhjknmijjaaGreatW.PrintLast Go.Proofs.YtpfcdhjknmijjaaGreatW.PrintMore

/-! ### A memory -/
structure Reg1 where
  base : Int
  bytes : List Int
  rights : Int
structure MemS where
  rs : List Reg1
  written : Int
/-- The memory at block mp; its regions' bytes lie in the blocks gs, its list of regions in block q. -/
structure MemIs (w : World) (mp q : Nat) (gs : List Nat) (S : MemS) : Prop where
  head : ∃ cap, w.heap[mp]? = some (.cells #[.slice (some ⟨q, 0, none⟩) S.rs.length cap, .int .u64 S.written] 180 (0, 0))
  row : ∃ cur, w.heap[q]? = some (.cells cur 182 (0, 0)) ∧ ∀ i (h : i < S.rs.length) (h' : i < gs.length), cur[i * 3]? = some (.int .u64 S.rs[i].base) ∧
    cur[i * 3 + 1]? = some (.slice (some ⟨gs[i], 0, none⟩) S.rs[i].bytes.length S.rs[i].bytes.length) ∧ cur[i * 3 + 2]? = some (.int .i64 S.rs[i].rights)
  len : gs.length = S.rs.length
  bytes : ∀ i (h : i < S.rs.length) (h' : i < gs.length), w.heap[gs[i]]? = some (.cells (S.rs[i].bytes.map (Value.int .u8)).toArray 5 (0, 0))
theorem MemIs.kept {w w' : World} {mp q : Nat} {gs : List Nat} {S : MemS} (h : MemIs w mp q gs S) (hk : ∀ k, k < w.heap.size → w'.heap[k]? = w.heap[k]?) : MemIs w' mp q gs S := by
  obtain ⟨cap, h1⟩ := h.head
  obtain ⟨cur, h2, h3⟩ := h.row
  exact ⟨⟨cap, (hk _ (blk_lt h1)).trans h1⟩, ⟨cur, (hk _ (blk_lt h2)).trans h2, h3⟩, h.len, fun i hi hi' => (hk _ (blk_lt (h.bytes i hi hi'))).trans (h.bytes i hi hi')⟩
theorem MemIs.below {w w' : World} {mp q : Nat} {gs : List Nat} {S : MemS} (h : MemIs w mp q gs S) (hb : Below w.heap.size w w') : MemIs w' mp q gs S := h.kept hb.block
/-- The regions' beginnings rise. -/
def Sorted (S : MemS) : Prop := ∀ i j (hj : j < S.rs.length) (hi : i ≤ j), (S.rs[i]'(by omega)).base ≤ S.rs[j].base
/-- The first region that begins behind a place. -/
def firstF (S : MemS) (at_ : Int) : Nat := S.rs.findIdx fun r => decide (at_ < r.base)

set_option maxHeartbeats 2000000 in
set_option maxRecDepth 100000 in
/-- The closure of find. -/
theorem clo_calls {w : World} {mp q b4 b5 i : Nat} {gs : List Nat} {S : MemS} {a : Int} (h : MemIs w mp q gs S) (h4 : w.heap[b4]? = some (.cells #[.pointer (some ⟨mp, 0, none⟩)] 103 (0, 0))) (h5 : w.heap[b5]? = some (.cells #[.int .u64 a] 82 (0, 0))) (hi : i < S.rs.length) :
    Calls Tryz.prog 190 #[.int .i64 i, .pointer (some ⟨b4, 0, none⟩), .pointer (some ⟨b5, 0, none⟩)] w fun e w' => e = .returned (.bool (decide (a < S.rs[i].base))) ∧ ∃ n, w' = w.drewN n := by
  obtain ⟨cap, h1⟩ := h.head
  obtain ⟨cur, h2, h3⟩ := h.row
  obtain ⟨r1, r2, r3⟩ := h3 i hi (by rw [h.len]; exact hi)
  have c1 := blk_cell h1
  have z1 := blk_lt h1
  have c2 : w.cell? ⟨q, i * 3, none⟩ = some (.int .u64 S.rs[i].base) := (blk_cell h2 _).trans r1
  have z2 := blk_lt h2
  have c4 := blk_cell h4
  have z4 := blk_lt h4
  have c5 := blk_cell h5
  have z5 := blk_lt h5
  have i0 : (0 : Int) ≤ (i : Int) := by omega
  have i1 : (i : Int) < (S.rs.length : Int) := by omega
  obtain ⟨B, hB⟩ : ∃ B, S.rs[i].base = B := ⟨_, rfl⟩
  rw [hB] at c2 ⊢
  clear h h1 h2 h3 r1 r2 r3 h4 h5 hB
  go_enter Tryz.func190, Tryz.ntmps190
  go_wp2_with fail
  go_quiet (fail)
  go_wp2
  go_ret
  exact ⟨by simp, _, rfl⟩

theorem drewN_drewN (w : World) (n m : Nat) : (w.drewN n).drewN m = w.drewN (n + m) := by simp [World.drewN, Nat.add_assoc]
set_option maxHeartbeats 2000000 in
set_option maxRecDepth 100000 in
theorem search_calls {w : World} {mp q b4 b5 : Nat} {gs : List Nat} {S : MemS} {a : Int} (h : MemIs w mp q gs S) (hs : Sorted S) (hn : S.rs.length < 1000000) (h4 : w.heap[b4]? = some (.cells #[.pointer (some ⟨mp, 0, none⟩)] 103 (0, 0))) (h5 : w.heap[b5]? = some (.cells #[.int .u64 a] 82 (0, 0))) :
    Calls Tryz.prog 189 #[.int .i64 S.rs.length, .func (.func 190) #[] #[.pointer (some ⟨b4, 0, none⟩), .pointer (some ⟨b5, 0, none⟩)]] w fun e w' => (∃ i : Nat, i ≤ S.rs.length ∧ e = .returned (.int .i64 i) ∧
      (∀ k (hk : k < S.rs.length), k < i → S.rs[k].base ≤ a) ∧ (∀ k (hk : k < S.rs.length), i ≤ k → a < S.rs[k].base)) ∧ ∃ n, w' = w.drewN n := by
  have H := Aside0.mk h
  have H4 := Aside0.mk h4
  have H5 := Aside0.mk h5
  have HS := Aside0.mk hs
  clear h h4 h5 hs
  go_enter Tryz.func189, Tryz.ntmps189
  go_wp2
  go_loopw [5, 6] (fun v5 v6 wr => ∃ lo hi : Nat, lo ≤ hi ∧ hi ≤ S.rs.length ∧ v5 = .int .i64 lo ∧ v6 = .int .i64 hi ∧ Aside0 ((∀ k (hk : k < S.rs.length), k < lo → S.rs[k].base ≤ a) ∧ (∀ k (hk : k < S.rs.length), hi ≤ k → a < S.rs[k].base)) ∧ ∃ n, wr = w.drewN n) (fun v5 v6 _ => (intOf v6 - intOf v5).toNat)
  case atStart => exact ⟨0, S.rs.length, by omega, by omega, rfl, rfl, ⟨⟨fun k _ h => by omega, fun k hk h => by omega⟩⟩, 0, rfl⟩
  case round =>
    obtain ⟨lo, hi, h1, h2, rfl, rfl, hin, n, rfl⟩ := hrel
    by_cases hlt : lo < hi
    · obtain ⟨M, hM⟩ : ∃ M, (lo + hi) / 2 = M := ⟨_, rfl⟩
      have eM : ((lo : Int) + hi) / 2 = (M : Int) := by omega
      have e2 : ((lo : Int) < (hi : Int)) := by omega
      have hm1 : lo ≤ M := by omega
      have hm2 : M < hi := by omega
      clear hM
      go_wp2_with fail
      have B5 := pw_below_drewN (Below.refl w.heap.size w) n
      refine (clo_calls (i := M) (H.out.below B5) (blk_below H4.out B5) (blk_below H5.out B5) (by omega)).mono ?_
      rintro e w2 ⟨rfl, n2, rfl⟩
      have hnn : (w.drewN n).drewN n2 = w.drewN (n + n2) := drewN_drewN w n n2
      rw [hnn]
      by_cases hc : a < (S.rs[M]'(by omega)).base
      · have IN := Aside0.mk (show (∀ k (hk : k < S.rs.length), k < lo → S.rs[k].base ≤ a) ∧ (∀ k (hk : k < S.rs.length), M ≤ k → a < S.rs[k].base) from ⟨hin.out.1, fun k hk hMk => Int.lt_of_lt_of_le hc (HS.out M k hk hMk)⟩)
        have hd : decide (a < (S.rs[M]'(by omega)).base) = true := decide_eq_true hc
        rw [hd]
        clear hc hd hin
        go_wp2
        go_roundw
        case rel => exact ⟨lo, M, hm1, by omega, rfl, rfl, IN, _, rfl⟩
        case measure => simp [intOf]; omega
      · have IN := Aside0.mk (show (∀ k (hk : k < S.rs.length), k < M + 1 → S.rs[k].base ≤ a) ∧ (∀ k (hk : k < S.rs.length), hi ≤ k → a < S.rs[k].base) from ⟨fun k hk hkM => Int.le_trans (HS.out k M (by omega) (by omega)) (by omega), hin.out.2⟩)
        have hd : decide (a < (S.rs[M]'(by omega)).base) = false := decide_eq_false hc
        rw [hd]
        clear hc hd hin
        go_wp2
        go_roundw
        case rel => exact ⟨M + 1, hi, by omega, h2, by go_num, rfl, IN, _, rfl⟩
        case measure => simp [intOf]; omega
    · obtain rfl : lo = hi := by omega
      go_wp2
      refine bodyPost_ret (v := .int .i64 lo) (by simp [results, Tryz.results189, go_sem]) rfl ⟨⟨lo, h2, rfl, hin.out.1, hin.out.2⟩, _, rfl⟩
end Go.Proofs.YtpfcdhjknmijjaaGreat.Ht

namespace Go.Proofs.YtpfcdhjknmijjaaGreat.Ht
open Go.RowKit Go.Maps Go.Proofs.YtpfcdhjknmijjaaGreat.Grow Go.Proofs.YtpfcdhjknmijjaaGreat.Rv Go.Proofs.YtpfcdhjknmijjaaGreat.As
open Go.Proofs.YtpfcdhjknmijjaaGreatW.PrintWords Go.Proofs.YtpfcdhjknmijjaaGreatW.PrintLast Go.Proofs.YtpfcdhjknmijjaaGreatW.PrintMore

/-- May these bytes of a region be touched so? -/
def mayF (r : Reg1) (from_ : Int) (n right : Int) : Bool :=
  !(Go.bits .and .i64 r.rights right == 0) && !decide ((r.bytes.length : Int) ≤ from_) && !decide (IntKind.u64.wrap ((r.bytes.length : Int) - from_) < n)
/-- Where bytes are found: in which region, from where on. -/
def findF (S : MemS) (a n right : Int) : Option (Nat × Nat) :=
  if h : 0 < firstF S a ∧ firstF S a - 1 < S.rs.length then
    if mayF (S.rs[firstF S a - 1]'h.2) (a - (S.rs[firstF S a - 1]'h.2).base) n right = true then some (firstF S a - 1, (a - (S.rs[firstF S a - 1]'h.2).base).toNat) else none
  else none
theorem from_nat {a b : Int} (h : b ≤ a) : ∃ f : Nat, a - b = (f : Int) := ⟨(a - b).toNat, by omega⟩
theorem u64_sub {a b : Int} (h0 : 0 ≤ b) (h : b ≤ a) (h2 : a < 18446744073709551616) : IntKind.u64.wrap (a - b) = a - b := by rw [IntKind.wrap_u64]; omega
theorem u64_nat {n : Nat} (h : n < 2000000000) : IntKind.u64.wrap (n : Int) = (n : Int) := by rw [IntKind.wrap_u64]; omega
theorem u64_dif {n m : Nat} (h : n < 2000000000) (hm : m ≤ n) : IntKind.u64.wrap ((n : Int) - (m : Int)) = (n : Int) - (m : Int) := by rw [IntKind.wrap_u64]; omega
theorem u64_add {n m : Nat} (h : n < 2000000000) (hm : m < 2000000000) : IntKind.u64.wrap ((n : Int) + (m : Int)) = (n : Int) + (m : Int) := by rw [IntKind.wrap_u64]; omega
theorem dif_lt {l f n : Nat} (h : f < l) : (l - f < n) ↔ ((l : Int) - (f : Int) < (n : Int)) := by omega
theorem w64_few (j : Int) (h0 : 0 ≤ j) (h1 : j < 1000000) : wrap64 j = j := by unfold wrap64; omega
theorem first_is {S : MemS} {a : Int} {i : Nat} (hi : i ≤ S.rs.length) (h1 : ∀ k (hk : k < S.rs.length), k < i → S.rs[k].base ≤ a) (h2 : ∀ k (hk : k < S.rs.length), i ≤ k → a < S.rs[k].base) : firstF S a = i := by
  unfold firstF
  by_cases h : i < S.rs.length
  · refine (List.findIdx_eq h).2 ⟨decide_eq_true (h2 i h (Nat.le_refl _)), fun j hj => decide_eq_false ?_⟩
    have := h1 j (by omega) hj
    omega
  · obtain rfl : i = S.rs.length := by omega
    refine List.findIdx_eq_length.2 fun x hx => ?_
    obtain ⟨k, hk, rfl⟩ := List.mem_iff_getElem.1 hx
    have := h1 k hk hk
    exact decide_eq_false (by omega)
/-- The slice that find gives back. -/
def foundV (S : MemS) (gs : List Nat) (n : Nat) : Option (Nat × Nat) → Value
  | none => .slice none 0 0
  | some (i, f) => .slice (some ⟨gs.getD i 0, f, none⟩) n ((((S.rs[i]?).map fun r => r.bytes.length).getD 0) - f)
structure GoodM (S : MemS) : Prop where
  sorted : Sorted S
  few : S.rs.length < 1000000
  bases : ∀ r ∈ S.rs, 0 ≤ r.base ∧ r.base < 9223372036854775808
  lens : ∀ r ∈ S.rs, r.bytes.length < 1000000000
set_option maxHeartbeats 4000000 in
set_option maxRecDepth 100000 in
theorem find_calls {w : World} {mp q : Nat} {gs : List Nat} {S : MemS} {a right : Int} (n : Nat) (h : MemIs w mp q gs S) (hG : GoodM S) (_ha : 0 ≤ a) (ha2 : a < 18446744073709551616) (hn : n ≤ 8) :
    Calls Tryz.prog 179 #[.pointer (some ⟨mp, 0, none⟩), .int .u64 a, .int .i64 n, .int .i64 right] w fun e w' => e = .returned (foundV S gs n (findF S a n right)) ∧ Below w.heap.size w w' := by
  obtain ⟨cap, h1⟩ := h.head
  have c1 := blk_cell h1
  have z1 := blk_lt h1
  have H := Aside0.mk h
  obtain ⟨R, hR⟩ : ∃ R, findF S a n right = R := ⟨_, rfl⟩
  rw [hR]
  have HR := Aside0.mk hR
  clear h h1 hR
  go_enter Tryz.func179, Tryz.ntmps179
  go_wp2_with fail
  have h4 := blk_alloc (heap_alloc_last w (.cells #[.pointer (some ⟨mp, 0, none⟩)] 103)) (.cells #[.int .u64 a] 82)
  have h5 := heap_alloc_at (w.alloc (.cells #[.pointer (some ⟨mp, 0, none⟩)] 103)) (.cells #[.int .u64 a] 82) (n := w.heap.size + 1) (by simp)
  have B2 := below_alloc (below_alloc (Below.refl w.heap.size w) (.cells #[.pointer (some ⟨mp, 0, none⟩)] 103)) (.cells #[.int .u64 a] 82)
  generalize (w.alloc (.cells #[.pointer (some ⟨mp, 0, none⟩)] 103)).alloc (.cells #[.int .u64 a] 82) = w2 at *
  have h2 := H.out.below B2
  refine (search_calls h2 hG.sorted hG.few h4 h5).mono ?_
  rintro e w3 ⟨⟨i, hi, rfl, s1, s2⟩, m, rfl⟩
  have hf := first_is hi s1 s2
  have B3 := Below.trans (Below.mono (Below.refl w2.heap.size w2) (Nat.le_refl _)) (pw_below_drewN (Below.refl w2.heap.size w2) m)
  have h3 := h2.below B3
  have h4' := blk_below h4 B3
  have h5' := blk_below h5 B3
  have BB := Aside0.mk (B2.trans (B3.mono B2.size))
  generalize w2.drewN m = w4 at *
  obtain ⟨cap', g1⟩ := h3.head
  obtain ⟨cur, g2, g3⟩ := h3.row
  clear c1 z1
  have c1 := blk_cell g1
  have z1 := blk_lt g1
  have c4 := blk_cell h4'
  have z4 := blk_lt h4'
  have c5 := blk_cell h5'
  have z5 := blk_lt h5'
  clear h2 h4 h5 B2 B3 h4' h5'
  by_cases hi0 : i = 0
  · subst hi0
    have hF : R = none := by rw [← HR.out]; unfold findF; rw [dif_neg (by omega)]
    subst hF
    go_wp2
    refine bodyPost_ret (v := .slice none 0 0) (by simp [results, Tryz.results179, go_sem]) rfl ⟨rfl, BB.out⟩
  · obtain ⟨j, rfl⟩ : ∃ j, i = j + 1 := ⟨i - 1, by omega⟩
    have hj : j < S.rs.length := by omega
    obtain ⟨r1, r2, r3⟩ := g3 j hj (by rw [h3.len]; exact hj)
    have hrm := List.getElem_mem hj
    obtain ⟨r, hr⟩ : ∃ r, S.rs[j] = r := ⟨_, rfl⟩
    obtain ⟨gj, hgj⟩ : ∃ gj, gs[j]'(by rw [h3.len]; exact hj) = gj := ⟨_, rfl⟩
    have hba := s1 j hj (by omega)
    have hgd : gs.getD j 0 = gj := by rw [List.getD_eq_getElem?_getD, List.getElem?_eq_getElem (by rw [h3.len]; exact hj), hgj]; rfl
    have hrs : S.rs[j]? = some r := by rw [List.getElem?_eq_getElem hj, hr]
    rw [hr] at r1 r2 r3 hba hrm
    rw [hgj] at r2
    have d0 : w4.cell? ⟨q, j * 3, none⟩ = some (.int .u64 r.base) := (blk_cell g2 _).trans r1
    have d1 : w4.cell? ⟨q, j * 3 + 1, none⟩ = some (.slice (some ⟨gj, 0, none⟩) r.bytes.length r.bytes.length) := (blk_cell g2 _).trans r2
    have d2 : w4.cell? ⟨q, j * 3 + 2, none⟩ = some (.int .i64 r.rights) := (blk_cell g2 _).trans r3
    have zq := blk_lt g2
    obtain ⟨b0, b1⟩ := hG.bases r hrm
    have lb := hG.lens r hrm
    have hF : R = if mayF r (a - r.base) n right = true then some (j, (a - r.base).toNat) else none := by
      rw [← HR.out]; unfold findF
      rw [dif_pos (by rw [hf]; exact ⟨by omega, by omega⟩)]
      simp only [hf, Nat.add_sub_cancel, hr]
    have e1 : IntKind.u64.wrap (a - r.base) = a - r.base := u64_sub b0 hba ha2
    have HFR := Aside0.mk hF
    obtain ⟨from_, hfrom⟩ := from_nat hba
    clear ha2 b0 b1 hba
    have j0 : (0 : Int) ≤ (j : Int) := Int.natCast_nonneg j
    have hfew := hG.few
    have ew : wrap64 (j : Int) = (j : Int) := w64_few _ j0 (Int.ofNat_lt.2 (Nat.lt_trans hj hfew))
    have j1 : (j : Int) < (S.rs.length : Int) := Int.ofNat_lt.2 hj
    clear r1 r2 r3 g1 g2 g3 h3 hf hF hi0 s1 s2 hr hgj hrm
    obtain ⟨len, hlen⟩ : ∃ len, r.bytes.length = len := ⟨_, rfl⟩
    rw [hlen] at d1 lb
    have u1 : IntKind.u64.wrap (len : Int) = (len : Int) := u64_nat (Nat.lt_trans lb (by decide))
    have u2 : IntKind.u64.wrap (n : Int) = (n : Int) := u64_nat (Nat.lt_of_le_of_lt hn (by decide))
    rw [hfrom] at HFR
    replace e1 : IntKind.u64.wrap (a - r.base) = (from_ : Int) := e1.trans hfrom
    clear hfrom
    have HV := Aside0.mk (show foundV S gs n (some (j, from_)) = .slice (some ⟨gj, from_, none⟩) n (len - from_) by show Value.slice (some ⟨gs.getD j 0, from_, none⟩) n ((((S.rs[j]?).map fun r => r.bytes.length).getD 0) - from_) = _; rw [hgd, hrs, ← hlen]; rfl)
    have HB := Aside0.mk hlen
    clear hgd hrs hlen
    cases hA : (Go.bits .and .i64 r.rights right == 0)
    · by_cases hB : len ≤ from_
      · have hM : mayF r (from_ : Int) n right = false := by unfold mayF; rw [HB.out]; simp [hB]
        have hR : R = none := by rw [HFR.out, if_neg (by rw [hM]; decide)]
        subst hR
        have hB' : (len : Int) ≤ (from_ : Int) := Int.ofNat_le.2 hB
        clear hM
        go_wp2
        refine bodyPost_ret (v := .slice none 0 0) (by simp [results, Tryz.results179, go_sem]) rfl ⟨rfl, (below_alloc BB.out _)⟩
      · have hlt := Nat.lt_of_not_le hB
        have e3 : IntKind.u64.wrap ((len : Int) - (from_ : Int)) = (len : Int) - (from_ : Int) := u64_dif (Nat.lt_trans lb (by decide)) (Nat.le_of_lt hlt)
        have hB' : ¬ (len : Int) ≤ (from_ : Int) := fun h => hB (Int.ofNat_le.1 h)
        by_cases hC : len - from_ < n
        · have hC' : (len : Int) - (from_ : Int) < (n : Int) := (dif_lt hlt).1 hC
          have hM : mayF r (from_ : Int) n right = false := by unfold mayF; rw [HB.out, e3]; simp [hC']
          have hR : R = none := by rw [HFR.out, if_neg (by rw [hM]; decide)]
          subst hR
          clear hM
          go_wp2
          refine bodyPost_ret (v := .slice none 0 0) (by simp [results, Tryz.results179, go_sem]) rfl ⟨rfl, (below_alloc BB.out _)⟩
        · have hC' : ¬ (len : Int) - (from_ : Int) < (n : Int) := fun h => hC ((dif_lt hlt).2 h)
          have hM : mayF r (from_ : Int) n right = true := by unfold mayF; rw [HB.out, e3, hA]; simp [hB, hC']
          have hR : R = some (j, from_) := by rw [HFR.out, if_pos hM, Int.toNat_natCast]
          subst hR
          have e4 : IntKind.u64.wrap ((from_ : Int) + (n : Int)) = (from_ : Int) + (n : Int) := u64_add (Nat.lt_trans hlt (Nat.lt_trans lb (by decide))) (Nat.lt_of_le_of_lt hn (by decide))
          clear hM
          go_wp2_with fail
          go_ret
          refine ⟨?_, below_alloc BB.out _⟩
          show Ending.returned (Value.slice (some ⟨gj, from_, none⟩) (from_ + n - from_) (len - from_)) = _
          rw [HV.out, Nat.add_sub_cancel_left]
    · have hM : mayF r (from_ : Int) n right = false := by unfold mayF; rw [hA]; rfl
      have hR : R = none := by rw [HFR.out, if_neg (by rw [hM]; decide)]
      subst hR
      clear hM
      go_wp2
      refine bodyPost_ret (v := .slice none 0 0) (by simp [results, Tryz.results179, go_sem]) rfl ⟨rfl, (below_alloc BB.out _)⟩
end Go.Proofs.YtpfcdhjknmijjaaGreat.Ht

namespace Go.Proofs.YtpfcdhjknmijjaaGreat.Ht
open Go.RowKit Go.Maps Go.Proofs.YtpfcdhjknmijjaaGreat.Grow Go.Proofs.YtpfcdhjknmijjaaGreat.Rv Go.Proofs.YtpfcdhjknmijjaaGreat.As
open Go.Proofs.YtpfcdhjknmijjaaGreatW.PrintWords Go.Proofs.YtpfcdhjknmijjaaGreatW.PrintLast Go.Proofs.YtpfcdhjknmijjaaGreatW.PrintMore

/-! ### Numbers out of bytes -/
def numF : List Int → Int
  | [] => 0
  | b :: l => b + 256 * numF l
def Bytes (l : List Int) : Prop := ∀ b ∈ l, 0 ≤ b ∧ b < 256
theorem numF_b : ∀ (l : List Int), Bytes l → 0 ≤ numF l ∧ numF l < 256 ^ l.length
  | [], _ => by simp [numF]
  | b :: l, h => by
    obtain ⟨h1, h2⟩ := h b (List.mem_cons_self ..)
    obtain ⟨h3, h4⟩ := numF_b l fun x hx => h x (List.mem_cons_of_mem _ hx)
    have e : (256 : Int) ^ (b :: l).length = 256 ^ l.length * 256 := by rw [List.length_cons, Int.pow_succ]
    rw [e]
    unfold numF
    generalize (256 : Int) ^ l.length = z at *
    omega
theorem pow7 : ∀ n, n < 8 → (256 : Int) ^ n ≤ 72057594037927936 := by decide
theorem wraps_u64 (n : Int) (h₀ : 0 ≤ n) (h₁ : n < 2 ^ 64) : IntKind.u64.wrap n = n := by rw [IntKind.wrap_u64]; omega
theorem or_byte (x b : Nat) (hx : x < 72057594037927936) (hb : b < 256) : Go.bits .or .u64 (IntKind.u64.wrap ((x : Int) * 256)) (IntKind.u64.wrap (b : Int)) = ((b + 256 * x : Nat) : Int) := by
  have e1 : IntKind.u64.wrap ((x : Int) * 256) = ((x * 256 : Nat) : Int) := by rw [IntKind.wrap_u64]; omega
  have e2 : IntKind.u64.wrap (b : Int) = (b : Int) := by rw [IntKind.wrap_u64]; omega
  rw [e1, e2, (bits_nat .u64 64 (by decide) wraps_u64 (x * 256) b (by omega) (by omega)).2]
  have := or_field x b 8 (by omega)
  rw [Nat.shiftLeft_eq] at this
  rw [Nat.or_comm, show x * 256 = x * 2 ^ 8 by rfl, this]
  congr 1
  omega
theorem num_step (x b : Int) (h0 : 0 ≤ x) (hx : x < 72057594037927936) (hb0 : 0 ≤ b) (hb : b < 256) : Go.bits .or .u64 (IntKind.u64.wrap (x * 256)) (IntKind.u64.wrap b) = b + 256 * x := by
  obtain ⟨n, rfl⟩ := Int.eq_ofNat_of_zero_le h0
  obtain ⟨m, rfl⟩ := Int.eq_ofNat_of_zero_le hb0
  have := or_byte n m (by omega) (by omega)
  rw [this]
  omega
set_option maxHeartbeats 2000000 in
set_option maxRecDepth 100000 in
theorem number_calls {w : World} {g off cap : Nat} (ns : List Int) (hb : Bytes ns) (hn : ns.length ≤ 8) (hc : ∀ i, i < ns.length → w.cell? ⟨g, off + i, none⟩ = some (.int .u8 (ns.getD i 0))) (hg : g < w.heap.size) :
    Calls Tryz.prog 180 #[.slice (some ⟨g, off, none⟩) ns.length cap] w fun e w' => e = .returned (.int .u64 (numF ns)) ∧ w' = w := by
  have HB := Aside0.mk hb
  have HC := Aside0.mk hc
  clear hb hc
  go_enter Tryz.func180, Tryz.ntmps180
  go_wp2
  go_loopw [3, 4] (fun v3 v4 wr => ∃ i : Nat, i ≤ ns.length ∧ v4 = .int .i64 ((i : Int) - 1) ∧ v3 = .int .u64 (numF (ns.drop i)) ∧ wr = w) (fun _ v4 _ => (intOf v4 + 1).toNat)
  case atStart => exact ⟨ns.length, Nat.le_refl _, by go_num, by rw [List.drop_length]; rfl, rfl⟩
  case round =>
    obtain ⟨i, hi, rfl, rfl, rfl⟩ := hrel
    cases i with
    | zero =>
      rw [List.drop_zero]
      go_wp2
      go_ret
      exact ⟨by simp, rfl⟩
    | succ i =>
      have c := HC.out i (by omega)
      have e1 : ((i + 1 : Nat) : Int) - 1 = (i : Int) := by omega
      rw [e1]
      obtain ⟨b, hb⟩ : ∃ b, ns.getD i 0 = b := ⟨_, rfl⟩
      rw [hb] at c
      have hbm : b ∈ ns := by rw [← hb, List.getD_eq_getElem?_getD, List.getElem?_eq_getElem (by omega)]; exact List.getElem_mem _
      obtain ⟨hb0, hb1⟩ := HB.out b hbm
      have hd : ns.drop i = b :: ns.drop (i + 1) := by
        rw [List.drop_eq_getElem_cons (by omega)]
        congr 1
        rw [← hb, List.getD_eq_getElem?_getD, List.getElem?_eq_getElem (by omega)]; rfl
      obtain ⟨n0, n1⟩ := numF_b (ns.drop (i + 1)) fun x hx => HB.out x (List.mem_of_mem_drop hx)
      have n2 : numF (ns.drop (i + 1)) < 72057594037927936 := by
        refine Int.lt_of_lt_of_le n1 ?_
        have : (ns.drop (i + 1)).length ≤ 7 := by rw [List.length_drop]; omega
        exact pow7 _ (by omega)
      have hs := num_step _ b n0 n2 hb0 hb1
      have hnum : numF (ns.drop i) = b + 256 * numF (ns.drop (i + 1)) := by rw [hd]; rfl
      have NS := Aside0.mk hnum
      obtain ⟨X, hX⟩ : ∃ X, numF (ns.drop (i + 1)) = X := ⟨_, rfl⟩
      rw [hX] at hs NS ⊢
      have i0 : (0 : Int) ≤ (i : Int) := by omega
      have i1 : (i : Int) < (ns.length : Int) := by omega
      clear hnum hd hb n0 n1 n2 hX hb0 hb1
      go_wp2
      exact ⟨⟨i, by omega, rfl, by rw [NS.out], trivial⟩, by simp [intOf]⟩

/-- The word of an instruction at a place. -/
def bytesAt (S : MemS) (i f n : Nat) : List Int := (((S.rs[i]?).map fun r => r.bytes).getD []).drop f |>.take n
def fetchF (S : MemS) (a : Int) : Int × Int :=
  if a % 4 = 0 then match findF S a 4 4 with
    | none => (0, 270)
    | some (i, f) => (numF (bytesAt S i f 4), 0)
  else (0, 270)
theorem found_in {S : MemS} {a n right : Int} {i f : Nat} (h : findF S a n right = some (i, f)) (hG : GoodM S) : ∃ hi : i < S.rs.length, f + n.toNat ≤ S.rs[i].bytes.length := by
  unfold findF at h
  split at h
  · rename_i hc
    split at h
    · rename_i hm
      simp only [Option.some.injEq, Prod.mk.injEq] at h
      obtain ⟨rfl, rfl⟩ := h
      refine ⟨hc.2, ?_⟩
      have lb := hG.lens _ (List.getElem_mem hc.2)
      have hx0 : (S.rs[firstF S a - 1]'hc.2).base ≤ a := by
        have := List.not_of_lt_findIdx (p := fun r : Reg1 => decide (a < r.base)) (xs := S.rs) (i := firstF S a - 1) (show firstF S a - 1 < firstF S a by omega)
        simpa using this
      generalize S.rs[firstF S a - 1]'hc.2 = r at *
      unfold mayF at hm
      simp only [Bool.and_eq_true, Bool.not_eq_true', decide_eq_false_iff_not] at hm
      obtain ⟨⟨_, h2⟩, h3⟩ := hm
      have : ∀ x : Int, 0 ≤ x → ¬ (r.bytes.length : Int) ≤ x → ¬ IntKind.u64.wrap ((r.bytes.length : Int) - x) < n → x.toNat + n.toNat ≤ r.bytes.length := by
        intro x hx hx1 hx2
        rw [IntKind.wrap_u64] at hx2
        omega
      exact this _ (by omega) h2 h3
    · cases h
  · cases h
end Go.Proofs.YtpfcdhjknmijjaaGreat.Ht

namespace Go.Proofs.YtpfcdhjknmijjaaGreat.Ht
open Go.RowKit Go.Maps Go.Proofs.YtpfcdhjknmijjaaGreat.Grow Go.Proofs.YtpfcdhjknmijjaaGreat.Rv Go.Proofs.YtpfcdhjknmijjaaGreat.As
open Go.Proofs.YtpfcdhjknmijjaaGreatW.PrintWords Go.Proofs.YtpfcdhjknmijjaaGreatW.PrintLast Go.Proofs.YtpfcdhjknmijjaaGreatW.PrintMore

def GoodB (S : MemS) : Prop := ∀ r ∈ S.rs, Bytes r.bytes
/-- What a found slice holds. -/
theorem found_row {w : World} {mp q : Nat} {gs : List Nat} {S : MemS} {a right : Int} {n i f : Nat} (h : MemIs w mp q gs S) (hG : GoodM S) (hB : GoodB S) (hF : findF S a n right = some (i, f)) :
    ∃ g cap, foundV S gs n (some (i, f)) = .slice (some ⟨g, f, none⟩) (bytesAt S i f n).length cap ∧ Bytes (bytesAt S i f n) ∧ (bytesAt S i f n).length = n ∧ (∀ j, j < (bytesAt S i f n).length → w.cell? ⟨g, f + j, none⟩ = some (.int .u8 ((bytesAt S i f n).getD j 0))) ∧ g < w.heap.size := by
  obtain ⟨hi, hlen⟩ := found_in hF hG
  rw [Int.toNat_natCast] at hlen
  have hgl : i < gs.length := by rw [h.len]; exact hi
  have hb := h.bytes i hi hgl
  have e : bytesAt S i f n = (S.rs[i].bytes.drop f).take n := by unfold bytesAt; rw [List.getElem?_eq_getElem hi]; rfl
  have hl : (bytesAt S i f n).length = n := by rw [e, List.length_take, List.length_drop]; omega
  refine ⟨gs[i], S.rs[i].bytes.length - f, ?_, ?_, hl, ?_, blk_lt hb⟩
  · show Value.slice (some ⟨gs.getD i 0, f, none⟩) n ((((S.rs[i]?).map fun r => r.bytes.length).getD 0) - f) = _
    rw [hl, List.getElem?_eq_getElem hi, List.getD_eq_getElem?_getD, List.getElem?_eq_getElem hgl]; rfl
  · intro b hb'
    rw [e] at hb'
    exact hB _ (List.getElem_mem hi) b (List.mem_of_mem_drop (List.mem_of_mem_take hb'))
  · intro j hj
    rw [hl] at hj
    rw [cell_of_row w _ _ _ 5 (0, 0) hb, e, List.getD_eq_getElem?_getD, List.getElem?_take_of_lt hj, List.getElem?_drop]
    simp [List.getElem?_eq_getElem (show f + j < S.rs[i].bytes.length by omega)]
theorem nil1 (w : World) : (binOp .eql 68 (.slice none 0 0) (.slice none 0 0)).run Tryz.prog w = .ok (.bool true) w := by kernel_rfl
theorem nil2 (a : Addr) (n c : Nat) (w : World) : (binOp .eql 68 (.slice (some a) n c) (.slice none 0 0)).run Tryz.prog w = .ok (.bool false) w := by kernel_rfl
theorem guard130 : Tryz.prog.eqGuardType Tryz.prog.depth 68 = false := by kernel_rfl
set_option maxHeartbeats 2000000 in
set_option maxRecDepth 100000 in
theorem Fetch_calls {w : World} {mp q : Nat} {gs : List Nat} {S : MemS} {a : Int} (h : MemIs w mp q gs S) (hG : GoodM S) (hB : GoodB S) (ha : 0 ≤ a) (ha2 : a < 18446744073709551616) :
    Calls Tryz.prog 175 #[.pointer (some ⟨mp, 0, none⟩), .int .u64 a] w fun e w' => e = .returned (.tuple #[.int .u32 (fetchF S a).1, .int .i64 (fetchF S a).2]) ∧ Below w.heap.size w w' := by
  have H := Aside0.mk h
  have FC := Aside0.mk (find_calls 4 h hG ha ha2 (right := 4) (by decide))
  obtain ⟨R, hR⟩ : ∃ R, fetchF S a = R := ⟨_, rfl⟩
  rw [hR]
  have HR := Aside0.mk hR
  clear h hR
  have n1 := nil1
  have n2 := nil2
  have n3 := guard130
  go_enter Tryz.func175, Tryz.ntmps175
  by_cases h4 : a % 4 = 0
  · have h4' : a.tmod 4 = 0 := by rw [Int.tmod_eq_emod_of_nonneg ha]; exact h4
    clear ha2
    go_wp2_with fail
    refine FC.out.mono ?_
    rintro e w1 ⟨rfl, hb1⟩
    cases hF : findF S a 4 4 with
    | none =>
      have hR : R = (0, 270) := by rw [← HR.out]; unfold fetchF; rw [if_pos h4, hF]
      subst hR
      rw [show foundV S gs 4 none = .slice none 0 0 from rfl]
      go_wp2
      exact bodyPost_ret (v := .tuple #[.int .u32 0, .int .i64 270]) (by simp [results, Tryz.results175, go_sem]) rfl ⟨rfl, hb1⟩
    | some r =>
      obtain ⟨i, f⟩ := r
      obtain ⟨g, cap, hv, hby, hlen, hcell, hgl⟩ := found_row (n := 4) (H.out.below hb1) hG hB hF
      obtain ⟨bs, hbs⟩ : ∃ bs, bytesAt S i f 4 = bs := ⟨_, rfl⟩
      rw [hbs] at hv hby hlen hcell
      have hR : R = (numF bs, 0) := by rw [← HR.out]; unfold fetchF; rw [if_pos h4, hF]; simp only [hbs]
      subst hR
      rw [hv, hlen]
      have hnb := numF_b bs hby
      rw [hlen] at hnb
      have e1 : numF bs % 4294967296 = numF bs := by omega
      have nc := number_calls (cap := cap) bs hby (by omega) hcell hgl
      rw [hlen] at nc
      have NC := Aside0.mk nc
      clear hv hby hcell hbs hF hnb nc hlen
      go_wp2_with fail
      refine NC.out.mono ?_
      rintro e w2 ⟨rfl, rfl⟩
      go_wp2
      exact bodyPost_ret (v := .tuple #[.int .u32 (numF bs), .int .i64 0]) (by simp [results, Tryz.results175, go_sem]) rfl ⟨rfl, hb1⟩
  · have hF : R = (0, 270) := by rw [← HR.out]; unfold fetchF; rw [if_neg h4]
    have h4' : ¬ a.tmod 4 = 0 := by rw [Int.tmod_eq_emod_of_nonneg ha]; exact h4
    subst hF
    clear ha2
    go_wp2
    exact bodyPost_ret (v := .tuple #[.int .u32 0, .int .i64 270]) (by simp [results, Tryz.results175, go_sem]) rfl ⟨rfl, Below.refl _ _⟩
end Go.Proofs.YtpfcdhjknmijjaaGreat.Ht

namespace Go.Proofs.YtpfcdhjknmijjaaGreat.Ht
open Go.RowKit Go.Maps Go.Proofs.YtpfcdhjknmijjaaGreat.Grow Go.Proofs.YtpfcdhjknmijjaaGreat.Rv Go.Proofs.YtpfcdhjknmijjaaGreat.As
open Go.Proofs.YtpfcdhjknmijjaaGreatW.PrintWords Go.Proofs.YtpfcdhjknmijjaaGreatW.PrintLast Go.Proofs.YtpfcdhjknmijjaaGreatW.PrintMore

def sizeOk (n : Int) : Bool := n == 1 || n == 2 || n == 4 || n == 8
set_option maxHeartbeats 1000000 in
theorem msize_calls (n : Int) (w : World) : Calls Tryz.prog 178 #[.int .i64 n] w fun e w' => e = .returned (.bool (sizeOk n)) ∧ w' = w := by
  go_enter Tryz.func178, Tryz.ntmps178
  unfold sizeOk
  cases h1 : (n == 1)
  all_goals cases h2 : (n == 2)
  all_goals cases h3 : (n == 4)
  all_goals cases h4 : (n == 8)
  all_goals go_wp2
  all_goals go_ret
  all_goals exact ⟨by simp, rfl⟩
theorem sizeOk_nat {n : Int} (h : sizeOk n = true) : ∃ m : Nat, n = (m : Int) ∧ 1 ≤ m ∧ m ≤ 8 := by
  unfold sizeOk at h
  simp only [Bool.or_eq_true, beq_iff_eq] at h
  exact ⟨n.toNat, by omega, by omega, by omega⟩
def loadF (S : MemS) (a n : Int) : Int × Int :=
  if sizeOk n = true then match findF S a n 1 with
    | none => (0, 270)
    | some (i, f) => (numF (bytesAt S i f n.toNat), 0)
  else (0, 1)
set_option maxHeartbeats 2000000 in
set_option maxRecDepth 100000 in
theorem Load_calls {w : World} {mp q : Nat} {gs : List Nat} {S : MemS} {a n : Int} (h : MemIs w mp q gs S) (hG : GoodM S) (hB : GoodB S) (ha : 0 ≤ a) (ha2 : a < 18446744073709551616) :
    Calls Tryz.prog 149 #[.pointer (some ⟨mp, 0, none⟩), .int .u64 a, .int .i64 n] w fun e w' => e = .returned (.tuple #[.int .u64 (loadF S a n).1, .int .i64 (loadF S a n).2]) ∧ Below w.heap.size w w' := by
  have H := Aside0.mk h
  obtain ⟨R, hR⟩ : ∃ R, loadF S a n = R := ⟨_, rfl⟩
  rw [hR]
  have HR := Aside0.mk hR
  have FC0 := Aside0.mk (fun (m : Nat) (hm : m ≤ 8) => find_calls m h hG ha ha2 (right := 1) hm)
  have n1 := nil1
  have n2 := nil2
  have n3 := guard130
  clear h hR ha ha2
  go_enter Tryz.func149, Tryz.ntmps149
  go_wp2_with fail
  refine (msize_calls n _).mono ?_
  rintro e w0 ⟨rfl, rfl⟩
  cases hs : sizeOk n
  · have hF : R = (0, 1) := by rw [← HR.out]; unfold loadF; rw [if_neg (by rw [hs]; decide)]
    subst hF
    go_wp2
    exact bodyPost_ret (v := .tuple #[.int .u64 0, .int .i64 1]) (by simp [results, Tryz.results149, go_sem]) rfl ⟨rfl, Below.refl _ _⟩
  · obtain ⟨m, rfl, hm1, hm8⟩ := sizeOk_nat hs
    have FC := Aside0.mk (FC0.out m hm8)
    clear FC0
    go_wp2_with fail
    refine FC.out.mono ?_
    rintro e w1 ⟨rfl, hb1⟩
    cases hF : findF S a m 1 with
    | none =>
      have hR : R = (0, 270) := by rw [← HR.out]; unfold loadF; rw [if_pos hs, hF]
      subst hR
      rw [show foundV S gs m none = .slice none 0 0 from rfl]
      go_wp2
      exact bodyPost_ret (v := .tuple #[.int .u64 0, .int .i64 270]) (by simp [results, Tryz.results149, go_sem]) rfl ⟨rfl, hb1⟩
    | some r =>
      obtain ⟨i, f⟩ := r
      obtain ⟨g, cap, hv, hby, hlen, hcell, hgl⟩ := found_row (n := m) (H.out.below hb1) hG hB hF
      obtain ⟨bs, hbs⟩ : ∃ bs, bytesAt S i f m = bs := ⟨_, rfl⟩
      rw [hbs] at hv hby hlen hcell
      have hR : R = (numF bs, 0) := by rw [← HR.out]; unfold loadF; rw [if_pos hs, hF]; simp only [Int.toNat_natCast, hbs]
      subst hR
      rw [hv, hlen]
      have nc := number_calls (cap := cap) bs hby (by omega) hcell hgl
      rw [hlen] at nc
      have NC := Aside0.mk nc
      clear hv hby hcell hbs hF nc hlen
      go_wp2_with fail
      refine NC.out.mono ?_
      rintro e w2 ⟨rfl, rfl⟩
      go_wp2
      exact bodyPost_ret (v := .tuple #[.int .u64 (numF bs), .int .i64 0]) (by simp [results, Tryz.results149, go_sem]) rfl ⟨rfl, hb1⟩
end Go.Proofs.YtpfcdhjknmijjaaGreat.Ht

namespace Go.Proofs.YtpfcdhjknmijjaaGreat.Ht
open Go.RowKit Go.Maps Go.Proofs.YtpfcdhjknmijjaaGreat.Grow Go.Proofs.YtpfcdhjknmijjaaGreat.Rv Go.Proofs.YtpfcdhjknmijjaaGreat.As
open Go.Proofs.YtpfcdhjknmijjaaGreatW.PrintWords Go.Proofs.YtpfcdhjknmijjaaGreatW.PrintLast Go.Proofs.YtpfcdhjknmijjaaGreatW.PrintMore

/-- All blocks but some are as they were. -/
structure Keep (F : Nat → Prop) (w w' : World) : Prop where
  os : w'.os = w.os
  tape : w'.tape = w.tape
  output : w'.output = w.output
  size : w.heap.size ≤ w'.heap.size
  block : ∀ k, k < w.heap.size → ¬ F k → w'.heap[k]? = w.heap[k]?
theorem Keep.refl (F : Nat → Prop) (w : World) : Keep F w w := ⟨rfl, rfl, rfl, Nat.le_refl _, fun _ _ _ => rfl⟩
theorem Keep.trans {F : Nat → Prop} {a b c : World} (h : Keep F a b) (k : Keep F b c) : Keep F a c :=
  ⟨k.os.trans h.os, k.tape.trans h.tape, k.output.trans h.output, Nat.le_trans h.size k.size, fun i hi hF => (k.block i (Nat.lt_of_lt_of_le hi h.size) hF).trans (h.block i hi hF)⟩
theorem Keep.of_below {F : Nat → Prop} {w w' : World} (h : Below w.heap.size w w') : Keep F w w' := ⟨h.os, h.tape, h.output, h.size, fun k hk _ => h.block k hk⟩
theorem Keep.mono {F G : Nat → Prop} {w w' : World} (h : Keep F w w') (hFG : ∀ k, F k → G k) : Keep G w w' := ⟨h.os, h.tape, h.output, h.size, fun k hk hG => h.block k hk fun hF => hG (hFG k hF)⟩
theorem Keep.below {F : Nat → Prop} {w w' : World} {b : Nat} (h : Keep F w w') (hb : b ≤ w.heap.size) (hF : ∀ k, F k → b ≤ k) : Below b w w' :=
  ⟨h.os, h.tape, h.output, h.size, fun k hk => h.block k (by omega) fun hk' => by have := hF k hk'; omega⟩
theorem Keep.setCell {F : Nat → Prop} {w : World} {a : Addr} (v : Value) (ha : F a.block) : Keep F w (w.setCell a v) :=
  ⟨rfl, rfl, rfl, by simp [World.setCell], fun k _ hF => heap_setCell_other w a k v fun e => hF (by rw [e]; exact ha)⟩

def MemS.setB (S : MemS) (i : Nat) (bs : List Int) : MemS := { S with rs := S.rs.modify i fun r => { r with bytes := bs } }
theorem setB_len (S : MemS) (i : Nat) (bs : List Int) : (S.setB i bs).rs.length = S.rs.length := by unfold MemS.setB; simp
theorem setB_get (S : MemS) (i : Nat) (bs : List Int) (j : Nat) (h : j < S.rs.length) : (S.setB i bs).rs[j]'(by rw [setB_len]; exact h) = if i = j then { S.rs[j] with bytes := bs } else S.rs[j] := by
  unfold MemS.setB
  simp only [List.getElem_modify]
theorem setB_setB (S : MemS) (i : Nat) (bs cs : List Int) : (S.setB i bs).setB i cs = S.setB i cs := by
  unfold MemS.setB
  simp only
  congr 1
  apply List.ext_getElem
  · simp
  · intro j h1 h2
    simp only [List.getElem_modify]
    split <;> rfl
/-- A byte is written. -/
theorem MemIs.setByte {w : World} {mp q : Nat} {gs : List Nat} {S : MemS} (h : MemIs w mp q gs S) (hnd : gs.Nodup) {i o : Nat} (hi : i < S.rs.length) (hi' : i < gs.length) (v : Int) :
    MemIs (w.setCell ⟨gs[i], o, none⟩ (.int .u8 v)) mp q gs (S.setB i (S.rs[i].bytes.set o v)) := by
  obtain ⟨cap, h1⟩ := h.head
  obtain ⟨cur, h2, h3⟩ := h.row
  have hb := h.bytes i hi hi'
  have ne1 : mp ≠ gs[i] := fun e => by rw [e, hb] at h1; simp at h1
  have ne2 : q ≠ gs[i] := fun e => by rw [e, hb] at h2; cases h2
  refine ⟨⟨cap, ?_⟩, ⟨cur, ?_, ?_⟩, ?_, ?_⟩
  · rw [setB_len]; exact (heap_setCell_other _ _ _ _ ne1).trans h1
  · exact (heap_setCell_other _ _ _ _ ne2).trans h2
  · intro j hj hj'
    rw [setB_len] at hj
    obtain ⟨r1, r2, r3⟩ := h3 j hj hj'
    rw [setB_get S i _ j hj]
    by_cases e : i = j
    · subst e
      rw [if_pos rfl]
      exact ⟨r1, by rw [r2]; simp, r3⟩
    · rw [if_neg e]; exact ⟨r1, r2, r3⟩
  · rw [setB_len]; exact h.len
  · intro j hj hj'
    rw [setB_len] at hj
    rw [setB_get S i _ j hj]
    by_cases e : i = j
    · subst e
      rw [if_pos rfl, heap_setCell_same w gs[i] o _ 5 _ hb]
      simp [List.map_set]
    · rw [if_neg e]
      exact (heap_setCell_other _ _ _ _ fun e' => e ((List.getElem_inj hnd).1 e').symm).trans (h.bytes j hj hj')
theorem MemIs.setWritten {w : World} {mp q : Nat} {gs : List Nat} {S : MemS} (h : MemIs w mp q gs S) (v : Int) :
    MemIs (w.setCell ⟨mp, 1, none⟩ (.int .u64 v)) mp q gs { S with written := v } := by
  obtain ⟨cap, h1⟩ := h.head
  obtain ⟨cur, h2, h3⟩ := h.row
  have ne2 : q ≠ mp := fun e => by rw [e, h1] at h2; cases h2
  refine ⟨⟨cap, ?_⟩, ⟨cur, (heap_setCell_other _ _ _ _ ne2).trans h2, h3⟩, h.len, fun i hi hi' => ?_⟩
  · rw [heap_setCell_same w mp 1 _ 180 _ h1]; rfl
  · have hb := h.bytes i hi hi'
    exact (heap_setCell_other _ _ _ _ fun e => by
      have e' : gs[i] = mp := e
      rw [e', h1] at hb; simp at hb).trans hb
theorem setB_self (S : MemS) (i : Nat) (hi : i < S.rs.length) : S.setB i S.rs[i].bytes = S := by
  unfold MemS.setB
  obtain ⟨rs, wr⟩ := S
  simp only at hi ⊢
  congr 1
  apply List.ext_getElem
  · simp
  · intro j h1 h2
    simp only [List.getElem_modify]
    split
    · rename_i e; subst e; rfl
    · rfl
/-- The bytes of a number, written from a place on. -/
def putB (l : List Int) (f : Nat) (x : Int) : Nat → List Int
  | 0 => l
  | k + 1 => (putB l f x k).set (f + k) (x / 256 ^ k % 256)
theorem putB_len (l : List Int) (f : Nat) (x : Int) : ∀ k, (putB l f x k).length = l.length
  | 0 => rfl
  | k + 1 => by show ((putB l f x k).set _ _).length = _; rw [List.length_set, putB_len l f x k]

def storeF (S : MemS) (a n x : Int) : MemS × Int :=
  if sizeOk n = true then match findF S a n 2 with
    | none => (S, 270)
    | some (i, f) => ({ S.setB i (putB (((S.rs[i]?).map fun r => r.bytes).getD []) f x n.toNat) with written := IntKind.u64.wrap (S.written + IntKind.u64.wrap n) }, 0)
  else (S, 1)
/-- The blocks that a memory writes to. -/
def MemF (mp : Nat) (gs : List Nat) (k : Nat) : Prop := k = mp ∨ k ∈ gs
set_option maxHeartbeats 4000000 in
set_option maxRecDepth 100000 in
theorem Store_calls {w : World} {mp q : Nat} {gs : List Nat} {S : MemS} {a n x : Int} (h : MemIs w mp q gs S) (hnd : gs.Nodup) (hG : GoodM S) (ha : 0 ≤ a) (ha2 : a < 18446744073709551616) :
    Calls Tryz.prog 151 #[.pointer (some ⟨mp, 0, none⟩), .int .u64 a, .int .i64 n, .int .u64 x] w fun e w' => e = .returned (.int .i64 (storeF S a n x).2) ∧ MemIs w' mp q gs (storeF S a n x).1 ∧ Keep (MemF mp gs) w w' := by
  have H := Aside0.mk h
  obtain ⟨R, hR⟩ : ∃ R, storeF S a n x = R := ⟨_, rfl⟩
  rw [hR]
  have HR := Aside0.mk hR
  have FC0 := Aside0.mk (fun (m : Nat) (hm : m ≤ 8) => find_calls m h hG ha ha2 (right := 2) hm)
  have n1 := nil1
  have n2 := nil2
  have n3 := guard130
  clear h hR ha ha2
  go_enter Tryz.func151, Tryz.ntmps151
  go_wp2_with fail
  refine (msize_calls n _).mono ?_
  rintro e w0 ⟨rfl, rfl⟩
  cases hs : sizeOk n
  · have hF : R = (S, 1) := by rw [← HR.out]; unfold storeF; rw [if_neg (by rw [hs]; decide)]
    subst hF
    go_wp2
    exact bodyPost_ret (v := .int .i64 1) (by simp [results, Tryz.results151, go_sem]) rfl ⟨rfl, H.out, Keep.refl _ _⟩
  · obtain ⟨m, rfl, hm1, hm8⟩ := sizeOk_nat hs
    have FC := Aside0.mk (FC0.out m hm8)
    clear FC0
    go_wp2_with fail
    refine FC.out.mono ?_
    rintro e w1 ⟨rfl, hb1⟩
    cases hF : findF S a m 2 with
    | none =>
      have hR : R = (S, 270) := by rw [← HR.out]; unfold storeF; rw [if_pos hs, hF]
      subst hR
      rw [show foundV S gs m none = .slice none 0 0 from rfl]
      go_wp2
      exact bodyPost_ret (v := .int .i64 270) (by simp [results, Tryz.results151, go_sem]) rfl ⟨rfl, H.out.below hb1, Keep.of_below hb1⟩
    | some r =>
      obtain ⟨i, f⟩ := r
      obtain ⟨hi, hlen⟩ := found_in hF hG
      rw [Int.toNat_natCast] at hlen
      have hgl : i < gs.length := by rw [H.out.len]; exact hi
      obtain ⟨g, hg⟩ : ∃ g, gs[i] = g := ⟨_, rfl⟩
      have hv : foundV S gs m (some (i, f)) = .slice (some ⟨g, f, none⟩) m (S.rs[i].bytes.length - f) := by
        show Value.slice (some ⟨gs.getD i 0, f, none⟩) m ((((S.rs[i]?).map fun r => r.bytes.length).getD 0) - f) = _
        rw [List.getElem?_eq_getElem hi, List.getD_eq_getElem?_getD, List.getElem?_eq_getElem hgl, hg]; rfl
      obtain ⟨bs, hbs⟩ : ∃ bs, S.rs[i].bytes = bs := ⟨_, rfl⟩
      rw [hbs] at hv hlen
      obtain ⟨WR, hWR⟩ : ∃ WR, IntKind.u64.wrap (S.written + IntKind.u64.wrap (m : Int)) = WR := ⟨_, rfl⟩
      have hR : R = ({ S.setB i (putB bs f x m) with written := WR }, 0) := by
        rw [← HR.out]; unfold storeF; rw [if_pos hs, hF]; simp only [Int.toNat_natCast, List.getElem?_eq_getElem hi, Option.map_some, Option.getD_some, hbs, hWR]
      have HW := Aside0.mk hWR
      clear hWR
      subst hR
      rw [hv]
      have H1 := Aside0.mk (H.out.below hb1)
      have K1 := Aside0.mk (Keep.of_below (F := MemF mp gs) hb1)
      clear hv hF hb1
      go_wp2
      go_loopw [3, 22] (fun v3 v22 wr => ∃ k : Nat, k ≤ m ∧ v22 = .int .i64 k ∧ v3 = .int .u64 (x / 256 ^ k) ∧ MemIs wr mp q gs (S.setB i (putB bs f x k)) ∧ Keep (MemF mp gs) w0 wr) (fun _ v22 _ => m - (intOf v22).toNat)
      case atStart => exact ⟨0, by omega, rfl, by simp, by show MemIs w1 mp q gs (S.setB i bs); rw [← hbs, setB_self S i hi]; exact H1.out, K1.out⟩
      case round =>
        obtain ⟨k, hk, rfl, rfl, h, hK⟩ := hrel
        by_cases hlt : k < m
        · have hi2 : i < (S.setB i (putB bs f x k)).rs.length := by rw [setB_len]; exact hi
          have hb := h.bytes i hi2 hgl
          have hget : (S.setB i (putB bs f x k)).rs[i].bytes = putB bs f x k := by rw [setB_get S i _ i hi, if_pos rfl]
          have hs2 := h.setByte hnd (o := f + k) hi2 hgl (x / 256 ^ k % 256)
          rw [hget] at hb
          rw [hget, setB_setB, hg] at hs2
          rw [hg] at hb
          have hfk : f + k < (putB bs f x k).length := by rw [putB_len]; omega
          have cg : ∃ y, wr.cell? ⟨g, f + k, none⟩ = some y := ⟨_, (cell_of_row wr g _ _ 5 (0, 0) hb).trans (by simp [List.getElem?_eq_getElem hfk]; rfl)⟩
          obtain ⟨y, cg⟩ := cg
          have fg := frozen_of_row wr g (f + k) _ 5 hb
          have zg := blk_lt hb
          have k0 : (0 : Int) ≤ (k : Int) := by omega
          have k1 : (k : Int) < (m : Int) := by omega
          have S2 := Aside0.mk (show MemIs (wr.setCell ⟨g, f + k, none⟩ (.int .u8 (x / 256 ^ k % 256))) mp q gs (S.setB i (putB bs f x (k + 1))) from hs2)
          have K2 := Aside0.mk (hK.trans (Keep.setCell (a := ⟨g, f + k, none⟩) (.int .u8 (x / 256 ^ k % 256)) (show MemF mp gs g from .inr (by rw [← hg]; exact List.getElem_mem hgl))))
          have hdiv := Aside0.mk (show x / 256 ^ k / 256 = x / 256 ^ (k + 1) by rw [Int.pow_succ, Int.ediv_ediv_of_nonneg (Int.le_of_lt (Int.pow_pos (by decide)))])
          obtain ⟨X, hX⟩ : ∃ X, x / 256 ^ k = X := ⟨_, rfl⟩
          rw [hX] at S2 K2 hdiv ⊢
          clear hb hget hs2 hfk h hK hX
          go_wp2
          exact ⟨⟨k + 1, by omega, by go_num, by rw [hdiv.out], S2.out, K2.out⟩, by simp [intOf]; omega⟩
        · obtain rfl : k = m := by omega
          obtain ⟨cap, h1⟩ := h.head
          have c1 := blk_cell h1
          have z1 := blk_lt h1
          have f1 := frozen_of_row wr mp 1 _ 180 h1
          have hwr : (S.setB i (putB bs f x k)).written = S.written := rfl
          rw [hwr] at c1
          have hWR := HW.out
          rw [u64_nat (show k < 2000000000 by omega)] at hWR
          have S2 := Aside0.mk (h.setWritten WR)
          have K2 := Aside0.mk (hK.trans (Keep.setCell (a := ⟨mp, 1, none⟩) (.int .u64 WR) (show MemF mp gs mp from .inl rfl)))
          clear h h1 hK hwr
          go_wp2
          exact bodyPost_ret (v := .int .i64 0) (by simp [results, Tryz.results151, go_sem]) rfl ⟨rfl, S2.out, K2.out⟩
end Go.Proofs.YtpfcdhjknmijjaaGreat.Ht
end
