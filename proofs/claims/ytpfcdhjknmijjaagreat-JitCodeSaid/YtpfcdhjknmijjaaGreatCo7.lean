import Derived.Test.YtpfcdhjknmijjaaGreatCo6
section
set_option linter.unusedSimpArgs false
set_option linter.unusedVariables false
namespace Go.Proofs.YtpfcdhjknmijjaaGreat.Ve
open Go.RowKit Go.Proofs.YtpfcdhjknmijjaaGreat.Grow Go.Proofs.YtpfcdhjknmijjaaGreat.PEmitFinds
open Go.Proofs.YtpfcdhjknmijjaaGreatW.PrintWords Go.Proofs.YtpfcdhjknmijjaaGreatW.PrintLast Go.Proofs.YtpfcdhjknmijjaaGreatW.PrintMore

/-! ### Whether all lead somewhere -/
def TgtP (n : Int) (x : S61) : Prop := ∀ t ∈ leadsL x, t < n
set_option maxHeartbeats 1000000 in
theorem tgt1_calls {w : World} {g : Nat} {n : Int} (x : S61) (h : w.heap[g]? = some (.cells #[.int .i64 n] 3 (0, 0))) : Calls Tryz.prog 109 #[instV x, .pointer (some ⟨g, 0, none⟩)] w (NotB (TgtP n x) w) := by
  have H := Aside0.mk h
  have LC := Aside0.mk (fun w9 => leads_calls x w9)
  have LL := Aside0.mk (leadsL_len x)
  have TP := Aside0.mk (show (∀ t ∈ leadsL x, t < n) ↔ TgtP n x from Iff.rfl)
  have B1 := Aside0.mk (below_alloc (Below.refl w.heap.size w) (.cells #[.int .i64 x.f0, .int .i64 x.f1, .int .i64 x.f2, .int .i64 x.f3, .int .i64 x.f4] 61))
  obtain ⟨Q, hQ⟩ : ∃ Q, TgtP n x = Q := ⟨_, rfl⟩
  rw [hQ] at TP ⊢
  obtain ⟨L, hL⟩ : ∃ L, leadsL x = L := ⟨_, rfl⟩
  rw [hL] at LC TP LL
  unfold instV at *
  clear h hQ hL
  go_enter Tryz.func109, Tryz.ntmps109
  go_wp2_with fail
  refine (LC.out _).mono ?_
  rintro e w2 ⟨A, c, rfl, hc, hC, hb⟩
  have B2 := Aside0.mk (B1.out.trans (hb.mono B1.out.size))
  have CL := Aside0.mk (cont_lead (c := c) (g := g) (n := n) hC (by have := LL.out; omega) (fun t w1 hb1 => less1_calls t (blk_below H.out (B2.out.trans (hb1.mono B2.out.size)))))
  clear hc hC hb
  go_wp2_with fail
  refine CL.out.mono ?_
  rintro e w3 ⟨b, rfl, hq, hb3⟩
  have B3 := Aside0.mk (B2.out.trans (hb3.mono B2.out.size))
  have HQ := Aside0.mk hq
  clear hb3 hq
  cases b
  · go_wp2
    go_ret
    exact NotB.miss (TP.out.1 (HQ.out.1 (by simp))) B3.out
  · go_wp2
    go_ret
    exact NotB.hit (fun h => by have := HQ.out.2 (TP.out.2 h); simp at this) B3.out

set_option maxHeartbeats 1000000 in
set_option maxRecDepth 100000 in
theorem index_tgt {w : World} {A : Option Addr} {c : Nat} {l : List S61} {g : Nat} {n : Int} (h : Kd.C k61 w A l.length l) (hm : l.length < 1000000000)
    (hC : ∀ (x : S61) (w1 : World), Below w.heap.size w w1 → Calls Tryz.prog 109 #[instV x, .pointer (some ⟨g, 0, none⟩)] w1 (NotB (TgtP n x) w1)) :
    Calls Tryz.prog 154 #[.slice A l.length c, .func (.func 109) #[] #[.pointer (some ⟨g, 0, none⟩)]] w (IntR (∀ x ∈ l, TgtP n x) w) := by
  have H := Aside0.mk h
  have HC := Aside0.mk hC
  obtain ⟨N, hN⟩ : ∃ N, l.length = N := ⟨_, rfl⟩
  rw [hN] at hm ⊢
  have HN := Aside0.mk hN
  clear h hC hN
  go_enter Tryz.func154, Tryz.ntmps154
  go_wp2
  go_loopw [8] (fun i wr => ∃ k : Nat, k ≤ N ∧ i = .int .i64 k ∧ Aside0 (∀ j, j < k → TgtP n (rd_T61 l (j : Int))) ∧ Aside0 (Below w.heap.size w wr)) (fun i _ => N - (intOf i).toNat)
  case atStart => exact ⟨0, by omega, rfl, ⟨fun j hj => absurd hj (by omega)⟩, ⟨Below.refl _ _⟩⟩
  case round =>
    obtain ⟨k, hk, rfl, hQ, hB⟩ := hrel
    by_cases hlt : k < N
    · obtain ⟨ad, rfl, e0, e1, e2, e3, e4⟩ := at_T61 (Kd.C_below H.out hB.out) (k : Int) (by omega) (by rw [HN.out]; omega)
      rw [Int.toNat_natCast] at e0 e1 e2 e3 e4
      have CC := Aside0.mk (HC.out (rd_T61 l (k : Int)) wr hB.out)
      have HM := Aside0.mk (mem_rd_T61 (l := l) (k := k) (by rw [HN.out]; exact hlt))
      have HLT := Aside0.mk hlt
      go_wp2_with fail
      refine (CC.out).mono ?_
      rintro e w2 ⟨b, rfl, hb, hb2⟩
      have B2 := Aside0.mk (hB.out.trans (hb2.mono hB.out.size))
      have HQ2 := Aside0.mk hb
      clear hb hb2 CC e0 e1 e2 e3 e4
      cases b
      · go_wp2
        go_roundw
        case rel => exact ⟨k + 1, by have := HLT.out; omega, by go_num, ⟨fun j hj => by
          by_cases e : j = k
          · subst e; exact HQ2.out.1 (by simp)
          · exact hQ.out j (by omega)⟩, ⟨B2.out⟩⟩
        case measure => simp [intOf]; have := HLT.out; omega
      · go_wp2
        go_ret
        exact IntR.hit (by omega) (fun h => by have := HQ2.out.2 (h _ HM.out); simp at this) B2.out
    · obtain rfl : k = N := by omega
      go_wp2
      go_ret
      refine IntR.miss (by omega) (fun x hx => ?_) hB.out
      obtain ⟨j, hj, rfl⟩ := List.getElem_of_mem hx
      have := hQ.out j (by rw [← HN.out]; exact hj)
      unfold rd_T61 at this
      rwa [Int.toNat_natCast, List.getD_eq_getElem?_getD, List.getElem?_eq_getElem hj] at this

theorem cont_tgt {w : World} {A : Option Addr} {c : Nat} {l : List S61} {g : Nat} {n : Int} (h : Kd.C k61 w A l.length l) (hm : l.length < 1000000000)
    (hC : ∀ (x : S61) (w1 : World), Below w.heap.size w w1 → Calls Tryz.prog 109 #[instV x, .pointer (some ⟨g, 0, none⟩)] w1 (NotB (TgtP n x) w1)) :
    Calls Tryz.prog 106 #[.slice A l.length c, .func (.func 109) #[] #[.pointer (some ⟨g, 0, none⟩)]] w (NotB (∀ x ∈ l, TgtP n x) w) := by
  have IC := Aside0.mk (index_tgt (c := c) h hm hC)
  clear h hC
  go_enter Tryz.func106, Tryz.ntmps106
  go_wp2_with fail
  refine IC.out.mono ?_
  rintro e w1 ⟨r, rfl, hr, hb⟩
  have HR := Aside0.mk hr
  have HB := Aside0.mk hb
  clear hr hb IC
  go_wp2
  go_ret
  exact NotB.of ((show _ ↔ _ by simp).trans HR.out) HB.out

def SomeQ (Q : Prop) (w : World) (e : Ending) (w' : World) : Prop := ∃ b : Bool, e = .returned (.bool b) ∧ (b = true ↔ Q) ∧ Below w.heap.size w w'
theorem SomeQ.no {Q : Prop} {w w' : World} (hq : ¬ Q) (hb : Below w.heap.size w w') : SomeQ Q w (.returned (.bool false)) w' := ⟨false, rfl, ⟨fun h => (by cases h), fun h => absurd h hq⟩, hb⟩
theorem SomeQ.yes {Q : Prop} {w w' : World} (hq : Q) (hb : Below w.heap.size w w') : SomeQ Q w (.returned (.bool true)) w' := ⟨true, rfl, ⟨fun _ => hq, fun _ => rfl⟩, hb⟩
set_option maxHeartbeats 2000000 in
set_option maxRecDepth 100000 in
theorem targets_calls {w : World} {A : Option Addr} {c : Nat} {l : List S61} (st sl : Int) (h : Kd.C k61 w A l.length l) (hm : l.length ≤ 4000) :
    Calls Tryz.prog 60 #[.agg #[.slice A l.length c, .int .i64 st, .int .i64 sl]] w (SomeQ (st < (l.length : Int) ∧ ∀ x ∈ l, TgtP (l.length : Int) x) w) := by
  have H := Aside0.mk h
  have hbx := heap_alloc_new w (.cells #[.slice A l.length c, .int .i64 st, .int .i64 sl] 24)
  have B1 := below_alloc (Below.refl w.heap.size w) (.cells #[.slice A l.length c, .int .i64 st, .int .i64 sl] 24)
  have CC := Aside0.mk (fun (w9 : World) (g : Nat) (hb : Below w.heap.size w w9) (hg : w9.heap[g]? = some (.cells #[.int .i64 (l.length : Int)] 3 (0, 0))) => cont_tgt (c := c) (g := g) (n := (l.length : Int)) (Kd.C_below H.out hb) (by omega) (fun x w1 hb1 => tgt1_calls x (blk_below hg hb1)))
  obtain ⟨F, hF⟩ : ∃ F, (∀ x ∈ l, TgtP (l.length : Int) x) = F := ⟨_, rfl⟩
  rw [hF] at CC ⊢
  obtain ⟨N, hN⟩ : ∃ N, l.length = N := ⟨_, rfl⟩
  rw [hN] at B1 hbx CC hm ⊢
  obtain ⟨Q, hQ⟩ : ∃ Q, (st < (N : Int) ∧ F) = Q := ⟨_, rfl⟩
  have MK := Aside0.mk (show st < (N : Int) ∧ F ↔ Q by rw [← hQ])
  rw [hQ]
  clear h hQ hN hF H
  have b2 := blk_alloc hbx (.cells #[.int .i64 (N : Int)] 3)
  have g2 : ((w.alloc (.cells #[.slice A N c, .int .i64 st, .int .i64 sl] 24)).alloc (.cells #[.int .i64 (N : Int)] 3)).heap[w.heap.size + 1]? = some (.cells #[.int .i64 (N : Int)] 3 (0, 0)) := by
    have q := heap_alloc_new (w.alloc (.cells #[.slice A N c, .int .i64 st, .int .i64 sl] 24)) (.cells #[.int .i64 (N : Int)] 3)
    have e : (w.alloc (.cells #[.slice A N c, .int .i64 st, .int .i64 sl] 24)).heap.size = w.heap.size + 1 := by simp
    rw [e] at q
    exact q
  have B2 := Aside0.mk (below_alloc B1 (.cells #[.int .i64 (N : Int)] 3))
  clear hbx B1
  by_cases hs : st < (N : Int)
  · have HS := Aside0.mk hs
    go_enter Tryz.func60, Tryz.ntmps60
    go_wp2_with fail
    refine (CC.out _ _ B2.out g2).mono ?_
    rintro e w3 ⟨b, rfl, hq, hb3⟩
    have B3 := Aside0.mk (B2.out.trans (hb3.mono B2.out.size))
    have HQ := Aside0.mk hq
    clear hb3 hq b2 g2
    cases b
    · go_wp2
      go_ret
      exact SomeQ.yes (MK.out.1 ⟨HS.out, HQ.out.1 (by simp)⟩) B3.out
    · go_wp2
      go_ret
      exact SomeQ.no (fun h => by have := HQ.out.2 (MK.out.2 h).2; simp at this) B3.out
  · have hs' : (N : Int) ≤ st := by omega
    have HS := Aside0.mk hs
    clear hs
    go_enter Tryz.func60, Tryz.ntmps60
    go_wp2
    go_ret
    exact SomeQ.no (fun h => absurd (MK.out.2 h).1 (by have := HS.out; omega)) B2.out

/-! ### Whether all slots are there -/
def SlotP (sl : Int) (x : S61) : Prop := x.f0 = 3 → 2 ≤ x.f1 ∧ x.f1 < sl
set_option maxHeartbeats 2000000 in
set_option maxRecDepth 100000 in
theorem slot1_calls {w : World} {g : Nat} {u v : Value} {sl : Int} (x : S61) (h : w.heap[g]? = some (.cells #[u, v, .int .i64 sl] 24 (0, 0))) : Calls Tryz.prog 113 #[instV x, .pointer (some ⟨g, 0, none⟩)] w (NotB (SlotP sl x) w) := by
  have B1 := Aside0.mk (below_alloc (Below.refl w.heap.size w) (.cells #[.int .i64 x.f0, .int .i64 x.f1, .int .i64 x.f2, .int .i64 x.f3, .int .i64 x.f4] 61))
  have h1 := blk_alloc h (.cells #[.int .i64 x.f0, .int .i64 x.f1, .int .i64 x.f2, .int .i64 x.f3, .int .i64 x.f4] 61)
  have c2 := blk_cell h1 2
  have z := blk_lt h1
  have TP := Aside0.mk (show (x.f0 = 3 → 2 ≤ x.f1 ∧ x.f1 < sl) ↔ SlotP sl x from Iff.rfl)
  obtain ⟨Q, hQ⟩ : ∃ Q, SlotP sl x = Q := ⟨_, rfl⟩
  rw [hQ] at TP ⊢
  unfold instV at *
  clear h h1 hQ
  by_cases h3 : x.f0 = 3
  · have H3 := Aside0.mk h3
    have h3' : (x.f0 == 3) = true := beq_iff_eq.2 h3
    clear h3
    by_cases hlo : x.f1 < 2
    · have HH := Aside0.mk hlo
      go_enter Tryz.func113, Tryz.ntmps113
      go_wp2
      go_ret
      exact NotB.hit (fun h => absurd (TP.out.2 h H3.out) (by have := HH.out; omega)) B1.out
    · by_cases hhi : sl ≤ x.f1
      · have HH := Aside0.mk hhi
        go_enter Tryz.func113, Tryz.ntmps113
        go_wp2
        go_ret
        exact NotB.hit (fun h => absurd (TP.out.2 h H3.out) (by have := HH.out; omega)) B1.out
      · have HH := Aside0.mk (show 2 ≤ x.f1 ∧ x.f1 < sl by omega)
        go_enter Tryz.func113, Tryz.ntmps113
        go_wp2
        go_ret
        exact NotB.of ⟨fun _ => TP.out.1 fun _ => HH.out, fun _ => by first | rfl | (have := HH.out; simp; omega)⟩ B1.out
  · have HN := Aside0.mk h3
    have h3' : (x.f0 == 3) = false := beq_eq_false_iff_ne.2 h3
    clear h3
    go_enter Tryz.func113, Tryz.ntmps113
    go_wp2
    go_ret
    exact NotB.miss (TP.out.1 fun h => absurd h HN.out) B1.out

set_option maxHeartbeats 1000000 in
set_option maxRecDepth 100000 in
theorem index_slot {w : World} {A : Option Addr} {c : Nat} {l : List S61} {g : Nat} {n : Int} (h : Kd.C k61 w A l.length l) (hm : l.length < 1000000000)
    (hC : ∀ (x : S61) (w1 : World), Below w.heap.size w w1 → Calls Tryz.prog 113 #[instV x, .pointer (some ⟨g, 0, none⟩)] w1 (NotB (SlotP n x) w1)) :
    Calls Tryz.prog 154 #[.slice A l.length c, .func (.func 113) #[] #[.pointer (some ⟨g, 0, none⟩)]] w (IntR (∀ x ∈ l, SlotP n x) w) := by
  have H := Aside0.mk h
  have HC := Aside0.mk hC
  obtain ⟨N, hN⟩ : ∃ N, l.length = N := ⟨_, rfl⟩
  rw [hN] at hm ⊢
  have HN := Aside0.mk hN
  clear h hC hN
  go_enter Tryz.func154, Tryz.ntmps154
  go_wp2
  go_loopw [8] (fun i wr => ∃ k : Nat, k ≤ N ∧ i = .int .i64 k ∧ Aside0 (∀ j, j < k → SlotP n (rd_T61 l (j : Int))) ∧ Aside0 (Below w.heap.size w wr)) (fun i _ => N - (intOf i).toNat)
  case atStart => exact ⟨0, by omega, rfl, ⟨fun j hj => absurd hj (by omega)⟩, ⟨Below.refl _ _⟩⟩
  case round =>
    obtain ⟨k, hk, rfl, hQ, hB⟩ := hrel
    by_cases hlt : k < N
    · obtain ⟨ad, rfl, e0, e1, e2, e3, e4⟩ := at_T61 (Kd.C_below H.out hB.out) (k : Int) (by omega) (by rw [HN.out]; omega)
      rw [Int.toNat_natCast] at e0 e1 e2 e3 e4
      have CC := Aside0.mk (HC.out (rd_T61 l (k : Int)) wr hB.out)
      have HM := Aside0.mk (mem_rd_T61 (l := l) (k := k) (by rw [HN.out]; exact hlt))
      have HLT := Aside0.mk hlt
      go_wp2_with fail
      refine (CC.out).mono ?_
      rintro e w2 ⟨b, rfl, hb, hb2⟩
      have B2 := Aside0.mk (hB.out.trans (hb2.mono hB.out.size))
      have HQ2 := Aside0.mk hb
      clear hb hb2 CC e0 e1 e2 e3 e4
      cases b
      · go_wp2
        go_roundw
        case rel => exact ⟨k + 1, by have := HLT.out; omega, by go_num, ⟨fun j hj => by
          by_cases e : j = k
          · subst e; exact HQ2.out.1 (by simp)
          · exact hQ.out j (by omega)⟩, ⟨B2.out⟩⟩
        case measure => simp [intOf]; have := HLT.out; omega
      · go_wp2
        go_ret
        exact IntR.hit (by omega) (fun h => by have := HQ2.out.2 (h _ HM.out); simp at this) B2.out
    · obtain rfl : k = N := by omega
      go_wp2
      go_ret
      refine IntR.miss (by omega) (fun x hx => ?_) hB.out
      obtain ⟨j, hj, rfl⟩ := List.getElem_of_mem hx
      have := hQ.out j (by rw [← HN.out]; exact hj)
      unfold rd_T61 at this
      rwa [Int.toNat_natCast, List.getD_eq_getElem?_getD, List.getElem?_eq_getElem hj] at this

theorem cont_slot {w : World} {A : Option Addr} {c : Nat} {l : List S61} {g : Nat} {n : Int} (h : Kd.C k61 w A l.length l) (hm : l.length < 1000000000)
    (hC : ∀ (x : S61) (w1 : World), Below w.heap.size w w1 → Calls Tryz.prog 113 #[instV x, .pointer (some ⟨g, 0, none⟩)] w1 (NotB (SlotP n x) w1)) :
    Calls Tryz.prog 106 #[.slice A l.length c, .func (.func 113) #[] #[.pointer (some ⟨g, 0, none⟩)]] w (NotB (∀ x ∈ l, SlotP n x) w) := by
  have IC := Aside0.mk (index_slot (c := c) h hm hC)
  clear h hC
  go_enter Tryz.func106, Tryz.ntmps106
  go_wp2_with fail
  refine IC.out.mono ?_
  rintro e w1 ⟨r, rfl, hr, hb⟩
  have HR := Aside0.mk hr
  have HB := Aside0.mk hb
  clear hr hb IC
  go_wp2
  go_ret
  exact NotB.of ((show _ ↔ _ by simp).trans HR.out) HB.out
end Go.Proofs.YtpfcdhjknmijjaaGreat.Ve
end
section
set_option linter.unusedSimpArgs false
set_option linter.unusedVariables false
namespace Go.Proofs.YtpfcdhjknmijjaaGreat.Ve
open Go.RowKit Go.Proofs.YtpfcdhjknmijjaaGreat.Grow Go.Proofs.YtpfcdhjknmijjaaGreat.PEmitFinds
open Go.Proofs.YtpfcdhjknmijjaaGreatW.PrintWords Go.Proofs.YtpfcdhjknmijjaaGreatW.PrintLast Go.Proofs.YtpfcdhjknmijjaaGreatW.PrintMore

/-! ### Slots; what is led to without a byte -/
set_option maxHeartbeats 2000000 in
set_option maxRecDepth 100000 in
theorem slots_calls {w : World} {A : Option Addr} {c : Nat} {l : List S61} (st sl : Int) (h : Kd.C k61 w A l.length l) (hm : l.length ≤ 4000) (hs0 : 0 ≤ sl) :
    Calls Tryz.prog 61 #[.agg #[.slice A l.length c, .int .i64 st, .int .i64 sl]] w (SomeQ (2 ≤ sl ∧ sl % 2 = 0 ∧ ∀ x ∈ l, SlotP sl x) w) := by
  have H := Aside0.mk h
  have hbx := heap_alloc_new w (.cells #[.slice A l.length c, .int .i64 st, .int .i64 sl] 24)
  have B1 := Aside0.mk (below_alloc (Below.refl w.heap.size w) (.cells #[.slice A l.length c, .int .i64 st, .int .i64 sl] 24))
  have CC := Aside0.mk (fun (w9 : World) (g : Nat) (u v : Value) (hb : Below w.heap.size w w9) (hg : w9.heap[g]? = some (.cells #[u, v, .int .i64 sl] 24 (0, 0))) => cont_slot (c := c) (g := g) (n := sl) (Kd.C_below H.out hb) (by omega) (fun x w1 hb1 => slot1_calls x (blk_below hg hb1)))
  obtain ⟨F, hF⟩ : ∃ F, (∀ x ∈ l, SlotP sl x) = F := ⟨_, rfl⟩
  rw [hF] at CC ⊢
  obtain ⟨N, hN⟩ : ∃ N, l.length = N := ⟨_, rfl⟩
  rw [hN] at B1 hbx CC hm ⊢
  obtain ⟨Q, hQ⟩ : ∃ Q, (2 ≤ sl ∧ sl % 2 = 0 ∧ F) = Q := ⟨_, rfl⟩
  have MK := Aside0.mk (show 2 ≤ sl ∧ sl % 2 = 0 ∧ F ↔ Q by rw [← hQ])
  rw [hQ]
  clear h hQ hN hF H
  by_cases h2 : 2 ≤ sl
  · have H2 := Aside0.mk h2
    by_cases he : sl % 2 = 0
    · have HE := Aside0.mk he
      have he' : (sl % 2 == 0) = true := beq_iff_eq.2 he
      clear he
      go_enter Tryz.func61, Tryz.ntmps61
      go_wp2_with fail
      refine (CC.out _ _ _ _ B1.out hbx).mono ?_
      rintro e w3 ⟨b, rfl, hq, hb3⟩
      have B3 := Aside0.mk (B1.out.trans (hb3.mono B1.out.size))
      have HQ := Aside0.mk hq
      clear hb3 hq hbx
      cases b
      · go_wp2
        go_ret
        exact SomeQ.yes (MK.out.1 ⟨H2.out, HE.out, HQ.out.1 (by simp)⟩) B3.out
      · go_wp2
        go_ret
        exact SomeQ.no (fun h => by have := HQ.out.2 (MK.out.2 h).2.2; simp at this) B3.out
    · have he' : (sl % 2 == 0) = false := beq_eq_false_iff_ne.2 he
      have HE := Aside0.mk he
      clear he
      go_enter Tryz.func61, Tryz.ntmps61
      go_wp2
      go_ret
      exact SomeQ.no (fun h => absurd (MK.out.2 h).2.1 (by have := HE.out; omega)) B1.out
  · have h2' : sl < 2 := by omega
    have H2 := Aside0.mk h2
    clear h2
    go_enter Tryz.func61, Tryz.ntmps61
    go_wp2
    go_ret
    exact SomeQ.no (fun h => absurd (MK.out.2 h).1 (by have := H2.out; omega)) B1.out
theorem leads_f (x : S61) : verify_leads.f x.f0 x.f1 x.f2 x.f3 x.f4 = some (leadsL x, byB x) := by
  unfold verify_leads.f leadsL byB
  by_cases h2 : x.f0 = 2
  · rw [if_pos h2, if_pos h2, decide_eq_false (by omega)]
  · rw [if_neg h2, if_neg h2]
    by_cases h1 : x.f0 = 1
    · rw [if_pos h1, if_pos h1, decide_eq_true h1]
    · rw [if_neg h1, if_neg h1, decide_eq_false h1]
      by_cases h3 : x.f0 = 3
      · rw [if_pos h3, if_pos h3]
      · rw [if_neg h3, if_neg h3]
        by_cases h4 : x.f0 = 4
        · rw [if_pos h4, if_pos h4]
        · rw [if_neg h4, if_neg h4]
theorem wrap_small {n : Int} (h0 : 0 ≤ n) (h1 : n < 1000000) : wrap64 (n + 1) = n + 1 := by unfold wrap64; omega
/-- All that is known of a program that was looked at, as far as its ways go. -/
def WaysP (l : List S61) : Prop := ∀ x ∈ l, ∀ t ∈ leadsL x, 0 ≤ t ∧ t < (l.length : Int)
/-- How often instructions are led to without a byte: one instruction's part. -/
def bump (y : List Int) (t : Int) : List Int := y.set t.toNat (wrap64 (rd y t + 1))
def freeX (y : List Int) (x : S61) : List Int := if byB x then y else (leadsL x).foldl bump y
def freeL (l : List S61) : List Int := l.foldl freeX (List.replicate l.length 0)
theorem bump_len (y : List Int) (t : Int) : (bump y t).length = y.length := by simp [bump]
theorem bumps_len (L : List Int) : ∀ y, (L.foldl bump y).length = y.length := by
  induction L with
  | nil => intro y; rfl
  | cons t L ih => intro y; rw [List.foldl_cons, ih, bump_len]
theorem freeX_len (y : List Int) (x : S61) : (freeX y x).length = y.length := by unfold freeX; split; rfl; exact bumps_len _ _
theorem frees_len (l : List S61) : ∀ y, (l.foldl freeX y).length = y.length := by
  induction l with
  | nil => intro y; rfl
  | cons x l ih => intro y; rw [List.foldl_cons, ih, freeX_len]
theorem freeL_len (l : List S61) : (freeL l).length = l.length := by unfold freeL; rw [frees_len]; simp
theorem drop_step {α : Type} {l : List α} {i : Nat} (h : i < l.length) : l.drop i = l[i] :: l.drop (i + 1) := List.drop_eq_getElem_cons h
theorem free1_ok {l : List S61} {n i : Nat} {L : List Int} {K : Nat} {F : List Int → List Int} (hL : ∀ t ∈ L, 0 ≤ t ∧ t < (n : Int)) (hL2 : L.length ≤ 2) (hi : i < 4000)
    (ih : ∀ (y : List Int) (k : Nat), y.length = n → K ≤ k → verify_free.l0 k y l n ((i : Int) + 1) = some (F y)) :
    ∀ (d j : Nat) (y : List Int) (k : Nat), L.length - j = d → j ≤ L.length → y.length = n → K + d + 1 ≤ k → verify_free.l1 k y l n i L L.length j = some (F ((L.drop j).foldl bump y))
  | 0, j, y, k + 1, hd, hj, hy, hk => by
    have : j = L.length := by omega
    subst this
    rw [verify_free.l1, if_neg (by omega), wrap_small (by omega) (by omega), List.drop_length]
    exact ih y k hy (by omega)
  | d + 1, j, y, k + 1, hd, hj, hy, hk => by
    have hlt : j < L.length := by omega
    have e : rd L (j : Int) = L[j] := by unfold rd; simp [List.getD_eq_getElem?_getD, hlt]
    obtain ⟨t0, t1⟩ := hL L[j] (List.getElem_mem hlt)
    rw [verify_free.l1, if_pos (by omega), if_pos (by omega), if_pos (by omega), e, if_pos t0, if_pos (by rw [hy]; exact t1), wrap_small (n := (j : Int)) (by omega) (by omega)]
    have := free1_ok hL hL2 hi ih d (j + 1) (y.set L[j].toNat (wrap64 (rd y L[j] + 1))) k (by omega) (by omega) (by simp [hy]) (by omega)
    rw [drop_step hlt, List.foldl_cons]
    simpa [bump] using this
  | 0, j, y, 0, hd, hj, hy, hk => by omega
  | d + 1, j, y, 0, hd, hj, hy, hk => by omega
theorem free0_ok {l : List S61} (hW : WaysP l) (hn : l.length ≤ 4000) : ∀ (d i : Nat) (y : List Int) (k : Nat), l.length - i = d → i ≤ l.length → y.length = l.length → 5 * d + 1 ≤ k → verify_free.l0 k y l l.length i = some ((l.drop i).foldl freeX y)
  | 0, i, y, k + 1, hd, hi, hy, hk => by
    have : i = l.length := by omega
    subst this
    rw [verify_free.l0, if_neg (by omega), List.drop_length]
    rfl
  | d + 1, i, y, k + 1, hd, hi, hy, hk => by
    have hlt : i < l.length := by omega
    have e : rd_T61 l (i : Int) = l[i] := by unfold rd_T61; simp [List.getD_eq_getElem?_getD, hlt]
    rw [verify_free.l0, if_pos (by omega), if_pos (by omega), if_pos (by omega), e, leads_f, Option.bind_some]
    have ih : ∀ (y : List Int) (k : Nat), y.length = l.length → 5 * d + 1 ≤ k → verify_free.l0 k y l l.length ((i : Int) + 1) = some ((l.drop (i + 1)).foldl freeX y) := fun y k h1 h2 => by
      have := free0_ok hW hn d (i + 1) y k (by omega) (by omega) h1 h2
      simpa using this
    rw [drop_step hlt, List.foldl_cons]
    cases hb : byB l[i]
    · rw [if_neg (by simp)]
      have := free1_ok (n := l.length) (i := i) (L := leadsL l[i]) (hW _ (List.getElem_mem hlt)) (leadsL_len _) (by omega) ih (leadsL l[i]).length 0 y k (by omega) (by omega) hy (by have := leadsL_len l[i]; omega)
      have e2 : freeX y l[i] = (leadsL l[i]).foldl bump y := by unfold freeX; rw [hb]; rfl
      rw [e2]
      simpa using this
    · have e2 : freeX y l[i] = y := by unfold freeX; rw [hb]; rfl
      rw [if_pos rfl, wrap_small (by omega) (by omega), e2]
      exact ih y k hy (by omega)
  | 0, i, y, 0, hd, hi, hy, hk => by omega
  | d + 1, i, y, 0, hd, hi, hy, hk => by omega
theorem free_calls {w : World} {A : Option Addr} {c : Nat} {l : List S61} (st sl : Int) (h : Kd.C k61 w A l.length l) (hc : l.length ≤ c) (hm : l.length ≤ 4000) (hW : WaysP l) :
    Calls Tryz.prog 114 #[.agg #[.slice A l.length c, .int .i64 st, .int .i64 sl]] w fun e w' => ∃ (v : Value), e = .returned v ∧ Kd.R (Kd.int .i64) 3 w' w.heap.size (fun _ => True) v (freeL l) ∧ Below w.heap.size w w' := by
  have hr := free0_ok hW hm l.length 0 (List.replicate l.length 0) (5 * l.length + 1) (by omega) (by omega) (by simp) (by omega)
  refine (verify_free.calls (5 * l.length + 1) A c l st sl (freeL l) w h hc ?_).mono fun e w' hx => ?_
  · unfold verify_free.f
    rw [if_pos (by omega), if_pos (by simp; omega)]
    simpa [freeL] using hr
  · obtain ⟨v, he, hR, hb⟩ := hx
    exact ⟨v, he, hR, hb⟩
end Go.Proofs.YtpfcdhjknmijjaaGreat.Ve
end
