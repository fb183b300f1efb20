import Derived.Test.YtpfcdhjknmijjaaGreatCo5
section
set_option linter.unusedSimpArgs false
set_option linter.unusedVariables false
namespace Go.Proofs.YtpfcdhjknmijjaaGreat.Ve
open Go.RowKit Go.Proofs.YtpfcdhjknmijjaaGreat.Grow Go.Proofs.YtpfcdhjknmijjaaGreat.PEmitFinds
open Go.Proofs.YtpfcdhjknmijjaaGreatW.PrintWords Go.Proofs.YtpfcdhjknmijjaaGreatW.PrintLast Go.Proofs.YtpfcdhjknmijjaaGreatW.PrintMore

/-! ### Whether one of a row's instructions is so -/
def NotB (Q : Prop) (w : World) (e : Ending) (w' : World) : Prop := ∃ b : Bool, e = .returned (.bool b) ∧ (b = false ↔ Q) ∧ Below w.heap.size w w'
theorem NotB.of {Q : Prop} {w w' : World} {b : Bool} (hq : b = false ↔ Q) (hb : Below w.heap.size w w') : NotB Q w (.returned (.bool b)) w' := ⟨b, rfl, hq, hb⟩
theorem NotB.hit {Q : Prop} {w w' : World} (hq : ¬ Q) (hb : Below w.heap.size w w') : NotB Q w (.returned (.bool true)) w' := ⟨true, rfl, ⟨fun h => (by cases h), fun h => absurd h hq⟩, hb⟩
theorem NotB.miss {Q : Prop} {w w' : World} (hq : Q) (hb : Below w.heap.size w w') : NotB Q w (.returned (.bool false)) w' := ⟨false, rfl, ⟨fun _ => hq, fun _ => rfl⟩, hb⟩
set_option maxHeartbeats 1000000 in
theorem check1_calls (x : S61) (w : World) : Calls Tryz.prog 107 #[instV x] w (NotB (FitsP x) w) := by
  have B1 := Aside0.mk (below_alloc (Below.refl w.heap.size w) (.cells #[.int .i64 x.f0, .int .i64 x.f1, .int .i64 x.f2, .int .i64 x.f3, .int .i64 x.f4] 61))
  have FC := Aside0.mk (fun w9 => fits_calls x w9)
  unfold instV at *
  go_enter Tryz.func107, Tryz.ntmps107
  go_wp2_with fail
  refine (FC.out _).mono ?_
  rintro e w2 ⟨b, rfl, hq, hb⟩
  have B2 := Aside0.mk (B1.out.trans (hb.mono B1.out.size))
  have HQ := Aside0.mk hq
  clear hb hq FC
  cases b
  · go_wp2
    go_ret
    exact NotB.hit (fun h => by have := HQ.out.2 h; simp at this) B2.out
  · go_wp2
    go_ret
    exact NotB.miss (HQ.out.1 (by simp)) B2.out

theorem mem_rd_T61 {l : List S61} {k : Nat} (h : k < l.length) : rd_T61 l (k : Int) ∈ l := by
  unfold rd_T61; rw [Int.toNat_natCast, List.getD_eq_getElem?_getD, List.getElem?_eq_getElem h]; exact List.getElem_mem h
theorem mem_rd {l : List Int} {k : Nat} (h : k < l.length) : rd l (k : Int) ∈ l := by
  unfold rd; rw [Int.toNat_natCast, List.getD_eq_getElem?_getD, List.getElem?_eq_getElem h]; exact List.getElem_mem h
set_option maxHeartbeats 1000000 in
set_option maxRecDepth 100000 in
theorem index_check {w : World} {A : Option Addr} {c : Nat} {l : List S61} (h : Kd.C k61 w A l.length l) (hm : l.length < 1000000000)
    (hC : ∀ (x : S61) (w1 : World), Below w.heap.size w w1 → Calls Tryz.prog 107 #[instV x] w1 (NotB (FitsP x) w1)) :
    Calls Tryz.prog 154 #[.slice A l.length c, .func (.func 107) #[] #[]] w (IntR (∀ x ∈ l, FitsP x) w) := by
  have H := Aside0.mk h
  have HC := Aside0.mk hC
  obtain ⟨N, hN⟩ : ∃ N, l.length = N := ⟨_, rfl⟩
  rw [hN] at hm ⊢
  have HN := Aside0.mk hN
  clear h hC hN
  go_enter Tryz.func154, Tryz.ntmps154
  go_wp2
  go_loopw [8] (fun i wr => ∃ k : Nat, k ≤ N ∧ i = .int .i64 k ∧ Aside0 (∀ j, j < k → FitsP (rd_T61 l (j : Int))) ∧ Aside0 (Below w.heap.size w wr)) (fun i _ => N - (intOf i).toNat)
  case atStart => exact ⟨0, by omega, rfl, ⟨fun j hj => absurd hj (by omega)⟩, ⟨Below.refl _ _⟩⟩
  case round =>
    obtain ⟨k, hk, rfl, hQ, hB⟩ := hrel
    by_cases hlt : k < N
    · obtain ⟨ad, rfl, e0, e1, e2, e3, e4⟩ := at_T61 (Kd.C_below H.out hB.out) (k : Int) (by omega) (by rw [HN.out]; omega)
      rw [Int.toNat_natCast] at e0 e1 e2 e3 e4
      have CC := Aside0.mk (HC.out (rd_T61 l (k : Int)) wr hB.out)
      have HM := Aside0.mk (mem_rd_T61 (l := l) (k := k) (by rw [HN.out]; exact hlt))
      have HLT := Aside0.mk hlt
      go_wp2_with fail
      refine (CC.out).mono ?_
      rintro e w2 ⟨b, rfl, hb, hb2⟩
      have B2 := Aside0.mk (hB.out.trans (hb2.mono hB.out.size))
      have HQ2 := Aside0.mk hb
      clear hb hb2 CC e0 e1 e2 e3 e4
      cases b
      · go_wp2
        go_roundw
        case rel => exact ⟨k + 1, by have := HLT.out; omega, by go_num, ⟨fun j hj => by
          by_cases e : j = k
          · subst e; exact HQ2.out.1 (by simp)
          · exact hQ.out j (by omega)⟩, ⟨B2.out⟩⟩
        case measure => simp [intOf]; have := HLT.out; omega
      · go_wp2
        go_ret
        exact IntR.hit (by omega) (fun h => by have := HQ2.out.2 (h _ HM.out); simp at this) B2.out
    · obtain rfl : k = N := by omega
      go_wp2
      go_ret
      refine IntR.miss (by omega) (fun x hx => ?_) hB.out
      obtain ⟨j, hj, rfl⟩ := List.getElem_of_mem hx
      have := hQ.out j (by rw [← HN.out]; exact hj)
      unfold rd_T61 at this
      rwa [Int.toNat_natCast, List.getD_eq_getElem?_getD, List.getElem?_eq_getElem hj] at this

theorem cont_check {w : World} {A : Option Addr} {c : Nat} {l : List S61} (h : Kd.C k61 w A l.length l) (hm : l.length < 1000000000)
    (hC : ∀ (x : S61) (w1 : World), Below w.heap.size w w1 → Calls Tryz.prog 107 #[instV x] w1 (NotB (FitsP x) w1)) :
    Calls Tryz.prog 106 #[.slice A l.length c, .func (.func 107) #[] #[]] w (NotB (∀ x ∈ l, FitsP x) w) := by
  have IC := Aside0.mk (index_check (c := c) h hm hC)
  clear h hC
  go_enter Tryz.func106, Tryz.ntmps106
  go_wp2_with fail
  refine IC.out.mono ?_
  rintro e w1 ⟨r, rfl, hr, hb⟩
  have HR := Aside0.mk hr
  have HB := Aside0.mk hb
  clear hr hb IC
  go_wp2
  go_ret
  exact NotB.of ((show _ ↔ _ by simp).trans HR.out) HB.out
end Go.Proofs.YtpfcdhjknmijjaaGreat.Ve
end
section
set_option linter.unusedSimpArgs false
set_option linter.unusedVariables false
namespace Go.Proofs.YtpfcdhjknmijjaaGreat.Ve
open Go.RowKit Go.Proofs.YtpfcdhjknmijjaaGreat.Grow Go.Proofs.YtpfcdhjknmijjaaGreat.PEmitFinds
open Go.Proofs.YtpfcdhjknmijjaaGreatW.PrintWords Go.Proofs.YtpfcdhjknmijjaaGreatW.PrintLast Go.Proofs.YtpfcdhjknmijjaaGreatW.PrintMore

/-! ### Whether a program may be written -/
def CodeR (Q : Prop) (k : Int) (w : World) (e : Ending) (w' : World) : Prop := ∃ c : Int, e = .returned (.int .i64 c) ∧ (Q ∧ c = 0 ∨ ¬ Q ∧ c = k) ∧ Below w.heap.size w w'
theorem CodeR.yes {Q : Prop} {k : Int} {w w' : World} (hq : Q) (hb : Below w.heap.size w w') : CodeR Q k w (.returned (.int .i64 0)) w' := ⟨0, rfl, .inl ⟨hq, rfl⟩, hb⟩
theorem CodeR.no {Q : Prop} {k : Int} {w w' : World} (hq : ¬ Q) (hb : Below w.heap.size w w') : CodeR Q k w (.returned (.int .i64 k)) w' := ⟨k, rfl, .inr ⟨hq, rfl⟩, hb⟩
structure CheckP (l : List S61) (st sl : Int) : Prop where
  n : 1 ≤ l.length ∧ l.length ≤ 4000
  st : 0 ≤ st ∧ st < 4000
  sl : 0 ≤ sl ∧ sl ≤ 64
  fits : ∀ x ∈ l, FitsP x
theorem placeB_of {n : Int} (h : placeB n = true) : 0 ≤ n ∧ n < 4000 := by unfold placeB at h; simpa using h
theorem placeB_no {n : Int} (h : placeB n = false) : ¬ (0 ≤ n ∧ n < 4000) := fun hh => by unfold placeB at h; simp [hh] at h
set_option maxHeartbeats 2000000 in
set_option maxRecDepth 100000 in
theorem check_calls {w : World} {A : Option Addr} {c : Nat} {l : List S61} (st sl : Int) (h : Kd.C k61 w A l.length l) :
    Calls Tryz.prog 59 #[.agg #[.slice A l.length c, .int .i64 st, .int .i64 sl]] w (CodeR (CheckP l st sl) 130 w) := by
  have B1 := Aside0.mk (below_alloc (Below.refl w.heap.size w) (.cells #[.slice A l.length c, .int .i64 st, .int .i64 sl] 24))
  have hbx := heap_alloc_new w (.cells #[.slice A l.length c, .int .i64 st, .int .i64 sl] 24)
  have CC := Aside0.mk (fun (w9 : World) (hb : Below w.heap.size w w9) (hm : l.length < 1000000000) => cont_check (c := c) (Kd.C_below h hb) hm (fun x w1 _ => check1_calls x w1))
  have MK := Aside0.mk (show ∀ (a : 1 ≤ l.length ∧ l.length ≤ 4000) (b : 0 ≤ st ∧ st < 4000) (d : 0 ≤ sl ∧ sl ≤ 64), (∀ x ∈ l, FitsP x) → CheckP l st sl from fun a b d e => ⟨a, b, d, e⟩)
  have NO := Aside0.mk (show CheckP l st sl → (1 ≤ l.length ∧ l.length ≤ 4000) ∧ (0 ≤ st ∧ st < 4000) ∧ (0 ≤ sl ∧ sl ≤ 64) ∧ (∀ x ∈ l, FitsP x) from fun h => ⟨h.n, h.st, h.sl, h.fits⟩)
  obtain ⟨Q, hQ⟩ : ∃ Q, CheckP l st sl = Q := ⟨_, rfl⟩
  rw [hQ] at MK NO ⊢
  obtain ⟨N, hN⟩ : ∃ N, l.length = N := ⟨_, rfl⟩
  rw [hN] at B1 hbx CC MK NO ⊢
  obtain ⟨F, hF⟩ : ∃ F, (∀ x ∈ l, FitsP x) = F := ⟨_, rfl⟩
  rw [hF] at CC MK NO
  clear h hQ hN hF
  go_enter Tryz.func59, Tryz.ntmps59
  by_cases n0 : N = 0
  · subst n0
    clear hbx
    go_wp2
    go_ret
    exact CodeR.no (fun h => absurd (NO.out h).1 (by omega)) B1.out
  have n1 : 1 ≤ (N : Int) := by omega
  clear n0
  by_cases n2 : 4000 < (N : Int)
  · have N2 := Aside0.mk n2
    clear hbx
    go_wp2
    go_ret
    exact CodeR.no (fun h => absurd (NO.out h).1 (by have := N2.out; omega)) B1.out
  have n3 : (N : Int) ≤ 4000 := by omega
  clear n2
  go_wp2_with fail
  refine (place_calls _ _).mono ?_
  rintro e w2 ⟨rfl, hb2⟩
  have h2 := blk_below hbx hb2
  have B2 := Aside0.mk (B1.out.trans (hb2.mono B1.out.size))
  clear hbx hb2
  cases hp : placeB st
  · have HP := Aside0.mk (placeB_no hp)
    clear hp
    go_wp2
    go_ret
    exact CodeR.no (fun h => absurd (NO.out h).2.1 HP.out) B2.out
  have HP := Aside0.mk (placeB_of hp)
  have c0 := blk_cell h2 0
  have c2 := blk_cell h2 2
  have z2 := blk_lt h2
  clear hp h2
  by_cases s0 : sl < 0
  · have S0 := Aside0.mk s0
    go_wp2
    go_ret
    exact CodeR.no (fun h => absurd (NO.out h).2.2.1 (by have := S0.out; omega)) B2.out
  by_cases s1 : 64 < sl
  · have S0 := Aside0.mk s1
    go_wp2
    go_ret
    exact CodeR.no (fun h => absurd (NO.out h).2.2.1 (by have := S0.out; omega)) B2.out
  have S0 := Aside0.mk (show 0 ≤ sl ∧ sl ≤ 64 by omega)
  have NN := Aside0.mk (show 1 ≤ N ∧ N ≤ 4000 by omega)
  have s2 : 0 ≤ sl := by omega
  have s3 : sl ≤ 64 := by omega
  clear s0 s1
  go_wp2_with fail
  refine (CC.out _ B2.out (by have := NN.out; omega)).mono ?_
  rintro e w3 ⟨b, rfl, hq, hb3⟩
  have B3 := Aside0.mk (B2.out.trans (hb3.mono B2.out.size))
  have HQ := Aside0.mk hq
  clear hb3 hq
  cases b
  · go_wp2
    go_ret
    exact CodeR.yes (MK.out NN.out HP.out S0.out (HQ.out.1 (by simp))) B3.out
  · go_wp2
    go_ret
    exact CodeR.no (fun h => by have := HQ.out.2 (NO.out h).2.2.2; simp at this) B3.out
end Go.Proofs.YtpfcdhjknmijjaaGreat.Ve
end
section
set_option linter.unusedSimpArgs false
set_option linter.unusedVariables false
namespace Go.Proofs.YtpfcdhjknmijjaaGreat.Ve
open Go.RowKit Go.Proofs.YtpfcdhjknmijjaaGreat.Grow Go.Proofs.YtpfcdhjknmijjaaGreat.PEmitFinds
open Go.Proofs.YtpfcdhjknmijjaaGreatW.PrintWords Go.Proofs.YtpfcdhjknmijjaaGreatW.PrintLast Go.Proofs.YtpfcdhjknmijjaaGreatW.PrintMore

/-! ### Where instructions lead to -/
def leadsL (x : S61) : List Int := if x.f0 = 2 then [x.f3, x.f4] else if x.f0 = 1 then [x.f3] else if x.f0 = 3 then [x.f3] else if x.f0 = 4 then [x.f3] else []
def byB (x : S61) : Bool := decide (x.f0 = 1)
theorem leadsL_len (x : S61) : (leadsL x).length ≤ 2 := by
  unfold leadsL
  repeat' split
  all_goals simp
theorem leads_calls (x : S61) (w : World) : Calls Tryz.prog 110 #[instV x] w fun e w' => ∃ A c, e = .returned (.tuple #[.slice A (leadsL x).length c, .bool (byB x)]) ∧ (leadsL x).length ≤ c ∧ Kd.C (Kd.int .i64) w' A (leadsL x).length (leadsL x) ∧ Below w.heap.size w w' :=
  (verify_leads.calls x.f0 x.f1 x.f2 x.f3 x.f4 (leadsL x) (byB x) w (by
    unfold verify_leads.f leadsL byB
    by_cases h2 : x.f0 = 2
    · rw [if_pos h2, if_pos h2, decide_eq_false (by omega)]
    · rw [if_neg h2, if_neg h2]
      by_cases h1 : x.f0 = 1
      · rw [if_pos h1, if_pos h1, decide_eq_true h1]
      · rw [if_neg h1, if_neg h1, decide_eq_false h1]
        by_cases h3 : x.f0 = 3
        · rw [if_pos h3, if_pos h3]
        · rw [if_neg h3, if_neg h3]
          by_cases h4 : x.f0 = 4
          · rw [if_pos h4, if_pos h4]
          · rw [if_neg h4, if_neg h4])).mono fun _ _ h => by
    obtain ⟨v, he, hr, hb⟩ := h
    obtain ⟨A, c, rfl, hc, hC⟩ := Kd.R_reads hr
    exact ⟨A, c, he, hc, hC, hb⟩
set_option maxHeartbeats 1000000 in
theorem less1_calls {w : World} {g : Nat} {n : Int} (t : Int) (h : w.heap[g]? = some (.cells #[.int .i64 n] 3 (0, 0))) : Calls Tryz.prog 112 #[.int .i64 t, .pointer (some ⟨g, 0, none⟩)] w (NotB (t < n) w) := by
  have c0 := blk_cell h 0
  have z := blk_lt h
  clear h
  by_cases hlt : t < n
  · have hlt' : ¬ n ≤ t := by omega
    go_enter Tryz.func112, Tryz.ntmps112
    go_wp2
    go_ret
    exact NotB.miss (by trivial) (Below.refl _ _)
  · have hlt' : n ≤ t := by omega
    go_enter Tryz.func112, Tryz.ntmps112
    go_wp2
    go_ret
    exact NotB.hit (by first | exact id | omega) (Below.refl _ _)

set_option maxHeartbeats 1000000 in
set_option maxRecDepth 100000 in
theorem index_lead {w : World} {A : Option Addr} {c : Nat} {l : List Int} {g : Nat} {n : Int} (h : Kd.C (Kd.int .i64) w A l.length l) (hm : l.length < 1000000000)
    (hC : ∀ (x : Int) (w1 : World), Below w.heap.size w w1 → Calls Tryz.prog 112 #[.int .i64 x, .pointer (some ⟨g, 0, none⟩)] w1 (NotB (x < n) w1)) :
    Calls Tryz.prog 158 #[.slice A l.length c, .func (.func 112) #[] #[.pointer (some ⟨g, 0, none⟩)]] w (IntR (∀ x ∈ l, x < n) w) := by
  have H := Aside0.mk h
  have HC := Aside0.mk hC
  obtain ⟨N, hN⟩ : ∃ N, l.length = N := ⟨_, rfl⟩
  rw [hN] at hm ⊢
  have HN := Aside0.mk hN
  clear h hC hN
  go_enter Tryz.func158, Tryz.ntmps158
  go_wp2
  go_loopw [8] (fun i wr => ∃ k : Nat, k ≤ N ∧ i = .int .i64 k ∧ Aside0 (∀ j, j < k → rd l (j : Int) < n) ∧ Aside0 (Below w.heap.size w wr)) (fun i _ => N - (intOf i).toNat)
  case atStart => exact ⟨0, by omega, rfl, ⟨fun j hj => absurd hj (by omega)⟩, ⟨Below.refl _ _⟩⟩
  case round =>
    obtain ⟨k, hk, rfl, hQ, hB⟩ := hrel
    by_cases hlt : k < N
    · obtain ⟨ad, rfl, e0⟩ := Kd.at_int (Kd.C_below H.out hB.out) (k : Int) (by omega) (by rw [HN.out]; omega)
      rw [Int.toNat_natCast] at e0
      have CC := Aside0.mk (HC.out (rd l (k : Int)) wr hB.out)
      have HM := Aside0.mk (mem_rd (l := l) (k := k) (by rw [HN.out]; exact hlt))
      have HLT := Aside0.mk hlt
      go_wp2_with fail
      refine (CC.out).mono ?_
      rintro e w2 ⟨b, rfl, hb, hb2⟩
      have B2 := Aside0.mk (hB.out.trans (hb2.mono hB.out.size))
      have HQ2 := Aside0.mk hb
      clear hb hb2 CC e0
      cases b
      · go_wp2
        go_roundw
        case rel => exact ⟨k + 1, by have := HLT.out; omega, by go_num, ⟨fun j hj => by
          by_cases e : j = k
          · subst e; exact HQ2.out.1 (by simp)
          · exact hQ.out j (by omega)⟩, ⟨B2.out⟩⟩
        case measure => simp [intOf]; have := HLT.out; omega
      · go_wp2
        go_ret
        exact IntR.hit (by omega) (fun h => by have := HQ2.out.2 (h _ HM.out); simp at this) B2.out
    · obtain rfl : k = N := by omega
      go_wp2
      go_ret
      refine IntR.miss (by omega) (fun x hx => ?_) hB.out
      obtain ⟨j, hj, rfl⟩ := List.getElem_of_mem hx
      have := hQ.out j (by rw [← HN.out]; exact hj)
      unfold rd at this
      rwa [Int.toNat_natCast, List.getD_eq_getElem?_getD, List.getElem?_eq_getElem hj] at this

theorem cont_lead {w : World} {A : Option Addr} {c : Nat} {l : List Int} {g : Nat} {n : Int} (h : Kd.C (Kd.int .i64) w A l.length l) (hm : l.length < 1000000000)
    (hC : ∀ (x : Int) (w1 : World), Below w.heap.size w w1 → Calls Tryz.prog 112 #[.int .i64 x, .pointer (some ⟨g, 0, none⟩)] w1 (NotB (x < n) w1)) :
    Calls Tryz.prog 111 #[.slice A l.length c, .func (.func 112) #[] #[.pointer (some ⟨g, 0, none⟩)]] w (NotB (∀ x ∈ l, x < n) w) := by
  have IC := Aside0.mk (index_lead (c := c) h hm hC)
  clear h hC
  go_enter Tryz.func111, Tryz.ntmps111
  go_wp2_with fail
  refine IC.out.mono ?_
  rintro e w1 ⟨r, rfl, hr, hb⟩
  have HR := Aside0.mk hr
  have HB := Aside0.mk hb
  clear hr hb IC
  go_wp2
  go_ret
  exact NotB.of ((show _ ↔ _ by simp).trans HR.out) HB.out
end Go.Proofs.YtpfcdhjknmijjaaGreat.Ve
end
