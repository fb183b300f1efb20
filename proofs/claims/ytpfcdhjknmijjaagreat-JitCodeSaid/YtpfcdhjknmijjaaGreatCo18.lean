import Derived.Test.YtpfcdhjknmijjaaGreatCo4
import Derived.Test.YtpfcdhjknmijjaaGreatCo14
import Derived.Laws.BytesString
section
namespace Go.Proofs.YtpfcdhjknmijjaaGreat.As
open Go.RowKit Go.Maps Go.Proofs.YtpfcdhjknmijjaaGreat.Grow Go.Proofs.YtpfcdhjknmijjaaGreat.Rv
open Go.Proofs.YtpfcdhjknmijjaaGreatW.PrintWords Go.Proofs.YtpfcdhjknmijjaaGreatW.PrintLast Go.Proofs.YtpfcdhjknmijjaaGreatW.PrintMore

structure Good (A : AsmS) : Prop where
  labels : ∀ x ∈ A.ps, I64 x.label
  marks : ∀ k t, A.marks k = some t → 0 ≤ t ∧ t ≤ A.ps.length
  len : A.ps.length < 1000000000
def AsmS.wl (A : AsmS) (f : Nat → Bool) : AsmS := { A with ps := withL A.ps f }
theorem wl_len (A : AsmS) (f : Nat → Bool) : (A.wl f).ps.length = A.ps.length := withL_len _ _
theorem wl_self (A : AsmS) : A.wl (fun i => ((A.ps[i]?).map Pc.long).getD false) = A := by unfold AsmS.wl; rw [withL_self]
/-- What is known of a row's cells, piece by piece. -/
theorem wl_row {w : World} {b p n g cap M : Nat} {A : AsmS} {f : Nat → Bool} (h : AsmIs w b p (A.wl f) (.slice (some ⟨g, 0, none⟩) n cap) M) {k : Nat} (hk : k < A.ps.length) :
    g < w.heap.size ∧ (∀ o, w.frozen? ⟨g, o, none⟩ = false) ∧ (∀ j, j < 8 → w.cell? ⟨g, k * 8 + j, none⟩ = (({ A.ps[k] with long := f k } : Pc).cells)[j]?) := by
  have hl : k < (A.wl f).ps.length := by rw [wl_len]; exact hk
  obtain ⟨g', cap', hv, hg, hc⟩ := row_cell h.row (by omega)
  cases hv
  refine ⟨hg, fun o => ?_, fun j hj => ?_⟩
  · rcases h.row.2 with ⟨h0, _⟩ | ⟨g', cap', cur, hv, _, hh, _⟩
    · cases h0
    · cases hv; exact frozen_of_row w g o _ 141 hh
  · rw [hc k hl j hj]
    have : (A.wl f).ps[k] = { A.ps[k] with long := f k } := withL_get hk
    rw [this]
theorem wl_set {w : World} {b p n g cap M : Nat} {A : AsmS} {f : Nat → Bool} (h : AsmIs w b p (A.wl f) (.slice (some ⟨g, 0, none⟩) n cap) M) {k : Nat} (hk : k < A.ps.length) (v : Bool) :
    AsmIs (w.setCell ⟨g, k * 8 + 7, none⟩ (.bool v)) b p (A.wl (updB f k v)) (.slice (some ⟨g, 0, none⟩) n cap) M ∧ Fr b w (w.setCell ⟨g, k * 8 + 7, none⟩ (.bool v)) := by
  have hl : k < (A.wl f).ps.length := by rw [wl_len]; exact hk
  have e : (A.wl f).ps[k] = { A.ps[k] with long := f k } := withL_get hk
  have := h.setLong hl v
  rw [e] at this
  have e2 : (A.wl f).ps.set k { A.ps[k] with long := v } = withL A.ps (updB f k v) := withL_set v hk
  rw [show ({ (A.wl f) with ps := (A.wl f).ps.set k { ({ A.ps[k] with long := f k } : Pc) with long := v } } : AsmS) = A.wl (updB f k v) by unfold AsmS.wl at e2 ⊢; simp only; rw [← e2]] at this
  exact this
def clr (A : AsmS) (k : Nat) : Nat → Bool := fun i => if i < k then false else ((A.ps[i]?).map Pc.long).getD false
theorem clr_0 (A : AsmS) : A.wl (clr A 0) = A := wl_self A
theorem clr_succ (A : AsmS) (k : Nat) : updB (clr A k) k false = clr A (k + 1) := by
  funext j
  unfold updB clr
  by_cases e : j = k
  · subst e; simp
  · rw [if_neg e]
    by_cases h : j < k
    · rw [if_pos h, if_pos (by omega)]
    · rw [if_neg h, if_neg (by omega)]
theorem clr_end (A : AsmS) : A.wl (clr A A.ps.length) = A.wl (itL A 0) := by
  unfold AsmS.wl
  rw [withL_congr (g := itL A 0) fun i hi => by unfold clr; rw [if_pos hi]; rfl]
/-- How many flags are set, read off the memory. -/
def cntW (pa : Option Addr) (n : Nat) (w : World) : Nat :=
  (List.range n).countP fun i => match pa with
    | none => false
    | some a => match w.cell? ⟨a.block, i * 8 + 7, none⟩ with
      | some (.bool true) => true
      | _ => false
theorem cntW_eq {w : World} {b p pc M : Nat} {pa : Option Addr} {A : AsmS} {f : Nat → Bool} (h : AsmIs w b p (A.wl f) (.slice pa A.ps.length pc) M) : cntW pa A.ps.length w = cntT f A.ps.length := by
  unfold cntW cntT
  refine List.countP_congr fun i hi => ?_
  have hi' := List.mem_range.1 hi
  obtain ⟨g, cap, hg, -, -⟩ := row_cell h.row (by rw [wl_len]; omega)
  obtain rfl : pa = some ⟨g, 0, none⟩ := by injection hg
  obtain ⟨_, _, hc⟩ := wl_row h hi'
  have c7 : w.cell? ⟨g, i * 8 + 7, none⟩ = some (.bool (f i)) := hc 7 (by decide)
  simp only [c7]
  cases f i <;> rfl
/-- What a row of numbers holds. -/
theorem ints_row {w : World} {B n : Nat} {v : Value} {ps : List Pc} (h : w.ownsRow B 3 1 v (n + 1) (posV ps (n + 1))) :
    ∃ q cap, v = .slice (some ⟨q, 0, none⟩) (n + 1) cap ∧ q < w.heap.size ∧ ∀ i, i ≤ n → w.cell? ⟨q, i, none⟩ = some (.int .i64 (posF ps i)) := by
  obtain ⟨_, ⟨_, h0⟩ | ⟨g, cap, cur, hv, _, hh, hc, _, hs, ht⟩⟩ := h
  · omega
  · refine ⟨g, cap, hv, blk_lt hh, fun i hi => ?_⟩
    have e : (posV ps (n + 1))[i]? = some (.int .i64 (posF ps i)) := by
      unfold posV
      rw [List.getElem?_map, List.getElem?_range (by omega)]; rfl
    rw [cell_of_row w g _ cur 3 (0, 0) hh, ← e, ← ht, List.getElem?_take_of_lt (by omega)]
    simp
theorem row_base {w : World} {b c e z n : Nat} {v : Value} {xs : List Value} (h : w.ownsRow b e z v n xs) (hc : c ≤ b) : w.ownsRow c e z v n xs := by
  refine ⟨h.1, ?_⟩
  rcases h.2 with h2 | ⟨g, cap, cur, hv, hg, r⟩
  · exact .inl h2
  · exact .inr ⟨g, cap, cur, hv, by omega, r⟩
theorem row3_fr {w w' : World} {B n b : Nat} {v : Value} {xs : List Value} (h : w.ownsRow B 3 1 v n xs) (hF : Fr b w w') : w'.ownsRow B 3 1 v n xs := by
  refine row_kept h fun k hk => hF.block k (row_lt h k hk) (.inr ?_)
  rcases h.2 with ⟨rfl, _⟩ | ⟨g, cap, cur, rfl, _, hh, _⟩
  · cases hk
  · cases hk
    rintro ⟨c, f, e | e | ⟨es, t, e⟩⟩ <;> rw [hh] at e <;> cases e
/-- The flags in the midst of a round. -/
def mixL (A : AsmS) (f : Nat → Bool) (k : Nat) : Nat → Bool := fun i => if i < k then stepL A f i else f i
def anyN (A : AsmS) (f : Nat → Bool) (k : Nat) : Bool := (List.range k).any fun i => needs A f i
theorem mixL_0 (A : AsmS) (f : Nat → Bool) : mixL A f 0 = f := by funext i; unfold mixL; rw [if_neg (by omega)]
theorem mixL_k (A : AsmS) (f : Nat → Bool) (k : Nat) : mixL A f k k = f k := if_neg (by omega)
theorem mixL_no {A : AsmS} {f : Nat → Bool} {k : Nat} (h : needs A f k = false) : mixL A f (k + 1) = mixL A f k := by
  funext i
  unfold mixL
  by_cases e : i = k
  · subst e; simp [stepL, h]
  · by_cases h1 : i < k
    · simp [h1, show i < k + 1 by omega]
    · simp [h1, show ¬ i < k + 1 by omega]
theorem mixL_yes {A : AsmS} {f : Nat → Bool} {k : Nat} (h : needs A f k = true) : mixL A f (k + 1) = updB (mixL A f k) k true := by
  funext i
  unfold mixL updB
  by_cases e : i = k
  · subst e; simp [stepL, h]
  · by_cases h1 : i < k
    · simp [h1, e, show i < k + 1 by omega]
    · simp [h1, e, show ¬ i < k + 1 by omega]
theorem anyN_succ (A : AsmS) (f : Nat → Bool) (k : Nat) : anyN A f (k + 1) = (anyN A f k || needs A f k) := by unfold anyN; rw [List.range_succ, List.any_append]; simp
theorem mixL_end (A : AsmS) (f : Nat → Bool) : A.wl (mixL A f A.ps.length) = A.wl (stepL A f) := by
  unfold AsmS.wl
  rw [withL_congr (g := stepL A f) fun i hi => by unfold mixL; rw [if_pos hi]]
theorem anyN_false {A : AsmS} {f : Nat → Bool} (h : anyN A f A.ps.length = false) : stepL A f = f := by
  funext i
  unfold stepL
  cases hn : needs A f i
  · simp
  · exfalso
    obtain ⟨h1, _⟩ := needs_lt hn
    have : anyN A f A.ps.length = true := List.any_eq_true.2 ⟨i, List.mem_range.2 h1, hn⟩
    rw [h] at this; cases this
theorem anyN_true {A : AsmS} {f : Nat → Bool} {n : Nat} (h : anyN A f n = true) : ∃ i, needs A f i = true := by
  obtain ⟨i, _, h⟩ := List.any_eq_true.1 h
  exact ⟨i, h⟩
theorem needs_sort {A : AsmS} {f : Nat → Bool} {k : Nat} {x : Pc} {hlt : k < A.ps.length} (hx : A.ps[k] = x) (_ : k < A.ps.length) (h : ¬ x.sort = 1) : needs A f k = false := by
  unfold needs
  rw [List.getElem?_eq_getElem hlt, hx]
  simp [h]
theorem needs_f {A : AsmS} {f : Nat → Bool} {k : Nat} (h : f k = true) : needs A f k = false := by
  unfold needs
  split
  · rfl
  · simp [h]
theorem needs_none {A : AsmS} {f : Nat → Bool} {k : Nat} {x : Pc} {hlt : k < A.ps.length} (hx : A.ps[k] = x) (_ : k < A.ps.length) (h : A.marks x.label = none) : needs A f k = false := by
  unfold needs
  rw [List.getElem?_eq_getElem hlt, hx]
  simp [h]
theorem needs_some {A : AsmS} {f : Nat → Bool} {k : Nat} {x : Pc} {t : Int} {hlt : k < A.ps.length} (hx : A.ps[k] = x) (_ : k < A.ps.length) (h1 : x.sort = 1) (h2 : f k = false) (h : A.marks x.label = some t) :
    needs A f k = !reachF (wrap64 (posL A f t.toNat - posL A f k)) 4096 := by
  unfold needs
  rw [List.getElem?_eq_getElem hlt, hx]
  simp [h, h1, h2]
set_option maxHeartbeats 2000000 in
set_option maxRecDepth 100000 in
theorem settle_calls {w : World} {b p : Nat} {A : AsmS} (h : AsmAt w b p A) (hG : Good A) :
    Calls Tryz.prog 82 #[.pointer (some ⟨p, 0, none⟩)] w fun e w' => ∃ v, e = .returned v ∧ w'.ownsRow w.heap.size 3 1 v (A.ps.length + 1) (posV (settleF A).ps (A.ps.length + 1)) ∧ AsmAt w' b p (settleF A) ∧ Fr b w w' := by
  obtain ⟨pv, M, h⟩ := h
  have hbz := h.size
  have hn := hG.len
  obtain ⟨pa, pc, rfl⟩ := row_form h.row
  have hc := blk_cell h.cells
  have hz := blk_lt h.cells
  have HI := Aside0.mk (show AsmIs w b p (A.wl (clr A 0)) (.slice pa A.ps.length pc) M by rw [clr_0]; exact h)
  clear h
  go_enter Tryz.func82, Tryz.ntmps82
  go_wp2
  go_loopw [15] (fun v15 wr => ∃ k : Nat, k ≤ A.ps.length ∧ v15 = .int .i64 k ∧ AsmIs wr b p (A.wl (clr A k)) (.slice pa A.ps.length pc) M ∧ Fr b w wr) (fun v15 _ => A.ps.length - (intOf v15).toNat)
  case atStart => exact ⟨0, by omega, rfl, HI.out, Fr.refl _ _⟩
  case round =>
    obtain ⟨k, hk, rfl, h, hF⟩ := hrel
    clear hc hz
    by_cases hlt : k < A.ps.length
    · have hc := blk_cell h.cells
      have hz := blk_lt h.cells
      obtain ⟨g, cap, hg, -, -⟩ := row_cell h.row (by rw [wl_len]; omega)
      obtain rfl : pa = some ⟨g, 0, none⟩ := by injection hg
      clear hg
      obtain ⟨hgl, hfz, hcell⟩ := wl_row h hlt
      have c7 : wr.cell? ⟨g, k * 8 + 7, none⟩ = some (.bool (clr A k k)) := hcell 7 (by decide)
      have hk0 : (0 : Int) ≤ (k : Int) := by omega
      have hk1 : (k : Int) < (A.ps.length : Int) := by omega
      have S := Aside0.mk (wl_set h hlt false)
      have F := Aside0.mk hF
      clear hcell h hF
      go_wp2
      go_roundw
      case rel => exact ⟨k + 1, by omega, by go_num, by rw [← clr_succ]; exact S.out.1, F.out.trans S.out.2⟩
      case measure => simp [intOf]; omega
    · obtain rfl : k = A.ps.length := by omega
      rw [clr_end] at h
      have HI := Aside0.mk h
      have F := Aside0.mk hF
      have hsz := hF.size
      clear h hF
      go_wp2
      go_loopw [5] (fun _ wr2 => ∃ j : Nat, j ≤ cntT (itL A j) A.ps.length ∧ AsmIs wr2 b p (A.wl (itL A j)) (.slice pa A.ps.length pc) M ∧ Fr b w wr2) (fun _ wr2 => A.ps.length - cntW pa A.ps.length wr2)
      case atStart => exact ⟨0, by omega, HI.out, F.out⟩
      case round =>
        obtain ⟨j, hj, h, hF⟩ := hrel
        have hcnt := cntW_eq h
        have hle := cntT_le (itL A j) A.ps.length
        obtain ⟨f, hf⟩ : ∃ f, itL A j = f := ⟨_, rfl⟩
        have hC := Aside0.mk hcnt
        have HJ := Aside0.mk hj
        have HF := Aside0.mk hf
        clear HI F hsz
        rw [hf] at h
        have HI := Aside0.mk h
        have F := Aside0.mk hF
        clear hj hcnt hle hf hF
        go_wp2_with fail
        refine (places_calls ⟨_, _, HI.out⟩ (by rw [wl_len]; exact hn)).mono ?_
        rintro e w1 ⟨v4, rfl, hrow, hb1⟩
        rw [wl_len] at hrow
        obtain ⟨q, qc, rfl, hq, hqc⟩ := ints_row hrow
        have h1 := h.below hb1
        have ROW := Aside0.mk hrow
        have F1 := Aside0.mk (F.out.trans (Fr.of_below hb1))
        have hc := blk_cell h1.cells
        have hz := blk_lt h1.cells
        have QC := Aside0.mk hqc
        clear hrow hqc h
        go_wp2_with fail
        go_loopw [5, 33] (fun v5 v33 wr3 => ∃ k : Nat, k ≤ A.ps.length ∧ v33 = .int .i64 k ∧ v5 = .bool (anyN A f k) ∧ AsmIs wr3 b p (A.wl (mixL A f k)) (.slice pa A.ps.length pc) M ∧ Fr b w1 wr3) (fun _ v33 _ => A.ps.length - (intOf v33).toNat)
        case atStart => exact ⟨0, by omega, rfl, rfl, by rw [mixL_0]; exact h1, Fr.refl _ _⟩
        case round =>
          obtain ⟨k, hk, rfl, rfl, h3, hF3⟩ := hrel
          have F3 := Aside0.mk hF3
          clear hF3 h1 hc hz
          by_cases hlt : k < A.ps.length
          · have hc := blk_cell h3.cells
            have hz := blk_lt h3.cells
            obtain ⟨g, cap, hg, -, -⟩ := row_cell h3.row (by rw [wl_len]; omega)
            obtain rfl : pa = some ⟨g, 0, none⟩ := by injection hg
            clear hg
            obtain ⟨hgl, hfz, hcell⟩ := wl_row h3 hlt
            obtain ⟨c0, c1, c2, c3, c4, c5, c6, c7⟩ := piece_cells hcell
            rw [mixL_k] at c7
            have hk0 : (0 : Int) ≤ (k : Int) := by omega
            have hk1 : (k : Int) < (A.ps.length : Int) := by omega
            have H3 := Aside0.mk h3
            obtain ⟨x, hx⟩ : ∃ x, A.ps[k] = x := ⟨_, rfl⟩
            have hxl := hG.labels _ (List.getElem_mem hlt)
            rw [hx] at c0 c1 c2 c3 c4 c5 c6 hxl
            have HX := Aside0.mk hx
            clear hcell h3 hx
            go_wp2_with fail
            have hL := heap_alloc_last wr (.cells #[.int .i64 x.sort, .string x.op.name, .int .i64 x.op.rd, .int .i64 x.op.ra, .int .i64 x.op.rb, .int .i64 x.op.imm, .int .i64 x.label, .bool (f k)] 141)
            have B4 := below_alloc (Below.refl wr.heap.size wr) (.cells #[.int .i64 x.sort, .string x.op.name, .int .i64 x.op.rd, .int .i64 x.op.ra, .int .i64 x.op.rb, .int .i64 x.op.imm, .int .i64 x.label, .bool (f k)] 141)
            have h4 := H3.out.below B4
            have R4 := Aside0.mk ((row3_fr ROW.out F3.out).below B4)
            have F4 := Aside0.mk (F3.out.trans (Fr.of_below B4))
            obtain ⟨L, hLe⟩ : ∃ L, wr.heap.size = L := ⟨_, rfl⟩
            rw [hLe] at hL hgl
            simp only [hLe]
            generalize wr.alloc (.cells #[.int .i64 x.sort, .string x.op.name, .int .i64 x.op.rd, .int .i64 x.op.ra, .int .i64 x.op.rb, .int .i64 x.op.imm, .int .i64 x.label, .bool (f k)] 141) = w4 at *
            have pL := blk_cell hL
            have zL := blk_lt hL
            have hc := blk_cell h4.cells
            have hz := blk_lt h4.cells
            have H4 := Aside0.mk h4
            obtain ⟨t, ht⟩ : ∃ t, (A.marks x.label).getD 0 = t := ⟨_, rfl⟩
            obtain ⟨m, hm⟩ : ∃ m, (A.marks x.label).isSome = m := ⟨_, rfl⟩
            have hlook : (Instr.lookup 124 (.map (some M)) (.int .i64 x.label) true).run Tryz.prog w4.drew = .ok (.tuple #[.int .i64 t, .bool m]) w4.drew := by
              rw [← ht, ← hm]
              exact (show MapAt w4.drew M A.nm A.marks from (H4.out).map.kept rfl).lookup hxl
            have HL := Aside0.mk hL
            clear c0 c1 c2 c3 c4 c5 c6 c7 h4 hL hLe B4 hgl hfz
            go_region_law (fail)
            all_goals
              have h4 := H4.out
              have hL4 := HL.out
              obtain ⟨w5, hw5⟩ : ∃ w5, w4.drew = w5 := ⟨_, rfl⟩
              have h5 : AsmIs w5 b p (A.wl (mixL A f k)) (.slice (some ⟨g, 0, none⟩) A.ps.length pc) M := by rw [← hw5]; exact h4.below (Below.refl _ _).drew
              have hL5 : w5.heap[L]? = some (.cells #[.int .i64 x.sort, .string x.op.name, .int .i64 x.op.rd, .int .i64 x.op.ra, .int .i64 x.op.rb, .int .i64 x.op.imm, .int .i64 x.label, .bool (f k)] 141 (0, 0)) := by rw [← hw5]; exact hL4
              have B5 : Below w4.heap.size w4 w5 := by rw [← hw5]; exact (Below.refl _ _).drew
              simp only [hw5]
              clear hw5 h4 hL4 hlook hc hz pL zL
              go_wp2_with fail
              simp only [List.getElem_toArray, List.getElem_cons_succ, List.getElem_cons_zero, Act.put, List.setIfInBounds_toArray, List.set_cons_zero, List.set_cons_succ]
              have pL := blk_cell hL5
              have zL := blk_lt hL5
              obtain ⟨q', cap', he, hq', hqc'⟩ := ints_row (R4.out.below B5)
              obtain rfl : q = q' := by injection he with e; injection e with e; injection e
              clear he
              have ck := hqc' k hk
              have H5 := Aside0.mk h5
              have F5 := Aside0.mk (F4.out.trans (Fr.of_below B5))
              clear h5 hL5 B5
              by_cases hs : x.sort = 1
              · cases hfk : f k
                · cases hmk : A.marks x.label with
                  | none =>
                    have hm' : m = false := by rw [← hm, hmk]; rfl
                    subst hm'
                    have NO := Aside0.mk (needs_none (f := f) HX.out hlt hmk)
                    try rw [hfk] at pL
                    clear hqc' hm ht hmk
                    go_quiet (fail)
                    go_wp2
                    go_roundw
                    case rel => exact ⟨k + 1, by omega, by go_num, by rw [anyN_succ, NO.out, Bool.or_false], by rw [mixL_no NO.out]; exact H5.out.below (pw_below_drewN (Below.refl _ _) _), F5.out.trans (Fr.of_below (pw_below_drewN (Below.refl _ _) _))⟩
                    case measure => simp [intOf]; omega
                  | some t' =>
                    have hm' : m = true := by rw [← hm, hmk]; rfl
                    subst hm'
                    obtain rfl : t' = t := by rw [← ht, hmk]; rfl
                    obtain ⟨t0, t1⟩ := hG.marks _ _ hmk
                    have ct := hqc' t'.toNat (by omega)
                    have NE := Aside0.mk (needs_some (f := f) HX.out hlt hs hfk hmk)
                    try rw [hfk] at pL
                    clear hqc' hm ht hmk
                    have t2 : t' < (A.ps.length : Int) + 1 := by omega
                    have k2 : (k : Int) < (A.ps.length : Int) + 1 := by omega
                    have h5 := H5.out
                    have S := Aside0.mk fun nq => wl_set (w := w5.drewN nq) (h5.below (pw_below_drewN (Below.refl _ _) _)) hlt true
                    obtain ⟨hgl, hfz, hcell⟩ := wl_row h5 hlt
                    have c7 : w5.cell? ⟨g, k * 8 + 7, none⟩ = some (.bool (mixL A f k k)) := hcell 7 (by decide)
                    have hc := blk_cell h5.cells
                    have hz := blk_lt h5.cells
                    obtain ⟨rb, hrb⟩ : ∃ rb, reachF (wrap64 (posF (A.wl f).ps t'.toNat - posF (A.wl f).ps k)) 4096 = rb := ⟨_, rfl⟩
                    have NE2 := Aside0.mk (show needs A f k = !rb from NE.out.trans (congrArg not hrb))
                    clear h5 hcell
                    go_quiet ((go_at_call 125; exact Calls.quiet_of_same (reaches_calls _ _ _)))
                    cases rb
                    · have YES := Aside0.mk (show needs A f k = true from NE2.out)
                      go_wp2
                      go_roundw
                      case rel => exact ⟨k + 1, by omega, by go_num, by rw [anyN_succ, YES.out, Bool.or_true], by rw [mixL_yes YES.out]; exact (S.out _).1, F5.out.trans ((Fr.of_below (pw_below_drewN (Below.refl _ _) _)).trans (S.out _).2)⟩
                      case measure => simp [intOf]; omega
                    · have NO := Aside0.mk (show needs A f k = false from NE2.out)
                      go_wp2
                      go_roundw
                      case rel => exact ⟨k + 1, by omega, by go_num, by rw [anyN_succ, NO.out, Bool.or_false], by rw [mixL_no NO.out]; exact H5.out.below (pw_below_drewN (Below.refl _ _) _), F5.out.trans (Fr.of_below (pw_below_drewN (Below.refl _ _) _))⟩
                      case measure => simp [intOf]; omega
                · have NO := Aside0.mk (needs_f (A := A) hfk)
                  try rw [hfk] at pL
                  clear hqc'
                  go_quiet (fail)
                  go_wp2
                  go_roundw
                  case rel => exact ⟨k + 1, by omega, by go_num, by rw [anyN_succ, NO.out, Bool.or_false], by rw [mixL_no NO.out]; exact H5.out.below (pw_below_drewN (Below.refl _ _) _), F5.out.trans (Fr.of_below (pw_below_drewN (Below.refl _ _) _))⟩
                  case measure => simp [intOf]; omega
              · have NO := Aside0.mk (needs_sort (f := f) HX.out hlt hs)
                have hs' : (x.sort == 1) = false := beq_eq_false_iff_ne.2 hs
                clear hqc' hs
                go_quiet (fail)
                go_wp2
                go_roundw
                case rel => exact ⟨k + 1, by omega, by go_num, by rw [anyN_succ, NO.out, Bool.or_false], by rw [mixL_no NO.out]; exact H5.out.below (pw_below_drewN (Below.refl _ _) _), F5.out.trans (Fr.of_below (pw_below_drewN (Below.refl _ _) _))⟩
                case measure => simp [intOf]; omega
          · obtain rfl : k = A.ps.length := by omega
            rw [mixL_end] at h3
            have H3 := Aside0.mk h3
            have R3 := Aside0.mk (row3_fr ROW.out F3.out)
            have F6 := Aside0.mk (F1.out.trans F3.out)
            clear h3
            cases ha : anyN A f A.ps.length
            · have hfix := anyN_false ha
              rw [hfix] at H3
              have hf := HF.out
              have hL : f = longF A := by
                have := longF_of (A := A) (j := j) (by rw [hf]; exact hfix) HJ.out
                rw [hf] at this
                exact this
              subst hL
              clear hfix hf ha
              go_wp2
              go_ret
              exact ⟨_, rfl, row_base R3.out F.out.size, ⟨_, M, H3.out⟩, F6.out⟩
            · have hmore : j + 1 ≤ cntT (itL A (j + 1)) A.ps.length ∧ cntT f A.ps.length < cntT (stepL A f) A.ps.length := by
                obtain ⟨i, hi⟩ := anyN_true ha
                obtain ⟨i1, i2⟩ := needs_lt hi
                exact ⟨itL_more HJ.out (by rw [HF.out]; exact hi), cntT_lt (fun q hq => stepL_le q hq) i1 i2 (by unfold stepL; rw [hi, Bool.or_true])⟩
              have hstep : itL A (j + 1) = stepL A f := by show stepL A (itL A j) = _; rw [HF.out]
              have MO := Aside0.mk hmore
              have ST := Aside0.mk hstep
              clear hmore hstep ha
              go_wp2
              go_roundw
              case rel => exact ⟨j + 1, MO.out.1, by rw [ST.out]; exact H3.out, F6.out⟩
              case measure =>
                have e1 := cntW_eq H3.out
                have e2 := hC.out
                rw [HF.out] at e2
                have e3 := cntT_le (stepL A f) A.ps.length
                have e4 := MO.out.2
                rw [e1]
                omega
end Go.Proofs.YtpfcdhjknmijjaaGreat.As

namespace Go.Proofs.YtpfcdhjknmijjaaGreat.As
open Go.RowKit Go.Maps Go.Proofs.YtpfcdhjknmijjaaGreat.Grow Go.Proofs.YtpfcdhjknmijjaaGreat.Rv
open Go.Proofs.YtpfcdhjknmijjaaGreatW.PrintWords Go.Proofs.YtpfcdhjknmijjaaGreatW.PrintLast Go.Proofs.YtpfcdhjknmijjaaGreatW.PrintMore

def placeF (A : AsmS) (label : Int) : Int := match A.marks label with
  | none => -1
  | some t => posF (settleF A).ps t.toNat
/-- A piece's instructions, of a label that is so far away. -/
def opsF (x : Pc) (far : Int) : List OpI × Bool :=
  if x.sort = 2 then ([{ x.op with imm := far }], reachF far 1048576)
  else if x.sort = 3 then ([{ x.op with imm := wrap64 (far + 2048) / 4096 }, ⟨⟨#[97, 100, 100, 105]⟩, x.op.rd, x.op.rd, 0, wrap64 (far - wrap64 (wrap64 (far + 2048) / 4096 * 4096))⟩], reachF far 2147481600)
  else if x.long = false then ([{ x.op with imm := far }], true)
  else ([{ x.op with name := turnF x.op.name, imm := 8 }, ⟨⟨#[106, 97, 108]⟩, 0, 0, 0, wrap64 (far - 4)⟩], reachF (wrap64 (far - 4)) 1048576)
theorem bd1 (k : Nat) : Region.binds .any ⟨k, .data⟩ = true := rfl
theorem bd2 (k : Nat) : Region.binds .any ⟨k, .chain⟩ = true := rfl
theorem bd3 (k : Nat) : Region.binds .any ⟨k, .phase⟩ = true := rfl
theorem bd5 (k : Nat) (d : Departure) : Region.binds .any ⟨k, .textOnly d⟩ = false := rfl
theorem bd6 (k : Nat) (d : Departure) : Region.binds .any ⟨k, .gcOnly d⟩ = false := rfl
theorem wrap_eq (a : Int) : IntKind.i64.wrap a = wrap64 a := by rw [IntKind.wrap_i64]; unfold wrap64; omega
def OpI.cells (x : OpI) : List Value := [.string x.name, .int .i64 x.rd, .int .i64 x.ra, .int .i64 x.rb, .int .i64 x.imm]
set_option maxHeartbeats 2000000 in
set_option maxRecDepth 100000 in
theorem ops_calls (x : Pc) (far : Int) (w : World) :
    Calls Tryz.prog 83 #[Pc.val x, .int .i64 far] w fun e w' => ∃ g, e = .returned (.tuple #[.slice (some ⟨g, 0, none⟩) (opsF x far).1.length (opsF x far).1.length, .bool (opsF x far).2]) ∧
      w'.heap[g]? = some (.cells ((opsF x far).1.flatMap OpI.cells).toArray 130 (0, 0)) ∧ Below w.heap.size w w' := by
  unfold Pc.val
  go_enter Tryz.func83, Tryz.ntmps83
  by_cases h2 : x.sort = 2
  · have h2' : (x.sort == 2) = true := beq_iff_eq.2 h2
    have hO : opsF x far = ([{ x.op with imm := far }], reachF far 1048576) := by unfold opsF; rw [if_pos h2]
    rw [hO]
    clear h2 hO
    go_wp2_with fail
    have hL := heap_alloc_at (w.alloc (.cells #[.int .i64 x.sort, .string x.op.name, .int .i64 x.op.rd, .int .i64 x.op.ra, .int .i64 x.op.rb, .int .i64 x.op.imm, .int .i64 x.label, .bool x.long] 141)) (.cells #[.string x.op.name, .int .i64 x.op.rd, .int .i64 x.op.ra, .int .i64 x.op.rb, .int .i64 far] 130) (n := w.heap.size + 1) (by simp)
    have B2 := below_alloc (below_alloc (Below.refl w.heap.size w) (.cells #[.int .i64 x.sort, .string x.op.name, .int .i64 x.op.rd, .int .i64 x.op.ra, .int .i64 x.op.rb, .int .i64 x.op.imm, .int .i64 x.label, .bool x.long] 141)) (.cells #[.string x.op.name, .int .i64 x.op.rd, .int .i64 x.op.ra, .int .i64 x.op.rb, .int .i64 far] 130)
    generalize (w.alloc (.cells #[.int .i64 x.sort, .string x.op.name, .int .i64 x.op.rd, .int .i64 x.op.ra, .int .i64 x.op.rb, .int .i64 x.op.imm, .int .i64 x.label, .bool x.long] 141)).alloc (.cells #[.string x.op.name, .int .i64 x.op.rd, .int .i64 x.op.ra, .int .i64 x.op.rb, .int .i64 far] 130) = w2 at *
    refine wp_region_grow2 [16, 17, 18, 19, 4, 5] (fun j v w1 => match j with
      | 0 => v = .agg #[.string x.op.name, .int .i64 x.op.rd, .int .i64 x.op.ra, .int .i64 x.op.rb, .int .i64 far]
      | 1 => ∃ g, v = .slice (some ⟨g, 0, none⟩) 1 1 ∧ w1.heap[g]? = some (.cells #[.string x.op.name, .int .i64 x.op.rd, .int .i64 x.op.ra, .int .i64 x.op.rb, .int .i64 far] 130 (0, 0))
      | 2 => v = .int .i64 far
      | 3 => v = .bool (reachF far 1048576)
      | 4 => ∃ g, v = .slice (some ⟨g, 0, none⟩) 1 1 ∧ w1.heap[g]? = some (.cells #[.string x.op.name, .int .i64 x.op.rd, .int .i64 x.op.ra, .int .i64 x.op.rb, .int .i64 far] 130 (0, 0))
      | 5 => v = .bool (reachF far 1048576)
      | _ => True) (by kernel_rfl) (by kernel_rfl) ?_ ?_ ?_
    · intro j v w1 w2 hv hb
      rcases j with _ | _ | _ | _ | _ | _ | j <;> first | exact hv | trivial | (obtain ⟨g, rfl, hg⟩ := hv; exact ⟨g, rfl, blk_below hg hb⟩)
    · refine ⟨?_, ?_, ?_, ?_, ?_, ?_, trivial⟩
      all_goals
        intro a w5 hB hoth hdep
        have p0 := blk_cell (blk_below hL hB)
        have z0 := blk_lt (blk_below hL hB)
        have h1 := hoth 1 (by decide)
        have h6 := hoth 6 (by decide)
        clear hoth hB hL B2
        simp [bd1, bd2, bd3, bd5] at hdep h1 h6
        simp only [StepTo, Oper.grows]
        go_simp
        all_goals first
          | exact Below.refl _ _
          | (refine ⟨Below.refl _ _, (reaches_calls _ _ _).mono ?_⟩; rintro e w' ⟨rfl, rfl⟩; exact ⟨rfl, Below.refl _ _⟩)
          | exact ⟨Below.refl _ _, hdep.1⟩
          | exact ⟨Below.refl _ _, wrap_eq _⟩
          | exact ⟨below_alloc (Below.refl _ _) _, (Array.getElem?_eq_some_iff.1 (heap_alloc_last _ _)).2⟩
          | exact ⟨below_alloc (Below.refl _ _) _, heap_alloc_last _ _⟩
    · intro v w5 hB hv
      obtain ⟨g, q4, hg⟩ := hv 4 (by decide)
      have q5 : v 5 = _ := hv 5 (by decide)
      simp only [fillF, q4, q5, Act.put, List.setIfInBounds_toArray, List.set_cons_zero, List.set_cons_succ, List.length_cons, List.length_nil, Nat.reduceAdd, List.drop_succ_cons, List.drop_zero]
      have B5 := B2.trans (hB.mono B2.size)
      clear hv hB B2 hL
      go_wp2
      exact bodyPost_ret (v := .tuple #[.slice (some ⟨g, 0, none⟩) 1 1, .bool (reachF far 1048576)]) (by simp [results, Tryz.results83, go_sem]) rfl ⟨g, rfl, hg, B5⟩
  have h2' : (x.sort == 2) = false := beq_eq_false_iff_ne.2 h2
  by_cases h3 : x.sort = 3
  · have h3' : (x.sort == 3) = true := beq_iff_eq.2 h3
    obtain ⟨H, hH⟩ : ∃ H, wrap64 (far + 2048) / 4096 = H := ⟨_, rfl⟩
    have hO : opsF x far = ([{ x.op with imm := H }, ⟨⟨#[97, 100, 100, 105]⟩, x.op.rd, x.op.rd, 0, wrap64 (far - wrap64 (H * 4096))⟩], reachF far 2147481600) := by unfold opsF; rw [if_neg h2, if_pos h3, hH]
    rw [hO]
    clear h2 h3 hO
    go_wp2_with fail
    clear hH
    have hL := heap_alloc_at (w.alloc (.cells #[.int .i64 x.sort, .string x.op.name, .int .i64 x.op.rd, .int .i64 x.op.ra, .int .i64 x.op.rb, .int .i64 x.op.imm, .int .i64 x.label, .bool x.long] 141)) (.cells #[.string x.op.name, .int .i64 x.op.rd, .int .i64 x.op.ra, .int .i64 x.op.rb, .int .i64 (H)] 130) (n := w.heap.size + 1) (by simp)
    have B2 := below_alloc (below_alloc (Below.refl w.heap.size w) (.cells #[.int .i64 x.sort, .string x.op.name, .int .i64 x.op.rd, .int .i64 x.op.ra, .int .i64 x.op.rb, .int .i64 x.op.imm, .int .i64 x.label, .bool x.long] 141)) (.cells #[.string x.op.name, .int .i64 x.op.rd, .int .i64 x.op.ra, .int .i64 x.op.rb, .int .i64 (H)] 130)
    generalize (w.alloc (.cells #[.int .i64 x.sort, .string x.op.name, .int .i64 x.op.rd, .int .i64 x.op.ra, .int .i64 x.op.rb, .int .i64 x.op.imm, .int .i64 x.label, .bool x.long] 141)).alloc (.cells #[.string x.op.name, .int .i64 x.op.rd, .int .i64 x.op.ra, .int .i64 x.op.rb, .int .i64 (H)] 130) = w2 at *
    refine wp_region_grow2 [27, 28, 29, 30, 31, 32, 33, 34, 35, 36, 37, 38, 39, 4, 5] (fun j v w1 => match j with
      | 0 => v = .agg #[.string x.op.name, .int .i64 x.op.rd, .int .i64 x.op.ra, .int .i64 x.op.rb, .int .i64 (H)]
      | 1 => v = .pointer (some ⟨w.heap.size + 1, 1, none⟩)
      | 2 => v = .int .i64 x.op.rd
      | 3 => v = .pointer (some ⟨w.heap.size + 1, 1, none⟩)
      | 4 => v = .int .i64 x.op.rd
      | 5 => v = .int .i64 far
      | 6 => v = .int .i64 H
      | 7 => v = .int .i64 (wrap64 (H * 4096))
      | 8 => v = .int .i64 (wrap64 (far - wrap64 (H * 4096)))
      | 9 => v = .agg #[.string ⟨#[97, 100, 100, 105]⟩, .int .i64 x.op.rd, .int .i64 x.op.rd, .int .i64 0, .int .i64 (wrap64 (far - wrap64 (H * 4096)))]
      | 10 => ∃ g, v = .slice (some ⟨g, 0, none⟩) 2 2 ∧ w1.heap[g]? = some (.cells #[.string x.op.name, .int .i64 x.op.rd, .int .i64 x.op.ra, .int .i64 x.op.rb, .int .i64 (H), .string ⟨#[97, 100, 100, 105]⟩, .int .i64 x.op.rd, .int .i64 x.op.rd, .int .i64 0, .int .i64 (wrap64 (far - wrap64 (H * 4096)))] 130 (0, 0))
      | 11 => v = .int .i64 far
      | 12 => v = .bool (reachF far 2147481600)
      | 13 => ∃ g, v = .slice (some ⟨g, 0, none⟩) 2 2 ∧ w1.heap[g]? = some (.cells #[.string x.op.name, .int .i64 x.op.rd, .int .i64 x.op.ra, .int .i64 x.op.rb, .int .i64 (H), .string ⟨#[97, 100, 100, 105]⟩, .int .i64 x.op.rd, .int .i64 x.op.rd, .int .i64 0, .int .i64 (wrap64 (far - wrap64 (H * 4096)))] 130 (0, 0))
      | 14 => v = .bool (reachF far 2147481600)
      | _ => True) (by kernel_rfl) (by kernel_rfl) ?_ ?_ ?_
    · intro j v w1 w2 hv hb
      rcases j with _ | _ | _ | _ | _ | _ | _ | _ | _ | _ | _ | _ | _ | _ | _ | j <;> first | exact hv | trivial | (obtain ⟨g, rfl, hg⟩ := hv; exact ⟨g, rfl, blk_below hg hb⟩)
    · refine ⟨?_, ?_, ?_, ?_, ?_, ?_, ?_, ?_, ?_, ?_, ?_, ?_, ?_, ?_, ?_, trivial⟩
      all_goals
        intro a w5 hB hoth hdep
        have p0 := blk_cell (blk_below hL hB)
        have z0 := blk_lt (blk_below hL hB)
        have h1 := hoth 1 (by decide)
        have h6 := hoth 6 (by decide)
        have h7 := hoth 7 (by decide)
        clear hoth hB hL B2
        simp [bd1, bd2, bd3, bd5] at hdep h1 h6 h7
        simp only [StepTo, Oper.grows]
        go_simp
        all_goals first
          | exact Below.refl _ _
          | (refine ⟨Below.refl _ _, (reaches_calls _ _ _).mono ?_⟩; rintro e w' ⟨rfl, rfl⟩; exact ⟨rfl, Below.refl _ _⟩)
          | exact ⟨Below.refl _ _, hdep.1⟩
          | exact ⟨Below.refl _ _, wrap_eq _⟩
          | exact ⟨below_alloc (Below.refl _ _) _, (Array.getElem?_eq_some_iff.1 (heap_alloc_last _ _)).2⟩
          | exact ⟨below_alloc (Below.refl _ _) _, heap_alloc_last _ _⟩
    · intro v w5 hB hv
      obtain ⟨g, q4, hg⟩ := hv 13 (by decide)
      have q5 : v 14 = _ := hv 14 (by decide)
      simp only [fillF, q4, q5, Act.put, List.setIfInBounds_toArray, List.set_cons_zero, List.set_cons_succ, List.length_cons, List.length_nil, Nat.reduceAdd, List.drop_succ_cons, List.drop_zero]
      have B5 := B2.trans (hB.mono B2.size)
      clear hv hB B2 hL
      go_wp2
      exact bodyPost_ret (v := .tuple #[.slice (some ⟨g, 0, none⟩) 2 2, .bool (reachF far 2147481600)]) (by simp [results, Tryz.results83, go_sem]) rfl ⟨g, rfl, hg, B5⟩
  have h3' : (x.sort == 3) = false := beq_eq_false_iff_ne.2 h3
  cases hl : x.long
  · have hO : opsF x far = ([{ x.op with imm := far }], true) := by unfold opsF; rw [if_neg h2, if_neg h3, if_pos hl]
    rw [hO]
    clear h2 h3 hO
    go_wp2
    refine bodyPost_ret (v := .tuple #[.slice (some ⟨w.heap.size + 1 + 1, 0, none⟩) 1 1, .bool true]) (by simp [results, Tryz.results83, go_sem]) rfl ⟨_, rfl, heap_alloc_at _ _ (by simp), below_alloc (below_alloc (below_alloc (Below.refl _ _) _) _) _⟩
  · have hO : opsF x far = ([{ x.op with name := turnF x.op.name, imm := 8 }, ⟨⟨#[106, 97, 108]⟩, 0, 0, 0, wrap64 (far - 4)⟩], reachF (wrap64 (far - 4)) 1048576) := by unfold opsF; rw [if_neg h2, if_neg h3, if_neg (by rw [hl]; decide)]
    rw [hO]
    clear h2 h3 hO
    go_wp2_with fail
    refine (turned_calls _ _).mono ?_
    rintro e w2 ⟨rfl, rfl⟩
    go_wp2_with fail

    have hL := heap_alloc_at (w.alloc (.cells #[.int .i64 x.sort, .string x.op.name, .int .i64 x.op.rd, .int .i64 x.op.ra, .int .i64 x.op.rb, .int .i64 x.op.imm, .int .i64 x.label, .bool true] 141)) (.cells #[.string (turnF x.op.name), .int .i64 x.op.rd, .int .i64 x.op.ra, .int .i64 x.op.rb, .int .i64 8] 130) (n := w.heap.size + 1) (by simp)
    have B2 := below_alloc (below_alloc (Below.refl w.heap.size w) (.cells #[.int .i64 x.sort, .string x.op.name, .int .i64 x.op.rd, .int .i64 x.op.ra, .int .i64 x.op.rb, .int .i64 x.op.imm, .int .i64 x.label, .bool true] 141)) (.cells #[.string (turnF x.op.name), .int .i64 x.op.rd, .int .i64 x.op.ra, .int .i64 x.op.rb, .int .i64 8] 130)
    generalize (w.alloc (.cells #[.int .i64 x.sort, .string x.op.name, .int .i64 x.op.rd, .int .i64 x.op.ra, .int .i64 x.op.rb, .int .i64 x.op.imm, .int .i64 x.label, .bool true] 141)).alloc (.cells #[.string (turnF x.op.name), .int .i64 x.op.rd, .int .i64 x.op.ra, .int .i64 x.op.rb, .int .i64 8] 130) = w2 at *
    refine wp_region_grow2 [52, 53, 54, 55, 56, 57, 58, 59, 4, 5] (fun j v w1 => match j with
      | 0 => v = .agg #[.string (turnF x.op.name), .int .i64 x.op.rd, .int .i64 x.op.ra, .int .i64 x.op.rb, .int .i64 8]
      | 1 => v = .int .i64 far
      | 2 => v = .int .i64 (wrap64 (far - 4))
      | 3 => v = .agg #[.string ⟨#[106, 97, 108]⟩, .int .i64 0, .int .i64 0, .int .i64 0, .int .i64 (wrap64 (far - 4))]
      | 4 => ∃ g, v = .slice (some ⟨g, 0, none⟩) 2 2 ∧ w1.heap[g]? = some (.cells #[.string (turnF x.op.name), .int .i64 x.op.rd, .int .i64 x.op.ra, .int .i64 x.op.rb, .int .i64 8, .string ⟨#[106, 97, 108]⟩, .int .i64 0, .int .i64 0, .int .i64 0, .int .i64 (wrap64 (far - 4))] 130 (0, 0))
      | 5 => v = .int .i64 far
      | 6 => v = .int .i64 (wrap64 (far - 4))
      | 7 => v = .bool (reachF (wrap64 (far - 4)) 1048576)
      | 8 => ∃ g, v = .slice (some ⟨g, 0, none⟩) 2 2 ∧ w1.heap[g]? = some (.cells #[.string (turnF x.op.name), .int .i64 x.op.rd, .int .i64 x.op.ra, .int .i64 x.op.rb, .int .i64 8, .string ⟨#[106, 97, 108]⟩, .int .i64 0, .int .i64 0, .int .i64 0, .int .i64 (wrap64 (far - 4))] 130 (0, 0))
      | 9 => v = .bool (reachF (wrap64 (far - 4)) 1048576)
      | _ => True) (by kernel_rfl) (by kernel_rfl) ?_ ?_ ?_
    · intro j v w1 w2 hv hb
      rcases j with _ | _ | _ | _ | _ | _ | _ | _ | _ | _ | j <;> first | exact hv | trivial | (obtain ⟨g, rfl, hg⟩ := hv; exact ⟨g, rfl, blk_below hg hb⟩)
    · refine ⟨?_, ?_, ?_, ?_, ?_, ?_, ?_, ?_, ?_, ?_, trivial⟩
      all_goals
        intro a w5 hB hoth hdep
        have p0 := blk_cell (blk_below hL hB)
        have z0 := blk_lt (blk_below hL hB)
        have h1 := hoth 1 (by decide)
        have h6 := hoth 6 (by decide)
        clear hoth hB hL B2
        simp [bd1, bd2, bd3, bd5] at hdep h1 h6
        simp only [StepTo, Oper.grows]
        go_simp
        all_goals first
          | exact Below.refl _ _
          | (refine ⟨Below.refl _ _, (reaches_calls _ _ _).mono ?_⟩; rintro e w' ⟨rfl, rfl⟩; exact ⟨rfl, Below.refl _ _⟩)
          | exact ⟨Below.refl _ _, hdep.1⟩
          | exact ⟨Below.refl _ _, wrap_eq _⟩
          | exact ⟨below_alloc (Below.refl _ _) _, (Array.getElem?_eq_some_iff.1 (heap_alloc_last _ _)).2⟩
          | exact ⟨below_alloc (Below.refl _ _) _, heap_alloc_last _ _⟩
    · intro v w5 hB hv
      obtain ⟨g, q4, hg⟩ := hv 8 (by decide)
      have q5 : v 9 = _ := hv 9 (by decide)
      simp only [fillF, q4, q5, Act.put, List.setIfInBounds_toArray, List.set_cons_zero, List.set_cons_succ, List.length_cons, List.length_nil, Nat.reduceAdd, List.drop_succ_cons, List.drop_zero]
      have B5 := B2.trans (hB.mono B2.size)
      clear hv hB B2 hL
      go_wp2
      exact bodyPost_ret (v := .tuple #[.slice (some ⟨g, 0, none⟩) 2 2, .bool (reachF (wrap64 (far - 4)) 1048576)]) (by simp [results, Tryz.results83, go_sem]) rfl ⟨g, rfl, hg, B5⟩
end Go.Proofs.YtpfcdhjknmijjaaGreat.As

namespace Go.Proofs.YtpfcdhjknmijjaaGreat.As
open Go.RowKit Go.Maps Go.Proofs.YtpfcdhjknmijjaaGreat.Grow Go.Proofs.YtpfcdhjknmijjaaGreat.Rv
open Go.Proofs.YtpfcdhjknmijjaaGreatW.PrintWords Go.Proofs.YtpfcdhjknmijjaaGreatW.PrintLast Go.Proofs.YtpfcdhjknmijjaaGreatW.PrintMore

/-! ### The words of all pieces -/
def encB : List OpI → Option (List Int)
  | [] => some []
  | x :: l => if (encF x.name x.rd x.ra x.rb x.imm).2 = 0 then (encB l).map fun bs => wordB (encF x.name x.rd x.ra x.rb x.imm).1 ++ bs else none
where wordB (a : Int) : List Int := [a % 256, a / 256 % 256, a / 65536 % 256, a / 16777216 % 256]
def opsAt (A : AsmS) (i : Nat) (x : Pc) : Option (List OpI) :=
  if x.sort = 0 then some [x.op] else match A.marks x.label with
    | none => none
    | some t => if (opsF x (wrap64 (posF A.ps t.toNat - posF A.ps i))).2 = true then some (opsF x (wrap64 (posF A.ps t.toNat - posF A.ps i))).1 else none
def pieceB (A : AsmS) (i : Nat) (x : Pc) : Option (List Int) := (opsAt A i x).bind encB
/-- The bytes of the first pieces. -/
def textL (A : AsmS) : Nat → Option (List Int)
  | 0 => some []
  | k + 1 => (textL A k).bind fun bs => (A.ps[k]?).bind fun x => (pieceB A k x).map fun cs => bs ++ cs
def strOf (bs : List Int) : ByteArray := bs.foldl (fun r n => r.push (UInt8.ofNat n.toNat)) ByteArray.empty
def textV (A : AsmS) : Value := match textL A A.ps.length with
  | some bs => .tuple #[.string (strOf bs), .int .i64 0]
  | none => .tuple #[.string ⟨#[]⟩, .int .i64 290]
theorem textL_none {A : AsmS} {k : Nat} (h : textL A k = none) : ∀ m, textL A (k + m) = none
  | 0 => h
  | m + 1 => by rw [← Nat.add_assoc]; show (textL A (k + m)).bind _ = none; rw [textL_none h m]; rfl
theorem textL_stop {A : AsmS} {k : Nat} {bs : List Int} {x : Pc} (h : textL A k = some bs) (hk : k < A.ps.length) (hx : A.ps[k] = x) (hp : pieceB A k x = none) : textV A = .tuple #[.string ⟨#[]⟩, .int .i64 290] := by
  have : textL A (k + 1) = none := by
    show (textL A k).bind _ = none
    rw [h, Option.bind_some, List.getElem?_eq_getElem hk, Option.bind_some, hx, hp]; rfl
  have := textL_none this (A.ps.length - (k + 1))
  rw [show k + 1 + (A.ps.length - (k + 1)) = A.ps.length by omega] at this
  unfold textV; rw [this]
theorem textL_go {A : AsmS} {k : Nat} {bs cs : List Int} {x : Pc} (h : textL A k = some bs) (hk : k < A.ps.length) (hx : A.ps[k] = x) (hp : pieceB A k x = some cs) : textL A (k + 1) = some (bs ++ cs) := by
  show (textL A k).bind _ = _
  rw [h, Option.bind_some, List.getElem?_eq_getElem hk, Option.bind_some, hx, hp]; rfl
theorem encB_len : ∀ (l : List OpI) (cs : List Int), encB l = some cs → cs.length = 4 * l.length
  | [], cs, h => by simp [encB] at h; subst h; rfl
  | x :: l, cs, h => by
    unfold encB at h
    split at h
    · cases hl : encB l with
      | none => rw [hl] at h; cases h
      | some ds =>
        rw [hl] at h
        simp only [Option.map_some, Option.some.injEq] at h
        have := encB_len l ds hl
        rw [← h, List.length_append, this, List.length_cons]
        simp [encB.wordB]
        omega
    · cases h
theorem encB_none {l : List OpI} {j : Nat} (hj : j < l.length) (h : (encF l[j].name l[j].rd l[j].ra l[j].rb l[j].imm).2 ≠ 0) : encB l = none := by
  induction l generalizing j with
  | nil => simp at hj
  | cons x l ih =>
    unfold encB
    cases j with
    | zero => exact if_neg h
    | succ j =>
      have := ih (j := j) (by simpa using hj) h
      rw [this]
      split <;> rfl
theorem encB_take {l : List OpI} {j : Nat} (hj : j < l.length) {cs : List Int} (h : encB (l.take j) = some cs) (he : (encF l[j].name l[j].rd l[j].ra l[j].rb l[j].imm).2 = 0) :
    encB (l.take (j + 1)) = some (cs ++ encB.wordB (encF l[j].name l[j].rd l[j].ra l[j].rb l[j].imm).1) := by
  induction l generalizing j cs with
  | nil => simp at hj
  | cons x l ih =>
    cases j with
    | zero =>
      simp only [List.take_zero, encB, Option.some.injEq] at h
      subst h
      simp only [List.getElem_cons_zero] at he ⊢
      show encB [x] = _
      unfold encB
      rw [if_pos he]
      simp [encB]
    | succ j =>
      simp only [List.getElem_cons_succ] at he ⊢
      rw [List.take_succ_cons] at h ⊢
      unfold encB at h ⊢
      split at h
      · rename_i hx
        rw [if_pos hx]
        cases hl : encB (l.take j) with
        | none => rw [hl] at h; cases h
        | some ds =>
          rw [hl] at h
          simp only [Option.map_some, Option.some.injEq] at h
          have := ih (j := j) (by simpa using hj) hl he
          rw [this, ← h]
          simp
      · cases h
theorem opsF_len (x : Pc) (far : Int) : (opsF x far).1.length = 1 ∨ (opsF x far).1.length = 2 := by
  unfold opsF
  repeat' split
  all_goals simp
theorem under130 : Tryz.prog.underlying 68 = some (.slice 5) := by kernel_rfl
theorem info5 : (Tryz.prog.info? 5).map (fun i => (i.zero, i.size, i.bytes)) = some (some (.int .u8 0), 1, 1) := by kernel_rfl
theorem und5 : Tryz.prog.underlying 5 = some (.int .u8) := by kernel_rfl
theorem und9 : Tryz.prog.underlying 9 = some .string := by kernel_rfl
theorem none_string (w : World) : (convert 68 9 (.slice none 0 0)).run Tryz.prog w = .ok (.string ByteArray.empty) w := by kernel_rfl
theorem own_string {w : World} {B n : Nat} {v : Value} {bs : List Int} (h : w.ownsRow B 5 1 v n (bs.map (Value.int .u8))) (hn : bs.length = n) : (convert 68 9 v).run Tryz.prog w = .ok (.string (strOf bs)) w := by
  obtain ⟨_, ⟨rfl, h0⟩ | ⟨g, cap, cur, rfl, _, hh, hc, _, hs, ht⟩⟩ := h
  · have : bs = [] := List.eq_nil_of_length_eq_zero (by omega)
    subst this
    exact none_string w
  · rw [run_convert_bytes_string w 68 9 5 _ _ _ under130 und5 und9]
    refine run_bytesToString w _ n cap bs ?_
    have hl : (loadCells ⟨g, 0, none⟩ (bs.map (Value.int .u8)).length).run Tryz.prog w = .ok (bs.map (Value.int .u8)).toArray w :=
      run_loadCells_list (P := Tryz.prog) w ⟨g, 0, none⟩ _ (fun j u hu => by
        rw [Addr.add_mid, Nat.zero_add, cell_of_row w g _ cur 5 (0, 0) hh]
        rw [← ht, List.getElem?_take] at hu
        split at hu
        · simpa using hu
        · cases hu)
    rw [List.length_map, hn] at hl
    exact hl
end Go.Proofs.YtpfcdhjknmijjaaGreat.As
end
