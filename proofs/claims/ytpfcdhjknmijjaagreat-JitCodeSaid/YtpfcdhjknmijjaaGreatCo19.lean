import Derived.Test.YtpfcdhjknmijjaaGreatCo18
section
namespace Go.Proofs.YtpfcdhjknmijjaaGreat.As
open Go.RowKit Go.Maps Go.Proofs.YtpfcdhjknmijjaaGreat.Grow Go.Proofs.YtpfcdhjknmijjaaGreat.Rv
open Go.Proofs.YtpfcdhjknmijjaaGreatW.PrintWords Go.Proofs.YtpfcdhjknmijjaaGreatW.PrintLast Go.Proofs.YtpfcdhjknmijjaaGreatW.PrintMore

theorem op_len (x : OpI) : (OpI.cells x).length = 5 := rfl
theorem flat_op {l : List OpI} {k : Nat} (h : k < l.length) {j : Nat} (hj : j < 5) : (l.flatMap OpI.cells)[k * 5 + j]? = (OpI.cells l[k])[j]? := by
  induction l generalizing k with
  | nil => simp at h
  | cons x xs ih =>
    rw [List.flatMap_cons]
    cases k with
    | zero => rw [List.getElem?_append_left (by rw [op_len]; omega)]; simp
    | succ k =>
      rw [List.getElem?_append_right (by rw [op_len]; omega), op_len]
      have := ih (k := k) (by simpa using h)
      rw [show (k + 1) * 5 + j - 5 = k * 5 + j by omega, this]
      simp
theorem op_cells {w : World} {g : Nat} {l : List OpI} (h : w.heap[g]? = some (.cells (l.flatMap OpI.cells).toArray 130 (0, 0))) {k : Nat} (hk : k < l.length) :
    w.cell? ⟨g, k * 5, none⟩ = some (.string l[k].name) ∧ w.cell? ⟨g, k * 5 + 1, none⟩ = some (.int .i64 l[k].rd) ∧ w.cell? ⟨g, k * 5 + 2, none⟩ = some (.int .i64 l[k].ra) ∧
    w.cell? ⟨g, k * 5 + 3, none⟩ = some (.int .i64 l[k].rb) ∧ w.cell? ⟨g, k * 5 + 4, none⟩ = some (.int .i64 l[k].imm) := by
  have e : ∀ j, j < 5 → w.cell? ⟨g, k * 5 + j, none⟩ = (OpI.cells l[k])[j]? := fun j hj => by
    rw [cell_of_row w g _ _ 130 (0, 0) h, ← flat_op hk hj]; simp
  exact ⟨e 0 (by decide), e 1 (by decide), e 2 (by decide), e 3 (by decide), e 4 (by decide)⟩
theorem opsAt_some {S : AsmS} {k : Nat} {x : Pc} {t : Int} (hs : ¬ x.sort = 0) (hm : S.marks x.label = some t) :
    opsAt S k x = if (opsF x (wrap64 (posF S.ps t.toNat - posF S.ps k))).2 = true then some (opsF x (wrap64 (posF S.ps t.toNat - posF S.ps k))).1 else none := by
  unfold opsAt; rw [if_neg hs, hm]
theorem four_one {a b c d : Int} : ∀ u ∈ ([.int .u8 a, .int .u8 b, .int .u8 c, .int .u8 d] : List Value), u.oneCell' = true := by
  intro u hu
  simp only [List.mem_cons, List.not_mem_nil, or_false] at hu
  rcases hu with rfl | rfl | rfl | rfl <;> rfl
theorem text_row {w : World} {B n m : Nat} {v : Value} {bs cs : List Int} {a : Int} (h : w.ownsRow B 5 1 v (n + m + 4) ((bs ++ cs).map (Value.int .u8) ++ [.int .u8 (a % 256), .int .u8 (a / 256 % 256), .int .u8 (a / 65536 % 256), .int .u8 (a / 16777216 % 256)])) (hm : cs.length = m := by rfl) :
    w.ownsRow B 5 1 v (n + (cs ++ encB.wordB a).length) ((bs ++ (cs ++ encB.wordB a)).map (Value.int .u8)) := by
  have e1 : n + (cs ++ encB.wordB a).length = n + m + 4 := by rw [List.length_append, hm]; simp [encB.wordB]; omega
  have e2 : (bs ++ (cs ++ encB.wordB a)).map (Value.int .u8) = (bs ++ cs).map (Value.int .u8) ++ [.int .u8 (a % 256), .int .u8 (a / 256 % 256), .int .u8 (a / 65536 % 256), .int .u8 (a / 16777216 % 256)] := by
    rw [← List.append_assoc, List.map_append]; rfl
  rw [e1, e2]; exact h
theorem row_tag {w : World} {B n g : Nat} {v : Value} {xs : List Value} {c : Array Value} (h : w.ownsRow B 5 1 v n xs) (hg : w.heap[g]? = some (.cells c 130 (0, 0))) : some g ≠ v.ownBlock := by
  intro e
  rcases h.2 with ⟨rfl, _⟩ | ⟨q, cap, cur, rfl, _, hh, _⟩
  · cases e
  · cases e
    rw [hg] at hh; cases hh
set_option maxHeartbeats 4000000 in
set_option maxRecDepth 100000 in
theorem Text_calls {w : World} {b p : Nat} {A : AsmS} (h : AsmAt w b p A) (hG : Good A) (hGS : Good (settleF A)) :
    Calls Tryz.prog 42 #[.pointer (some ⟨p, 0, none⟩)] w fun e w' => e = .returned (textV (settleF A)) ∧ AsmAt w' b p (settleF A) ∧ Fr b w w' := by
  have hlen : (settleF A).ps.length = A.ps.length := withL_len _ _
  have SC := settle_calls h hG
  rw [← hlen] at SC
  obtain ⟨S, hS⟩ : ∃ S, settleF A = S := ⟨_, rfl⟩
  rw [hS] at SC hGS ⊢
  have SC := Aside0.mk SC
  clear h hlen hS hG
  go_enter Tryz.func42, Tryz.ntmps42
  go_wp2_with fail
  refine SC.out.mono ?_
  rintro e w1 ⟨v, rfl, hrow, hA, hF⟩
  obtain ⟨q, qc, rfl, hq, hqc⟩ := ints_row hrow
  obtain ⟨pv, M, hA⟩ := hA
  obtain ⟨pa, pc, rfl⟩ := row_form hA.row
  have hc := blk_cell hA.cells
  have hz := blk_lt hA.cells
  have hbz := hA.size
  have hn := hGS.len
  have HA := Aside0.mk hA
  have HF := Aside0.mk hF
  have QC := Aside0.mk hqc
  obtain ⟨i0, hi, hz0, hz1, hz2⟩ := info_parts info5
  clear hA hF hqc hrow SC
  go_wp2
  go_loopw [5, 23] (fun v5 v23 wr => ∃ k : Nat, k ≤ S.ps.length ∧ v23 = .int .i64 k ∧ (∃ bs, textL S k = some bs ∧ bs.length ≤ 8 * k ∧ wr.ownsRow w1.heap.size 5 1 v5 bs.length (bs.map (Value.int .u8))) ∧ Below w1.heap.size w1 wr) (fun _ v23 _ => S.ps.length - (intOf v23).toNat)
  case atStart => exact ⟨0, by omega, rfl, ⟨[], rfl, Nat.le_refl _, rfl, .inl ⟨rfl, rfl⟩⟩, Below.refl _ _⟩
  case round =>
    obtain ⟨k, hk, rfl, ⟨bs, hbs, hbl, hown⟩, hb⟩ := hrel
    by_cases hlt : k < S.ps.length
    · have h3 := HA.out.below hb
      clear hc hz
      have hc := blk_cell h3.cells
      have hz := blk_lt h3.cells
      obtain ⟨g, cap, hg, hgl, hcell⟩ := row_cell h3.row (by omega)
      obtain rfl : pa = some ⟨g, 0, none⟩ := by injection hg
      clear hg
      obtain ⟨c0, c1, c2, c3, c4, c5, c6, c7⟩ := piece_cells (hcell k hlt)
      obtain ⟨x, hx⟩ : ∃ x, S.ps[k] = x := ⟨_, rfl⟩
      have hxl := hGS.labels _ (List.getElem_mem hlt)
      rw [hx] at c0 c1 c2 c3 c4 c5 c6 c7 hxl
      have hk0 : (0 : Int) ≤ (k : Int) := by omega
      have hk1 : (k : Int) < (S.ps.length : Int) := by omega
      have HX := Aside0.mk hx
      have BS := Aside0.mk hbs
      have B := Aside0.mk hb
      have ne1 := row_ne hown
      have OWN := Aside0.mk hown
      clear hcell hx hbs hb hown
      by_cases hs : x.sort = 0
      · have hs' : (x.sort == 0) = true := beq_iff_eq.2 hs
        go_wp2_with fail
        obtain ⟨L, hLd⟩ : ∃ L : List OpI, L = [x.op] := ⟨_, rfl⟩
        obtain ⟨gL, hgL⟩ : ∃ gL, wr.heap.size + 1 = gL := ⟨_, rfl⟩
        have hL := heap_alloc_at (wr.alloc (.cells #[.int .i64 0, .string x.op.name, .int .i64 x.op.rd, .int .i64 x.op.ra, .int .i64 x.op.rb, .int .i64 x.op.imm, .int .i64 x.label, .bool x.long] 141)) (.cells #[.string x.op.name, .int .i64 x.op.rd, .int .i64 x.op.ra, .int .i64 x.op.rb, .int .i64 x.op.imm] 130) (n := wr.heap.size + 1) (by simp)
        have Bq := below_alloc (below_alloc (Below.refl wr.heap.size wr) (.cells #[.int .i64 0, .string x.op.name, .int .i64 x.op.rd, .int .i64 x.op.ra, .int .i64 x.op.rb, .int .i64 x.op.imm, .int .i64 x.label, .bool x.long] 141)) (.cells #[.string x.op.name, .int .i64 x.op.rd, .int .i64 x.op.ra, .int .i64 x.op.rb, .int .i64 x.op.imm] 130)
        have hLl : L.length = 1 := by rw [hLd]; rfl
        have HO := Aside0.mk (show opsAt S k x = some L by rw [hLd]; exact if_pos hs)
        have hL' : ((wr.alloc (.cells #[.int .i64 0, .string x.op.name, .int .i64 x.op.rd, .int .i64 x.op.ra, .int .i64 x.op.rb, .int .i64 x.op.imm, .int .i64 x.label, .bool x.long] 141)).alloc (.cells #[.string x.op.name, .int .i64 x.op.rd, .int .i64 x.op.ra, .int .i64 x.op.rb, .int .i64 x.op.imm] 130)).heap[gL]? = some (.cells (L.flatMap OpI.cells).toArray 130 (0, 0)) := by rw [← hgL, hL, hLd]; rfl
        simp only [hgL]
        clear hL
        generalize (wr.alloc (.cells #[.int .i64 0, .string x.op.name, .int .i64 x.op.rd, .int .i64 x.op.ra, .int .i64 x.op.rb, .int .i64 x.op.imm, .int .i64 x.label, .bool x.long] 141)).alloc (.cells #[.string x.op.name, .int .i64 x.op.rd, .int .i64 x.op.ra, .int .i64 x.op.rb, .int .i64 x.op.imm] 130) = w2 at *
        have B2 := Aside0.mk (B.out.trans (Bq.mono B.out.size))
        have OWN2 := Aside0.mk (OWN.out.below Bq)
        have HL := Aside0.mk hL'
        clear hgL hLd hs hs' Bq hL' ne1 c0 c1 c2 c3 c4 c5 c6 c7 hc hz
        go_loopw [5, 64] (fun v5 v64 wr => ∃ j : Nat, j ≤ 1 ∧ v64 = .int .i64 j ∧ (∃ cs, encB (L.take j) = some cs ∧ cs.length ≤ 4 * j ∧ wr.ownsRow w1.heap.size 5 1 v5 (bs.length + cs.length) ((bs ++ cs).map (Value.int .u8))) ∧ Below w1.heap.size w1 wr ∧ wr.heap[gL]? = some (.cells (L.flatMap OpI.cells).toArray 130 (0, 0))) (fun _ v64 _ => 1 - (intOf v64).toNat)
        case atStart => exact ⟨0, by omega, rfl, ⟨[], rfl, Nat.le_refl _, by rw [List.append_nil]; exact OWN2.out⟩, B2.out, HL.out⟩
        case round =>
          obtain ⟨j, hj, rfl, ⟨cs, hcs, hcl, hown⟩, hb, hg⟩ := hrel
          by_cases hjl : j < 1
          · have hjL : j < L.length := by rw [hLl]; omega
            obtain ⟨d0, d1, d2, d3, d4⟩ := op_cells hg hjL
            have zg := blk_lt hg
            obtain ⟨y, hy⟩ : ∃ y, L[j] = y := ⟨_, rfl⟩
            rw [hy] at d0 d1 d2 d3 d4
            obtain ⟨⟨a, c⟩, hE⟩ : ∃ r, encF y.name y.rd y.ra y.rb y.imm = r := ⟨_, rfl⟩
            have HE := Aside0.mk hE
            have HY := Aside0.mk hy
            have j0 : (0 : Int) ≤ (j : Int) := by omega
            have j1 : (j : Int) < 1 := by omega
            have CS := Aside0.mk hcs
            have G := Aside0.mk hg
            have OWN3 := Aside0.mk hown
            have B3 := Aside0.mk hb
            have ne3 := row_ne hown
            clear hE hy hcs hg hown hb
            go_wp2_with fail
            refine (encode_at HE.out _).mono ?_
            rintro e w4 ⟨rfl, hb4⟩
            have B4 := Aside0.mk ((below_alloc B3.out _).trans (hb4.mono (below_alloc B3.out _).size))
            have OWN4 := Aside0.mk ((OWN3.out.below (below_alloc (Below.refl _ _) _)).below hb4)
            have G4 := Aside0.mk (blk_below (blk_alloc G.out _) hb4)
            clear d0 d1 d2 d3 d4 hb4 ne3
            by_cases hc0 : c = 0
            · subst hc0
              have TK := Aside0.mk (encB_take hjL CS.out (by rw [HY.out, HE.out]))
              rw [HY.out, HE.out] at TK
              have bz := B4.out.size
              go_wp2_with (first | (at_builtin; refine wpList_append_own _ rfl (.tmp 75) (.tmp 87) 68 rfl w1.heap.size 5 i0 (.int .u8 0) 1 1 under130 hi hz0 hz1 hz2 rfl (by decide) _ (bs.length + cs.length) _ rfl (OWN4.out.alloc _) ⟨w4.heap.size, 0, none⟩ 4 4 [.int .u8 (a % 256), .int .u8 (a / 256 % 256), .int .u8 (a / 65536 % 256), .int .u8 (a / 16777216 % 256)] rfl rfl (World.news_of_block (cs := #[.int .u8 (a % 256), .int .u8 (a / 256 % 256), .int .u8 (a / 65536 % 256), .int .u8 (a / 16777216 % 256)]) (t := 5) (fr := (0, 0)) (heap_alloc_last w4 _)) four_one (by unfold maxLen; omega) (by omega) (by simp; omega) ?_; intro v' w5 hown' hgrow _; have OWN5 := Aside0.mk (text_row hown'); have G5 := Aside0.mk ((hgrow.block gL (by have := blk_lt G4.out; simp; omega) (row_tag (OWN4.out) G4.out)).trans (blk_alloc G4.out _)); have B5 := Aside0.mk ((below_alloc B4.out _).grown hgrow (by simp; omega) (own_ge OWN4.out)); clear hown' hgrow))
              go_roundw
              case rel => exact ⟨j + 1, by omega, by go_num, ⟨cs ++ encB.wordB a, TK.out, by simp [encB.wordB]; omega, OWN5.out⟩, B5.out, G5.out⟩
              case measure => simp [intOf]; omega
            · have hT := textL_stop BS.out hlt HX.out (by unfold pieceB; rw [HO.out]; exact encB_none hjL (by rw [HY.out, HE.out]; exact hc0))
              have HT := Aside0.mk hT
              clear hT
              go_wp2
              exact bodyPost_ret (v := .tuple #[.string ⟨#[]⟩, .int .i64 290]) (by simp [results, Tryz.results42, go_sem]) rfl ⟨by rw [HT.out], ⟨_, M, HA.out.below B4.out⟩, HF.out.trans (Fr.of_below B4.out)⟩
          · have hjm : j = 1 := by omega
            have hall : encB L = some cs := by rw [← hcs, List.take_of_length_le (by rw [hLl]; omega)]
            have GO := Aside0.mk (textL_go BS.out hlt HX.out (show pieceB S k x = some cs by unfold pieceB; rw [HO.out]; exact hall))
            have OWN3 := Aside0.mk hown
            have B3 := Aside0.mk hb
            clear hown hb hg hcs hall
            subst hjm
            go_wp2
            go_roundw
            case rel => exact ⟨k + 1, by omega, by go_num, ⟨bs ++ cs, GO.out, by rw [List.length_append]; omega, by rw [List.length_append]; exact OWN3.out⟩, B3.out⟩
            case measure => simp [intOf]; omega
      · have hs' : (x.sort == 0) = false := beq_eq_false_iff_ne.2 hs
        go_wp2_with fail
        have hL1 := heap_alloc_last wr (.cells #[.int .i64 x.sort, .string x.op.name, .int .i64 x.op.rd, .int .i64 x.op.ra, .int .i64 x.op.rb, .int .i64 x.op.imm, .int .i64 x.label, .bool x.long] 141)
        have Bq := below_alloc (below_alloc (Below.refl wr.heap.size wr) (.cells #[.int .i64 x.sort, .string x.op.name, .int .i64 x.op.rd, .int .i64 x.op.ra, .int .i64 x.op.rb, .int .i64 x.op.imm, .int .i64 x.label, .bool x.long] 141)) (.cells #[.string x.op.name, .int .i64 x.op.rd, .int .i64 x.op.ra, .int .i64 x.op.rb, .int .i64 x.op.imm] 130)
        have hL0 := blk_alloc hL1 (.cells #[.string x.op.name, .int .i64 x.op.rd, .int .i64 x.op.ra, .int .i64 x.op.rb, .int .i64 x.op.imm] 130)
        obtain ⟨pL, hpL⟩ : ∃ n, wr.heap.size = n := ⟨_, rfl⟩
        rw [hpL] at hL0
        simp only [hpL]
        clear hL1
        generalize (wr.alloc (.cells #[.int .i64 x.sort, .string x.op.name, .int .i64 x.op.rd, .int .i64 x.op.ra, .int .i64 x.op.rb, .int .i64 x.op.imm, .int .i64 x.label, .bool x.long] 141)).alloc (.cells #[.string x.op.name, .int .i64 x.op.rd, .int .i64 x.op.ra, .int .i64 x.op.rb, .int .i64 x.op.imm] 130) = w2 at *
        have h4 := h3.below Bq
        have H4 := Aside0.mk h4
        obtain ⟨t, ht⟩ : ∃ t, (S.marks x.label).getD 0 = t := ⟨_, rfl⟩
        obtain ⟨m, hm⟩ : ∃ m, (S.marks x.label).isSome = m := ⟨_, rfl⟩
        have hlook : (Instr.lookup 124 (.map (some M)) (.int .i64 x.label) true).run Tryz.prog w2.drew = .ok (.tuple #[.int .i64 t, .bool m]) w2.drew := by
          rw [← ht, ← hm]
          exact (show MapAt w2.drew M S.nm S.marks from h4.map.kept rfl).lookup hxl
        have BL := blk_cell hL0
        have zL := blk_lt hL0
        have hc := blk_cell h4.cells
        have hz := blk_lt h4.cells
        have HL0 := Aside0.mk hL0
        have B2 := Aside0.mk (B.out.trans (Bq.mono B.out.size))
        have OWN2 := Aside0.mk (OWN.out.below Bq)
        clear c0 c1 c2 c3 c4 c5 c6 c7 h3 h4 Bq hL0 hpL ne1
        go_region_law (fail)
        all_goals
          have hL0 := HL0.out
          obtain ⟨w6, hw6⟩ : ∃ w6, w2.drew = w6 := ⟨_, rfl⟩
          have hL6 : w6.heap[pL]? = some (.cells #[.int .i64 x.sort, .string x.op.name, .int .i64 x.op.rd, .int .i64 x.op.ra, .int .i64 x.op.rb, .int .i64 x.op.imm, .int .i64 x.label, .bool x.long] 141 (0, 0)) := by rw [← hw6]; exact hL0
          have D6 : Below w2.heap.size w2 w6 := by rw [← hw6]; exact (Below.refl _ _).drew
          have B6 := Aside0.mk (B2.out.trans (D6.mono B2.out.size))
          have OWN6 := Aside0.mk (OWN2.out.below D6)
          simp only [hw6]
          clear hw6 hL0 hlook hc hz BL zL D6
          cases hmk : S.marks x.label with
          | none =>
            have hm' : m = false := by rw [← hm, hmk]; rfl
            subst hm'
            have hT := textL_stop BS.out hlt HX.out (by unfold pieceB opsAt; rw [if_neg hs, hmk]; rfl)
            have HT := Aside0.mk hT
            clear hT hmk hm ht hs
            go_wp2
            exact bodyPost_ret (v := .tuple #[.string ⟨#[]⟩, .int .i64 290]) (by simp [results, Tryz.results42, go_sem]) rfl ⟨by rw [HT.out], ⟨_, M, HA.out.below B6.out⟩, HF.out.trans (Fr.of_below B6.out)⟩
          | some t' =>
            have hm' : m = true := by rw [← hm, hmk]; rfl
            subst hm'
            obtain rfl : t' = t := by rw [← ht, hmk]; rfl
            obtain ⟨t0, t1⟩ := hGS.marks _ _ hmk
            obtain ⟨far, hfar⟩ : ∃ far, wrap64 (posF S.ps t'.toNat - posF S.ps k) = far := ⟨_, rfl⟩
            obtain ⟨⟨L, ok⟩, hop⟩ : ∃ r, opsF x far = r := ⟨_, rfl⟩
            obtain ⟨LN, hLl⟩ : ∃ n, L.length = n := ⟨_, rfl⟩
            have hL2 : LN ≤ 2 := by
              have := opsF_len x far
              rw [hop] at this
              rw [← hLl]
              rcases this with h | h <;> rw [h] <;> decide
            have HOK := Aside0.mk (show opsAt S k x = if ok = true then some L else none by rw [opsAt_some hs hmk, hfar, hop])
            have OC := Aside0.mk (fun w => by have := ops_calls x far w; rw [hop, hLl] at this; exact this)
            have q1 : ∀ i, i ≤ S.ps.length → w6.cell? ⟨q, i, none⟩ = some (.int .i64 (posF S.ps i)) := fun i hi => (B6.out.cell hq).trans (QC.out i hi)
            have ct := Aside0.mk (q1 t'.toNat (by omega))
            have ck := Aside0.mk (q1 k hk)
            have FAR := Aside0.mk hfar
            have zq : q < w6.heap.size := Nat.lt_of_lt_of_le hq B6.out.size
            have HS := Aside0.mk hs
            clear q1 hfar hop hmk hm ht hs
            go_wp2_with fail
            refine wp_region_grow2 [47, 48, 49, 50, 51, 52, 53, 54, 55, 56, 57, 46, 58, 59, 8, 11] (fun j v w1 => match j with
              | 0 => v = Pc.val x
              | 1 => v = .slice (some ⟨q, 0, none⟩) (S.ps.length + 1) qc
              | 2 => v = .int .i64 t'
              | 3 => v = .pointer (some ⟨q, t'.toNat, none⟩)
              | 4 => v = .int .i64 (posF S.ps t'.toNat)
              | 5 => v = .slice (some ⟨q, 0, none⟩) (S.ps.length + 1) qc
              | 6 => v = .int .i64 k
              | 7 => v = .pointer (some ⟨q, k, none⟩)
              | 8 => v = .int .i64 (posF S.ps k)
              | 9 => v = .int .i64 far
              | 10 => ∃ g, v = .tuple #[.slice (some ⟨g, 0, none⟩) LN LN, .bool ok] ∧ w1.heap[g]? = some (.cells (L.flatMap OpI.cells).toArray 130 (0, 0))
              | 11 => ∃ g, v = .tuple #[.slice (some ⟨g, 0, none⟩) LN LN, .bool ok] ∧ w1.heap[g]? = some (.cells (L.flatMap OpI.cells).toArray 130 (0, 0))
              | 12 => ∃ g, v = .slice (some ⟨g, 0, none⟩) LN LN ∧ w1.heap[g]? = some (.cells (L.flatMap OpI.cells).toArray 130 (0, 0))
              | 13 => v = .bool ok
              | 14 => ∃ g, v = .slice (some ⟨g, 0, none⟩) LN LN ∧ w1.heap[g]? = some (.cells (L.flatMap OpI.cells).toArray 130 (0, 0))
              | 15 => v = .bool ok
              | _ => True) (by kernel_rfl) (by kernel_rfl) ?_ ?_ ?_
            · intro j v w1 w2 hv hb
              rcases j with _ | _ | _ | _ | _ | _ | _ | _ | _ | _ | _ | _ | _ | _ | _ | _ | j <;> first | exact hv | trivial | (obtain ⟨g, rfl, hg⟩ := hv; exact ⟨g, rfl, blk_below hg hb⟩)
            · refine ⟨?_, ?_, ?_, ?_, ?_, ?_, ?_, ?_, ?_, ?_, ?_, ?_, ?_, ?_, ?_, ?_, trivial⟩
              all_goals
                intro a w5 hB hoth hdep
                have p0 := blk_cell (blk_below hL6 hB)
                have z0 := blk_lt (blk_below hL6 hB)
                have p1 := (hB.cell zq).trans ct.out
                have p2 := (hB.cell zq).trans ck.out
                have z1 := Nat.lt_of_lt_of_le zq hB.size
                have h4 := hoth 4 (by decide)
                have h6 := hoth 6 (by decide)
                have h7 := hoth 7 (by decide)
                have h9 := hoth 9 (by decide)
                have t2 : t' < (S.ps.length : Int) + 1 := by omega
                have k2 : (k : Int) < (S.ps.length : Int) + 1 := by omega
                have fe := FAR.out
                clear hoth hB hL6
                simp [bd1, bd2, bd3, bd5, bd6] at hdep h4 h6 h7 h9
                simp only [StepTo, Oper.grows]
                first
                  | (obtain ⟨gx, hx1, hx2⟩ := hdep; go_simp; done)
                  | (obtain ⟨⟨gx, hx1, hx2⟩, -⟩ := hdep; go_simp; done)
                  | (obtain ⟨gx, hx1, hx2⟩ := hdep; go_simp; all_goals first | exact Below.refl _ _ | exact ⟨Below.refl _ _, rfl⟩ | exact ⟨Below.refl _ _, hx2⟩ | exact ⟨Below.refl _ _, gx, rfl, hx2⟩ | exact ⟨Below.refl _ _, hdep.1⟩ | exact ⟨Below.refl _ _, (wrap_eq _).trans fe⟩ | (refine ⟨Below.refl _ _, (OC.out _).mono ?_⟩; rintro e w' ⟨g, rfl, hg, hb⟩; first | exact ⟨_, rfl, hb, g, rfl, hg⟩ | exact ⟨g, rfl, hb, hg⟩ | exact ⟨hb, hg⟩))
                  | (obtain ⟨⟨gx, hx1, hx2⟩, -⟩ := hdep; go_simp; all_goals first | exact Below.refl _ _ | exact ⟨Below.refl _ _, rfl⟩ | exact ⟨Below.refl _ _, hx2⟩ | exact ⟨Below.refl _ _, gx, rfl, hx2⟩ | exact ⟨Below.refl _ _, hdep.1⟩ | exact ⟨Below.refl _ _, (wrap_eq _).trans fe⟩ | (refine ⟨Below.refl _ _, (OC.out _).mono ?_⟩; rintro e w' ⟨g, rfl, hg, hb⟩; first | exact ⟨_, rfl, hb, g, rfl, hg⟩ | exact ⟨g, rfl, hb, hg⟩ | exact ⟨hb, hg⟩))
                  | (go_simp; all_goals first | exact Below.refl _ _ | exact ⟨Below.refl _ _, rfl⟩ | exact ⟨Below.refl _ _, hx2⟩ | exact ⟨Below.refl _ _, gx, rfl, hx2⟩ | exact ⟨Below.refl _ _, hdep.1⟩ | exact ⟨Below.refl _ _, (wrap_eq _).trans fe⟩ | (refine ⟨Below.refl _ _, (OC.out _).mono ?_⟩; rintro e w' ⟨g, rfl, hg, hb⟩; first | exact ⟨_, rfl, hb, g, rfl, hg⟩ | exact ⟨g, rfl, hb, hg⟩ | exact ⟨hb, hg⟩))
            · intro v w5 hB hv
              obtain ⟨gL, q14, hL'⟩ := hv 14 (by decide)
              have q15 : v 15 = _ := hv 15 (by decide)
              simp only [fillF, q14, q15, Act.put, List.setIfInBounds_toArray, List.set_cons_zero, List.set_cons_succ, List.length_cons, List.length_nil, Nat.reduceAdd, List.drop_succ_cons, List.drop_zero]
              have B2 := Aside0.mk (B6.out.trans (hB.mono B6.out.size))
              have OWN2 := Aside0.mk (OWN6.out.below hB)
              have HL := Aside0.mk hL'
              clear hv hB hL' hL6 zq q14 q15
              cases ok
              · have hT := textL_stop BS.out hlt HX.out (by unfold pieceB; rw [HOK.out]; rfl)
                have HT := Aside0.mk hT
                clear hT
                go_wp2
                exact bodyPost_ret (v := .tuple #[.string ⟨#[]⟩, .int .i64 290]) (by simp [results, Tryz.results42, go_sem]) rfl ⟨by rw [HT.out], ⟨_, M, HA.out.below B2.out⟩, HF.out.trans (Fr.of_below B2.out)⟩
              · have HO := Aside0.mk (show opsAt S k x = some L from HOK.out)
                go_wp2_with fail
                go_loopw [5, 64] (fun v5 v64 wr => ∃ j : Nat, j ≤ LN ∧ v64 = .int .i64 j ∧ (∃ cs, encB (L.take j) = some cs ∧ cs.length ≤ 4 * j ∧ wr.ownsRow w1.heap.size 5 1 v5 (bs.length + cs.length) ((bs ++ cs).map (Value.int .u8))) ∧ Below w1.heap.size w1 wr ∧ wr.heap[gL]? = some (.cells (L.flatMap OpI.cells).toArray 130 (0, 0))) (fun _ v64 _ => LN - (intOf v64).toNat)
                case atStart => exact ⟨0, by omega, rfl, ⟨[], rfl, Nat.le_refl _, by rw [List.append_nil]; exact OWN2.out⟩, B2.out, HL.out⟩
                case round =>
                  obtain ⟨j, hj, rfl, ⟨cs, hcs, hcl, hown⟩, hb, hg⟩ := hrel
                  by_cases hjl : j < LN
                  · have hjL : j < L.length := by rw [hLl]; omega
                    obtain ⟨d0, d1, d2, d3, d4⟩ := op_cells hg hjL
                    have zg := blk_lt hg
                    obtain ⟨y, hy⟩ : ∃ y, L[j] = y := ⟨_, rfl⟩
                    rw [hy] at d0 d1 d2 d3 d4
                    obtain ⟨⟨a, c⟩, hE⟩ : ∃ r, encF y.name y.rd y.ra y.rb y.imm = r := ⟨_, rfl⟩
                    have HE := Aside0.mk hE
                    have HY := Aside0.mk hy
                    have j0 : (0 : Int) ≤ (j : Int) := by omega
                    have j1 : (j : Int) < (LN : Int) := by omega
                    have CS := Aside0.mk hcs
                    have G := Aside0.mk hg
                    have OWN3 := Aside0.mk hown
                    have B3 := Aside0.mk hb
                    have ne3 := row_ne hown
                    clear hE hy hcs hg hown hb
                    go_wp2_with fail
                    refine (encode_at HE.out _).mono ?_
                    rintro e w4 ⟨rfl, hb4⟩
                    have B4 := Aside0.mk ((below_alloc B3.out _).trans (hb4.mono (below_alloc B3.out _).size))
                    have OWN4 := Aside0.mk ((OWN3.out.below (below_alloc (Below.refl _ _) _)).below hb4)
                    have G4 := Aside0.mk (blk_below (blk_alloc G.out _) hb4)
                    clear d0 d1 d2 d3 d4 hb4 ne3
                    by_cases hc0 : c = 0
                    · subst hc0
                      have TK := Aside0.mk (encB_take hjL CS.out (by rw [HY.out, HE.out]))
                      rw [HY.out, HE.out] at TK
                      have bz := B4.out.size
                      go_wp2_with (first | (at_builtin; refine wpList_append_own _ rfl (.tmp 75) (.tmp 87) 68 rfl w1.heap.size 5 i0 (.int .u8 0) 1 1 under130 hi hz0 hz1 hz2 rfl (by decide) _ (bs.length + cs.length) _ rfl (OWN4.out.alloc _) ⟨w4.heap.size, 0, none⟩ 4 4 [.int .u8 (a % 256), .int .u8 (a / 256 % 256), .int .u8 (a / 65536 % 256), .int .u8 (a / 16777216 % 256)] rfl rfl (World.news_of_block (cs := #[.int .u8 (a % 256), .int .u8 (a / 256 % 256), .int .u8 (a / 65536 % 256), .int .u8 (a / 16777216 % 256)]) (t := 5) (fr := (0, 0)) (heap_alloc_last w4 _)) four_one (by unfold maxLen; omega) (by omega) (by simp; omega) ?_; intro v' w5 hown' hgrow _; have OWN5 := Aside0.mk (text_row hown'); have G5 := Aside0.mk ((hgrow.block gL (by have := blk_lt G4.out; simp; omega) (row_tag (OWN4.out) G4.out)).trans (blk_alloc G4.out _)); have B5 := Aside0.mk ((below_alloc B4.out _).grown hgrow (by simp; omega) (own_ge OWN4.out)); clear hown' hgrow))
                      go_roundw
                      case rel => exact ⟨j + 1, by omega, by go_num, ⟨cs ++ encB.wordB a, TK.out, by simp [encB.wordB]; omega, OWN5.out⟩, B5.out, G5.out⟩
                      case measure => simp [intOf]; omega
                    · have hT := textL_stop BS.out hlt HX.out (by unfold pieceB; rw [HO.out]; exact encB_none hjL (by rw [HY.out, HE.out]; exact hc0))
                      have HT := Aside0.mk hT
                      clear hT
                      go_wp2
                      exact bodyPost_ret (v := .tuple #[.string ⟨#[]⟩, .int .i64 290]) (by simp [results, Tryz.results42, go_sem]) rfl ⟨by rw [HT.out], ⟨_, M, HA.out.below B4.out⟩, HF.out.trans (Fr.of_below B4.out)⟩
                  · have hjm : j = LN := by omega
                    have hall : encB L = some cs := by rw [← hcs, List.take_of_length_le (by rw [hLl]; omega)]
                    have GO := Aside0.mk (textL_go BS.out hlt HX.out (show pieceB S k x = some cs by unfold pieceB; rw [HO.out]; exact hall))
                    have OWN3 := Aside0.mk hown
                    have B3 := Aside0.mk hb
                    clear hown hb hg hcs hall
                    subst hjm
                    go_wp2
                    go_roundw
                    case rel => exact ⟨k + 1, by omega, by go_num, ⟨bs ++ cs, GO.out, by rw [List.length_append]; omega, by rw [List.length_append]; exact OWN3.out⟩, B3.out⟩
                    case measure => simp [intOf]; omega
    · obtain rfl : k = S.ps.length := by omega
      have hcv := own_string hown rfl
      have HT := Aside0.mk (show textV S = .tuple #[.string (strOf bs), .int .i64 0] by unfold textV; rw [hbs])
      have B := Aside0.mk hb
      clear hown hbs hb hc hz
      go_wp2
      exact bodyPost_ret (v := .tuple #[.string (strOf bs), .int .i64 0]) (by simp [results, Tryz.results42, go_sem]) rfl ⟨by rw [HT.out], ⟨_, M, HA.out.below B.out⟩, HF.out.trans (Fr.of_below B.out)⟩
end Go.Proofs.YtpfcdhjknmijjaaGreat.As

namespace Go.Proofs.YtpfcdhjknmijjaaGreat.As
open Go.RowKit Go.Maps Go.Proofs.YtpfcdhjknmijjaaGreat.Grow Go.Proofs.YtpfcdhjknmijjaaGreat.Rv
open Go.Proofs.YtpfcdhjknmijjaaGreatW.PrintWords Go.Proofs.YtpfcdhjknmijjaaGreatW.PrintLast Go.Proofs.YtpfcdhjknmijjaaGreatW.PrintMore

theorem good_settle {A : AsmS} (h : Good A) : Good (settleF A) := by
  have hl : (settleF A).ps.length = A.ps.length := withL_len _ _
  refine ⟨fun x hx => ?_, fun k t ht => by rw [hl]; exact h.marks k t ht, by rw [hl]; exact h.len⟩
  obtain ⟨i, hi, rfl⟩ := List.mem_iff_getElem.1 hx
  rw [hl] at hi
  have e : (settleF A).ps[i]'(by rw [hl]; exact hi) = { A.ps[i] with long := longF A i } := withL_get hi
  rw [e]
  exact h.labels A.ps[i] (List.getElem_mem hi)
theorem good_push {A : AsmS} (h : Good A) {x : Pc} (hx : I64 x.label) (hl : A.ps.length + 1 < 1000000000) : Good (A.push x) := by
  have e : (A.push x).ps = A.ps ++ [x] := rfl
  refine ⟨fun y hy => ?_, fun k t ht => ?_, ?_⟩
  · rw [e, List.mem_append] at hy
    rcases hy with hy | hy
    · exact h.labels y hy
    · rw [List.mem_singleton.1 hy]; exact hx
  · have := h.marks k t ht
    rw [e, List.length_append]
    simp
    omega
  · rw [e, List.length_append]; exact hl
theorem good_plain (x : OpI) : I64 (plainPc x).label := by show I64 0; unfold I64; omega
theorem good_puts {A : AsmS} (h : Good A) (l : List OpI) (hl : A.ps.length + l.length < 1000000000) : Good (A.puts l) := by
  induction l generalizing A with
  | nil => rw [puts_nil]; exact h
  | cons x l ih =>
    rw [puts_cons]
    rw [List.length_cons] at hl
    refine ih (good_push h (good_plain x) (by omega)) ?_
    have : (A.push (plainPc x)).ps.length = A.ps.length + 1 := by show (A.ps ++ [_]).length = _; rw [List.length_append]; rfl
    omega
theorem good_label {A : AsmS} (h : Good A) (l : Int) : Good { A with labels := l } := ⟨h.labels, h.marks, h.len⟩
theorem good_mark {A : AsmS} (h : Good A) (l : Int) : Good (A.mark l) := by
  refine ⟨h.labels, fun k t ht => ?_, h.len⟩
  unfold AsmS.mark at ht
  simp only at ht
  show 0 ≤ t ∧ t ≤ (A.ps.length : Int)
  split at ht
  · cases ht; omega
  · exact h.marks k t ht
end Go.Proofs.YtpfcdhjknmijjaaGreat.As
end
