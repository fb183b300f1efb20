import Derived.Test.YtciehejifdbpoaaPlX2
import Derived.Test.YtciehejifdbpoaaPlR
import Derived.Test.YtciehejifdbpoaaPlB
import Derived.Test.YtciehejifdbpoaaPlW
import Derived.Test.YtciehejifdbpoaaPlX3
import Derived.Deep.Slices
import Derived.OpenShut
import Derived.WalkArith
section
set_option linter.unusedSimpArgs false
set_option linter.unusedVariables false
namespace Go.Proofs.Ytciehejifdbpoaa.Ap
open Go.RowKit Go.Maps Go.Proofs.Ytciehejifdbpoaa.Grow Go.Proofs.Ytciehejifdbpoaa.Rv Go.Proofs.Ytciehejifdbpoaa.As
open Go.Proofs.YtciehejifdbpoaaW.PrintWords Go.Proofs.YtciehejifdbpoaaW.PrintLast Go.Proofs.YtciehejifdbpoaaW.PrintMore
open Go.Proofs.Ytciehejifdbpoaa.PRvcodeDecodes

theorem refd_at {a : Int} {y : OpI} (h0 : 0 ≤ a) (h1 : a < 4294967296) (h : decF a = (y, 0)) (w : World) : Calls Try.prog 16 #[.int .u32 a] w fun e w' =>
    e = .returned (.tuple #[.agg #[.string y.name, .int .i64 y.rd, .int .i64 y.ra, .int .i64 y.rb, .int .i64 y.imm], .int .i64 0]) ∧ Below w.heap.size w w' := by
  have := burinref26_Decode.calls 20 a _ _ _ _ _ _ w (ref_dec a h0 h1)
  rw [h] at this
  exact this
theorem strOf_go (bs : List Int) : ∀ acc : ByteArray, (bs.foldl (fun r n => r.push (UInt8.ofNat n.toNat)) acc).data.toList = acc.data.toList ++ bs.map fun n => UInt8.ofNat n.toNat := by
  induction bs with
  | nil => intro acc; simp
  | cons b bs ih =>
    intro acc
    rw [List.foldl_cons, ih]
    simp
theorem strOf_data (bs : List Int) : (strOf bs).data.toList = bs.map fun n => UInt8.ofNat n.toNat := by
  have := strOf_go bs ByteArray.empty
  simpa [strOf] using this
theorem strOf_size (bs : List Int) : (strOf bs).size = bs.length := by
  have : (strOf bs).data.toList.length = bs.length := by rw [strOf_data, List.length_map]
  simpa using this
theorem strOf_get {bs : List Int} {i : Nat} (h : i < bs.length) (hb : 0 ≤ bs[i] ∧ bs[i] < 256) : (((strOf bs)[i]'(by rw [strOf_size]; exact h)).toNat : Int) = bs[i] := by
  have hi : i < (strOf bs).data.toList.length := by rw [strOf_data, List.length_map]; exact h
  have e : ((strOf bs)[i]'(by rw [strOf_size]; exact h)) = (strOf bs).data.toList[i] := rfl
  rw [e]
  have : (strOf bs).data.toList[i] = UInt8.ofNat (bs[i]).toNat := by
    have := strOf_data bs
    simp only [this, List.getElem_map]
  rw [this]
  obtain ⟨n, hn⟩ := Int.eq_ofNat_of_zero_le hb.1
  rw [hn]
  rw [Int.toNat_natCast, UInt8.toNat_ofNat']
  omega
theorem encB_len' {l : List OpI} {bs : List Int} (h : encB l = some bs) : bs.length = 4 * l.length := encB_len l bs h
theorem encB_get : ∀ {l : List OpI} {bs : List Int}, encB l = some bs → ∀ {k : Nat} (hk : k < l.length) {j : Nat}, j < 4 → bs[4 * k + j]? = (encB.wordB (encOf l[k]).1)[j]?
  | [], _, _, k, hk, _, _ => by cases hk
  | x :: l, bs, h, k, hk, j, hj => by
    rw [encB_cons] at h
    split at h
    · obtain ⟨cs, hcs, rfl⟩ := Option.map_eq_some_iff.1 h
      have hl : (encB.wordB (encOf x).1).length = 4 := rfl
      cases k with
      | zero => rw [List.getElem?_append_left (by rw [hl]; omega)]; simp
      | succ k =>
        rw [List.getElem?_append_right (by rw [hl]; omega), hl, show 4 * (k + 1) + j - 4 = 4 * k + j by omega]
        exact encB_get hcs (by simpa using hk) hj
    · cases h
theorem encB_each : ∀ {l : List OpI} {bs : List Int}, encB l = some bs → ∀ {k : Nat} (hk : k < l.length), (encOf l[k]).2 = 0
  | [], _, _, k, hk => by cases hk
  | x :: l, bs, h, k, hk => by
    rw [encB_cons] at h
    split at h
    · rename_i hx
      obtain ⟨cs, hcs, rfl⟩ := Option.map_eq_some_iff.1 h
      cases k with
      | zero => exact hx
      | succ k => exact encB_each hcs (by simpa using hk)
    · cases h
/-- The bytes of a word of the text. -/
theorem str_word {l : List OpI} {bs : List Int} (h : encB l = some bs) {k : Nat} (hk : k < l.length) :
    ∃ (a : Int) (h0 : 4 * k < (strOf bs).size) (h1 : 4 * k + 1 < (strOf bs).size) (h2 : 4 * k + 2 < (strOf bs).size) (h3 : 4 * k + 3 < (strOf bs).size),
      ((strOf bs)[4 * k].toNat : Int) = a % 256 ∧ ((strOf bs)[4 * k + 1].toNat : Int) = a / 256 % 256 ∧ ((strOf bs)[4 * k + 2].toNat : Int) = a / 65536 % 256 ∧ ((strOf bs)[4 * k + 3].toNat : Int) = a / 16777216 % 256 ∧
      0 ≤ a ∧ a < 4294967296 ∧ decF a = (l[k], 0) := by
  have hl := encB_len' h
  have he := encB_each h hk
  obtain ⟨a0, a1, a2⟩ := enc_dec l[k].name l[k].rd l[k].ra l[k].rb l[k].imm he
  have q : ∀ j (hj : j < 4), ∃ h' : 4 * k + j < bs.length, bs[4 * k + j] = (encB.wordB (encOf l[k]).1)[j]'(by exact hj) := fun j hj => by
    have h' : 4 * k + j < bs.length := by omega
    have := encB_get h hk hj
    rw [List.getElem?_eq_getElem h', List.getElem?_eq_getElem (by exact hj)] at this
    exact ⟨h', by simpa using this⟩
  have sz := strOf_size bs
  refine ⟨(encOf l[k]).1, by omega, by omega, by omega, by omega, ?_, ?_, ?_, ?_, a0, a1, a2⟩
  · obtain ⟨h', e⟩ := q 0 (by decide)
    have e : bs[4 * k + 0] = (encOf l[k]).1 % 256 := e
    exact (strOf_get (i := 4 * k + 0) h' (by rw [e]; omega)).trans e
  · obtain ⟨h', e⟩ := q 1 (by decide)
    have e : bs[4 * k + 1] = (encOf l[k]).1 / 256 % 256 := e
    exact (strOf_get h' (by rw [e]; omega)).trans e
  · obtain ⟨h', e⟩ := q 2 (by decide)
    have e : bs[4 * k + 2] = (encOf l[k]).1 / 65536 % 256 := e
    exact (strOf_get h' (by rw [e]; omega)).trans e
  · obtain ⟨h', e⟩ := q 3 (by decide)
    have e : bs[4 * k + 3] = (encOf l[k]).1 / 16777216 % 256 := e
    exact (strOf_get h' (by rw [e]; omega)).trans e
end Go.Proofs.Ytciehejifdbpoaa.Ap
end
section
set_option linter.unusedSimpArgs false
set_option linter.unusedVariables false
namespace Go.Proofs.Ytciehejifdbpoaa.Ap
open Go.RowKit Go.Maps Go.Proofs.Ytciehejifdbpoaa.Grow Go.Proofs.Ytciehejifdbpoaa.Rv Go.Proofs.Ytciehejifdbpoaa.As
open Go.Proofs.YtciehejifdbpoaaW.PrintWords Go.Proofs.YtciehejifdbpoaaW.PrintLast Go.Proofs.YtciehejifdbpoaaW.PrintMore

def OpsPost (A : AsmS) (ms : List Int) (w : World) (e : Ending) (w' : World) : Prop :=
  Below w.heap.size w w' ∧ ((opsR A ms (longF A) A.ps.length = none ∧ e = .returned (.tuple #[.slice none 0 0, .int .i64 290])) ∨
    ∃ v l, opsR A ms (longF A) A.ps.length = some l ∧ e = .returned (.tuple #[v, .int .i64 0]) ∧ w'.ownsRow w.heap.size 24 5 v l.length (l.flatMap opCs) ∧ l.length ≤ 2 * A.ps.length)
/-- What a walk of 'Ops' keeps of the world. -/
structure OpsI (w : World) (g N : Nat) (f : Nat → Bool) (cd : Array Value) (wr : World) : Prop where
  below : Below w.heap.size w wr
  code : wr.heap[w.heap.size]? = some (.cells cd 53 (0, 0))
  longs : wr.heap[g]? = some (boolsO N f)
theorem OpsI.next {w wr w' : World} {g N : Nat} {f : Nat → Bool} {cd : Array Value} (h : OpsI w g N f cd wr) (hb : Below wr.heap.size wr w') : OpsI w g N f cd w' :=
  ⟨h.below.trans (hb.mono h.below.size), blk_below h.code hb, blk_below h.longs hb⟩
theorem OpsI.grown {w wr w' : World} {g N n : Nat} {f : Nat → Bool} {cd : Array Value} {v : Value} {xs : List Value} (h : OpsI w g N f cd wr) (hr : wr.ownsRow w.heap.size 24 5 v n xs) (hg : wr.grownBy w' v.ownBlock) : OpsI w g N f cd w' :=
  ⟨grown_below h.below (Nat.le_refl _) hg fun k hk => (row_block hr k hk).1,
   (hg.block _ (blk_lt h.code) (Ne.symm (row_ne hr h.code (by decide)))).trans h.code,
   (hg.block _ (blk_lt h.longs) (Ne.symm (row_ne hr h.longs (by decide)))).trans h.longs⟩
theorem own_next {w wr w' : World} {n : Nat} {v : Value} {xs : List Value} (hr : wr.ownsRow w.heap.size 24 5 v n xs) (hb : Below wr.heap.size wr w') : w'.ownsRow w.heap.size 24 5 v n xs :=
  row_kept hr fun k hk => hb.block k (row_block hr k hk).2.1
theorem OpsI.setAt {w wr : World} {g N k j : Nat} {f : Nat → Bool} {cd : Array Value} {v : Value} (h : OpsI w g N f cd wr) (h1 : w.heap.size < k) (h2 : k ≠ g) : OpsI w g N f cd (wr.setCell ⟨k, j, none⟩ v) :=
  ⟨h.below.setCell (p := ⟨k, j, none⟩) (Nat.le_of_lt h1) v, (heap_setCell_other wr ⟨k, j, none⟩ w.heap.size v (by show w.heap.size ≠ k; omega)).trans h.code, (heap_setCell_other wr ⟨k, j, none⟩ g v (Ne.symm h2)).trans h.longs⟩
theorem own_set {w wr : World} {n k j : Nat} {u v : Value} {xs : List Value} (hr : wr.ownsRow w.heap.size 24 5 u n xs) (h : u.ownBlock ≠ some k) : (wr.setCell ⟨k, j, none⟩ v).ownsRow w.heap.size 24 5 u n xs :=
  row_kept hr fun i hi => heap_setCell_other wr ⟨k, j, none⟩ i v fun e => h (by rw [hi]; exact congrArg some e)
theorem bld_tr (s : ByteArray) (a b : Int) (w : World) : (Instr.build 24 #[(0, .string s), (2, .int .i64 a), (3, .int .i64 b), (4, .int .i64 8)]).run Try.prog w = .ok (.agg #[.string s, .int .i64 0, .int .i64 a, .int .i64 b, .int .i64 8]) w := by kernel_rfl
theorem bld_j (s : ByteArray) (d : Int) (w : World) : (Instr.build 24 #[(0, .string s), (4, .int .i64 d)]).run Try.prog w = .ok (.agg #[.string s, .int .i64 0, .int .i64 0, .int .i64 0, .int .i64 d]) w := by kernel_rfl
def op2C (x y : OpI) : Obj := .cells #[.string x.name, .int .i64 x.rd, .int .i64 x.ra, .int .i64 x.rb, .int .i64 x.imm, .string y.name, .int .i64 y.rd, .int .i64 y.ra, .int .i64 y.rb, .int .i64 y.imm] 24
theorem one_op2 (x y : OpI) : ∀ u ∈ opCs x ++ opCs y, u.oneCell' = true := by
  intro u hu
  rcases List.mem_append.1 hu with h | h
  · exact one_opc x u h
  · exact one_opc y u h
theorem flat_op2 (l : List OpI) (x y : OpI) : l.flatMap opCs ++ (opCs x ++ opCs y) = (l ++ [x, y]).flatMap opCs := by rw [List.flatMap_append]; simp
set_option maxHeartbeats 16000000 in
set_option maxRecDepth 100000 in
theorem Ops_calls {w : World} {b : Nat} {lv mv : Value} {A : AsmS} {ms : List Int} (h : CodeIs w b lv mv A.ps ms) (T : Tie A ms) (hn : A.ps.length < 100000) (hok : ∀ x ∈ A.ps, PcOk x) :
    Calls Try.prog 31 #[.agg #[lv, mv]] w fun e w' => OpsPost A ms w e w' := by
  obtain ⟨o, c2, hmv⟩ := row_slice h.marks
  obtain ⟨o1, c1, hlv⟩ := row_slice h.row
  have H := Aside0.mk h
  have HT := Aside0.mk T
  have HOK := Aside0.mk hok
  clear h T hok
  subst hmv
  subst hlv
  obtain ⟨N, hN⟩ : ∃ N, A.ps.length = N := ⟨_, rfl⟩
  have HN := Aside0.mk hN
  rw [hN] at hn ⊢
  have HI := Aside0.mk (info_parts info24)
  have HLB := Aside0.mk (fun i hi => @longF_sort A i hi)
  go_enter Try.func31, Try.ntmps31
  go_wp2_with fail
  have kA := heap_alloc_last w (.cells #[.slice o1 N c1, .slice o ms.length c2] 53)
  have BW := below_alloc (Below.refl w.heap.size w) (.cells #[.slice o1 N c1, .slice o ms.length c2] 53)
  have LC := Long_calls (H.out.below BW) HT.out (by omega)
  rw [HN.out] at LC
  generalize w.alloc _ = W at *
  refine LC.mono ?_
  clear LC
  rintro e w1 ⟨g, rfl, hg, hgw, hb1⟩
  have I0 := Aside0.mk (show OpsI w g N (longF A) #[.slice o1 N c1, .slice o ms.length c2] w1 from ⟨BW.trans (hb1.mono BW.size), blk_below kA hb1, hg⟩)
  clear kA BW hg hgw hb1
  obtain ⟨f, hf⟩ : ∃ f, longF A = f := ⟨_, rfl⟩
  rw [hf] at I0
  have HF := Aside0.mk hf
  clear hf
  go_wp2_with fail
  go_loopw [5, 6] (fun v5 v6 wr => ∃ i : Nat, i ≤ N ∧ v6 = .int .i64 i ∧ ∃ l, Aside0 (opsR A ms f i = some l ∧ l.length ≤ 2 * i ∧ wr.ownsRow w.heap.size 24 5 v5 l.length (l.flatMap opCs) ∧ OpsI w g N f #[.slice o1 N c1, .slice o ms.length c2] wr)) (fun _ v6 _ => N - (intOf v6).toNat)
  case atStart => exact ⟨0, by omega, rfl, [], ⟨rfl, Nat.le_refl _, ⟨rfl, .inl ⟨rfl, rfl⟩⟩, I0.out⟩⟩
  case round =>
    obtain ⟨i, hi2, rfl, l, hy⟩ := hrel
    obtain ⟨hl, hll, hown, hI⟩ := hy.out
    have q1 := blk_cell hI.code
    have y1 := blk_lt hI.code
    have yg := blk_lt hI.longs
    by_cases hlt : i < N
    · have hip : i < A.ps.length := by rw [HN.out]; exact hlt
      have cg := bools_cell hI.longs hlt
      obtain ⟨gp, cp, e1, -, hgp, hcp⟩ := ref_cells H.out.row (by omega)
      rw [HN.out] at e1
      obtain ⟨rfl, rfl⟩ : o1 = some ⟨gp, 0, none⟩ ∧ c1 = cp := by simpa using e1
      obtain ⟨p0, p1, p2, p3, p4, p5, p6⟩ := hcp i hip
      obtain ⟨x, hx⟩ : ∃ x, A.ps[i] = x := ⟨_, rfl⟩
      have hpk := HOK.out A.ps[i] (List.getElem_mem hip)
      have hlab := HT.out.labs i hip
      rw [hx] at p0 p1 p2 p3 p4 p5 p6 hpk hlab
      have HLAB := Aside0.mk hlab
      have kB := hI.below
      have r0 := (kB.cell (p := ⟨gp, i * 7, none⟩) hgp).trans p0
      have r1 := (kB.cell (p := ⟨gp, i * 7 + 1, none⟩) hgp).trans p1
      have r2 := (kB.cell (p := ⟨gp, i * 7 + 1 + 1, none⟩) hgp).trans p2
      have r3 := (kB.cell (p := ⟨gp, i * 7 + 1 + 2, none⟩) hgp).trans p3
      have r4 := (kB.cell (p := ⟨gp, i * 7 + 1 + 3, none⟩) hgp).trans p4
      have r5 := (kB.cell (p := ⟨gp, i * 7 + 1 + 4, none⟩) hgp).trans p5
      have r6 := (kB.cell (p := ⟨gp, i * 7 + 6, none⟩) hgp).trans p6
      have zgp := Nat.lt_of_lt_of_le hgp kB.size
      have a1 : (i : Int) < (N : Int) := by omega
      have a2 : (0 : Int) ≤ (i : Int) := by omega
      have HX := Aside0.mk hx
      have HP := Aside0.mk hpk
      obtain ⟨Fi, hFi⟩ : ∃ Fi, f i = Fi := ⟨_, rfl⟩
      rw [hFi] at cg
      have HFi := Aside0.mk hFi
      have HS := Aside0.mk (And.intro hl (And.intro hll (And.intro hown hI)))
      clear hx hFi hcp e1 p0 p1 p2 p3 p4 p5 p6 hy hl hll hown hI kB hpk hlab
      obtain ⟨sort, ⟨nm, rd, ra, rb, imm⟩, label, long⟩ := x
      simp only at r0 r1 r2 r3 r4 r5 r6
      have bx := heap_alloc_last wr (.cells #[.string nm, .int .i64 rd, .int .i64 ra, .int .i64 rb, .int .i64 imm] 24)
      by_cases hs0 : sort = 0
      · subst hs0
        have OW1 := Aside0.mk (own_next HS.out.2.2.1 (below_alloc (below_alloc (Below.refl _ _) (opC ⟨nm, rd, ra, rb, imm⟩)) (opC ⟨nm, rd, ra, rb, imm⟩)))
        have I1 := Aside0.mk (HS.out.2.2.2.next (below_alloc (below_alloc (Below.refl _ _) (opC ⟨nm, rd, ra, rb, imm⟩)) (opC ⟨nm, rd, ra, rb, imm⟩)))
        have HR := Aside0.mk (opsR_go HS.out.1 hip HX.out (m := [⟨nm, rd, ra, rb, imm⟩]) (by unfold pieceR; rw [if_pos rfl]))
        go_wp2_with (first | (at_builtin; refine Aside0.out ?_))
        refine Aside0.mk ?_
        obtain ⟨i0, hi, hz0, hz1, hz2⟩ := HI.out
        have hm1 : l.length + 1 ≤ maxLen := by have := HS.out.2.1; unfold maxLen; omega
        have hm2 : (l.length + 1) * 48 ≤ 140737488355328 := by have := HS.out.2.1; omega
        have hm3 : w.heap.size ≤ ((wr.alloc (opC ⟨nm, rd, ra, rb, imm⟩)).alloc (opC ⟨nm, rd, ra, rb, imm⟩)).heap.size := I1.out.below.size
        have NW := World.news_of_block (w := (wr.alloc (opC ⟨nm, rd, ra, rb, imm⟩)).alloc (opC ⟨nm, rd, ra, rb, imm⟩)) (B := wr.heap.size + 1) (cs := #[.string nm, .int .i64 rd, .int .i64 ra, .int .i64 rb, .int .i64 imm]) (t := 24) (fr := (0, 0)) (heap_alloc_at _ _ (by simp))
        refine wpList_append_own _ rfl (.tmp 39) (.tmp 41) 37 rfl w.heap.size 24 i0 _ 5 48 under37 hi hz0 hz1 hz2 rfl (by decide) _ l.length _ rfl OW1.out ⟨wr.heap.size + 1, 0, none⟩ 1 1 (opCs ⟨nm, rd, ra, rb, imm⟩) rfl rfl NW (one_opc _) hm1 hm2 hm3 ?_
        intro v' w6 hown' hgrow _
        rw [flat_op] at hown'
        have I6 := Aside0.mk (I1.out.grown OW1.out hgrow)
        have O6 := Aside0.mk hown'
        clear hown' hgrow hi hz0 hz1 hz2 hm1 hm2 hm3 NW q1 y1 yg cg r0 r1 r2 r3 r4 r5 r6 bx zgp
        go_wp2
        exact ⟨⟨i + 1, by omega, by simp, _, ⟨HR.out, by have := HS.out.2.1; simp; omega, by simpa using O6.out, I6.out⟩⟩, by simp [intOf]; omega⟩
      · have hs0' : (sort == 0) = false := beq_eq_false_iff_ne.2 hs0
        obtain ⟨l0, l1⟩ := HLAB.out hs0
        obtain ⟨L, rfl⟩ := Int.eq_ofNat_of_zero_le l0
        have l1' : L < ms.length := by simpa using l1
        obtain ⟨gm, cm, e2, -, hgm, hcm, -⟩ := row_cells H.out.marks (by omega)
        obtain ⟨rfl, rfl⟩ : o = some ⟨gm, 0, none⟩ ∧ c2 = cm := by simpa using e2
        have cM := (HS.out.2.2.2.below.cell (p := ⟨gm, L, none⟩) hgm).trans ((hcm L (by omega)).trans (ints_get ms L))
        rw [List.getElem?_eq_getElem l1'] at cM
        simp only [Option.map_some] at cM
        obtain ⟨M, hM⟩ : ∃ M, ms[L] = M := ⟨_, rfl⟩
        rw [hM] at cM
        have hgd : ms.getD L 0 = M := by rw [List.getD_eq_getElem?_getD, List.getElem?_eq_getElem l1', Option.getD_some, hM]
        have zgm := Nat.lt_of_lt_of_le hgm HS.out.2.2.2.below.size
        have l1'' : (L : Int) < (ms.length : Int) := by omega
        have HTOP := Aside0.mk (HT.out.top L l1')
        rw [hgd] at HTOP
        have HGD := Aside0.mk hgd
        clear hM hgd hcm e2 l1 l1'
        have I1 := Aside0.mk (HS.out.2.2.2.next (below_alloc (Below.refl _ _) (opC ⟨nm, rd, ra, rb, imm⟩)))
        have O1 := Aside0.mk (own_next HS.out.2.2.1 (below_alloc (Below.refl _ _) (opC ⟨nm, rd, ra, rb, imm⟩)))
        go_wp2_with fail
        go_quiet (fail)
        have BV : ∀ n, Below (wr.alloc (opC ⟨nm, rd, ra, rb, imm⟩)).heap.size (wr.alloc (opC ⟨nm, rd, ra, rb, imm⟩)) ((wr.alloc (opC ⟨nm, rd, ra, rb, imm⟩)).drewN n) := fun n => pw_below_drewN (Below.refl _ _) n
        have IV := fun n => I1.out.next (BV n)
        have OV := fun n => own_next O1.out (BV n)
        have bV := fun n => blk_below bx (BV n)
        have hVs : ∀ n, wr.heap.size < ((wr.alloc (opC ⟨nm, rd, ra, rb, imm⟩)).drewN n).heap.size := fun n => blk_lt (bV n)
        generalize hV : World.drewN (World.alloc wr _) _ = V
        have IV : OpsI w g N f #[.slice (some ⟨gp, 0, none⟩) N c1, .slice (some ⟨gm, 0, none⟩) ms.length c2] V := by rw [← hV]; exact IV _
        have OV := Aside0.mk (show V.ownsRow w.heap.size 24 5 u5 l.length (l.flatMap opCs) by rw [← hV]; exact OV _)
        have bV : V.heap[wr.heap.size]? = some (.cells #[.string nm, .int .i64 rd, .int .i64 ra, .int .i64 rb, .int .i64 imm] 24 (0, 0)) := by rw [← hV]; exact bV _
        clear hV hVs BV I1 O1 bx q1 y1 yg cg r0 r1 r2 r3 r4 r5 r6 cM zgp zgm
        have q1 := blk_cell IV.code
        have y1 := blk_lt IV.code
        have qx := blk_cell bV
        have yx := blk_lt bV
        have cg := bools_cell IV.longs hlt
        rw [HFi.out] at cg
        have yg := blk_lt IV.longs
        obtain ⟨gp', cp', e1, -, hgp', hcp⟩ := ref_cells H.out.row (by omega)
        obtain ⟨rfl, rfl⟩ : gp = gp' ∧ c1 = cp' := by simpa using e1
        have r0 := (IV.below.cell (p := ⟨gp, i * 7, none⟩) hgp').trans (hcp i hip).1
        rw [HX.out] at r0
        have zgp := Nat.lt_of_lt_of_le hgp' IV.below.size
        have IVs := Aside0.mk IV
        have BVs := Aside0.mk bV
        clear hcp e1 hgp' bV IV
        by_cases hM0 : M < 0
        · have HR := Aside0.mk (opsR_stop (A := A) (ms := ms) (f := f) hip HX.out (by unfold pieceR; rw [if_neg (show ¬ sort = 0 from hs0), Int.toNat_natCast, HGD.out, if_pos hM0]))
          go_wp2
          go_ret2
          refine ⟨IVs.out.below, .inl ⟨by rw [HF.out]; exact HR.out, rfl⟩⟩
        · obtain ⟨Mn, rfl⟩ := Int.eq_ofNat_of_zero_le (show 0 ≤ M by omega)
          have hMn : Mn ≤ A.ps.length := by have := HTOP.out; omega
          have hPR : pieceR A ms f i ⟨sort, ⟨nm, rd, ra, rb, imm⟩, (L : Int), long⟩ = some (farR ⟨sort, ⟨nm, rd, ra, rb, imm⟩, (L : Int), long⟩ (f i) (posL A f Mn - posL A f i)) := by
            unfold pieceR
            rw [if_neg (show ¬ sort = 0 from hs0), Int.toNat_natCast, HGD.out, if_neg hM0, Int.toNat_natCast]
          have AT : ∀ w5, Below V.heap.size V w5 → ∀ k, k ≤ A.ps.length → Calls Try.prog 72 #[.agg #[.slice (some ⟨gp, 0, none⟩) N c1, .slice (some ⟨gm, 0, none⟩) ms.length c2], .slice (some ⟨g, 0, none⟩) N N, .int .i64 (k : Int)] w5 fun e w' => e = .returned (.int .i64 (posL A f k)) ∧ Below w5.heap.size w5 w' := fun w5 hB k hk => by
            have hb5 := IVs.out.below.trans (hB.mono IVs.out.below.size)
            have := at_calls (H.out.below hb5) (f := f) (g := g) (by rw [HN.out]; exact blk_below IVs.out.longs hB) (by rw [HN.out]; omega) hk
            rw [HN.out] at this
            exact this
          obtain ⟨P1, hP1⟩ : ∃ P1, posL A f Mn = P1 := ⟨_, rfl⟩
          obtain ⟨P2, hP2⟩ : ∃ P2, posL A f i = P2 := ⟨_, rfl⟩
          have AT1 := fun w5 hB => AT w5 hB Mn hMn
          have AT2 := fun w5 hB => AT w5 hB i (Nat.le_of_lt hip)
          rw [hP1] at AT1 hPR
          rw [hP2] at AT2 hPR
          have HPR := Aside0.mk hPR
          have AT1 := Aside0.mk AT1
          have AT2 := Aside0.mk AT2
          have b1 := posF_b (withL A.ps f) Mn
          have b2 := posF_b (withL A.ps f) i
          rw [show posF (withL A.ps f) Mn = P1 from hP1] at b1
          rw [show posF (withL A.ps f) i = P2 from hP2] at b2
          have hD := Aside0.mk (show wrap64 (P1 - P2) = P1 - P2 ∧ -800000 ≤ P1 - P2 ∧ P1 - P2 ≤ 800000 by rw [HN.out] at hMn; unfold wrap64; omega)
          clear AT hPR b1 b2 hP1 hP2 hMn
          go_wp2_with fail
          refine wp_region_grow2 [55, 56, 57, 58, 59, 60, 61, 62, 63, 9] (fun j v w1 => match j with
            | 0 => v = .agg #[.slice (some ⟨gp, 0, none⟩) N c1, .slice (some ⟨gm, 0, none⟩) ms.length c2]
            | 1 => v = .slice (some ⟨g, 0, none⟩) N N
            | 2 => v = .int .i64 (Mn : Int)
            | 3 => v = .int .i64 P1
            | 4 => v = .agg #[.slice (some ⟨gp, 0, none⟩) N c1, .slice (some ⟨gm, 0, none⟩) ms.length c2]
            | 5 => v = .slice (some ⟨g, 0, none⟩) N N
            | 6 => v = .int .i64 (i : Int)
            | 7 => v = .int .i64 P2
            | 8 => v = .int .i64 (wrap64 (P1 - P2))
            | 9 => v = .int .i64 (wrap64 (P1 - P2))
            | _ => True) (by kernel_rfl) (by kernel_rfl) ?_ ?_ ?_
          · intro j v w1 w2 hv hb
            rcases j with _ | _ | _ | _ | _ | _ | _ | _ | _ | _ | j <;> first | exact hv | trivial
          · refine ⟨?_, ?_, ?_, ?_, ?_, ?_, ?_, ?_, ?_, ?_, trivial⟩
            all_goals
              intro a w5 hB5 hoth hdep
              have p0 := blk_cell (blk_below IVs.out.code hB5)
              have z0 := blk_lt (blk_below IVs.out.code hB5)
              have h1 := hoth 1 (by decide)
              have h4 := hoth 4 (by decide)
              have h6 := hoth 6 (by decide)
              have h8 := hoth 8 (by decide)
              clear hoth
              simp [bd1, bd2, bd3, bd5] at hdep h1 h4 h6 h8
              simp only [StepTo, Oper.grows]
              go_simp
              all_goals first
                | exact Below.refl _ _
                | exact ⟨Below.refl _ _, AT1.out w5 hB5⟩
                | exact ⟨Below.refl _ _, AT2.out w5 hB5⟩
                | exact ⟨Below.refl _ _, wrap_eq _⟩
                | exact ⟨Below.refl _ _, hdep⟩
          · intro v w5 hB5 hv
            have q9 : v 9 = _ := hv 9 (by decide)
            simp only [fillF, q9, Act.put, List.setIfInBounds_toArray, List.set_cons_zero, List.set_cons_succ, List.length_cons, List.length_nil, Nat.reduceAdd, List.drop_succ_cons, List.drop_zero]
            clear hv
            obtain ⟨hD1, hD2, hD3⟩ := hD.out
            rw [hD1]
            have HPR := HPR
            obtain ⟨D, hDD⟩ : ∃ D, P1 - P2 = D := ⟨_, rfl⟩
            rw [hDD] at hD2 hD3 HPR ⊢
            have bX := blk_below BVs.out hB5
            have I5 := IVs.out.next hB5
            have O5 := Aside0.mk (own_next OV.out hB5)
            have r0 := (hB5.cell (p := ⟨gp, i * 7, none⟩) zgp).trans r0
            have zgp := Nat.lt_of_lt_of_le zgp hB5.size
            clear q1 y1 qx yx cg yg AT1 AT2 q9 hD1 hDD hB5
            have q1 := blk_cell I5.code
            have y1 := blk_lt I5.code
            have qx := blk_cell bX
            have yx := blk_lt bX
            have cg := bools_cell I5.longs hlt
            rw [HFi.out] at cg
            have yg := blk_lt I5.longs
            have fx := fun o => frozen_of_row w5 wr.heap.size o _ 24 bX
            have I5s := Aside0.mk I5
            have BX := Aside0.mk bX
            clear I5 bX
            obtain ⟨i0, hi, hz0, hz1, hz2⟩ := HI.out
            have HZ := Aside0.mk (And.intro hi (And.intro hz0 (And.intro hz1 hz2)))
            clear hi hz0 hz1 hz2
            by_cases hs3 : sort = 3
            · subst hs3
              have HR := Aside0.mk (opsR_go HS.out.1 hip HX.out (m := [⟨nAu, rd, 0, 0, (D + 2048) / 4096⟩, ⟨nAd, rd, rd, 0, D - (D + 2048) / 4096 * 4096⟩]) (by rw [HPR.out]; unfold farR; rw [if_pos rfl]))
              have e1 : wrap64 (D + 2048) = D + 2048 := by unfold wrap64; omega
              have e2 : wrap64 ((D + 2048) / 4096 * 4096) = (D + 2048) / 4096 * 4096 := by unfold wrap64; omega
              have e3 : wrap64 (D - (D + 2048) / 4096 * 4096) = D - (D + 2048) / 4096 * 4096 := by unfold wrap64; omega
              have bb5 := fun x w => bld_a ⟨#[97, 117, 105, 112, 99]⟩ rd x w
              have bb6 := fun x w => bld_ad ⟨#[97, 100, 100, 105]⟩ rd rd x w
              unfold OpI.val at bb5 bb6
              go_wp2_with (first | (at_builtin; refine Aside0.out ?_))
              refine Aside0.mk ?_
              have OW := Aside0.mk (own_next O5.out (below_alloc (Below.refl _ _) (op2C ⟨nAu, rd, 0, 0, (D + 2048) / 4096⟩ ⟨nAd, rd, rd, 0, D - (D + 2048) / 4096 * 4096⟩)))
              have I6 := Aside0.mk (I5s.out.next (below_alloc (Below.refl _ _) (op2C ⟨nAu, rd, 0, 0, (D + 2048) / 4096⟩ ⟨nAd, rd, rd, 0, D - (D + 2048) / 4096 * 4096⟩)))
              have hm1 : l.length + 2 ≤ maxLen := by have := HS.out.2.1; unfold maxLen; omega
              have hm2 : (l.length + 2) * 48 ≤ 140737488355328 := by have := HS.out.2.1; omega
              have hm3 : w.heap.size ≤ (w5.alloc (op2C ⟨nAu, rd, 0, 0, (D + 2048) / 4096⟩ ⟨nAd, rd, rd, 0, D - (D + 2048) / 4096 * 4096⟩)).heap.size := I6.out.below.size
              have NW := World.news_of_block (w := w5.alloc (op2C ⟨nAu, rd, 0, 0, (D + 2048) / 4096⟩ ⟨nAd, rd, rd, 0, D - (D + 2048) / 4096 * 4096⟩)) (B := w5.heap.size) (cs := (opCs ⟨nAu, rd, 0, 0, (D + 2048) / 4096⟩ ++ opCs ⟨nAd, rd, rd, 0, D - (D + 2048) / 4096 * 4096⟩).toArray) (t := 24) (fr := (0, 0)) (heap_alloc_last _ _)
              refine wpList_append_own _ rfl (.tmp 81) (.tmp 95) 37 rfl w.heap.size 24 i0 _ 5 48 under37 HZ.out.1 HZ.out.2.1 HZ.out.2.2.1 HZ.out.2.2.2 rfl (by decide) _ l.length _ rfl OW.out ⟨w5.heap.size, 0, none⟩ 2 2 (opCs ⟨nAu, rd, 0, 0, (D + 2048) / 4096⟩ ++ opCs ⟨nAd, rd, rd, 0, D - (D + 2048) / 4096 * 4096⟩) rfl rfl NW (one_op2 _ _) hm1 hm2 hm3 ?_
              intro v' w7 hown' hgrow _
              rw [flat_op2] at hown'
              have I7 := Aside0.mk (I6.out.grown OW.out hgrow)
              have O7 := Aside0.mk (show w7.ownsRow w.heap.size 24 5 v' (l ++ ([⟨nAu, rd, 0, 0, (D + 2048) / 4096⟩, ⟨nAd, rd, rd, 0, D - (D + 2048) / 4096 * 4096⟩] : List OpI)).length ((l ++ ([⟨nAu, rd, 0, 0, (D + 2048) / 4096⟩, ⟨nAd, rd, rd, 0, D - (D + 2048) / 4096 * 4096⟩] : List OpI)).flatMap opCs) by rw [List.length_append]; exact hown')
              clear hown' hgrow hm1 hm2 hm3 NW q1 y1 yg cg r0 qx yx zgp
              go_wp2
              exact ⟨⟨i + 1, by omega, by simp, _, ⟨HR.out, by have := HS.out.2.1; rw [List.length_append]; simp only [List.length_cons, List.length_nil]; omega, O7.out, I7.out⟩⟩, by simp [intOf]; omega⟩
            · have hs3' : (sort == 3) = false := beq_eq_false_iff_ne.2 hs3
              have hd1 : ¬ D < -1048576 := by omega
              have hd2 : ¬ 1048574 < D := by omega
              have hd3 : ¬ D - 4 < -1048576 := by omega
              have hd4 : ¬ 1048574 < D - 4 := by omega
              have e4 : wrap64 (D - 4) = D - 4 := by unfold wrap64; omega
              have hs12 : sort = 1 ∨ sort = 2 := by
                rcases HP.out.kind with k | k | k | k
                · exact absurd k.1 hs0
                · exact .inl k.1
                · exact .inr k.1
                · exact absurd k.1 hs3
              have hF1 : Fi = true → sort = 1 := fun h => by
                have := HLB.out i hip (by rw [HF.out, HFi.out, h])
                rw [HX.out] at this
                exact this
              cases Fi
              · have HR := Aside0.mk (opsR_go HS.out.1 hip HX.out (m := [⟨nm, rd, ra, rb, D⟩]) (by rw [HPR.out, HFi.out]; unfold farR; rw [if_neg hs3, if_neg (by decide)]))
                rcases hs12 with rfl | rfl
                all_goals
                  clear hF1
                  go_wp2_with (first | (at_builtin; refine Aside0.out ?_))
                all_goals
                  refine Aside0.mk ?_
                  have OW := Aside0.mk (own_next (own_set (k := wr.heap.size) (j := 4) (v := .int .i64 D) O5.out (fun e => Nat.lt_irrefl _ (row_block HS.out.2.2.1 _ e).2.1)) (below_alloc (Below.refl _ _) (opC ⟨nm, rd, ra, rb, D⟩)))
                  have I6 := Aside0.mk ((I5s.out.setAt (k := wr.heap.size) (j := 4) (v := .int .i64 D) (blk_lt HS.out.2.2.2.code) (fun e => by have := blk_lt HS.out.2.2.2.longs; omega)).next (below_alloc (Below.refl _ _) (opC ⟨nm, rd, ra, rb, D⟩)))
                  have hm1 : l.length + 1 ≤ maxLen := by have := HS.out.2.1; unfold maxLen; omega
                  have hm2 : (l.length + 1) * 48 ≤ 140737488355328 := by have := HS.out.2.1; omega
                  have hm3 : w.heap.size ≤ ((w5.setCell ⟨wr.heap.size, 4, none⟩ (.int .i64 D)).alloc (opC ⟨nm, rd, ra, rb, D⟩)).heap.size := I6.out.below.size
                  have NW := World.news_of_block (w := (w5.setCell ⟨wr.heap.size, 4, none⟩ (.int .i64 D)).alloc (opC ⟨nm, rd, ra, rb, D⟩)) (B := w5.heap.size) (cs := (opCs ⟨nm, rd, ra, rb, D⟩).toArray) (t := 24) (fr := (0, 0)) (heap_alloc_at _ _ (by simp))
                  refine wpList_append_own _ rfl (.tmp 66) (.tmp 68) 37 rfl w.heap.size 24 i0 _ 5 48 under37 HZ.out.1 HZ.out.2.1 HZ.out.2.2.1 HZ.out.2.2.2 rfl (by decide) _ l.length _ rfl OW.out ⟨w5.heap.size, 0, none⟩ 1 1 (opCs ⟨nm, rd, ra, rb, D⟩) rfl rfl NW (one_opc _) hm1 hm2 hm3 ?_
                  intro v' w7 hown' hgrow _
                  rw [flat_op] at hown'
                  have I7 := Aside0.mk (I6.out.grown OW.out hgrow)
                  have O7 := Aside0.mk (show w7.ownsRow w.heap.size 24 5 v' (l ++ ([⟨nm, rd, ra, rb, D⟩] : List OpI)).length ((l ++ ([⟨nm, rd, ra, rb, D⟩] : List OpI)).flatMap opCs) by rw [List.length_append]; exact hown')
                  clear hown' hgrow hm1 hm2 hm3 NW q1 y1 yg cg r0 qx yx zgp
                  go_wp2
                  exact ⟨⟨i + 1, by omega, by simp, _, ⟨HR.out, by have := HS.out.2.1; rw [List.length_append]; simp only [List.length_cons, List.length_nil]; omega, O7.out, I7.out⟩⟩, by simp [intOf]; omega⟩
              · obtain rfl := hF1 rfl
                have HR := Aside0.mk (opsR_go HS.out.1 hip HX.out (m := [⟨turnF nm, 0, ra, rb, 8⟩, ⟨nJ, 0, 0, 0, D - 4⟩]) (by rw [HPR.out, HFi.out]; unfold farR; rw [if_neg hs3, if_pos rfl]))
                clear hF1 hs12
                have bb7 : ∀ w, (Instr.build 24 #[(0, .string (turnF nm)), (2, .int .i64 ra), (3, .int .i64 rb), (4, .int .i64 8)]).run Try.prog w = .ok (.agg #[.string (turnF nm), .int .i64 0, .int .i64 ra, .int .i64 rb, .int .i64 8]) w := fun w => bld_tr (turnF nm) ra rb w
                have bb8 : ∀ w, (Instr.build 24 #[(0, .string ⟨#[106, 97, 108]⟩), (4, .int .i64 (D - 4))]).run Try.prog w = .ok (.agg #[.string ⟨#[106, 97, 108]⟩, .int .i64 0, .int .i64 0, .int .i64 0, .int .i64 (D - 4)]) w := fun w => bld_j _ (D - 4) w
                go_wp2_with fail
                refine wp_region_grow2 [134, 135, 136, 137, 138, 139, 140, 141, 142, 143, 144, 145, 146] (fun j v w1 => match j with
                  | 0 => v = u5
                  | 1 => v = .pointer (some ⟨wr.heap.size, 0, none⟩)
                  | 2 => v = .string nm
                  | 3 => v = .string (turnF nm)
                  | 4 => v = .pointer (some ⟨wr.heap.size, 2, none⟩)
                  | 5 => v = .int .i64 ra
                  | 6 => v = .pointer (some ⟨wr.heap.size, 3, none⟩)
                  | 7 => v = .int .i64 rb
                  | 8 => v = .agg #[.string (turnF nm), .int .i64 0, .int .i64 ra, .int .i64 rb, .int .i64 8]
                  | 9 => v = .int .i64 D
                  | 10 => v = .int .i64 (D - 4)
                  | 11 => v = .agg #[.string ⟨#[106, 97, 108]⟩, .int .i64 0, .int .i64 0, .int .i64 0, .int .i64 (D - 4)]
                  | 12 => ∃ k, v = .slice (some ⟨k, 0, none⟩) 2 2 ∧ w1.heap[k]? = some (op2C ⟨turnF nm, 0, ra, rb, 8⟩ ⟨nJ, 0, 0, 0, D - 4⟩)
                  | _ => True) (by kernel_rfl) (by kernel_rfl) ?_ ?_ ?_
                · intro j v w1 w2 hv hb
                  rcases j with _ | _ | _ | _ | _ | _ | _ | _ | _ | _ | _ | _ | _ | j <;> first | exact hv | trivial | (obtain ⟨k, rfl, hk⟩ := hv; exact ⟨k, rfl, blk_below hk hb⟩)
                · refine ⟨?_, ?_, ?_, ?_, ?_, ?_, ?_, ?_, ?_, ?_, ?_, ?_, ?_, trivial⟩
                  all_goals
                    intro a w6 hB6 hoth hdep
                    have px := blk_cell (blk_below BX.out hB6)
                    have zx := blk_lt (blk_below BX.out hB6)
                    have h5 := hoth 5 (by decide)
                    have h7 := hoth 7 (by decide)
                    have h9 := hoth 9 (by decide)
                    have e5 : IntKind.i64.wrap (D - 4) = D - 4 := (wrap_eq _).trans e4
                    clear hoth qx yx q1 y1 yg cg r0 zgp fx
                    simp [bd1, bd2, bd3, bd5] at hdep h5 h7 h9
                    simp only [StepTo, Oper.grows]
                    go_simp
                    all_goals first
                      | exact Below.refl _ _
                      | exact ⟨Below.refl _ _, rfl⟩
                      | exact ⟨Below.refl _ _, e5⟩
                      | exact ⟨Below.refl _ _, hdep⟩
                      | exact ⟨Below.refl _ _, Turned_calls nm _⟩
                      | exact ⟨below_alloc (Below.refl _ _) _, (Array.getElem?_eq_some_iff.1 (heap_alloc_last _ _)).2⟩
                · intro v w6 hB6 hv
                  have q0 : v 0 = _ := hv 0 (by decide)
                  obtain ⟨k, q12, hk12⟩ := hv 12 (by decide)
                  simp only [fillF, q0, q12, Act.put, List.setIfInBounds_toArray, List.set_cons_zero, List.set_cons_succ, List.length_cons, List.length_nil, Nat.reduceAdd, List.drop_succ_cons, List.drop_zero]
                  clear hv
                  have OW := Aside0.mk (own_next O5.out hB6)
                  have I6 := Aside0.mk (I5s.out.next hB6)
                  have hm1 : l.length + 2 ≤ maxLen := by have := HS.out.2.1; unfold maxLen; omega
                  have hm2 : (l.length + 2) * 48 ≤ 140737488355328 := by have := HS.out.2.1; omega
                  have hm3 : w.heap.size ≤ w6.heap.size := I6.out.below.size
                  have NW := World.news_of_block (w := w6) (B := k) (cs := (opCs ⟨turnF nm, 0, ra, rb, 8⟩ ++ opCs ⟨nJ, 0, 0, 0, D - 4⟩).toArray) (t := 24) (fr := (0, 0)) hk12
                  clear hB6 q0 q12 hk12
                  go_wp2_with (first | (at_builtin; refine Aside0.out ?_))
                  refine Aside0.mk ?_
                  refine wpList_append_own _ rfl (.tmp 134) (.tmp 146) 37 rfl w.heap.size 24 i0 _ 5 48 under37 HZ.out.1 HZ.out.2.1 HZ.out.2.2.1 HZ.out.2.2.2 rfl (by decide) _ l.length _ rfl OW.out ⟨k, 0, none⟩ 2 2 (opCs ⟨turnF nm, 0, ra, rb, 8⟩ ++ opCs ⟨nJ, 0, 0, 0, D - 4⟩) rfl rfl NW (one_op2 _ _) hm1 hm2 hm3 ?_
                  intro v' w7 hown' hgrow _
                  rw [flat_op2] at hown'
                  have I7 := Aside0.mk (I6.out.grown OW.out hgrow)
                  have O7 := Aside0.mk (show w7.ownsRow w.heap.size 24 5 v' (l ++ ([⟨turnF nm, 0, ra, rb, 8⟩, ⟨nJ, 0, 0, 0, D - 4⟩] : List OpI)).length ((l ++ ([⟨turnF nm, 0, ra, rb, 8⟩, ⟨nJ, 0, 0, 0, D - 4⟩] : List OpI)).flatMap opCs) by rw [List.length_append]; exact hown')
                  clear hown' hgrow hm1 hm2 hm3 NW q1 y1 yg cg r0 qx yx zgp fx
                  go_wp2
                  exact ⟨⟨i + 1, by omega, by simp, _, ⟨HR.out, by have := HS.out.2.1; rw [List.length_append]; simp only [List.length_cons, List.length_nil]; omega, O7.out, I7.out⟩⟩, by simp [intOf]; omega⟩
    · obtain rfl : i = N := by omega
      have HS := Aside0.mk (And.intro hl (And.intro hll (And.intro hown hI)))
      clear hl hll hown hI hy
      have a1 : ¬ (i : Int) < (i : Int) := by omega
      go_wp2
      go_ret2
      refine ⟨(HS.out.2.2.2).below, .inr ⟨u5, l, by rw [HF.out, HN.out]; exact HS.out.1, rfl, HS.out.2.2.1, by rw [HN.out]; exact HS.out.2.1⟩⟩
end Go.Proofs.Ytciehejifdbpoaa.Ap
end
section
set_option linter.unusedSimpArgs false
set_option linter.unusedVariables false
namespace Go.Proofs.Ytciehejifdbpoaa.Grow
open Go.RowKit Go.Proofs.YtciehejifdbpoaaW.PrintLast

/-! ### A region that draws its order, all of whose operations are shown once, out of what each waits for; some may write -/
def fillM (v : Nat → Value) (b : Nat → Bool) : Nat → List (Option Tmp) → Act → Act
  | _, [], a => a
  | k, d :: ds, a => fillM v b (k + 1) ds (if b k = true then a.put d (v k) else a)
theorem put_some_comm (a : Act) {d e : Option Tmp} (x y : Value) (h : ∀ t, d = some t → e ≠ some t) : (a.put d x).put e y = (a.put e y).put d x := Act.put_comm a x y h
theorem fillM_congr {v v' : Nat → Value} {b b' : Nat → Bool} : ∀ (dl : List (Option Tmp)) (k : Nat) (a : Act), (∀ j, k ≤ j → v j = v' j ∧ b j = b' j) → fillM v b k dl a = fillM v' b' k dl a
  | [], _, _, _ => rfl
  | d :: ds, k, a, h => by
    simp only [fillM]
    rw [(h k (Nat.le_refl _)).1, (h k (Nat.le_refl _)).2]
    exact fillM_congr ds (k + 1) _ fun j hj => h j (by omega)
theorem fillM_put {v : Nat → Value} {b : Nat → Bool} {e : Option Tmp} {y : Value} : ∀ (dl : List (Option Tmp)) (k : Nat) (a : Act), (∀ t, e = some t → some t ∉ dl) → (fillM v b k dl a).put e y = fillM v b k dl (a.put e y)
  | [], _, _, _ => rfl
  | d :: ds, k, a, h => by
    simp only [fillM]
    rw [fillM_put ds (k + 1) _ fun t ht hm => h t ht (List.mem_cons_of_mem _ hm)]
    split
    · rw [put_some_comm a (d := d) (e := e) _ _ fun t ht he => h t he (by rw [← ht]; exact List.mem_cons_self ..)]
    · rfl
theorem fillM_up {v : Nat → Value} {b : Nat → Bool} {x : Value} : ∀ (dl : List (Option Tmp)) (k j : Nat) (d : Option Tmp) (a : Act), (dl.filterMap id).Nodup → dl[j]? = some d → b (k + j) = false →
    (fillM v b k dl a).put d x = fillM (upd v (k + j) x) (up b (k + j)) k dl a
  | [], _, _, _, _, _, h, _ => by simp at h
  | e :: ds, k, 0, d, a, hn, h, hb => by
    obtain rfl : e = d := by simpa using h
    rw [Nat.add_zero] at hb ⊢
    have hnm : ∀ t, e = some t → some t ∉ ds := fun t ht hm => by
      subst ht
      simp only [List.filterMap_cons, id, List.nodup_cons] at hn
      exact hn.1 (List.mem_filterMap.2 ⟨_, hm, rfl⟩)
    simp only [fillM]
    rw [fillM_put ds (k + 1) _ hnm, if_neg (by rw [hb]; decide), if_pos (up_self b k), show upd v k x k = x by simp [upd]]
    exact fillM_congr ds (k + 1) _ fun j hj => ⟨by simp only [upd]; rw [if_neg (by omega)], (up_ne (by omega)).symm⟩
  | e :: ds, k, j + 1, d, a, hn, h, hb => by
    have hn' : (ds.filterMap id).Nodup := by
      cases e with
      | none => simpa using hn
      | some t => simp only [List.filterMap_cons, id, List.nodup_cons] at hn; exact hn.2
    simp only [fillM]
    rw [fillM_up ds (k + 1) j d _ hn' (by simpa using h) (by rw [show k + 1 + j = k + (j + 1) by omega]; exact hb), show k + 1 + j = k + (j + 1) by omega,
      up_ne (show k ≠ k + (j + 1) by omega), show upd v (k + (j + 1)) x k = v k by simp [upd]]
theorem fillM_other {v : Nat → Value} {b : Nat → Bool} {t : Tmp} : ∀ (dl : List (Option Tmp)) (k : Nat) (a : Act), some t ∉ dl → (fillM v b k dl a).tmps.getD t undef = a.tmps.getD t undef
  | [], _, _, _ => rfl
  | d :: ds, k, a, h => by
    simp only [fillM]
    rw [fillM_other ds _ _ fun hm => h (List.mem_cons_of_mem _ hm)]
    split
    · cases d with
      | none => rfl
      | some d => exact getD_put_ne _ _ _ _ fun he => h (by rw [he]; exact List.mem_cons_self ..)
    · rfl
theorem fillM_slot {v : Nat → Value} {b : Nat → Bool} : ∀ (dl : List (Option Tmp)) (k j : Nat) (t : Tmp) (a : Act), (dl.filterMap id).Nodup → dl[j]? = some (some t) → b (k + j) = true → t < a.tmps.size → (fillM v b k dl a).tmps.getD t undef = v (k + j)
  | [], _, _, _, _, _, h, _, _ => by simp at h
  | e :: ds, k, 0, t, a, hn, h, hb, hs => by
    obtain rfl : e = some t := by simpa using h
    rw [Nat.add_zero] at hb ⊢
    simp only [List.filterMap_cons, id, List.nodup_cons] at hn
    simp only [fillM]
    rw [fillM_other ds _ _ fun hm => hn.1 (List.mem_filterMap.2 ⟨_, hm, rfl⟩), if_pos hb, getD_put_eq _ _ _ hs]
  | e :: ds, k, j + 1, t, a, hn, h, hb, hs => by
    have hn' : (ds.filterMap id).Nodup := by
      cases e with
      | none => simpa using hn
      | some t => simp only [List.filterMap_cons, id, List.nodup_cons] at hn; exact hn.2
    simp only [fillM]
    rw [show k + (j + 1) = k + 1 + j by omega] at hb ⊢
    refine fillM_slot ds (k + 1) j t _ hn' (by simpa using h) hb ?_
    split
    · cases e with
      | none => exact hs
      | some e => rw [size_put]; exact hs
    · exact hs
theorem fillM_all {v : Nat → Value} {b : Nat → Bool} {n : Nat} : ∀ (dl : List (Option Tmp)) (k : Nat) (a : Act), k + dl.length ≤ n → (∀ j, j < n → b j = true) → fillM v b k dl a = fillM v (fun _ => true) k dl a
  | [], _, _, _, _ => rfl
  | d :: ds, k, a, hn, h => by
    simp only [fillM, List.length_cons] at hn ⊢
    rw [if_pos (h k (by omega)), if_true]
    exact fillM_all ds (k + 1) _ (by omega) h
/-- What an operation does to the world and yields. -/
def Oper.moves (P : Program) (o : Oper) (a : Act) (w : World) (R : Value → World → Prop) : Prop :=
  match (execOp a.eval o).run P w with
  | .ok (.value v) w' => R v w'
  | .ok .skip w' => R undef w'
  | .ok (.enter f args) w' => Calls P f args w' (fun e w'' => ∃ v, e = .returned v ∧ R v w'')
  | _ => False
theorem wp_of_moves {P : Program} {o : Oper} {a : Act} {w : World} {R : Value → World → Prop} {K : Act → World → Prop} {Q : Exit → Act → World → Prop} (h : Oper.moves P o a w R) (hk : ∀ v w', R v w' → K (a.put o.dst v) w') : Oper.wp P o a w K Q := by
  unfold Oper.moves at h
  unfold Oper.wp
  generalize (execOp a.eval o).run P w = r at *
  cases r with
  | halt x w' => exact h.elim
  | ok n w' =>
    cases n <;> simp only [] at h <;> try exact h.elim
    case value u => simp only [Oper.upon]; exact hk u w' h
    case skip => simp only [Oper.upon]; exact hk undef w' h
    case enter g args =>
      simp only [Oper.upon]
      refine h.mono fun e w'' ⟨u, he, hu⟩ => ?_
      subst he
      exact hk u w'' hu
theorem moves_of_grows {P : Program} {o : Oper} {a : Act} {w w0 : World} {V : Nat → (Nat → Value) → World → Prop} {R : Value → World → Prop} (hV : ∀ j v w w', V j v w → Below w.heap.size w w' → V j v w') (hb : Below w0.heap.size w0 w) (h : Oper.grows P o a w R) :
    Oper.moves P o a w fun u w' => R u w' ∧ Below w0.heap.size w0 w' ∧ ∀ j x, V j x w → V j x w' := by
  unfold Oper.grows at h
  unfold Oper.moves
  generalize (execOp a.eval o).run P w = r at *
  cases r with
  | halt x w' => exact h.elim
  | ok n w' =>
    cases n <;> simp only [] at h ⊢ <;> try exact h.elim
    case value u => exact ⟨h.2, hb.trans (h.1.mono hb.size), fun j x hx => hV _ _ _ _ hx h.1⟩
    case enter g args =>
      refine h.2.mono fun e w'' ⟨u, he, hbe, hu⟩ => ⟨u, he, hu, ?_⟩
      have hb2 : Below w.heap.size w w'' := h.1.trans (hbe.mono h.1.size)
      exact ⟨hb.trans (hb2.mono hb.size), fun j x hx => hV _ _ _ _ hx hb2⟩
def mixB (ops : Array Oper) (dl : List (Option Tmp)) (size : Nat) : Bool :=
  decide (dl.length = ops.size) && ((List.range ops.size).all fun i => ((ops[i]?).map fun o => decide (dl[i]? = some o.dst) && o.guard.isNone).getD false) && decide (dl.filterMap id).Nodup && dl.all fun d => d.all (decide <| · < size)
theorem wp_region_mix {P : Program} {Q : Exit → Act → World → Prop} {id : Nat} {a0 : Act} {w0 : World} {ops : Array Oper} {T : Bool × List (List Nat × List Nat)} {B : List Nat} (dl : List (Option Tmp)) (V : Nat → (Nat → Value) → World → Prop) (hm : P.follows .mixedOrders = true)
    (hT : rtab .any ops = T) (hw : waitsOk T.2 B = true) (hk : baseOk T.2 (List.range dl.length) = true) (hB : mixB ops dl a0.tmps.size = true)
    (hV : ∀ j v w w', V j v w → Below w.heap.size w w' → V j v w')
    (hloc : ∀ j i v u w, j < dl.length → i ≠ j → (B.getD j 0).testBit i = false → V j v w → V j (upd v i u) w)
    (hstep : ∀ i (hi : i < dl.length) o, ops[i]? = some o → ∀ (a : Act) (w : World) (v : Nat → Value), Below w0.heap.size w0 w → (∀ t, some t ∉ dl → a.tmps.getD t undef = a0.tmps.getD t undef) →
      (∀ j, (B.getD i 0).testBit j = true → j < dl.length → V j v w ∧ ∀ t, dl[j]? = some (some t) → a.tmps.getD t undef = v j) →
      Oper.grows P o a w (fun u w' => V i (upd v i u) w') ∨ Oper.moves P o a w fun u w' => V i (upd v i u) w' ∧ Below w0.heap.size w0 w' ∧ ∀ j x, V j x w → V j x w')
    (hend : ∀ (v : Nat → Value) (w : World), Below w0.heap.size w0 w → (∀ j, j < dl.length → V j v w) → Q .normal (fillM v (fun _ => true) 0 dl a0) w) :
    (Code.region id ops true).wp P Q a0 w0 := by
  simp only [mixB, Bool.and_eq_true, decide_eq_true_eq] at hB
  obtain ⟨⟨⟨hlen, hdst⟩, hnd⟩, hsz⟩ := hB
  have hTl : T.2.length = ops.size := by rw [← hT]; exact rtab_length
  have hcon : ∀ j, (List.range dl.length).contains j = true ↔ j < dl.length := fun j => by rw [List.contains_iff_mem]; exact List.mem_range
  refine start_ (n := dl.length) (S := fun _ => True) (ds := []) (Array.replicate dl.length false) hm hlen.symm rfl trivial (fun _ => ?_)
  refine inv_ (T := T) (B := B) (List.range dl.length) (fun b a w => Below w0.heap.size w0 w ∧ ∃ v : Nat → Value, (∀ j, j < dl.length → b j = true → V j v w ∧ ∀ i, (B.getD j 0).testBit i = true → i < dl.length → b i = true) ∧ a = fillM v b 0 dl a0) hT hw hk ?_ ?_ ?_ ?_
  · rw [hTl, ← hlen, Bool.and_eq_true, beq_iff_eq, beq_iff_eq]
    refine ⟨?_, List.length_range⟩
    apply List.ext_getElem
    · simp [lof]
    · intro j h1 h2
      have : j < dl.length := by simpa using h2
      simp [lof, this]
  · refine ⟨⟨rfl, rfl, rfl, Nat.le_refl _, fun _ _ => rfl⟩, fun _ => undef, (fun j _ h => by cases h), ?_⟩
    have : ∀ (l : List (Option Tmp)) k a, fillM (fun _ => undef) (fun _ => false) k l a = a := by
      intro l
      induction l with
      | nil => intro k a; rfl
      | cons d ds ih => intro k a; simp only [fillM]; rw [if_neg (by decide)]; exact ih _ _
    exact (this _ _ _).symm
  · intro i hi
    have hi : i < dl.length := List.mem_range.1 hi
    intro b a w hI hbi hwait _
    obtain ⟨hb, v, hv, rfl⟩ := hI
    obtain ⟨o, ho⟩ : ∃ o, ops[i]? = some o := ⟨ops[i]'(by omega), by simp⟩
    have h1 := List.all_eq_true.1 hdst i (List.mem_range.2 (by omega))
    rw [ho] at h1
    simp only [Option.map_some, Option.getD_some, Bool.and_eq_true, decide_eq_true_eq, Option.isNone_iff_eq_none] at h1
    obtain ⟨hd, hg⟩ := h1
    refine ⟨o, ho, fun K hK => ?_⟩
    rw [if_pos (by simp [Region.wanted, hg])]
    have hdone : ∀ j, (B.getD i 0).testBit j = true → j < dl.length → b j = true := fun j hj hjl => hwait j (by rw [Bool.and_eq_true]; exact ⟨(hcon j).2 hjl, hj⟩)
    have hs := hstep i hi o ho (fillM v b 0 dl a0) w v hb (fun t ht => fillM_other dl 0 a0 ht) (fun j hj hjl => by
      have hjd := hdone j hj hjl
      refine ⟨(hv j hjl hjd).1, fun t hjt => ?_⟩
      have ht : t < a0.tmps.size := by
        have := List.all_eq_true.1 hsz (some t) (List.mem_of_getElem? hjt)
        simpa using this
      rw [fillM_slot dl 0 j t a0 hnd hjt (by rw [Nat.zero_add]; exact hjd) ht, Nat.zero_add])
    have hmv : Oper.moves P o (fillM v b 0 dl a0) w fun u w' => V i (upd v i u) w' ∧ Below w0.heap.size w0 w' ∧ ∀ j x, V j x w → V j x w' := by
      rcases hs with h | h
      · exact moves_of_grows hV hb h
      · exact h
    refine wp_of_moves hmv fun u w' ⟨hu, hb', hold⟩ => hK.out _ _ ⟨hb', upd v i u, fun j hj hbj => ?_, ?_⟩
    · by_cases e : j = i
      · subst e
        refine ⟨hu, fun k hk hkl => ?_⟩
        by_cases ek : k = j
        · subst ek; exact up_self _ _
        · rw [up_ne ek]; exact hdone k hk hkl
      · rw [up_ne e] at hbj
        have hvj := hv j hj hbj
        refine ⟨hold _ _ (hloc j i v u w hj (Ne.symm e) ?_ hvj.1), fun k hk hkl => ?_⟩
        · cases hbt : (B.getD j 0).testBit i with
          | false => rfl
          | true =>
            have := hvj.2 i hbt hi
            rw [hbi] at this
            cases this
        · by_cases ek : k = i
          · subst ek; exact up_self _ _
          · rw [up_ne ek]; exact hvj.2 k hk hkl
    · have := fillM_up (v := v) (b := b) (x := u) dl 0 i o.dst a0 hnd hd (by rw [Nat.zero_add]; exact hbi)
      rw [Nat.zero_add] at this
      exact this
  · intro b a w hall ⟨hb, v, hv, ha⟩
    rw [ha, fillM_all dl 0 a0 (n := dl.length) (by omega) fun j hj => hall j ((hcon j).2 hj)]
    exact hend v w hb fun j hj => (hv j hj (hall j ((hcon j).2 hj))).1
end Go.Proofs.Ytciehejifdbpoaa.Grow
end
section
set_option linter.unusedSimpArgs false
set_option linter.unusedVariables false
namespace Go.Proofs.Ytciehejifdbpoaa.Ap
open Go.RowKit Go.Maps Go.Proofs.Ytciehejifdbpoaa.Grow Go.Proofs.Ytciehejifdbpoaa.Rv Go.Proofs.Ytciehejifdbpoaa.As
open Go.Proofs.YtciehejifdbpoaaW.PrintWords Go.Proofs.YtciehejifdbpoaaW.PrintLast Go.Proofs.YtciehejifdbpoaaW.PrintMore

theorem set5_same {w : World} {g : Nat} {t : TypeId} {c0 c1 c2 c3 c4 a0 a1 a2 a3 a4 : Value} (h : w.heap[g]? = some (.cells #[c0, c1, c2, c3, c4] t (0, 0))) :
    (((((w.setCell ⟨g, 0, none⟩ a0).setCell ⟨g, 1, none⟩ a1).setCell ⟨g, 2, none⟩ a2).setCell ⟨g, 3, none⟩ a3).setCell ⟨g, 4, none⟩ a4).heap[g]? = some (.cells #[a0, a1, a2, a3, a4] t (0, 0)) :=
  heap_setCell_same _ g 4 _ t a4 (heap_setCell_same _ g 3 _ t a3 (heap_setCell_same _ g 2 _ t a2 (heap_setCell_same _ g 1 _ t a1 (heap_setCell_same w g 0 _ t a0 h))))
theorem set5_other {w : World} {g k : Nat} {a0 a1 a2 a3 a4 : Value} (h : k ≠ g) :
    (((((w.setCell ⟨g, 0, none⟩ a0).setCell ⟨g, 1, none⟩ a1).setCell ⟨g, 2, none⟩ a2).setCell ⟨g, 3, none⟩ a3).setCell ⟨g, 4, none⟩ a4).heap[k]? = w.heap[k]? :=
  (heap_setCell_other _ _ k a4 h).trans ((heap_setCell_other _ _ k a3 h).trans ((heap_setCell_other _ _ k a2 h).trans ((heap_setCell_other _ _ k a1 h).trans (heap_setCell_other w _ k a0 h))))
theorem set5_below {w0 w : World} {B g : Nat} {a0 a1 a2 a3 a4 : Value} (h : Below B w0 w) (hg : B ≤ g) :
    Below B w0 (((((w.setCell ⟨g, 0, none⟩ a0).setCell ⟨g, 1, none⟩ a1).setCell ⟨g, 2, none⟩ a2).setCell ⟨g, 3, none⟩ a3).setCell ⟨g, 4, none⟩ a4) :=
  ((((h.setCell (p := ⟨g, 0, none⟩) hg a0).setCell (p := ⟨g, 1, none⟩) hg a1).setCell (p := ⟨g, 2, none⟩) hg a2).setCell (p := ⟨g, 3, none⟩) hg a3).setCell (p := ⟨g, 4, none⟩) hg a4
theorem str_at {l : List OpI} {bs : List Int} (h : encB l = some bs) {k : Nat} (hk : k < l.length) (j : Nat) (hj : j = 4 * k) :
    ∃ (a : Int) (h0 : j < (strOf bs).size) (h1 : j + 1 < (strOf bs).size) (h2 : j + 2 < (strOf bs).size) (h3 : j + 3 < (strOf bs).size),
      ((strOf bs)[j].toNat : Int) = a % 256 ∧ ((strOf bs)[j + 1].toNat : Int) = a / 256 % 256 ∧ ((strOf bs)[j + 2].toNat : Int) = a / 65536 % 256 ∧ ((strOf bs)[j + 3].toNat : Int) = a / 16777216 % 256 ∧
      0 ≤ a ∧ a < 4294967296 ∧ decF a = (l[k], 0) := by
  subst hj; exact str_word h hk
set_option maxHeartbeats 16000000 in
set_option maxRecDepth 100000 in
theorem Read_calls (w : World) {l : List OpI} {bs : List Int} (he : encB l = some bs) (hn : l.length < 1000000) :
    Calls Try.prog 32 #[.string (strOf bs)] w fun e w' => ∃ v, e = .returned (.tuple #[v, .bool true]) ∧ w'.ownsRow w.heap.size 24 5 v l.length (l.flatMap opCs) ∧ Below w.heap.size w w' := by
  have hsz : (strOf bs).size = 4 * l.length := by rw [strOf_size, encB_len' he]
  have SW := Aside0.mk (fun k hk j hj => @str_at l bs he k hk j hj)
  clear he
  obtain ⟨s, hs⟩ : ∃ s, strOf bs = s := ⟨_, rfl⟩
  rw [hs] at SW hsz ⊢
  clear hs
  obtain ⟨N, hN⟩ : ∃ N, l.length = N := ⟨_, rfl⟩
  rw [hN] at hsz hn
  have HSZ := Aside0.mk hsz
  have HN := Aside0.mk hN
  have HI := Aside0.mk (info_parts info24)
  have hms : s.size < 9223372036854775000 := by omega
  clear hsz hN
  go_enter Try.func32, Try.ntmps32
  go_wp2_with fail
  go_loopw [4, 5] (fun v4 v5 wr => ∃ k j : Nat, k ≤ N ∧ v5 = .int .i64 j ∧ Aside0 (j = 4 * k ∧ wr.ownsRow w.heap.size 24 5 v4 (l.take k).length ((l.take k).flatMap opCs) ∧ Below w.heap.size w wr)) (fun _ v5 _ => 4 * N - (intOf v5).toNat)
  case atStart => exact ⟨0, 0, by omega, rfl, ⟨rfl, ⟨rfl, .inl ⟨rfl, rfl⟩⟩, Below.refl _ _⟩⟩
  case round =>
    obtain ⟨k, j, hk, rfl, hx⟩ := hrel
    have hj := hx.out.1
    by_cases hlt : k < N
    · have hkl : k < l.length := by rw [HN.out]; exact hlt
      obtain ⟨a, h0, h1, h2, h3, c0, c1, c2, c3, a0, a1, hdec⟩ := SW.out k hkl j hj
      obtain ⟨y, hy⟩ : ∃ y, l[k] = y := ⟨_, rfl⟩
      rw [hy] at hdec
      have HY := Aside0.mk hy
      have RD := Aside0.mk (fun w => refd_at a0 a1 hdec w)
      have HA := Aside0.mk (And.intro a0 a1)
      have HC := Aside0.mk (And.intro c0 (And.intro c1 (And.intro c2 c3)))
      have t1 : (j : Int) + 3 < (s.size : Int) := by omega
      clear hy hdec a0 a1 c0 c1 c2 c3 hj
      go_wp2_with fail
      obtain ⟨B0, hB0⟩ : ∃ B0, a % 256 = B0 := ⟨_, rfl⟩
      obtain ⟨B1, hB1⟩ : ∃ B1, a / 256 % 256 = B1 := ⟨_, rfl⟩
      obtain ⟨B2, hB2⟩ : ∃ B2, a / 65536 % 256 = B2 := ⟨_, rfl⟩
      obtain ⟨B3, hB3⟩ : ∃ B3, a / 16777216 % 256 = B3 := ⟨_, rfl⟩
      obtain ⟨c0, c1, c2, c3⟩ := HC.out
      rw [hB0] at c0
      rw [hB1] at c1
      rw [hB2] at c2
      rw [hB3] at c3
      have s1 : IntKind.u32.wrap B0 = B0 := by rw [IntKind.wrap_u32]; omega
      have s2 : IntKind.u32.wrap B1 = B1 := by rw [IntKind.wrap_u32]; omega
      have s3 : IntKind.u32.wrap B2 = B2 := by rw [IntKind.wrap_u32]; omega
      have s4 : IntKind.u32.wrap B3 = B3 := by rw [IntKind.wrap_u32]; omega
      have s5 : IntKind.u32.wrap (B1 * 256) = B1 * 256 := by rw [IntKind.wrap_u32]; omega
      have s6 : IntKind.u32.wrap (B2 * 65536) = B2 * 65536 := by rw [IntKind.wrap_u32]; omega
      have s7 : IntKind.u32.wrap (B3 * 16777216) = B3 * 16777216 := by rw [IntKind.wrap_u32]; omega
      have s8 : IntKind.u32.wrap (B0 + B1 * 256) = B0 + B1 * 256 := by rw [IntKind.wrap_u32]; omega
      have s9 : IntKind.u32.wrap (B0 + B1 * 256 + B2 * 65536) = B0 + B1 * 256 + B2 * 65536 := by rw [IntKind.wrap_u32]; omega
      have s0 : IntKind.u32.wrap (B0 + B1 * 256 + B2 * 65536 + B3 * 16777216) = a := by have := HA.out; rw [IntKind.wrap_u32]; omega
      have v1 : IntKind.i64.wrap ((j : Int) + 1) = (j : Int) + 1 := by rw [IntKind.wrap_i64]; omega
      have v2 : IntKind.i64.wrap ((j : Int) + 2) = (j : Int) + 2 := by rw [IntKind.wrap_i64]; omega
      have v3 : IntKind.i64.wrap ((j : Int) + 3) = (j : Int) + 3 := by rw [IntKind.wrap_i64]; omega
      have n1 : ((j : Int) + 1).toNat = j + 1 := by omega
      have n2 : ((j : Int) + 2).toNat = j + 2 := by omega
      have n3 : ((j : Int) + 3).toNat = j + 3 := by omega
      have z1 : 0 ≤ (j : Int) + 1 := by omega
      have z2 : 0 ≤ (j : Int) + 2 := by omega
      have z3 : 0 ≤ (j : Int) + 3 := by omega
      have y0 : (j : Int) < (s.size : Int) := by omega
      have y1 : (j : Int) + 1 < (s.size : Int) := by omega
      have y2 : (j : Int) + 2 < (s.size : Int) := by omega
      clear hB0 hB1 hB2 hB3
      go_wp2_with fail
      refine wp_region_mix (B := [0, 0, 3, 7, 0, 0, 32, 112, 240, 496, 1023, 0, 0, 4096, 14336, 30720, 63488, 131071, 0, 0, 524288, 1835008, 3932160, 8126464, 16777215, 33554431, 67108863, 134217727, 134217727, 0, 805306367, 2147483647]) [some 16, some 17, some 18, some 19, some 20, some 21, some 22, some 23, some 24, some 25, some 26, some 27, some 28, some 29, some 30, some 31, some 32, some 33, some 34, some 35, some 36, some 37, some 38, some 39, some 40, some 41, some 15, some 42, some 43, some 6, none, some 7] (fun jj x w1 => match jj with
        | 0 => x 0 = .string s
        | 1 => x 1 = .int .i64 (j : Int)
        | 2 => x 2 = .int .u8 B0
        | 3 => x 3 = .int .u32 B0
        | 4 => x 4 = .string s
        | 5 => x 5 = .int .i64 (j : Int)
        | 6 => x 6 = .int .i64 ((j : Int) + 1)
        | 7 => x 7 = .int .u8 B1
        | 8 => x 8 = .int .u32 B1
        | 9 => x 9 = .int .u32 (B1 * 256)
        | 10 => x 10 = .int .u32 (B0 + B1 * 256)
        | 11 => x 11 = .string s
        | 12 => x 12 = .int .i64 (j : Int)
        | 13 => x 13 = .int .i64 ((j : Int) + 2)
        | 14 => x 14 = .int .u8 B2
        | 15 => x 15 = .int .u32 B2
        | 16 => x 16 = .int .u32 (B2 * 65536)
        | 17 => x 17 = .int .u32 (B0 + B1 * 256 + B2 * 65536)
        | 18 => x 18 = .string s
        | 19 => x 19 = .int .i64 (j : Int)
        | 20 => x 20 = .int .i64 ((j : Int) + 3)
        | 21 => x 21 = .int .u8 B3
        | 22 => x 22 = .int .u32 B3
        | 23 => x 23 = .int .u32 (B3 * 16777216)
        | 24 => x 24 = .int .u32 a
        | 25 => x 25 = .tuple #[.agg #[.string y.name, .int .i64 y.rd, .int .i64 y.ra, .int .i64 y.rb, .int .i64 y.imm], .int .i64 0]
        | 26 => x 26 = .tuple #[.agg #[.string y.name, .int .i64 y.rd, .int .i64 y.ra, .int .i64 y.rb, .int .i64 y.imm], .int .i64 0]
        | 27 => x 27 = .agg #[.string y.name, .int .i64 y.rd, .int .i64 y.ra, .int .i64 y.rb, .int .i64 y.imm]
        | 28 => x 28 = .int .i64 0
        | 29 => ∃ g, x 29 = .pointer (some ⟨g, 0, none⟩) ∧ wr.heap.size ≤ g ∧ ∃ c0 c1 c2 c3 c4, w1.heap[g]? = some (.cells #[c0, c1, c2, c3, c4] 24 (0, 0))
        | 30 => ∃ g, x 29 = .pointer (some ⟨g, 0, none⟩) ∧ wr.heap.size ≤ g ∧ w1.heap[g]? = some (opC y)
        | 31 => x 31 = .int .i64 0
        | _ => True) (by kernel_rfl) rfl (by kernel_rfl) (by kernel_rfl) (by kernel_rfl) ?_ ?_ ?_ ?_
      · intro i v w1 w2 hv hb
        rcases i with _ | _ | _ | _ | _ | _ | _ | _ | _ | _ | _ | _ | _ | _ | _ | _ | _ | _ | _ | _ | _ | _ | _ | _ | _ | _ | _ | _ | _ | _ | _ | _ | i <;> first | exact hv | trivial | (obtain ⟨k, h1, hw, c0, c1, c2, c3, c4, hk⟩ := hv; exact ⟨k, h1, hw, c0, c1, c2, c3, c4, blk_below hk hb⟩) | (obtain ⟨k, h1, hw, hk⟩ := hv; exact ⟨k, h1, hw, blk_below hk hb⟩)
      · intro j i v u w1 hj hij hbt hv
        rcases j with _ | _ | _ | _ | _ | _ | _ | _ | _ | _ | _ | _ | _ | _ | _ | _ | _ | _ | _ | _ | _ | _ | _ | _ | _ | _ | _ | _ | _ | _ | _ | _ | j <;> first | trivial | (simp only [upd]; rw [if_neg (by omega)]; exact hv) | (have hi29 : i ≠ 29 := (fun e => by subst e; revert hbt; decide); simp only [upd]; rw [if_neg (Ne.symm hi29)]; exact hv) | (exact absurd hj (by simp))
      · intro i hi o ho a6 w6 v hB6 hoth hdep
        rcases i with _ | _ | _ | _ | _ | _ | _ | _ | _ | _ | _ | _ | _ | _ | _ | _ | _ | _ | _ | _ | _ | _ | _ | _ | _ | _ | _ | _ | _ | _ | _ | _ | i
        · injection ho with ho; subst ho
          have q : a6.tmps.getD 0 undef = _ := hoth 0 (by decide)
          clear hoth hdep
          refine .inl ?_
          simp only [Oper.grows, upd, if_true]
          go_simp
          all_goals first | exact Below.refl _ _ | exact ⟨Below.refl _ _, rfl⟩ | exact ⟨Below.refl _ _, by assumption⟩ | skip
        · injection ho with ho; subst ho
          have q : a6.tmps.getD 5 undef = _ := hoth 5 (by decide)
          clear hoth hdep
          refine .inl ?_
          simp only [Oper.grows, upd, if_true]
          go_simp
          all_goals first | exact Below.refl _ _ | exact ⟨Below.refl _ _, rfl⟩ | exact ⟨Below.refl _ _, by assumption⟩ | skip
        · injection ho with ho; subst ho
          have q0 : a6.tmps.getD 16 undef = .string s := by obtain ⟨h1, h2⟩ := hdep 0 (by decide) (by decide); exact (h2 _ rfl).trans h1
          have q1 : a6.tmps.getD 17 undef = .int .i64 (j : Int) := by obtain ⟨h1, h2⟩ := hdep 1 (by decide) (by decide); exact (h2 _ rfl).trans h1
          clear hoth hdep
          refine .inl ?_
          simp only [Oper.grows, upd, if_true]
          go_simp
          all_goals first | exact Below.refl _ _ | exact ⟨Below.refl _ _, rfl⟩ | exact ⟨Below.refl _ _, by assumption⟩ | skip
        · injection ho with ho; subst ho
          have q2 : a6.tmps.getD 18 undef = .int .u8 B0 := by obtain ⟨h1, h2⟩ := hdep 2 (by decide) (by decide); exact (h2 _ rfl).trans h1
          clear hoth hdep
          refine .inl ?_
          simp only [Oper.grows, upd, if_true]
          go_simp
          all_goals first | exact Below.refl _ _ | exact ⟨Below.refl _ _, rfl⟩ | exact ⟨Below.refl _ _, by assumption⟩ | skip
        · injection ho with ho; subst ho
          have q : a6.tmps.getD 0 undef = _ := hoth 0 (by decide)
          clear hoth hdep
          refine .inl ?_
          simp only [Oper.grows, upd, if_true]
          go_simp
          all_goals first | exact Below.refl _ _ | exact ⟨Below.refl _ _, rfl⟩ | exact ⟨Below.refl _ _, by assumption⟩ | skip
        · injection ho with ho; subst ho
          have q : a6.tmps.getD 5 undef = _ := hoth 5 (by decide)
          clear hoth hdep
          refine .inl ?_
          simp only [Oper.grows, upd, if_true]
          go_simp
          all_goals first | exact Below.refl _ _ | exact ⟨Below.refl _ _, rfl⟩ | exact ⟨Below.refl _ _, by assumption⟩ | skip
        · injection ho with ho; subst ho
          have q5 : a6.tmps.getD 21 undef = .int .i64 (j : Int) := by obtain ⟨h1, h2⟩ := hdep 5 (by decide) (by decide); exact (h2 _ rfl).trans h1
          clear hoth hdep
          refine .inl ?_
          simp only [Oper.grows, upd, if_true]
          go_simp
          all_goals first | exact Below.refl _ _ | exact ⟨Below.refl _ _, rfl⟩ | exact ⟨Below.refl _ _, by assumption⟩ | skip
        · injection ho with ho; subst ho
          have q4 : a6.tmps.getD 20 undef = .string s := by obtain ⟨h1, h2⟩ := hdep 4 (by decide) (by decide); exact (h2 _ rfl).trans h1
          have q6 : a6.tmps.getD 22 undef = .int .i64 ((j : Int) + 1) := by obtain ⟨h1, h2⟩ := hdep 6 (by decide) (by decide); exact (h2 _ rfl).trans h1
          clear hoth hdep
          refine .inl ?_
          simp only [Oper.grows, upd, if_true]
          go_simp
          all_goals first | exact Below.refl _ _ | exact ⟨Below.refl _ _, rfl⟩ | exact ⟨Below.refl _ _, by assumption⟩ | skip
        · injection ho with ho; subst ho
          have q7 : a6.tmps.getD 23 undef = .int .u8 B1 := by obtain ⟨h1, h2⟩ := hdep 7 (by decide) (by decide); exact (h2 _ rfl).trans h1
          clear hoth hdep
          refine .inl ?_
          simp only [Oper.grows, upd, if_true]
          go_simp
          all_goals first | exact Below.refl _ _ | exact ⟨Below.refl _ _, rfl⟩ | exact ⟨Below.refl _ _, by assumption⟩ | skip
        · injection ho with ho; subst ho
          have q8 : a6.tmps.getD 24 undef = .int .u32 B1 := by obtain ⟨h1, h2⟩ := hdep 8 (by decide) (by decide); exact (h2 _ rfl).trans h1
          clear hoth hdep
          refine .inl ?_
          simp only [Oper.grows, upd, if_true]
          go_simp
          all_goals first | exact Below.refl _ _ | exact ⟨Below.refl _ _, rfl⟩ | exact ⟨Below.refl _ _, by assumption⟩ | skip
        · injection ho with ho; subst ho
          have q3 : a6.tmps.getD 19 undef = .int .u32 B0 := by obtain ⟨h1, h2⟩ := hdep 3 (by decide) (by decide); exact (h2 _ rfl).trans h1
          have q9 : a6.tmps.getD 25 undef = .int .u32 (B1 * 256) := by obtain ⟨h1, h2⟩ := hdep 9 (by decide) (by decide); exact (h2 _ rfl).trans h1
          clear hoth hdep
          refine .inl ?_
          simp only [Oper.grows, upd, if_true]
          go_simp
          all_goals first | exact Below.refl _ _ | exact ⟨Below.refl _ _, rfl⟩ | exact ⟨Below.refl _ _, by assumption⟩ | skip
        · injection ho with ho; subst ho
          have q : a6.tmps.getD 0 undef = _ := hoth 0 (by decide)
          clear hoth hdep
          refine .inl ?_
          simp only [Oper.grows, upd, if_true]
          go_simp
          all_goals first | exact Below.refl _ _ | exact ⟨Below.refl _ _, rfl⟩ | exact ⟨Below.refl _ _, by assumption⟩ | skip
        · injection ho with ho; subst ho
          have q : a6.tmps.getD 5 undef = _ := hoth 5 (by decide)
          clear hoth hdep
          refine .inl ?_
          simp only [Oper.grows, upd, if_true]
          go_simp
          all_goals first | exact Below.refl _ _ | exact ⟨Below.refl _ _, rfl⟩ | exact ⟨Below.refl _ _, by assumption⟩ | skip
        · injection ho with ho; subst ho
          have q12 : a6.tmps.getD 28 undef = .int .i64 (j : Int) := by obtain ⟨h1, h2⟩ := hdep 12 (by decide) (by decide); exact (h2 _ rfl).trans h1
          clear hoth hdep
          refine .inl ?_
          simp only [Oper.grows, upd, if_true]
          go_simp
          all_goals first | exact Below.refl _ _ | exact ⟨Below.refl _ _, rfl⟩ | exact ⟨Below.refl _ _, by assumption⟩ | skip
        · injection ho with ho; subst ho
          have q11 : a6.tmps.getD 27 undef = .string s := by obtain ⟨h1, h2⟩ := hdep 11 (by decide) (by decide); exact (h2 _ rfl).trans h1
          have q13 : a6.tmps.getD 29 undef = .int .i64 ((j : Int) + 2) := by obtain ⟨h1, h2⟩ := hdep 13 (by decide) (by decide); exact (h2 _ rfl).trans h1
          clear hoth hdep
          refine .inl ?_
          simp only [Oper.grows, upd, if_true]
          go_simp
          all_goals first | exact Below.refl _ _ | exact ⟨Below.refl _ _, rfl⟩ | exact ⟨Below.refl _ _, by assumption⟩ | skip
        · injection ho with ho; subst ho
          have q14 : a6.tmps.getD 30 undef = .int .u8 B2 := by obtain ⟨h1, h2⟩ := hdep 14 (by decide) (by decide); exact (h2 _ rfl).trans h1
          clear hoth hdep
          refine .inl ?_
          simp only [Oper.grows, upd, if_true]
          go_simp
          all_goals first | exact Below.refl _ _ | exact ⟨Below.refl _ _, rfl⟩ | exact ⟨Below.refl _ _, by assumption⟩ | skip
        · injection ho with ho; subst ho
          have q15 : a6.tmps.getD 31 undef = .int .u32 B2 := by obtain ⟨h1, h2⟩ := hdep 15 (by decide) (by decide); exact (h2 _ rfl).trans h1
          clear hoth hdep
          refine .inl ?_
          simp only [Oper.grows, upd, if_true]
          go_simp
          all_goals first | exact Below.refl _ _ | exact ⟨Below.refl _ _, rfl⟩ | exact ⟨Below.refl _ _, by assumption⟩ | skip
        · injection ho with ho; subst ho
          have q10 : a6.tmps.getD 26 undef = .int .u32 (B0 + B1 * 256) := by obtain ⟨h1, h2⟩ := hdep 10 (by decide) (by decide); exact (h2 _ rfl).trans h1
          have q16 : a6.tmps.getD 32 undef = .int .u32 (B2 * 65536) := by obtain ⟨h1, h2⟩ := hdep 16 (by decide) (by decide); exact (h2 _ rfl).trans h1
          clear hoth hdep
          refine .inl ?_
          simp only [Oper.grows, upd, if_true]
          go_simp
          all_goals first | exact Below.refl _ _ | exact ⟨Below.refl _ _, rfl⟩ | exact ⟨Below.refl _ _, by assumption⟩ | skip
        · injection ho with ho; subst ho
          have q : a6.tmps.getD 0 undef = _ := hoth 0 (by decide)
          clear hoth hdep
          refine .inl ?_
          simp only [Oper.grows, upd, if_true]
          go_simp
          all_goals first | exact Below.refl _ _ | exact ⟨Below.refl _ _, rfl⟩ | exact ⟨Below.refl _ _, by assumption⟩ | skip
        · injection ho with ho; subst ho
          have q : a6.tmps.getD 5 undef = _ := hoth 5 (by decide)
          clear hoth hdep
          refine .inl ?_
          simp only [Oper.grows, upd, if_true]
          go_simp
          all_goals first | exact Below.refl _ _ | exact ⟨Below.refl _ _, rfl⟩ | exact ⟨Below.refl _ _, by assumption⟩ | skip
        · injection ho with ho; subst ho
          have q19 : a6.tmps.getD 35 undef = .int .i64 (j : Int) := by obtain ⟨h1, h2⟩ := hdep 19 (by decide) (by decide); exact (h2 _ rfl).trans h1
          clear hoth hdep
          refine .inl ?_
          simp only [Oper.grows, upd, if_true]
          go_simp
          all_goals first | exact Below.refl _ _ | exact ⟨Below.refl _ _, rfl⟩ | exact ⟨Below.refl _ _, by assumption⟩ | skip
        · injection ho with ho; subst ho
          have q18 : a6.tmps.getD 34 undef = .string s := by obtain ⟨h1, h2⟩ := hdep 18 (by decide) (by decide); exact (h2 _ rfl).trans h1
          have q20 : a6.tmps.getD 36 undef = .int .i64 ((j : Int) + 3) := by obtain ⟨h1, h2⟩ := hdep 20 (by decide) (by decide); exact (h2 _ rfl).trans h1
          clear hoth hdep
          refine .inl ?_
          simp only [Oper.grows, upd, if_true]
          go_simp
          all_goals first | exact Below.refl _ _ | exact ⟨Below.refl _ _, rfl⟩ | exact ⟨Below.refl _ _, by assumption⟩ | skip
        · injection ho with ho; subst ho
          have q21 : a6.tmps.getD 37 undef = .int .u8 B3 := by obtain ⟨h1, h2⟩ := hdep 21 (by decide) (by decide); exact (h2 _ rfl).trans h1
          clear hoth hdep
          refine .inl ?_
          simp only [Oper.grows, upd, if_true]
          go_simp
          all_goals first | exact Below.refl _ _ | exact ⟨Below.refl _ _, rfl⟩ | exact ⟨Below.refl _ _, by assumption⟩ | skip
        · injection ho with ho; subst ho
          have q22 : a6.tmps.getD 38 undef = .int .u32 B3 := by obtain ⟨h1, h2⟩ := hdep 22 (by decide) (by decide); exact (h2 _ rfl).trans h1
          clear hoth hdep
          refine .inl ?_
          simp only [Oper.grows, upd, if_true]
          go_simp
          all_goals first | exact Below.refl _ _ | exact ⟨Below.refl _ _, rfl⟩ | exact ⟨Below.refl _ _, by assumption⟩ | skip
        · injection ho with ho; subst ho
          have q17 : a6.tmps.getD 33 undef = .int .u32 (B0 + B1 * 256 + B2 * 65536) := by obtain ⟨h1, h2⟩ := hdep 17 (by decide) (by decide); exact (h2 _ rfl).trans h1
          have q23 : a6.tmps.getD 39 undef = .int .u32 (B3 * 16777216) := by obtain ⟨h1, h2⟩ := hdep 23 (by decide) (by decide); exact (h2 _ rfl).trans h1
          clear hoth hdep
          refine .inl ?_
          simp only [Oper.grows, upd, if_true]
          go_simp
          all_goals first | exact Below.refl _ _ | exact ⟨Below.refl _ _, rfl⟩ | exact ⟨Below.refl _ _, by assumption⟩ | skip
        · injection ho with ho; subst ho
          have q24 : a6.tmps.getD 40 undef = .int .u32 a := by obtain ⟨h1, h2⟩ := hdep 24 (by decide) (by decide); exact (h2 _ rfl).trans h1
          clear hoth hdep
          refine .inl ?_
          simp only [Oper.grows, upd, if_true]
          go_simp
          first | exact ⟨Below.refl _ _, RD.out _⟩ | skip
        · injection ho with ho; subst ho
          have q25 : a6.tmps.getD 41 undef = .tuple #[.agg #[.string y.name, .int .i64 y.rd, .int .i64 y.ra, .int .i64 y.rb, .int .i64 y.imm], .int .i64 0] := by obtain ⟨h1, h2⟩ := hdep 25 (by decide) (by decide); exact (h2 _ rfl).trans h1
          clear hoth hdep
          refine .inl ?_
          simp only [Oper.grows, upd, if_true]
          go_simp
          all_goals first | exact Below.refl _ _ | exact ⟨Below.refl _ _, rfl⟩ | exact ⟨Below.refl _ _, by assumption⟩ | skip
        · injection ho with ho; subst ho
          have q26 : a6.tmps.getD 15 undef = .tuple #[.agg #[.string y.name, .int .i64 y.rd, .int .i64 y.ra, .int .i64 y.rb, .int .i64 y.imm], .int .i64 0] := by obtain ⟨h1, h2⟩ := hdep 26 (by decide) (by decide); exact (h2 _ rfl).trans h1
          clear hoth hdep
          refine .inl ?_
          simp only [Oper.grows, upd, if_true]
          go_simp
          all_goals first | exact Below.refl _ _ | exact ⟨Below.refl _ _, rfl⟩ | exact ⟨Below.refl _ _, by assumption⟩ | skip
        · injection ho with ho; subst ho
          have q26 : a6.tmps.getD 15 undef = .tuple #[.agg #[.string y.name, .int .i64 y.rd, .int .i64 y.ra, .int .i64 y.rb, .int .i64 y.imm], .int .i64 0] := by obtain ⟨h1, h2⟩ := hdep 26 (by decide) (by decide); exact (h2 _ rfl).trans h1
          clear hoth hdep
          refine .inl ?_
          simp only [Oper.grows, upd, if_true]
          go_simp
          all_goals first | exact Below.refl _ _ | exact ⟨Below.refl _ _, rfl⟩ | exact ⟨Below.refl _ _, by assumption⟩ | skip
        · injection ho with ho; subst ho
          clear hoth hdep
          refine .inl ?_
          simp only [Oper.grows, upd, if_true]
          go_simp
          exact ⟨below_alloc (Below.refl _ _) _, hB6.size, _, _, _, _, _, (Array.getElem?_eq_some_iff.1 (heap_alloc_last _ _)).2⟩
        · injection ho with ho; subst ho
          obtain ⟨⟨g, hv29, hgw, c0, c1, c2, c3, c4, hg⟩, hg2⟩ := hdep 29 (by decide) (by decide)
          have q29 : a6.tmps.getD 6 undef = .pointer (some ⟨g, 0, none⟩) := (hg2 _ rfl).trans hv29
          have q27 : a6.tmps.getD 42 undef = .agg #[.string y.name, .int .i64 y.rd, .int .i64 y.ra, .int .i64 y.rb, .int .i64 y.imm] := by obtain ⟨h1, h2⟩ := hdep 27 (by decide) (by decide); exact (h2 _ rfl).trans h1
          refine .inr ?_
          clear hoth hdep
          have kk := blk_cell hg
          have ff := fun o => frozen_of_row w6 g o _ 24 hg
          have zz := blk_lt hg
          have zz0 : ∀ j, g < w6.heap.size + j := fun j => by omega
          simp only [Oper.moves, upd]
          go_simp
          refine ⟨(Array.getElem?_eq_some_iff.1 (set5_same hg)).2, set5_below hB6 hgw, fun jj x hx => ?_⟩
          by_cases e29 : jj = 29
          · subst e29
            obtain ⟨g2, h1, h2, d0, d1, d2, d3, d4, h3⟩ := hx
            by_cases e : g2 = g
            · subst e; exact ⟨g2, h1, h2, _, _, _, _, _, set5_same hg⟩
            · exact ⟨g2, h1, h2, d0, d1, d2, d3, d4, (set5_other e).trans h3⟩
          by_cases e30 : jj = 30
          · subst e30
            obtain ⟨g2, h1, h2, h3⟩ := hx
            by_cases e : g2 = g
            · subst e; exact ⟨g2, h1, h2, set5_same hg⟩
            · exact ⟨g2, h1, h2, (set5_other e).trans h3⟩
          rcases jj with _ | _ | _ | _ | _ | _ | _ | _ | _ | _ | _ | _ | _ | _ | _ | _ | _ | _ | _ | _ | _ | _ | _ | _ | _ | _ | _ | _ | _ | _ | _ | _ | jj <;> first | exact absurd rfl e29 | exact absurd rfl e30 | exact hx | trivial
        · injection ho with ho; subst ho
          have q28 : a6.tmps.getD 43 undef = .int .i64 0 := by obtain ⟨h1, h2⟩ := hdep 28 (by decide) (by decide); exact (h2 _ rfl).trans h1
          clear hoth hdep
          refine .inl ?_
          simp only [Oper.grows, upd, if_true]
          go_simp
          all_goals first | exact Below.refl _ _ | exact ⟨Below.refl _ _, rfl⟩ | exact ⟨Below.refl _ _, by assumption⟩ | skip
        · exact absurd hi (by simp)
      · intro v w6 hB6 hv
        have q0 : v 0 = .string s := hv 0 (by decide)
        have q1 : v 1 = .int .i64 (j : Int) := hv 1 (by decide)
        have q2 : v 2 = .int .u8 B0 := hv 2 (by decide)
        have q3 : v 3 = .int .u32 B0 := hv 3 (by decide)
        have q4 : v 4 = .string s := hv 4 (by decide)
        have q5 : v 5 = .int .i64 (j : Int) := hv 5 (by decide)
        have q6 : v 6 = .int .i64 ((j : Int) + 1) := hv 6 (by decide)
        have q7 : v 7 = .int .u8 B1 := hv 7 (by decide)
        have q8 : v 8 = .int .u32 B1 := hv 8 (by decide)
        have q9 : v 9 = .int .u32 (B1 * 256) := hv 9 (by decide)
        have q10 : v 10 = .int .u32 (B0 + B1 * 256) := hv 10 (by decide)
        have q11 : v 11 = .string s := hv 11 (by decide)
        have q12 : v 12 = .int .i64 (j : Int) := hv 12 (by decide)
        have q13 : v 13 = .int .i64 ((j : Int) + 2) := hv 13 (by decide)
        have q14 : v 14 = .int .u8 B2 := hv 14 (by decide)
        have q15 : v 15 = .int .u32 B2 := hv 15 (by decide)
        have q16 : v 16 = .int .u32 (B2 * 65536) := hv 16 (by decide)
        have q17 : v 17 = .int .u32 (B0 + B1 * 256 + B2 * 65536) := hv 17 (by decide)
        have q18 : v 18 = .string s := hv 18 (by decide)
        have q19 : v 19 = .int .i64 (j : Int) := hv 19 (by decide)
        have q20 : v 20 = .int .i64 ((j : Int) + 3) := hv 20 (by decide)
        have q21 : v 21 = .int .u8 B3 := hv 21 (by decide)
        have q22 : v 22 = .int .u32 B3 := hv 22 (by decide)
        have q23 : v 23 = .int .u32 (B3 * 16777216) := hv 23 (by decide)
        have q24 : v 24 = .int .u32 a := hv 24 (by decide)
        have q25 : v 25 = .tuple #[.agg #[.string y.name, .int .i64 y.rd, .int .i64 y.ra, .int .i64 y.rb, .int .i64 y.imm], .int .i64 0] := hv 25 (by decide)
        have q26 : v 26 = .tuple #[.agg #[.string y.name, .int .i64 y.rd, .int .i64 y.ra, .int .i64 y.rb, .int .i64 y.imm], .int .i64 0] := hv 26 (by decide)
        have q27 : v 27 = .agg #[.string y.name, .int .i64 y.rd, .int .i64 y.ra, .int .i64 y.rb, .int .i64 y.imm] := hv 27 (by decide)
        have q28 : v 28 = .int .i64 0 := hv 28 (by decide)
        have q31 : v 31 = .int .i64 0 := hv 31 (by decide)
        obtain ⟨g, q29, hgw, hg⟩ := hv 30 (by decide)
        simp only [fillM, if_true, q0, q1, q2, q3, q4, q5, q6, q7, q8, q9, q10, q11, q12, q13, q14, q15, q16, q17, q18, q19, q20, q21, q22, q23, q24, q25, q26, q27, q28, q29, q31, Act.put, List.setIfInBounds_toArray, List.set_cons_zero, List.set_cons_succ]
        clear hv q0 q1 q2 q3 q4 q5 q6 q7 q8 q9 q10 q11 q12 q13 q14 q15 q16 q17 q18 q19 q20 q21 q22 q23 q24 q25 q26 q27 q28 q29 q31
        have kk := blk_cell hg
        have zz := blk_lt hg
        have BW := Aside0.mk (hx.out.2.2.trans (hB6.mono hx.out.2.2.size))
        have OW := Aside0.mk (own_next (own_next hx.out.2.1 hB6) (below_alloc (Below.refl _ _) (opC y)))
        have B1w := Aside0.mk (below_alloc BW.out (opC y))
        have HT := Aside0.mk (show l.take (k + 1) = l.take k ++ [y] by rw [List.take_succ_eq_append_getElem hkl, HY.out])
        have HTL := Aside0.mk (show (l.take k).length = k by rw [List.length_take]; omega)
        obtain ⟨lk, hlk⟩ : ∃ lk, l.take k = lk := ⟨_, rfl⟩
        rw [hlk] at OW HT HTL
        have NW := World.news_of_block (w := w6.alloc (opC y)) (B := w6.heap.size) (cs := (opCs y).toArray) (t := 24) (fr := (0, 0)) (heap_alloc_last _ _)
        obtain ⟨i0, hi, hz0, hz1, hz2⟩ := HI.out
        have HZ := Aside0.mk (And.intro hi (And.intro hz0 (And.intro hz1 hz2)))
        clear hi hz0 hz1 hz2 hg hB6 hlk s0 s1 s2 s3 s4 s5 s6 s7 s8 s9 v1 v2 v3 n1 n2 n3 z1 z2 z3 y0 y1 y2 c0 c1 c2 c3 HC t1
        go_wp2_with (first | (at_builtin; refine Aside0.out ?_))
        refine Aside0.mk ?_
        refine wpList_append_own _ rfl (.tmp 46) (.tmp 48) 37 rfl w.heap.size 24 i0 _ 5 48 under37 HZ.out.1 HZ.out.2.1 HZ.out.2.2.1 HZ.out.2.2.2 rfl (by decide) _ lk.length _ rfl OW.out ⟨w6.heap.size, 0, none⟩ 1 1 (opCs y) rfl rfl NW (one_opc _) (by have := HTL.out; unfold maxLen; omega) (by have := HTL.out; omega) B1w.out.size ?_
        intro v' w7 hown' hgrow _
        rw [flat_op, ← show (lk ++ [y]).length = lk.length + 1 by simp] at hown'
        have O7 := Aside0.mk hown'
        have B7 := Aside0.mk (grown_below B1w.out (Nat.le_refl _) hgrow (fun k hk => (row_block OW.out k hk).1))
        clear hown' hgrow NW kk zz
        go_wp2
        exact ⟨⟨k + 1, j + 4, by omega, by simp, ⟨by have := hx.out.1; omega, by rw [HT.out]; exact O7.out, B7.out⟩⟩, by have := hx.out.1; simp [intOf]; omega⟩
    · obtain rfl : k = N := by omega
      have hmod : (s.size : Int).tmod 4 = 0 := by have := HSZ.out; rw [Int.tmod_eq_emod_of_nonneg (by omega)]; omega
      have t1 : ¬ (j : Int) + 3 < (s.size : Int) := by have := HSZ.out; omega
      have hfin := Aside0.mk (show l.take k = l by rw [← HN.out, List.take_length])
      have hmod2 : (s.size : Int) % 4 = 0 := by have := HSZ.out; omega
      have hjb : j < 4000001 := by omega
      clear hj
      go_wp2
      go_ret2
      refine ⟨u4, ?_, ?_, hx.out.2.2⟩
      · first | rfl | simp [hmod, hmod2]
      · have := hx.out.2.1
        rw [hfin.out] at this
        first | exact this | (rw [HN.out] at this; exact this)
end Go.Proofs.Ytciehejifdbpoaa.Ap
end
section
set_option linter.unusedSimpArgs false
set_option linter.unusedVariables false
namespace Go.Proofs.Ytciehejifdbpoaa.Ap
open Go.ChangeShapes Go.WideShapes Go.RowKit Go.Maps Go.Proofs.Ytciehejifdbpoaa.Grow Go.Proofs.Ytciehejifdbpoaa.Rv Go.Proofs.Ytciehejifdbpoaa.As
open Go.Proofs.YtciehejifdbpoaaW.PrintWords Go.Proofs.YtciehejifdbpoaaW.PrintLast Go.Proofs.YtciehejifdbpoaaW.PrintMore

/-- The calls as they came in. -/
structure ActsAt (w : World) (v : Value) (N : Nat) : Prop where
  form : ∃ o cap, v = .slice o N cap
  some_ : 0 < N → ∃ g off cap, v = .slice (some ⟨g, off, none⟩) N cap
  cells : ∀ g off cap, v = .slice (some ⟨g, off, none⟩) N cap → ∀ i, i < N → ∃ x : ActI, I64 x.label ∧ I64 x.n ∧ g < w.heap.size ∧
    w.cell? ⟨g, off + i * 8, none⟩ = some (.int .i64 x.kind) ∧ w.cell? ⟨g, off + i * 8 + 1, none⟩ = some (.int .i64 x.label) ∧ w.cell? ⟨g, off + i * 8 + 2, none⟩ = some (.int .i64 x.n) ∧
    w.cell? ⟨g, off + i * 8 + 3, none⟩ = some (.string x.op.name) ∧ w.cell? ⟨g, off + i * 8 + 4, none⟩ = some (.int .i64 x.op.rd) ∧ w.cell? ⟨g, off + i * 8 + 5, none⟩ = some (.int .i64 x.op.ra) ∧
    w.cell? ⟨g, off + i * 8 + 6, none⟩ = some (.int .i64 x.op.rb) ∧ w.cell? ⟨g, off + i * 8 + 7, none⟩ = some (.int .i64 x.op.imm)
theorem cell_lt {w : World} {a : Addr} {v : Value} (h : w.cell? a = some v) : a.block < w.heap.size := by
  unfold World.cell? at h
  by_cases hlt : a.block < w.heap.size
  · exact hlt
  · rw [Array.getElem?_eq_none (by omega)] at h
    simp at h
theorem i64_of {k : Int} (h : (Lit.int .i64 k).wf = true) : I64 k := by
  have e1 : IntKind.i64.min = -9223372036854775808 := rfl
  have e2 : IntKind.i64.max = 9223372036854775807 := rfl
  simp only [Lit.wf, Bool.and_eq_true, decide_eq_true_eq] at h
  unfold I64
  omega
theorem ActsAt.below {w w' : World} {v : Value} {N : Nat} (h : ActsAt w v N) (hb : Below w.heap.size w w') : ActsAt w' v N :=
  ⟨h.form, h.some_, fun g off cap e i hi => by
    obtain ⟨x, h1, h2, hg, c0, c1, c2, c3, c4, c5, c6, c7⟩ := h.cells g off cap e i hi
    have q : ∀ o u, w.cell? ⟨g, o, none⟩ = some u → w'.cell? ⟨g, o, none⟩ = some u := fun o u hu => (hb.cell (p := ⟨g, o, none⟩) hg).trans hu
    exact ⟨x, h1, h2, Nat.lt_of_lt_of_le hg hb.size, q _ _ c0, q _ _ c1, q _ _ c2, q _ _ c3, q _ _ c4, q _ _ c5, q _ _ c6, q _ _ c7⟩⟩
set_option maxRecDepth 100000 in
/-- A call that came in, by its cells. -/
theorem open55 {H : Type} {enc : TypeId × Value → H} {w : World} {base fuel : Nat} {spare : Nat → Bool} {held : Bool} {cs : List Value} {x : DataW H × List MemPlace}
    (h : DataW.trod enc Try.prog w base spare held fuel 55 cs = some x) :
    ∃ y : ActI, I64 y.label ∧ I64 y.n ∧ cs = [.int .i64 y.kind, .int .i64 y.label, .int .i64 y.n, .string y.op.name, .int .i64 y.op.rd, .int .i64 y.op.ra, .int .i64 y.op.rb, .int .i64 y.op.imm] := by
  obtain ⟨xs, n, _, _, hlen, hxl, hg⟩ := DataW.trod_struct Try.underlying55 h
  have c55 : Try.prog.cellsOf 55 = 8 := by kernel_rfl
  have c24 : Try.prog.cellsOf 24 = 5 := by kernel_rfl
  have c9 : Try.prog.cellsOf 9 = 1 := by kernel_rfl
  have c3 : Try.prog.cellsOf 3 = 1 := by kernel_rfl
  rw [c55] at hlen
  match cs, hlen with
  | [v0, v1, v2, v3, v4, v5, v6, v7], _ =>
    have q : ∀ j, j < 4 → ∃ x, xs[j]? = some x := fun j hj => ⟨xs[j]'(by rw [hxl]; exact hj), by simp⟩
    obtain ⟨x0, e0⟩ := q 0 (by decide)
    obtain ⟨x1, e1⟩ := q 1 (by decide)
    obtain ⟨x2, e2⟩ := q 2 (by decide)
    obtain ⟨x3, e3⟩ := q 3 (by decide)
    obtain ⟨a0, z0, _, _⟩ := DataW.trod_int (k := .i64) (by kernel_rfl) ((hg 0 _ rfl).trans e0)
    obtain ⟨a1, z1, _, w1⟩ := DataW.trod_int (k := .i64) (by kernel_rfl) ((hg 1 _ rfl).trans e1)
    obtain ⟨a2, z2, _, w2⟩ := DataW.trod_int (k := .i64) (by kernel_rfl) ((hg 2 _ rfl).trans e2)
    obtain ⟨ys, m, _, _, _, hyl, hy⟩ := DataW.trod_struct Try.underlying24 ((hg 3 _ rfl).trans e3)
    have r : ∀ j, j < 5 → ∃ x, ys[j]? = some x := fun j hj => ⟨ys[j]'(by rw [hyl]; exact hj), by simp⟩
    obtain ⟨y0, f0⟩ := r 0 (by decide)
    obtain ⟨y1, f1⟩ := r 1 (by decide)
    obtain ⟨y2, f2⟩ := r 2 (by decide)
    obtain ⟨y3, f3⟩ := r 3 (by decide)
    obtain ⟨y4, f4⟩ := r 4 (by decide)
    obtain ⟨s, z3, _, _⟩ := DataW.trod_string (by kernel_rfl) ((hy 0 _ rfl).trans f0)
    obtain ⟨b1, z4, _, _⟩ := DataW.trod_int (k := .i64) (by kernel_rfl) ((hy 1 _ rfl).trans f1)
    obtain ⟨b2, z5, _, _⟩ := DataW.trod_int (k := .i64) (by kernel_rfl) ((hy 2 _ rfl).trans f2)
    obtain ⟨b3, z6, _, _⟩ := DataW.trod_int (k := .i64) (by kernel_rfl) ((hy 3 _ rfl).trans f3)
    obtain ⟨b4, z7, _, _⟩ := DataW.trod_int (k := .i64) (by kernel_rfl) ((hy 4 _ rfl).trans f4)
    simp [c3] at z0 z1 z2
    simp [c24, c9] at z3
    simp [c24, c3] at z4 z5 z6 z7
    exact ⟨⟨a0, a1, a2, ⟨s, b1, b2, b3, b4⟩⟩, i64_of w1, i64_of w2, by rw [z0, z1, z2, z3, z4, z5, z6, z7]⟩
set_option maxRecDepth 100000 in
theorem open49 {H : Type} {enc : TypeId × Value → H} {w : World} {base b0 : Nat} {spare : Nat → Bool} {held : Bool} {r : Reach} {v : Value} {d : DataW H} {p : List MemPlace}
    (hv : Value.okWide Try.prog w r b0 49 v) (h : DataW.Trod enc Try.prog w base spare held 49 v d p) :
    ∃ N, ActsAt w v N := by
  obtain ⟨a0, len0, cap0, rfl⟩ := Go.WideShapes.okWide_slice Try.underlying49 hv
  obtain ⟨fuel, hf⟩ := h
  have c55 : Try.prog.cellsOf 55 = 8 := by kernel_rfl
  rcases Go.Deep.open_slice Try.underlying49 hf with ⟨hcs, _⟩ | ⟨a, len, cap, m, n, D, Pl, hcs, hb, hl, hm, hmm, hx, hi⟩
  · have hcs : Value.slice a0 len0 cap0 = .slice none 0 0 := by simpa [Value.cells] using hcs
    rw [hcs]
    exact ⟨0, ⟨none, 0, rfl⟩, fun h => absurd h (by decide), fun g off cap e i hi => absurd hi (by omega)⟩
  · have hcs : Value.slice a0 len0 cap0 = .slice (some a) len cap := by simpa [Value.cells] using hcs
    rw [hcs]
    have hlm : len ≤ m := by rw [hmm]; split <;> omega
    have cells : ∀ i, i < len → ∃ y : ActI, I64 y.label ∧ I64 y.n ∧ ∀ j u, [Value.int .i64 y.kind, .int .i64 y.label, .int .i64 y.n, .string y.op.name, .int .i64 y.op.rd, .int .i64 y.op.ra, .int .i64 y.op.rb, .int .i64 y.op.imm][j]? = some u → w.cell? ((a.add (i * 8)).add j) = some u := fun i hil => by
      obtain ⟨cs', hc, ht'⟩ := hi i (by omega)
      rw [c55] at hc
      obtain ⟨_, hcl, hat⟩ := World.cells?_some hc
      obtain ⟨y, h1, h2, h3⟩ := open55 ht'
      refine ⟨y, h1, h2, fun j u hu => ?_⟩
      rw [← h3] at hu
      have hj : j < 8 := by
        have := (List.getElem?_eq_some_iff.1 hu).1
        omega
      exact (hat j hj).trans hu
    refine ⟨len, ⟨_, _, rfl⟩, fun h0 => ?_, fun g off cap' e i hil => ?_⟩
    · obtain ⟨b, off, spot⟩ := a
      obtain ⟨y, _, _, hy⟩ := cells 0 h0
      have hspot : spot = none := by simpa [Addr.add] using World.cell?_spot (hy 0 _ rfl)
      subst hspot
      exact ⟨_, _, _, rfl⟩
    · have ha : a = ⟨g, off, none⟩ := by
        simp only [Value.slice.injEq, Option.some.injEq] at e
        exact e.1
      subst ha
      obtain ⟨y, h1, h2, hy⟩ := cells i hil
      have q : ∀ j u, [Value.int .i64 y.kind, .int .i64 y.label, .int .i64 y.n, .string y.op.name, .int .i64 y.op.rd, .int .i64 y.op.ra, .int .i64 y.op.rb, .int .i64 y.op.imm][j]? = some u → w.cell? ⟨g, off + i * 8 + j, none⟩ = some u := fun j u hu => by
        have := hy j u hu
        rwa [Go.WideShapes.add_plain, Go.WideShapes.add_plain] at this
      have c0 := q 0 _ rfl
      rw [Nat.add_zero] at c0
      exact ⟨y, h1, h2, cell_lt c0, c0, q 1 _ rfl, q 2 _ rfl, q 3 _ rfl, q 4 _ rfl, q 5 _ rfl, q 6 _ rfl, q 7 _ rfl⟩
end Go.Proofs.Ytciehejifdbpoaa.Ap
end
section
set_option linter.unusedSimpArgs false
set_option linter.unusedVariables false
namespace Go.Proofs.Ytciehejifdbpoaa.Ap
open Go.RowKit Go.Maps Go.Proofs.Ytciehejifdbpoaa.Grow Go.Proofs.Ytciehejifdbpoaa.Rv Go.Proofs.Ytciehejifdbpoaa.As
open Go.Proofs.YtciehejifdbpoaaW.PrintWords Go.Proofs.YtciehejifdbpoaaW.PrintLast Go.Proofs.YtciehejifdbpoaaW.PrintMore

/-! ### Settled code stays settled -/
theorem withL_twice (ps : List Pc) (f g : Nat → Bool) : withL (withL ps f) g = withL ps g := by
  apply List.ext_getElem
  · simp [withL_len]
  · intro i h1 h2
    have h0 : i < ps.length := by simpa [withL_len] using h2
    rw [withL_get (ps := withL ps f) (by rw [withL_len]; exact h0), withL_get h0, withL_get h0]
theorem posL_settled (A : AsmS) (f : Nat → Bool) (k : Nat) : posL (settleF A) f k = posL A f k := by
  unfold posL settleF
  simp only []
  rw [withL_twice]
theorem needs_settled (A : AsmS) (f : Nat → Bool) (i : Nat) : needs (settleF A) f i = needs A f i := by
  by_cases h : i < A.ps.length
  · have h2 : i < (settleF A).ps.length := by show i < (withL _ _).length; rw [withL_len]; exact h
    unfold needs
    rw [List.getElem?_eq_getElem h, List.getElem?_eq_getElem h2]
    have e : (settleF A).ps[i] = { A.ps[i] with long := longF A i } := withL_get h
    rw [e]
    simp only [posL_settled]
    rfl
  · have h2 : ¬ i < (settleF A).ps.length := by show ¬ i < (withL _ _).length; rw [withL_len]; exact h
    unfold needs
    rw [List.getElem?_eq_none (by omega), List.getElem?_eq_none (by omega)]
theorem stepL_settled (A : AsmS) (f : Nat → Bool) : stepL (settleF A) f = stepL A f := by
  funext i; unfold stepL; rw [needs_settled]
theorem itL_settled (A : AsmS) : ∀ j, itL (settleF A) j = itL A j
  | 0 => rfl
  | j + 1 => by
    show stepL (settleF A) (itL (settleF A) j) = stepL A (itL A j)
    rw [itL_settled A j, stepL_settled]
theorem longF_settled (A : AsmS) : longF (settleF A) = longF A := by
  unfold longF
  rw [itL_settled, show (settleF A).ps.length = A.ps.length from withL_len _ _]
theorem settle_twice (A : AsmS) : settleF (settleF A) = settleF A := by
  have h := longF_settled A
  unfold settleF at h ⊢
  simp only at h ⊢
  rw [h, withL_twice]
theorem placeS_settled (A : AsmS) (k : Int) : placeS (settleF A) k = settleF A := by
  unfold placeS
  split
  · rfl
  · exact settle_twice A
theorem place_both {A : AsmS} {ms : List Int} (h : Iv A ms) (k : Int) : placeF (settleF A) k = plR A ms k := by
  unfold placeF plR
  rw [settle_twice]
  show (match A.marks k with | none => (-1 : Int) | some t => posL A (longF A) t.toNat) = _
  cases hk : knownB ms.length k
  · rw [h.fresh k (by
      unfold knownB at hk
      simp only [Bool.and_eq_false_iff, decide_eq_false_iff_not] at hk
      omega)]
    rfl
  · obtain ⟨h1, h2⟩ := known_lab hk
    obtain ⟨j, rfl⟩ := Int.eq_ofNat_of_zero_le h1
    rw [h.tie.marks j (by omega), Int.toNat_natCast]
    rw [if_neg (show ¬ ((true : Bool) = false) by simp)]
    by_cases e : 0 ≤ ms.getD j 0
    · rw [if_pos e, if_neg (show ¬ ms.getD j 0 < 0 by omega)]
    · rw [if_neg e, if_pos (show ms.getD j 0 < 0 by omega)]
theorem iv_settled {A : AsmS} {ms : List Int} (h : Iv A ms) : As.Good (settleF A) := good_settle h.good
end Go.Proofs.Ytciehejifdbpoaa.Ap
end
section
set_option linter.unusedSimpArgs false
set_option linter.unusedVariables false
namespace Go.Proofs.Ytciehejifdbpoaa.Ap
open Go.RowKit Go.Maps Go.Proofs.Ytciehejifdbpoaa.Grow Go.Proofs.Ytciehejifdbpoaa.Rv Go.Proofs.Ytciehejifdbpoaa.As
open Go.Proofs.YtciehejifdbpoaaW.PrintWords Go.Proofs.YtciehejifdbpoaaW.PrintLast Go.Proofs.YtciehejifdbpoaaW.PrintMore

/-- What the loop over the labels keeps. -/
def PlaceI (w : World) (b p C : Nat) (S : AsmS) (lv mv : Value) (ps : List Pc) (ms : List Int) (wr : World) : Prop :=
  AsmAt wr b p S ∧ CodeIs wr b lv mv ps ms ∧ wr.heap[C]? = some (.cells #[lv, mv] 53 (0, 0)) ∧ Below w.heap.size w wr
theorem place_below {w : World} {b p C : Nat} {S : AsmS} {lv mv : Value} {ps : List Pc} {ms : List Int} {w6 w7 : World} (h : PlaceI w b p C S lv mv ps ms w6) (hb : Below w6.heap.size w6 w7) : PlaceI w b p C S lv mv ps ms w7 :=
  ⟨h.1.below hb, h.2.1.below hb, blk_below h.2.2.1 hb, h.2.2.2.trans (hb.mono h.2.2.2.size)⟩
theorem place_drew {w : World} {b p C : Nat} {S : AsmS} {lv mv : Value} {ps : List Pc} {ms : List Int} {w6 : World} (h : PlaceI w b p C S lv mv ps ms w6) : PlaceI w b p C S lv mv ps ms w6.drew :=
  place_below h ((Below.refl _ _).drew)
theorem place29 {w : World} {p C : Nat} {A : AsmS} {lv mv : Value} {ms : List Int} {w6 : World} {z : Int} (hiv : Iv A ms) (h : PlaceI w w.heap.size p C (settleF A) lv mv A.ps ms w6) (hz : I64 z) :
    Calls Try.prog 29 #[.pointer (some ⟨p, 0, none⟩), .int .i64 z] w6 fun e w' => e = .returned (.int .i64 (plR A ms z)) ∧ PlaceI w w.heap.size p C (settleF A) lv mv A.ps ms w' :=
  (Place_calls h.1 (iv_settled hiv) hz).mono fun e w' ⟨he, hA, hF⟩ => by
    rw [place_both hiv] at he
    rw [placeS_settled] at hA
    exact ⟨he, hA, h.2.1.fr hF, (FD.of_fr hF).kept h.2.2.1 (by decide) (by decide) (by decide), h.2.2.2.trans (hF.below h.2.2.2.size)⟩
theorem place34 {w : World} {p C : Nat} {A : AsmS} {lv mv : Value} {ms : List Int} {w6 : World} {z : Int} (hiv : Iv A ms) (h : PlaceI w w.heap.size p C (settleF A) lv mv A.ps ms w6) :
    Calls Try.prog 34 #[.agg #[lv, mv], .int .i64 z] w6 fun e w' => e = .returned (.int .i64 (plR A ms z)) ∧ PlaceI w w.heap.size p C (settleF A) lv mv A.ps ms w' :=
  (refPlace_calls h.2.1 hiv.tie (by have := hiv.most; omega) z).mono fun e w' ⟨he, hb⟩ => ⟨he, place_below h hb⟩
theorem two_1 {P : OpI} : [P].length ≤ 2 := Nat.le_succ 1
theorem two_2 {P Q : OpI} : [P, Q].length ≤ 2 := Nat.le_refl 2
theorem pieceR_len {A : AsmS} {ms : List Int} {f : Nat → Bool} {k : Nat} {x : Pc} {l : List OpI} (h : pieceR A ms f k x = some l) : l.length ≤ 2 := by
  unfold pieceR at h
  split at h
  · cases h; exact two_1
  · split at h
    · cases h
    · cases h
      unfold farR
      split
      · exact two_2
      · split
        · exact two_2
        · exact two_1
theorem opsR_len {A : AsmS} {ms : List Int} {f : Nat → Bool} (hok : ∀ x ∈ A.ps, PcOk x) : ∀ {k : Nat} {l : List OpI}, opsR A ms f k = some l → l.length ≤ 2 * k
  | 0, l, h => by cases h; exact Nat.le_refl _
  | k + 1, l, h => by
    have h : (opsR A ms f k).bind (fun l => (A.ps[k]?).bind fun x => (pieceR A ms f k x).map fun m => l ++ m) = some l := h
    obtain ⟨l0, h0, h⟩ := Option.bind_eq_some_iff.1 h
    obtain ⟨x, _, h⟩ := Option.bind_eq_some_iff.1 h
    obtain ⟨m, hm, rfl⟩ := Option.map_eq_some_iff.1 h
    have := opsR_len hok h0
    have := pieceR_len hm
    rw [List.length_append]
    omega
theorem iv_0 : Iv ⟨[], 0, fun _ => none, 0⟩ [] :=
  ⟨⟨rfl, (fun k hk => absurd hk (Nat.not_lt_zero _)), (fun k hk => absurd hk (Nat.not_lt_zero _)), fun i hi => absurd hi (Nat.not_lt_zero _)⟩, (fun x hx => by cases hx), fun _ _ => rfl, ⟨(fun x hx => by cases hx), (fun _ _ h => by cases h), by decide⟩, by decide, by decide⟩
/-- What the law's loop keeps. -/
def MainI (w : World) (b p C : Nat) (wr : World) (k : Nat) : Prop :=
  ∃ (A : AsmS) (ms : List Int) (lv mv : Value), AsmAt wr b p A ∧ CodeIs wr b lv mv A.ps ms ∧ Iv A ms ∧ A.ps.length ≤ 1200 * k ∧ ms.length ≤ k ∧ A.nm ≤ k ∧ Below w.heap.size w wr ∧ wr.heap[C]? = some (.cells #[lv, mv] 53 (0, 0))
set_option maxHeartbeats 16000000 in
set_option maxRecDepth 100000 in
theorem plays_walk {w : World} {v : Value} {N : Nat} (h : ActsAt w v N) : Calls Try.prog 8 #[v] w fun e w' => e = .returned (.bool true) ∧ Below w.heap.size w w' := by
  obtain ⟨o, cap, rfl⟩ := h.form
  have H := Aside0.mk h
  clear h
  go_enter Try.func8, Try.ntmps8
  by_cases hN : 40 < N
  · have hN' : (40 : Int) < (N : Int) := by omega
    go_wp2_with fail
    refine (works29_calls _).mono ?_
    rintro e w1 ⟨rfl, hb⟩
    go_wp2
    go_ret
    exact ⟨rfl, hb⟩
  · have hN' : ¬ (40 : Int) < (N : Int) := by omega
    go_wp2_with fail
    refine (new_calls _).mono ?_
    rintro e w1 ⟨p, rfl, hp, hA, hb⟩
    have bz : ∀ w, (Instr.build 53 #[]).run Try.prog w = .ok (.agg #[.slice none 0 0, .slice none 0 0]) w := fun w => by kernel_rfl
    have hC0 := heap_alloc_last w1 (.cells #[.slice none 0 0, .slice none 0 0] 53)
    have b2 := below_alloc hb (.cells #[.slice none 0 0, .slice none 0 0] 53)
    have I0 := Aside0.mk (show MainI w w.heap.size p w1.heap.size (w1.alloc (.cells #[.slice none 0 0, .slice none 0 0] 53)) 0 from
      ⟨⟨[], 0, fun _ => none, 0⟩, [], _, _, hA.below (below_alloc (Below.refl _ _) _), ⟨⟨rfl, .inl ⟨rfl, rfl⟩⟩, ⟨rfl, .inl ⟨rfl, rfl⟩⟩⟩, iv_0, by decide, Nat.le_refl _, Nat.le_refl _, b2, hC0⟩)
    have HW1 := Aside0.mk hb.size
    clear hA hb b2
    go_wp2_with fail
    have hCs : w1.heap.size < (w1.alloc (.cells #[.slice none 0 0, .slice none 0 0] 53)).heap.size := by simp
    have hwC : w.heap.size ≤ w1.heap.size := by have := I0.out; exact HW1.out
    generalize w1.alloc (.cells #[.slice none 0 0, .slice none 0 0] 53) = W at *
    obtain ⟨C, hC⟩ : ∃ C, w1.heap.size = C := ⟨_, rfl⟩
    rw [hC] at I0 hwC hC0 hCs ⊢
    clear hC hC0 hCs
    go_loopw [26] (fun v26 wr => ∃ i : Nat, i ≤ N ∧ v26 = .int .i64 i ∧ Aside0 (MainI w w.heap.size p C wr i)) (fun v26 _ => N - (intOf v26).toNat)
    case atStart => exact ⟨0, by omega, rfl, I0⟩
    case round =>
      obtain ⟨i, hi, rfl, hx⟩ := hrel
      obtain ⟨A, ms, lv, mv, hA, hcode, hiv, hlen, hml, hnm, hbel, kC⟩ := hx.out
      obtain ⟨o1, c1, rfl⟩ := row_slice hcode.row
      obtain ⟨o2, c2, rfl⟩ := row_slice hcode.marks
      have qC := blk_cell kC
      have yC := blk_lt kC
      have zC : ∀ j, C < wr.heap.size + j := fun j => by omega
      by_cases hlt : i < N
      · have hin := (H.out.below hbel)
        obtain ⟨g, off, cap', e1⟩ := hin.some_ (by omega)
        obtain ⟨x, hx1, hx2, hg, r0, r1, r2, r3, r4, r5, r6, r7⟩ := hin.cells g off cap' e1 i hlt
        simp only [Value.slice.injEq] at e1
        obtain ⟨rfl, -, rfl⟩ := e1
        have a1 : (i : Int) < (N : Int) := by omega
        have a2 : (0 : Int) ≤ (i : Int) := by omega
        have hbw := hbel.size
        have DC := Aside0.mk (do_calls (w := wr.alloc (.cells #[.int .i64 x.kind, .int .i64 x.label, .int .i64 x.n, .string x.op.name, .int .i64 x.op.rd, .int .i64 x.op.ra, .int .i64 x.op.rb, .int .i64 x.op.imm] 55))
          ⟨hA.below (below_alloc (Below.refl _ _) _), hcode.below (below_alloc (Below.refl _ _) _), hiv, by simp; omega, by omega, by omega, by omega⟩ x hx1 hx2)
        have HX := Aside0.mk (And.intro hlen (And.intro hml (And.intro hnm (And.intro hbel kC))))
        clear hA hcode hiv hlen hml hnm hbel kC hin hx hx1 hx2 I0
        go_wp2_with fail
        refine DC.out.mono ?_
        rintro e w5 ⟨lv', mv', A', ms', rfl, hA5, hC5, hiv5, hF5, l1, l2, l3⟩
        obtain ⟨o5, c5, rfl⟩ := row_slice hC5.row
        obtain ⟨o6, c6, rfl⟩ := row_slice hC5.marks
        have kC5 := hF5.kept (blk_alloc HX.out.2.2.2.2 _) (by decide) (by decide) (by decide)
        have G5 := Aside0.mk (And.intro hA5 (And.intro hC5 (And.intro hiv5 (And.intro ((below_alloc HX.out.2.2.2.1 _).trans (hF5.below (by simp; omega))) (And.intro kC5 (And.intro l1 (And.intro l2 l3)))))))
        clear hA5 hC5 hiv5 hF5 l1 l2 l3 qC yC zC r0 r1 r2 r3 r4 r5 r6 r7 hg DC
        have qC := blk_cell kC5
        have yC := blk_lt kC5
        have fC := fun o => frozen_of_row w5 C o _ 53 kC5
        have zC : ∀ j, C < w5.heap.size + j := fun j => by omega
        clear kC5
        go_wp2_with fail
        have hq := set2 w5 C (.slice o5 A'.ps.length c5) (.slice o6 ms'.length c6)
        have kC5 := G5.out.2.2.2.2.1
        have kC6 := heap_setCell_same _ C 1 _ 53 (.slice o6 ms'.length c6) (heap_setCell_same w5 C 0 _ 53 (.slice o5 A'.ps.length c5) kC5)
        have hal := below_alloc (Below.refl ((w5.setCell ⟨C, 0, none⟩ (.slice o5 A'.ps.length c5)).setCell ⟨C, 1, none⟩ (.slice o6 ms'.length c6)).heap.size ((w5.setCell ⟨C, 0, none⟩ (.slice o5 A'.ps.length c5)).setCell ⟨C, 1, none⟩ (.slice o6 ms'.length c6))) (.cells #[.slice o5 A'.ps.length c5, .slice o6 ms'.length c6] 53)
        have q1 := HX.out
        have q2 := G5.out
        refine ⟨⟨i + 1, by omega, by simp, ⟨A', ms', _, _, (asm_set q2.1 kC5 hq).below hal, (code_set q2.2.1 kC5 hq).below hal, q2.2.2.1, by omega, by omega, by omega, ?_, blk_below kC6 hal⟩⟩, by simp [intOf]; omega⟩
        have bs := ((q2.2.2.2.1.setCell (p := ⟨C, 0, none⟩) hwC (.slice o5 A'.ps.length c5)).setCell (p := ⟨C, 1, none⟩) hwC (.slice o6 ms'.length c6))
        exact bs.trans (hal.mono bs.size)
      · obtain rfl : i = N := by omega
        have a1 : ¬ (i : Int) < (i : Int) := by omega
        have HX := Aside0.mk (And.intro hA (And.intro hcode (And.intro hiv (And.intro hlen (And.intro hml (And.intro hnm (And.intro hbel kC)))))))
        clear hA hcode hiv hlen hml hnm hbel kC hx I0
        go_wp2_with fail
        obtain ⟨hA, hcode, hiv, hlen, hml, hnm, hbel, kC⟩ := HX.out
        have TC := Aside0.mk (Text_calls hA hiv.good (iv_settled hiv))
        have hslen : (settleF A).ps.length = A.ps.length := withL_len _ _
        obtain ⟨c, l, bs, ht, henc, hll, hops⟩ : ∃ (c : Int) (l : List OpI) (bs : List Int), textV (settleF A) = .tuple #[.string (strOf bs), .int .i64 c] ∧ encB l = some bs ∧ l.length ≤ 2 * A.ps.length ∧
            ∀ (w2 : World) e w', OpsPost A ms w2 e w' → ∃ v, e = .returned (.tuple #[v, .int .i64 c]) ∧ w'.ownsRow w2.heap.size 24 5 v l.length (l.flatMap opCs) ∧ Below w2.heap.size w2 w' := by
          rcases text_ops hiv.tie (by omega) hiv.ok A.ps.length (Nat.le_refl _) with ⟨h1, h2⟩ | ⟨l, bs, h1, h2, h3, h4⟩
          · refine ⟨290, [], [], by unfold textV; rw [hslen, h2]; rfl, rfl, Nat.zero_le _, fun w2 e w' hp => ?_⟩
            obtain ⟨hb, ⟨_, rfl⟩ | ⟨v, l', h5, _⟩⟩ := hp
            · exact ⟨_, rfl, ⟨rfl, .inl ⟨rfl, rfl⟩⟩, hb⟩
            · rw [h1] at h5; cases h5
          · have hl2 := opsR_len hiv.ok h1
            refine ⟨0, l, bs, by unfold textV; rw [hslen, h4], h3, hl2, fun w2 e w' hp => ?_⟩
            obtain ⟨hb, ⟨h5, _⟩ | ⟨v, l', h5, rfl, h6, _⟩⟩ := hp
            · rw [h1] at h5; cases h5
            · rw [h1] at h5; cases h5; exact ⟨v, rfl, h6, hb⟩
        rw [ht] at TC
        have P0 := Aside0.mk (And.intro hcode (And.intro hiv (And.intro hlen (And.intro hml (And.intro hbel kC)))))
        have HO := Aside0.mk hops
        have HE := Aside0.mk henc
        have HL := Aside0.mk (show l.length < 1000000 by omega)
        have hmsz : ms.length < 1000 := by omega
        clear hA hcode hiv hlen hml hnm hbel kC ht hslen hops henc hll
        refine TC.out.mono ?_
        rintro e w2 ⟨rfl, hA2, hF2⟩
        have C2 := Aside0.mk (P0.out.1.fr hF2)
        have kC2 := (FD.of_fr hF2).kept P0.out.2.2.2.2.2 (by decide) (by decide) (by decide)
        have A2 := Aside0.mk (And.intro hA2 (And.intro kC2 (P0.out.2.2.2.2.1.trans (hF2.below P0.out.2.2.2.2.1.size))))
        clear hA2 hF2 TC qC yC zC
        have qC := blk_cell kC2
        have yC := blk_lt kC2
        have zC : ∀ j, C < w2.heap.size + j := fun j => by omega
        clear kC2
        go_wp2_with fail
        refine (Ops_calls C2.out P0.out.2.1.tie (by have := P0.out.2.1.most; omega) P0.out.2.1.ok).mono ?_
        intro e w3 hpost
        obtain ⟨v3, rfl, hr3, hb3⟩ := HO.out w2 e w3 hpost
        obtain ⟨o3, c3, rfl⟩ := row_slice hr3
        have R3 := Aside0.mk (And.intro hr3 hb3)
        clear hpost hr3 hb3
        go_wp2_with fail
        refine (Read_calls w3 HE.out HL.out).mono ?_
        rintro e w4 ⟨v4, rfl, hr4, hb4⟩
        obtain ⟨o4, c4, rfl⟩ := row_slice hr4
        have SC := Aside0.mk (same_calls hr4 (own_next R3.out.1 hb4) (by have := HL.out; omega))
        have B4 := Aside0.mk (R3.out.2.trans (hb4.mono R3.out.2.size))
        have R4 := Aside0.mk hb4
        clear hr4 hb4
        go_wp2_with fail
        refine SC.out.mono ?_
        rintro e w5 ⟨rfl, hb5⟩
        have B5 := B4.out.trans (hb5.mono B4.out.size)
        have I5 := Aside0.mk (show PlaceI w w.heap.size p C (settleF A) (.slice o1 A.ps.length c1) (.slice o2 ms.length c2) A.ps ms w5 from ⟨A2.out.1.below B5, C2.out.below B5, blk_below A2.out.2.1 B5, A2.out.2.2.trans (B5.mono A2.out.2.2.size)⟩)
        have P29 := Aside0.mk (fun w6 z h1 h2 => place29 (w := w) (p := p) (C := C) (lv := .slice o1 A.ps.length c1) (mv := .slice o2 ms.length c2) (w6 := w6) (z := z) P0.out.2.1 h1 h2)
        have P34 := Aside0.mk (fun w6 z h1 => place34 (w := w) (p := p) (C := C) (lv := .slice o1 A.ps.length c1) (mv := .slice o2 ms.length c2) (w6 := w6) (z := z) P0.out.2.1 h1)
        clear SC B5 hb5 qC yC zC
        go_wp2_with fail
        clear B4 R4 R3 A2 C2
        go_loopw [15] (fun v15 wr => ∃ z : Int, -1 ≤ z ∧ z ≤ (ms.length : Int) + 1 ∧ v15 = .int .i64 z ∧ Aside0 (PlaceI w w.heap.size p C (settleF A) (.slice o1 A.ps.length c1) (.slice o2 ms.length c2) A.ps ms wr)) (fun v15 _ => ((ms.length : Int) + 1 - intOf v15).toNat)
        case atStart => exact ⟨-1, by omega, by omega, rfl, I5⟩
        case round =>
          obtain ⟨z, hz1, hz2, rfl, hx⟩ := hrel
          have qC := blk_cell hx.out.2.2.1
          have yC := blk_lt hx.out.2.2.1
          have zC : ∀ j, C < wr.heap.size + j := fun j => by omega
          by_cases hlt : z ≤ (ms.length : Int)
          · have hzi : I64 z := by unfold I64; omega
            have HD := place_drew hx.out
            have HZI := Aside0.mk hzi
            clear hzi
            go_wp2_with fail
            go_region_with (first | (go_at_call 29; refine (P29.out _ z (by assumption) HZI.out).mono ?_; rintro e w7 ⟨rfl, hP7⟩; have q7 := blk_cell hP7.2.2.1; have y7 := blk_lt hP7.2.2.1) | (go_at_call 34; refine (P34.out _ z (by assumption)).mono ?_; rintro e w7 ⟨rfl, hP7⟩; have q7 := blk_cell hP7.2.2.1; have y7 := blk_lt hP7.2.2.1))
            all_goals
              have HP7 := Aside0.mk hP7
              clear q7 y7 hP7
              go_wp2
              exact ⟨⟨z + 1, by omega, by omega, by simp, HP7⟩, by simp [intOf]; omega⟩
          · have hz : ¬ z ≤ (ms.length : Int) := hlt
            have HX := hx
            clear hx
            go_wp2_with fail
            refine (works29_calls _).mono ?_
            rintro e w6 ⟨rfl, hb6⟩
            go_wp2
            go_ret
            exact ⟨rfl, HX.out.2.2.2.trans (hb6.mono HX.out.2.2.2.size)⟩
end Go.Proofs.Ytciehejifdbpoaa.Ap
end
