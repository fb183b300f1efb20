import Derived.Test.YtpfcdhjknmijjaaGreatCo46
section
set_option linter.unusedSimpArgs false
set_option linter.unusedVariables false
set_option maxRecDepth 100000
namespace Go.Proofs.YtpfcdhjknmijjaaGreat.Jd
open Go.RowKit Go.Maps Go.Proofs.YtpfcdhjknmijjaaGreat.Em Go.Proofs.YtpfcdhjknmijjaaGreat.Ve Go.Proofs.YtpfcdhjknmijjaaGreat.Grow Go.Proofs.YtpfcdhjknmijjaaGreat.Rv Go.Proofs.YtpfcdhjknmijjaaGreat.PEmitFinds Go.Proofs.YtpfcdhjknmijjaaGreat.Ht Go.Proofs.YtpfcdhjknmijjaaGreat.Ew
open Go.Proofs.YtpfcdhjknmijjaaGreatW.PrintWords Go.Proofs.YtpfcdhjknmijjaaGreatW.PrintLast Go.Proofs.YtpfcdhjknmijjaaGreatW.PrintMore
/-! ### The machine before a search -/
def readyF (M : MemS) (sz from_ : Int) (an lo : Bool) : HartS :=
  ((((((((new0 M 65536).put 1 32768).put 10 33554432).put 11 sz).put 12 from_).put 13 (flagF an)).put 14 (flagF lo)).put 15 67108864).put 16 16777216
theorem jflag_any (b : Bool) (w : World) : Calls Tryz.prog 102 #[.bool b] w fun e w' => e = .returned (.int .u64 (flagF b)) ∧ Below w.heap.size w w' :=
  (jit_flag_uint64.calls b (flagF b) w (by cases b <;> rfl)).mono fun e w' hh => ⟨hh.1, hh.2.below⟩
set_option maxHeartbeats 4000000 in
theorem ready_calls {w : World} {mp q : Nat} {gs : List Nat} {M : MemS} (h : MemIs w mp q gs M) (hnd : gs.Nodup) (hgs : ∀ k ∈ gs, k < w.heap.size) (J : Value) (s : ByteArray) (hs : s.size ≤ 1000000) (from_ : Int) (h0 : 0 ≤ from_) (h1 : from_ ≤ 1000000) (an lo : Bool) :
    Calls Tryz.prog 52 #[J, .pointer (some ⟨mp, 0, none⟩), .agg #[.string s, .int .i64 from_, .bool an, .bool lo]] w fun e w' => ∃ p B, e = .returned (.pointer (some ⟨p, 0, none⟩)) ∧ B.mp = mp ∧ HartIs w' p B 0 (readyF M s.size from_ an lo) ∧
      (∀ k, HF p B k → w.heap.size ≤ k ∨ MemF mp gs k) ∧ Keep (fun k => w.heap.size ≤ k ∨ MemF mp gs k) w w' := by
  obtain ⟨wa, hwa⟩ : ∃ wa, w.alloc (.cells #[.string s, .int .i64 from_, .bool an, .bool lo] 35) = wa := ⟨_, rfl⟩
  have hx : wa.heap[w.heap.size]? = some (.cells #[.string s, .int .i64 from_, .bool an, .bool lo] 35 (0, 0)) := by rw [← hwa]; exact heap_alloc_new _ _
  have B1 : Below w.heap.size w wa := by rw [← hwa]; exact below_alloc (Below.refl _ _) _
  have hza : wa.heap.size = w.heap.size + 1 := by rw [← hwa]; simp
  have hml : mp < w.heap.size := by obtain ⟨cap, hh⟩ := h.head; exact blk_lt hh
  have CN := Aside0.mk (New_calls (h.below B1) hnd 65536)
  have X := Aside0.mk hx
  have K := Aside0.mk (Keep.of_below (F := fun k => w.heap.size ≤ k ∨ MemF mp gs k) B1)
  have HZ := Aside0.mk hza
  have GS := Aside0.mk (And.intro hml hgs)
  have u1 : IntKind.u64.wrap (s.size : Int) = (s.size : Int) := by rw [IntKind.wrap_u64]; omega
  have u2 : IntKind.u64.wrap from_ = from_ := by rw [IntKind.wrap_u64]; omega
  clear h hnd hgs B1 hx hza hml
  go_enter Tryz.func52, Tryz.ntmps52
  go_wp2_with fail
  try rw [hwa]
  clear hwa
  refine CN.out.mono ?_
  rintro e w1 ⟨rfl, hH, hb⟩
  obtain ⟨p, hp⟩ : ∃ p, wa.heap.size + 1 = p := ⟨_, rfl⟩
  obtain ⟨B, hBB⟩ : ∃ B : HB, (⟨mp, q, wa.heap.size, gs⟩ : HB) = B := ⟨_, rfl⟩
  have HFb := Aside0.mk (show ∀ k, HF p B k → (w.heap.size ≤ k ∨ MemF mp gs k) ∧ k ≠ w.heap.size from fun k hk => by
    have := HZ.out
    have hg := GS.out
    rw [← hBB] at hk
    rcases hk with hk | hk | hk
    · exact ⟨.inl (by omega), by omega⟩
    · have : k = wa.heap.size := hk
      exact ⟨.inl (by omega), by omega⟩
    · refine ⟨.inr hk, ?_⟩
      rcases hk with hk | hk
      · have : k = mp := hk; omega
      · have := hg.2 k hk; omega)
  have MP := Aside0.mk (show B.mp = mp by rw [← hBB])
  rw [hp, hBB] at hH
  rw [hp]
  have H := Aside0.mk hH
  replace K := Aside0.mk (K.out.trans (Keep.of_below hb))
  replace X := Aside0.mk (blk_below X.out hb)
  clear hb hH CN hp hBB
  have x0 := blk_cell X.out 0
  have x1 := blk_cell X.out 1
  have x2 := blk_cell X.out 2
  have x3 := blk_cell X.out 3
  have xz := blk_lt X.out
  go_wp2_with fail
  clear x0 x1 x2 x3 xz
  refine (Set_calls H.out 1 32768).mono ?_
  rintro e wk ⟨rfl, hH, hK⟩
  replace H := Aside0.mk hH
  replace K := Aside0.mk (K.out.trans (hK.mono fun k hk => (HFb.out k hk).1))
  replace X := Aside0.mk ((hK.block _ (blk_lt X.out) (fun hk => (HFb.out _ hk).2 rfl)).trans X.out)
  clear hH hK
  have x0 := blk_cell X.out 0
  have x1 := blk_cell X.out 1
  have x2 := blk_cell X.out 2
  have x3 := blk_cell X.out 3
  have xz := blk_lt X.out
  go_wp2_with fail
  clear x0 x1 x2 x3 xz
  refine (Set_calls H.out 10 33554432).mono ?_
  rintro e wk ⟨rfl, hH, hK⟩
  replace H := Aside0.mk hH
  replace K := Aside0.mk (K.out.trans (hK.mono fun k hk => (HFb.out k hk).1))
  replace X := Aside0.mk ((hK.block _ (blk_lt X.out) (fun hk => (HFb.out _ hk).2 rfl)).trans X.out)
  clear hH hK
  have x0 := blk_cell X.out 0
  have x1 := blk_cell X.out 1
  have x2 := blk_cell X.out 2
  have x3 := blk_cell X.out 3
  have xz := blk_lt X.out
  go_wp2_with fail
  clear x0 x1 x2 x3 xz
  refine (Set_calls H.out 11 (s.size : Int)).mono ?_
  rintro e wk ⟨rfl, hH, hK⟩
  replace H := Aside0.mk hH
  replace K := Aside0.mk (K.out.trans (hK.mono fun k hk => (HFb.out k hk).1))
  replace X := Aside0.mk ((hK.block _ (blk_lt X.out) (fun hk => (HFb.out _ hk).2 rfl)).trans X.out)
  clear hH hK
  have x0 := blk_cell X.out 0
  have x1 := blk_cell X.out 1
  have x2 := blk_cell X.out 2
  have x3 := blk_cell X.out 3
  have xz := blk_lt X.out
  go_wp2_with fail
  clear x0 x1 x2 x3 xz
  refine (Set_calls H.out 12 from_).mono ?_
  rintro e wk ⟨rfl, hH, hK⟩
  replace H := Aside0.mk hH
  replace K := Aside0.mk (K.out.trans (hK.mono fun k hk => (HFb.out k hk).1))
  replace X := Aside0.mk ((hK.block _ (blk_lt X.out) (fun hk => (HFb.out _ hk).2 rfl)).trans X.out)
  clear hH hK
  have x0 := blk_cell X.out 0
  have x1 := blk_cell X.out 1
  have x2 := blk_cell X.out 2
  have x3 := blk_cell X.out 3
  have xz := blk_lt X.out
  go_wp2_with fail
  refine (jflag_any _ _).mono ?_
  rintro e wf ⟨rfl, hb⟩
  replace H := Aside0.mk (H.out.below hb)
  replace K := Aside0.mk (K.out.trans (Keep.of_below hb))
  replace X := Aside0.mk (blk_below X.out hb)
  clear hb x0 x1 x2 x3 xz
  go_wp2_with fail
  refine (Set_calls H.out 13 (flagF an)).mono ?_
  rintro e wk ⟨rfl, hH, hK⟩
  replace H := Aside0.mk hH
  replace K := Aside0.mk (K.out.trans (hK.mono fun k hk => (HFb.out k hk).1))
  replace X := Aside0.mk ((hK.block _ (blk_lt X.out) (fun hk => (HFb.out _ hk).2 rfl)).trans X.out)
  clear hH hK
  have x0 := blk_cell X.out 0
  have x1 := blk_cell X.out 1
  have x2 := blk_cell X.out 2
  have x3 := blk_cell X.out 3
  have xz := blk_lt X.out
  go_wp2_with fail
  refine (jflag_any _ _).mono ?_
  rintro e wf ⟨rfl, hb⟩
  replace H := Aside0.mk (H.out.below hb)
  replace K := Aside0.mk (K.out.trans (Keep.of_below hb))
  replace X := Aside0.mk (blk_below X.out hb)
  clear hb x0 x1 x2 x3 xz
  go_wp2_with fail
  refine (Set_calls H.out 14 (flagF lo)).mono ?_
  rintro e wk ⟨rfl, hH, hK⟩
  replace H := Aside0.mk hH
  replace K := Aside0.mk (K.out.trans (hK.mono fun k hk => (HFb.out k hk).1))
  replace X := Aside0.mk ((hK.block _ (blk_lt X.out) (fun hk => (HFb.out _ hk).2 rfl)).trans X.out)
  clear hH hK
  have x0 := blk_cell X.out 0
  have x1 := blk_cell X.out 1
  have x2 := blk_cell X.out 2
  have x3 := blk_cell X.out 3
  have xz := blk_lt X.out
  go_wp2_with fail
  clear x0 x1 x2 x3 xz
  refine (Set_calls H.out 15 67108864).mono ?_
  rintro e wk ⟨rfl, hH, hK⟩
  replace H := Aside0.mk hH
  replace K := Aside0.mk (K.out.trans (hK.mono fun k hk => (HFb.out k hk).1))
  replace X := Aside0.mk ((hK.block _ (blk_lt X.out) (fun hk => (HFb.out _ hk).2 rfl)).trans X.out)
  clear hH hK
  have x0 := blk_cell X.out 0
  have x1 := blk_cell X.out 1
  have x2 := blk_cell X.out 2
  have x3 := blk_cell X.out 3
  have xz := blk_lt X.out
  go_wp2_with fail
  clear x0 x1 x2 x3 xz
  refine (Set_calls H.out 16 16777216).mono ?_
  rintro e wk ⟨rfl, hH, hK⟩
  replace H := Aside0.mk hH
  replace K := Aside0.mk (K.out.trans (hK.mono fun k hk => (HFb.out k hk).1))
  replace X := Aside0.mk ((hK.block _ (blk_lt X.out) (fun hk => (HFb.out _ hk).2 rfl)).trans X.out)
  clear hH hK
  go_wp2_with fail
  go_ret
  exact ⟨p, B, rfl, MP.out, H.out, fun k hk => (HFb.out k hk).1, K.out⟩
end Go.Proofs.YtpfcdhjknmijjaaGreat.Jd
end
section
set_option linter.unusedSimpArgs false
set_option linter.unusedVariables false
set_option maxRecDepth 100000
namespace Go.Proofs.YtpfcdhjknmijjaaGreat.Jd
open Go.RowKit Go.Maps Go.Proofs.YtpfcdhjknmijjaaGreat.Em Go.Proofs.YtpfcdhjknmijjaaGreat.Ve Go.Proofs.YtpfcdhjknmijjaaGreat.Grow Go.Proofs.YtpfcdhjknmijjaaGreat.Rv Go.Proofs.YtpfcdhjknmijjaaGreat.PEmitFinds Go.Proofs.YtpfcdhjknmijjaaGreat.Ht Go.Proofs.YtpfcdhjknmijjaaGreat.Ew
open Go.Proofs.YtpfcdhjknmijjaaGreatW.PrintWords Go.Proofs.YtpfcdhjknmijjaaGreatW.PrintLast Go.Proofs.YtpfcdhjknmijjaaGreatW.PrintMore
/-! ### The slots that a run leaves -/
def byteL (s : ByteArray) (a : Nat) : List Int := (List.range 8).map fun i => bt s ((8 * a + i : Nat) : Int)
def wordF (s : ByteArray) (a : Nat) : Int := numF (byteL s a)
def slotsV (n : Nat) (s : ByteArray) (k : Nat) : List Int := (List.range k).map fun j => wrap64 (wordF s (n + j))
theorem slotsV_succ (n : Nat) (s : ByteArray) (k : Nat) : slotsV n s (k + 1) = slotsV n s k ++ [wrap64 (wordF s (n + k))] := by unfold slotsV; rw [List.range_succ, List.map_append]; rfl
theorem byteL_b (s : ByteArray) (a : Nat) : Bytes (byteL s a) := by
  intro b hb
  obtain ⟨i, _, rfl⟩ := List.mem_map.1 hb
  have := bt_range s ((8 * a + i : Nat) : Int)
  omega
theorem byteL_len (s : ByteArray) (a : Nat) : (byteL s a).length = 8 := by simp [byteL]
theorem byteL_get (s : ByteArray) (a i : Nat) (h : i < 8) : (byteL s a)[i]'(by rw [byteL_len]; exact h) = bt s ((8 * a + i : Nat) : Int) := by simp [byteL]
/-- One byte more. -/
theorem word_step (s : ByteArray) (a i : Nat) (h : i < 8) (hb : Bytes (byteL s a)) : Go.bits .or .u64 (IntKind.u64.wrap (numF ((byteL s a).drop (i + 1)) * 256)) (IntKind.u64.wrap (bt s ((8 * a + i : Nat) : Int))) = numF ((byteL s a).drop i) := by
  have hl : i < (byteL s a).length := by rw [byteL_len]; exact h
  have hd : (byteL s a).drop i = bt s ((8 * a + i : Nat) : Int) :: (byteL s a).drop (i + 1) := by
    rw [← List.getElem_cons_drop hl, byteL_get s a i h]
  obtain ⟨n0, n1⟩ := numF_b ((byteL s a).drop (i + 1)) fun x hx => hb x (List.mem_of_mem_drop hx)
  have n2 : numF ((byteL s a).drop (i + 1)) < 72057594037927936 := by
    refine Int.lt_of_lt_of_le n1 ?_
    have : ((byteL s a).drop (i + 1)).length ≤ 7 := by rw [List.length_drop, byteL_len]; omega
    exact pow7 _ (by omega)
  have hbb := hb _ (List.getElem_mem hl)
  rw [byteL_get s a i h] at hbb
  rw [num_step _ _ n0 n2 hbb.1 hbb.2, hd]
  rfl
set_option maxHeartbeats 4000000 in
theorem slots_calls {w0 w : World} {J g : Nat} {l : List S61} {st sl : Nat} {out : List Int} {T : ByteArray} (h : JitIs w0 w J g l st sl out T) (hsl : sl ≤ 64) (s : ByteArray) (hs : 16 * sl ≤ s.size) (hsz : s.size ≤ 1000000000) :
    Calls Tryz.prog 56 #[.pointer (some ⟨J, 0, none⟩), .string s] w fun e w' => ∃ v, e = .returned v ∧ Kd.R (Kd.int .i64) 3 w' w.heap.size (fun _ => True) v (slotsV sl s sl) ∧ Below w.heap.size w w' := by
  have SC := Aside0.mk (slots63 h.chk)
  have c0 := blk_cell h.obj 0
  have z := blk_lt h.obj
  have e2 : IntKind.i64.wrap (2 * (sl : Int)) = 2 * (sl : Int) := by rw [IntKind.wrap_i64]; omega
  clear h
  go_enter Tryz.func56, Tryz.ntmps56
  go_wp2_with (first | (go_at_call 33; refine SC.out.mono ?_; rintro e wq ⟨rfl, rfl⟩))
  go_loopw [6, 7, 8, 9] (fun v6 v7 _ _ wr => ∃ k : Nat, k ≤ sl ∧ v7 = .int .i64 ((sl : Int) + (k : Int)) ∧ Aside0 (Kd.R (Kd.int .i64) 3 wr w.heap.size (fun _ => True) v6 (slotsV sl s k) ∧ Below w.heap.size w wr)) (fun _ v7 _ _ _ => 2 * sl - (intOf v7).toNat)
  case atStart => exact ⟨0, by omega, by simp, ⟨Kd.R_nil _ _ _ _ _, Below.refl _ _⟩⟩
  case round =>
    obtain ⟨k, hk, rfl, hx⟩ := hrel
    by_cases hlt : k < sl
    · have hd : decide ((sl : Int) + (k : Int) < 2 * (sl : Int)) = true := decide_eq_true (by omega)
      go_wp2_with fail
      go_loopw [8, 9] (fun v8 v9 wr2 => ∃ i : Nat, i ≤ 8 ∧ v8 = .int .u64 (numF ((byteL s (sl + k)).drop i)) ∧ v9 = .int .i64 ((i : Int) - 1) ∧ Aside0 (wr2 = wr)) (fun _ v9 _ => (intOf v9 + 1).toNat)
      case atStart => exact ⟨8, by omega, by rw [List.drop_of_length_le (by rw [byteL_len]; omega)]; rfl, rfl, ⟨rfl⟩⟩
      case round =>
        obtain ⟨i, hi, rfl, rfl, hw⟩ := hrel
        have hw1 := hw.out
        subst hw1
        cases i with
        | zero =>
          have HR := Aside0.mk hx.out.1
          have HB := Aside0.mk hx.out.2
          have hlen : (slotsV sl s k).length = k := by simp [slotsV]
          have HL := Aside0.mk hlen
          have HN := Aside0.mk (slotsV_succ sl s k)
          obtain ⟨zz, hzz⟩ : ∃ zz, numF (List.drop 0 (byteL s (sl + k))) = zz := ⟨_, rfl⟩
          have HZ := Aside0.mk (show wordF s (sl + k) = zz from hzz)
          rw [hzz]
          clear hx hw hzz hlen
          go_wp2_with (first | ((with_reducible refine gate_builtin (b := .append) (xs := #[.tmp 36, .tmp 39]) rfl ?_); at_builtin; refine Kd.R_append (Kd.int .i64) (w0 := w) w.heap.size rfl (.tmp 36) (.tmp 39) 38 3 (.int .i64 0) 8 rfl Tryz.underlying38 info3 rfl (by decide) (by omega) _ (slotsV sl s k) (wrap64 zz) [.int .i64 (wrap64 zz)] (fun _ => True) (fun _ => False) rfl rfl ?aP (fun _ hk => hk.elim) ?aF ?aO ?aB ?aS ?aL ?_; (case aP => exact rfl); (case aB => exact HB.out); (case aF => exact (fun _ _ => trivial)); (case aO => exact HR.out); (case aS => exact below_size HB.out); (case aL => have := HL.out; omega); intro v197 w27 ho hb hg hat; have K := Aside0.mk ho; have BN := Aside0.mk hb; clear ho hb hg hat))
          have K2 : Kd.R (Kd.int .i64) 3 w27 w.heap.size (fun _ => True) v197 (slotsV sl s (k + 1)) := by rw [HN.out, HZ.out]; exact K.out
          have hm1 : (intOf (Value.int .i64 ((sl : Int) + (k : Int) + 1))).toNat = sl + k + 1 := by show ((sl : Int) + (k : Int) + 1).toNat = _; omega
          have hm2 : (intOf (Value.int .i64 ((sl : Int) + (k : Int)))).toNat = sl + k := by show ((sl : Int) + (k : Int)).toNat = _; omega
          exact ⟨⟨k + 1, by omega, rfl, ⟨K2, BN.out⟩⟩, by rw [hm1, hm2]; omega⟩
        | succ i =>
          have hst := word_step s (sl + k) i (by omega) (byteL_b s (sl + k))
          have d0 : ((i + 1 : Nat) : Int) - 1 = (i : Int) := by omega
          rw [d0]
          have d1 : decide ((0 : Int) ≤ (i : Int)) = true := decide_eq_true (by omega)
          have e3 : IntKind.i64.wrap (8 * ((sl : Int) + (k : Int))) = 8 * ((sl : Int) + (k : Int)) := by rw [IntKind.wrap_i64]; omega
          have e4 : IntKind.i64.wrap (8 * ((sl : Int) + (k : Int)) + (i : Int)) = 8 * ((sl : Int) + (k : Int)) + (i : Int) := by rw [IntKind.wrap_i64]; omega
          have i0 : (0 : Int) ≤ 8 * ((sl : Int) + (k : Int)) + (i : Int) := by omega
          have i1 : 8 * ((sl : Int) + (k : Int)) + (i : Int) < (s.size : Int) := by omega
          have e5 : ((8 * (sl + k) + i : Nat) : Int) = 8 * ((sl : Int) + (k : Int)) + (i : Int) := by omega
          rw [e5] at hst
          have hbt := bt_at s (8 * ((sl : Int) + (k : Int)) + (i : Int)) (by omega)
          go_wp2_with fail
          exact ⟨⟨i, by omega, rfl, rfl, ⟨trivial⟩⟩, by simp [intOf]⟩
    · obtain rfl : k = sl := by omega
      have hd : decide ((k : Int) + (k : Int) < 2 * (k : Int)) = false := decide_eq_false (by omega)
      go_wp2_with fail
      go_ret
      exact ⟨_, rfl, hx.out.1, hx.out.2⟩
end Go.Proofs.YtpfcdhjknmijjaaGreat.Jd
end
