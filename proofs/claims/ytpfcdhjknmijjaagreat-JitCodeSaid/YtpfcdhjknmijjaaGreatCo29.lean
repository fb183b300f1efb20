import Derived.Test.YtpfcdhjknmijjaaGreatCo28
import Derived.Test.YtpfcdhjknmijjaaGreatCo27
import Derived.Deep.RegionHeld3
import Derived.Deep.AppendLies
section
set_option linter.unusedSimpArgs false
set_option linter.unusedVariables false
namespace Go.Proofs.YtpfcdhjknmijjaaGreat.Em
open Go.RowKit Go.Maps Go.Proofs.YtpfcdhjknmijjaaGreat.Ve Go.Proofs.YtpfcdhjknmijjaaGreat.Grow Go.Proofs.YtpfcdhjknmijjaaGreat.Rv Go.Proofs.YtpfcdhjknmijjaaGreat.As Go.Proofs.YtpfcdhjknmijjaaGreat.PEmitFinds
open Go.Proofs.YtpfcdhjknmijjaaGreatW.PrintWords Go.Proofs.YtpfcdhjknmijjaaGreatW.PrintLast Go.Proofs.YtpfcdhjknmijjaaGreatW.PrintMore

theorem len63 {w : World} {g : Nat} {A0 : Option Addr} {n c0 : Nat} (h : w.cell? ⟨g, 0, none⟩ = some (.slice A0 n c0)) (hz : g < w.heap.size) : Calls Tryz.prog 35 #[.pointer (some ⟨g, 0, none⟩)] w fun e w' => e = .returned (.int .i64 (n : Int)) ∧ w = w' := by
  go_enter Tryz.func35, Tryz.ntmps35
  go_wp2
  go_ret
  exact ⟨rfl, rfl⟩
def AZ (z : Int) : AsmS := ⟨[], z, fun _ => none, 0⟩
theorem lab_call {w W wq : World} {p m g : Nat} {v : Value} {E : Ends} {L : List Int} {z : Int} (hM : MkB W w.heap.size p m g v E L (AZ z)) (hB : Below w.heap.size w W) (hq : wq = W ∨ wq = W.drew) (h0 : 0 ≤ z) (h1 : z < 1000000000) :
    Calls Tryz.prog 36 #[.pointer (some ⟨p, 0, none⟩)] wq fun e w' => e = .returned (.int .i64 z) ∧ MkB w' w.heap.size p m g v E L (AZ (z + 1)) ∧ Below w.heap.size w w' := by
  have M : MkB wq w.heap.size p m g v E L (AZ z) := by
    rcases hq with rfl | rfl
    · exact hM
    · exact hM.below (below_drew (Below.refl _ _))
  have B : Below w.heap.size w wq := by
    rcases hq with rfl | rfl
    · exact hB
    · exact below_drew hB
  exact (label_calls M.asm h0 h1).mono fun e w' h => ⟨h.1, M.step h.2.1 h.2.2, B.trans (h.2.2.below B.size)⟩
def endVal (p m n : Nat) (j : Nat) : Value := match j with
  | 0 => .pointer (some ⟨m, 0, none⟩)
  | 1 => .pointer (some ⟨m, 0, none⟩)
  | 2 => .pointer (some ⟨m, 0, none⟩)
  | 3 => .pointer (some ⟨m, 0, none⟩)
  | 4 => .pointer (some ⟨p, 0, none⟩)
  | 5 => .int .i64 ((n + 0 : Nat) : Int)
  | 6 => .pointer (some ⟨m, 0, none⟩)
  | 7 => .pointer (some ⟨m, 0, none⟩)
  | 8 => .pointer (some ⟨m, 0, none⟩)
  | 9 => .pointer (some ⟨p, 0, none⟩)
  | 10 => .int .i64 ((n + 1 : Nat) : Int)
  | 11 => .pointer (some ⟨m, 0, none⟩)
  | 12 => .pointer (some ⟨m, 0, none⟩)
  | 13 => .pointer (some ⟨m, 0, none⟩)
  | 14 => .pointer (some ⟨p, 0, none⟩)
  | 15 => .int .i64 ((n + 2 : Nat) : Int)
  | 16 => .pointer (some ⟨m, 0, none⟩)
  | 17 => .pointer (some ⟨m, 0, none⟩)
  | 18 => .pointer (some ⟨m, 0, none⟩)
  | 19 => .pointer (some ⟨p, 0, none⟩)
  | 20 => .int .i64 ((n + 3 : Nat) : Int)
  | 21 => .pointer (some ⟨m, 0, none⟩)
  | 22 => .pointer (some ⟨m, 0, none⟩)
  | 23 => .pointer (some ⟨m, 0, none⟩)
  | 24 => .pointer (some ⟨p, 0, none⟩)
  | 25 => .int .i64 ((n + 4 : Nat) : Int)
  | 26 => .pointer (some ⟨m, 0, none⟩)
  | 27 => .pointer (some ⟨m, 0, none⟩)
  | 28 => .pointer (some ⟨m, 0, none⟩)
  | 29 => .pointer (some ⟨p, 0, none⟩)
  | 30 => .int .i64 ((n + 5 : Nat) : Int)
  | 31 => .pointer (some ⟨m, 0, none⟩)
  | 32 => .pointer (some ⟨m, 0, none⟩)
  | 33 => .pointer (some ⟨m, 0, none⟩)
  | 34 => .pointer (some ⟨p, 0, none⟩)
  | 35 => .int .i64 ((n + 6 : Nat) : Int)
  | 36 => .pointer (some ⟨m, 0, none⟩)
  | 37 => .pointer (some ⟨m, 0, none⟩)
  | 38 => .pointer (some ⟨m, 0, none⟩)
  | 39 => .pointer (some ⟨p, 0, none⟩)
  | 40 => .int .i64 ((n + 7 : Nat) : Int)
  | 41 => .agg #[.int .i64 ((n + 0 : Nat) : Int), .int .i64 ((n + 1 : Nat) : Int), .int .i64 ((n + 2 : Nat) : Int), .int .i64 ((n + 3 : Nat) : Int), .int .i64 ((n + 4 : Nat) : Int), .int .i64 ((n + 5 : Nat) : Int), .int .i64 ((n + 6 : Nat) : Int), .int .i64 ((n + 7 : Nat) : Int)]
  | 42 => .pointer (some ⟨m, 0, none⟩)
  | 43 => .pointer (some ⟨m, 3, none⟩)
  | 44 => undef
  | _ => undef
def StE (w : World) (p m g n : Nat) (v : Value) (L : List Int) (k : Nat) (W : World) : Prop :=
  if k = 9 then MkB W w.heap.size p m g v (endsE n) L (AZ ((n + 8 : Nat) : Int)) ∧ Below w.heap.size w W else MkB W w.heap.size p m g v ⟨0, 0, 0, 0, 0, 0, 0, 0⟩ L (AZ ((n + k : Nat) : Int)) ∧ Below w.heap.size w W
theorem StE.keep {w : World} {p m g n : Nat} {v : Value} {L : List Int} {k : Nat} {W W' : World} (h : StE w p m g n v L k W) (hb : Below W.heap.size W W') : StE w p m g n v L k W' := by
  unfold StE at h ⊢
  split at h
  · rename_i e; rw [if_pos e]; exact ⟨h.1.below hb, h.2.trans (hb.mono h.2.size)⟩
  · rename_i e; rw [if_neg e]; exact ⟨h.1.below hb, h.2.trans (hb.mono h.2.size)⟩
theorem StE.cell {w : World} {p m g n : Nat} {v : Value} {L : List Int} {k : Nat} {W : World} (h : StE w p m g n v L k W) : W.cell? ⟨m, 0, none⟩ = some (.pointer (some ⟨p, 0, none⟩)) ∧ m < W.heap.size := by
  unfold StE at h
  split at h
  · exact ⟨(blk_cell h.1.cells 0).trans rfl, blk_lt h.1.cells⟩
  · exact ⟨(blk_cell h.1.cells 0).trans rfl, blk_lt h.1.cells⟩
theorem StE.call {w : World} {p m g n : Nat} {v : Value} {L : List Int} {W : World} (k : Nat) (hk : k < 8) (hn : n ≤ 4000) (h : StE w p m g n v L k W) :
    Calls Tryz.prog 36 #[.pointer (some ⟨p, 0, none⟩)] W fun e w' => e = .returned (.int .i64 ((n + k : Nat) : Int)) ∧ StE w p m g n v L (k + 1) w' := by
  unfold StE at h
  rw [if_neg (by omega)] at h
  refine (lab_call h.1 h.2 (.inl rfl) (by omega) (by omega)).mono fun e w' hh => ⟨hh.1, ?_⟩
  have e : (((n + k : Nat) : Int) + 1) = ((n + (k + 1) : Nat) : Int) := by omega
  rw [e] at hh
  unfold StE
  rw [if_neg (by omega)]
  exact hh.2
theorem endsW_mk {w : World} {b p m g : Nat} {v : Value} {E0 : Ends} {L : List Int} {A : AsmS} (h : MkB w b p m g v E0 L A) (E : Ends) : MkB (endsW w m E) b p m g v E L A := by
  refine ⟨h.asm.kept fun k hk ht => endsW_far w m E fun e => ?_, endsW_row h.cells E, As.row_kept h.row fun k hk => endsW_far w m E fun e => ?_, h.le⟩
  · subst e; exact tag_no h.cells (by decide) (by decide) ht
  · subst e; exact h.ne hk
theorem StE.store {w : World} {p m g n : Nat} {v : Value} {L : List Int} {W : World} (h : StE w p m g n v L 8 W) : StE w p m g n v L 9 (endsW W m (endsE n)) := by
  unfold StE at h ⊢
  rw [if_neg (by omega)] at h
  rw [if_pos rfl]
  exact ⟨endsW_mk h.1 _, endsW_below h.2 h.1.le _⟩
set_option maxHeartbeats 8000000 in
set_option maxRecDepth 100000 in
theorem code_calls {w0 w : World} {g : Nat} {l : List S61} {st sl : Nat} {out : List Int} (h : IsS63 w0 w g l st sl out) (hB : Below w0.heap.size w0 w) (hV : ValidP l st sl) :
    Calls Tryz.prog 15 #[.pointer (some ⟨g, 0, none⟩)] w fun e w' => e = .returned (.tuple #[.string (codeT l st sl).1, .int .i64 (codeT l st sl).2]) ∧ Below w.heap.size w w' := by
  have H := Aside0.mk h
  have HB := Aside0.mk hB
  have HV := Aside0.mk hV
  clear h hB hV
  have HN := Aside0.mk HV.out.chk.n
  obtain ⟨n, hn⟩ : ∃ n, l.length = n := ⟨_, rfl⟩
  have HL := Aside0.mk hn
  rw [hn] at HN
  clear hn
  go_enter Tryz.func15, Tryz.ntmps15
  go_wp2_with fail
  refine (As.new_calls w).mono ?_
  rintro e w1 ⟨p, rfl, hp, hA, hb1⟩
  have bl := bld76 p g
  unfold makerC at bl
  have hm := heap_alloc_new w1 (.cells (makerC p g (.slice none 0 0) ⟨0, 0, 0, 0, 0, 0, 0, 0⟩) 76)
  have M0 := Aside0.mk (show MkB (w1.alloc (.cells (makerC p g (.slice none 0 0) ⟨0, 0, 0, 0, 0, 0, 0, 0⟩) 76)) w.heap.size p w1.heap.size g (.slice none 0 0) ⟨0, 0, 0, 0, 0, 0, 0, 0⟩ [] ⟨[], 0, fun _ => none, 0⟩ from
    ⟨hA.below (below_alloc (Below.refl _ _) _), hm, ⟨rfl, .inl ⟨rfl, rfl⟩⟩, hb1.size⟩)
  have B1 := Aside0.mk (below_alloc hb1 (.cells (makerC p g (.slice none 0 0) ⟨0, 0, 0, 0, 0, 0, 0, 0⟩) 76))
  obtain ⟨A0, c0, A3, c3, hg, hge, hC0, hC3⟩ := H.out.below B1.out
  have g0 := (blk_cell hg 0).trans (show _ = some (.slice A0 l.length c0) from rfl)
  have gz := blk_lt hg
  rw [HL.out] at g0
  clear hm hA hb1 hg hge hC0 hC3
  unfold makerC at M0 B1 g0 gz
  go_wp2_with (first | (go_at_call 35; refine (len63 g0 gz).mono ?_; rintro e wq ⟨rfl, rfl⟩))
  clear bl g0 gz
  obtain ⟨m, hm⟩ : ∃ m, w1.heap.size = m := ⟨_, rfl⟩
  rw [hm] at M0 ⊢
  generalize w1.alloc (.cells #[.pointer (some ⟨p, 0, none⟩), .pointer (some ⟨g, 0, none⟩), .slice none 0 0, .int .i64 0, .int .i64 0, .int .i64 0, .int .i64 0, .int .i64 0, .int .i64 0, .int .i64 0, .int .i64 0] 76) = w2 at *
  go_loopw [14] (fun i wr => ∃ j : Nat, j ≤ n ∧ i = .int .i64 j ∧ ∃ v, Aside0 (MkB wr w.heap.size p m g v ⟨0, 0, 0, 0, 0, 0, 0, 0⟩ (labL j) ⟨[], (j : Int), fun _ => none, 0⟩ ∧ Below w.heap.size w wr)) (fun i _ => n - (intOf i).toNat)
  case atStart => exact ⟨0, by omega, rfl, _, ⟨M0.out, B1.out⟩⟩
  case round =>
    obtain ⟨j, hj, rfl, v, hR⟩ := hrel
    obtain ⟨va, vc, rfl⟩ := row_form hR.out.1.row
    rw [labL_len] at hR
    by_cases hlt : j < n
    · have HJ := Aside0.mk hlt
      have j0 : (0 : Int) ≤ (j : Int) := by omega
      have j1 : (j : Int) < (n : Int) := by omega
      have j2 : (n : Int) ≤ 4000 := by have := HN.out; omega
      have M := Aside0.mk hR.out.1
      have B := Aside0.mk hR.out.2
      have c0 := (blk_cell M.out.cells 0).trans (show _ = some (.pointer (some ⟨p, 0, none⟩)) from rfl)
      have c2 := (blk_cell M.out.cells 2).trans (show _ = some (.slice va j vc) from rfl)
      have cz := blk_lt M.out.cells
      obtain ⟨i0, hi3, hz0, hz1, hz2⟩ := info_parts PEmitFinds.info3
      clear hR hj
      go_wp2_with fail
      go_region_law
        ((first
          | (go_simp; go_at_call 36; refine (label_calls (M.out.below (below_drew (Below.refl _ _))).asm (by show (0 : Int) ≤ (j : Int); omega) (by show (j : Int) < 1000000000; have := HN.out; have := HJ.out; omega)).mono ?_; rintro e wd ⟨rfl, hA, hF⟩; replace M := Aside0.mk ((M.out.below (below_drew (Below.refl _ _))).step hA hF); have c0 := (blk_cell M.out.cells 0).trans (show _ = some (.pointer (some ⟨p, 0, none⟩)) from rfl); have c2 := (blk_cell M.out.cells 2).trans (show _ = some (.slice va j vc) from rfl); have cz := blk_lt M.out.cells; replace B := Aside0.mk ((below_drew B.out).trans (hF.below (show w.heap.size ≤ wr.drew.heap.size from B.out.size))))
          | (refine step_append_lies _ (by rfl) (.tmp 20) (.tmp 26) 38 (by rfl) w.heap.size 3 i0 (.int .i64 0) 1 8 under51 hi3 hz0 hz1 hz2 rfl (by omega) (.slice va j vc) j ((labL j).map (Value.int .i64)) (by rfl) (by have q := (M.out.below (below_alloc (Below.refl _ _) (.cells #[.int .i64 (j : Int)] 3))).row; rw [labL_len] at q; exact q) ⟨wd.heap.size, 0, none⟩ 1 1 [.int .i64 (j : Int)] (by rfl) (by rfl) (World.news_of_block (cs := #[.int .i64 (j : Int)]) (t := 3) (fr := (0, 0)) (heap_alloc_new wd _)) (by simp [Value.oneCell']) (by omega) (by unfold maxLen; have := HN.out; have := HJ.out; omega) (by have := HN.out; have := HJ.out; omega) (by have := B.out.size; simp; omega) (wd.heap.size + 1) (by simp) ?_; intro gg cap w5 hown1 hgrow hat hlt; have hm5 := (hgrow.block m (by have := blk_lt M.out.cells; simp; omega) (Ne.symm M.out.ne)).trans (blk_alloc M.out.cells _); have e10 : w5.cell? ⟨m, 0, none⟩ = some (.pointer (some ⟨p, 0, none⟩)) := (blk_cell hm5 0).trans rfl; have e12 : w5.cell? ⟨m, 2, none⟩ = some (.slice va j vc) := (blk_cell hm5 2).trans rfl; have e2 := frozen_of_row w5 m 2 _ 76 hm5; have e3 := blk_lt hm5)))
      all_goals
        have P := Aside0.mk (show MkB (w5.setCell ⟨m, 2, none⟩ (.slice (some ⟨gg, 0, none⟩) (j + 1) cap)) w.heap.size p m g (.slice (some ⟨gg, 0, none⟩) (j + 1) cap) ⟨0, 0, 0, 0, 0, 0, 0, 0⟩ (labL (j + 1)) ⟨[], ((j + 1 : Nat) : Int), fun _ => none, 0⟩ by
          rw [labL_succ, Int.natCast_succ]
          exact (M.out.below (below_alloc (Below.refl _ _) (.cells #[.int .i64 (j : Int)] 3))).push hgrow (by rw [labL_len]; exact hown1))
        have B5 := Aside0.mk (((below_alloc B.out (.cells #[.int .i64 (j : Int)] 3)).grown hgrow (by have := B.out.size; simp; omega) (fun k hk => (own_no M.out.row k hk).1)).setCell (p := ⟨m, 2, none⟩) M.out.le (.slice (some ⟨gg, 0, none⟩) (j + 1) cap))
        clear hgrow hown1 hat hlt hm5 e10 e12 e2 e3 M B c0 c2 cz
        go_wp2
        go_roundw
        case rel => exact ⟨j + 1, by have := HJ.out; omega, by go_num, _, ⟨P.out, B5.out⟩⟩
        case measure => simp [intOf]; have := HJ.out; omega
    · obtain rfl : n = j := by omega
      have M := Aside0.mk hR.out.1
      have B := Aside0.mk hR.out.2
      clear hR hj hlt
      have c0 := (blk_cell M.out.cells 0).trans (show _ = some (.pointer (some ⟨p, 0, none⟩)) from rfl)
      have cz := blk_lt M.out.cells
      have n4 := HN.out.2
      have NL := Aside0.mk (show (0 : Int) ≤ (n : Int) ∧ (n : Int) ≤ 4000 by omega)
      clear n4
      replace M : Aside0 (MkB wr w.heap.size p m g (.slice va n vc) ⟨0, 0, 0, 0, 0, 0, 0, 0⟩ (labL n) (AZ n)) := M
      go_wp2_with fail
      have NB := Aside0.mk HN.out.2
      have S0 := Aside0.mk (show StE w p m g n (.slice va n vc) (labL n) 0 { wr with drawn := wr.drawn + 1 } by unfold StE; rw [if_neg (by omega)]; exact ⟨M.out.below (below_drew (Below.refl _ _)), below_drew B.out⟩)
      refine wp_region_chain (B := [0, 0, 2, 6, 14, 30, 0, 64, 192, 448, 1022, 0, 2048, 6144, 14336, 32766, 0, 65536, 196608, 458752, 1048574, 0, 2097152, 6291456, 14680064, 33554430, 0, 67108864, 201326592, 469762048, 1073741822, 0, 2147483648, 6442450944, 15032385536, 34359738366, 0, 68719476736, 206158430208, 481036337152, 1099511627774, 2199023255550, 4398046511103, 8796093022207, 17592186044415]) [some 31, some 32, some 33, some 34, some 35, some 36, some 37, some 38, some 39, some 40, some 41, some 42, some 43, some 44, some 45, some 46, some 47, some 48, some 49, some 50, some 51, some 52, some 53, some 54, some 55, some 56, some 57, some 58, some 59, some 60, some 61, some 62, some 63, some 64, some 65, some 66, some 67, some 68, some 69, some 70, some 71, some 72, some 73, some 74, none] (fun j x _ => x j = endVal p m n j) [5, 10, 15, 20, 25, 30, 35, 40, 44] (StE w p m g n (.slice va n vc) (labL n)) (by kernel_rfl) rfl (by kernel_rfl) (by kernel_rfl) (by kernel_rfl) ?_ S0.out ?_ (by decide) (by decide) (by decide) ?_ ?_ ?_
      · exact fun j v w w' h _ => h
      · exact fun k w w' h hb => h.keep hb
      · intro j i v u w1 hj hij hbt hv
        simp only [upd]; rw [if_neg (Ne.symm hij)]; exact hv
      · intro i hi o ho a6 w6 v hoth hdep
        rcases i with _ | _ | _ | _ | _ | _ | _ | _ | _ | _ | _ | _ | _ | _ | _ | _ | _ | _ | _ | _ | _ | _ | _ | _ | _ | _ | _ | _ | _ | _ | _ | _ | _ | _ | _ | _ | _ | _ | _ | _ | _ | _ | _ | _ | _ | i
        · injection ho with ho; subst ho
          have q4 : a6.tmps.getD 4 undef = .pointer (some ⟨m, 0, none⟩) := hoth 4 (by decide)
          clear hoth hdep
          refine .inl ⟨by decide, fun k hk hSt => ?_⟩
          obtain ⟨c0, cz⟩ := hSt.cell
          clear hSt
          simp only [Oper.grows, upd, if_true]
          go_simp
          all_goals first | exact Below.refl _ _ | exact ⟨Below.refl _ _, rfl⟩
        · injection ho with ho; subst ho
          have q4 : a6.tmps.getD 4 undef = .pointer (some ⟨m, 0, none⟩) := hoth 4 (by decide)
          clear hoth hdep
          refine .inl ⟨by decide, fun k hk hSt => ?_⟩
          obtain ⟨c0, cz⟩ := hSt.cell
          clear hSt
          simp only [Oper.grows, upd, if_true]
          go_simp
          all_goals first | exact Below.refl _ _ | exact ⟨Below.refl _ _, rfl⟩
        · injection ho with ho; subst ho
          have s1 : a6.tmps.getD 32 undef = .pointer (some ⟨m, 0, none⟩) := ((hdep 1 (by decide) (by decide)).2 32 rfl).trans (hdep 1 (by decide) (by decide)).1
          clear hoth hdep
          refine .inl ⟨by decide, fun k hk hSt => ?_⟩
          obtain ⟨c0, cz⟩ := hSt.cell
          clear hSt
          simp only [Oper.grows, upd, if_true]
          go_simp
          all_goals first | exact Below.refl _ _ | exact ⟨Below.refl _ _, rfl⟩
        · injection ho with ho; subst ho
          have s2 : a6.tmps.getD 33 undef = .pointer (some ⟨m, 0, none⟩) := ((hdep 2 (by decide) (by decide)).2 33 rfl).trans (hdep 2 (by decide) (by decide)).1
          clear hoth hdep
          refine .inl ⟨by decide, fun k hk hSt => ?_⟩
          obtain ⟨c0, cz⟩ := hSt.cell
          clear hSt
          simp only [Oper.grows, upd, if_true]
          go_simp
          all_goals first | exact Below.refl _ _ | exact ⟨Below.refl _ _, rfl⟩
        · injection ho with ho; subst ho
          have s3 : a6.tmps.getD 34 undef = .pointer (some ⟨m, 0, none⟩) := ((hdep 3 (by decide) (by decide)).2 34 rfl).trans (hdep 3 (by decide) (by decide)).1
          clear hoth hdep
          refine .inl ⟨by decide, fun k hk hSt => ?_⟩
          obtain ⟨c0, cz⟩ := hSt.cell
          clear hSt
          simp only [Oper.grows, upd, if_true]
          go_simp
          all_goals first | exact Below.refl _ _ | exact ⟨Below.refl _ _, rfl⟩
        · injection ho with ho; subst ho
          have s4 : a6.tmps.getD 35 undef = .pointer (some ⟨p, 0, none⟩) := ((hdep 4 (by decide) (by decide)).2 35 rfl).trans (hdep 4 (by decide) (by decide)).1
          clear hoth hdep
          refine .inr ⟨0, by decide, rfl, fun hSt => ?_⟩
          have C := Aside0.mk (StE.call 0 (by omega) NB.out hSt)
          clear hSt
          simp only [Oper.moves, upd, if_true]
          go_simp
          exact C.out.mono fun e w9 hh => ⟨_, hh.1, rfl, hh.2⟩
        · injection ho with ho; subst ho
          have q4 : a6.tmps.getD 4 undef = .pointer (some ⟨m, 0, none⟩) := hoth 4 (by decide)
          clear hoth hdep
          refine .inl ⟨by decide, fun k hk hSt => ?_⟩
          obtain ⟨c0, cz⟩ := hSt.cell
          clear hSt
          simp only [Oper.grows, upd, if_true]
          go_simp
          all_goals first | exact Below.refl _ _ | exact ⟨Below.refl _ _, rfl⟩
        · injection ho with ho; subst ho
          have s6 : a6.tmps.getD 37 undef = .pointer (some ⟨m, 0, none⟩) := ((hdep 6 (by decide) (by decide)).2 37 rfl).trans (hdep 6 (by decide) (by decide)).1
          clear hoth hdep
          refine .inl ⟨by decide, fun k hk hSt => ?_⟩
          obtain ⟨c0, cz⟩ := hSt.cell
          clear hSt
          simp only [Oper.grows, upd, if_true]
          go_simp
          all_goals first | exact Below.refl _ _ | exact ⟨Below.refl _ _, rfl⟩
        · injection ho with ho; subst ho
          have s7 : a6.tmps.getD 38 undef = .pointer (some ⟨m, 0, none⟩) := ((hdep 7 (by decide) (by decide)).2 38 rfl).trans (hdep 7 (by decide) (by decide)).1
          clear hoth hdep
          refine .inl ⟨by decide, fun k hk hSt => ?_⟩
          obtain ⟨c0, cz⟩ := hSt.cell
          clear hSt
          simp only [Oper.grows, upd, if_true]
          go_simp
          all_goals first | exact Below.refl _ _ | exact ⟨Below.refl _ _, rfl⟩
        · injection ho with ho; subst ho
          have s8 : a6.tmps.getD 39 undef = .pointer (some ⟨m, 0, none⟩) := ((hdep 8 (by decide) (by decide)).2 39 rfl).trans (hdep 8 (by decide) (by decide)).1
          clear hoth hdep
          refine .inl ⟨by decide, fun k hk hSt => ?_⟩
          obtain ⟨c0, cz⟩ := hSt.cell
          clear hSt
          simp only [Oper.grows, upd, if_true]
          go_simp
          all_goals first | exact Below.refl _ _ | exact ⟨Below.refl _ _, rfl⟩
        · injection ho with ho; subst ho
          have s9 : a6.tmps.getD 40 undef = .pointer (some ⟨p, 0, none⟩) := ((hdep 9 (by decide) (by decide)).2 40 rfl).trans (hdep 9 (by decide) (by decide)).1
          clear hoth hdep
          refine .inr ⟨1, by decide, rfl, fun hSt => ?_⟩
          have C := Aside0.mk (StE.call 1 (by omega) NB.out hSt)
          clear hSt
          simp only [Oper.moves, upd, if_true]
          go_simp
          exact C.out.mono fun e w9 hh => ⟨_, hh.1, rfl, hh.2⟩
        · injection ho with ho; subst ho
          have q4 : a6.tmps.getD 4 undef = .pointer (some ⟨m, 0, none⟩) := hoth 4 (by decide)
          clear hoth hdep
          refine .inl ⟨by decide, fun k hk hSt => ?_⟩
          obtain ⟨c0, cz⟩ := hSt.cell
          clear hSt
          simp only [Oper.grows, upd, if_true]
          go_simp
          all_goals first | exact Below.refl _ _ | exact ⟨Below.refl _ _, rfl⟩
        · injection ho with ho; subst ho
          have s11 : a6.tmps.getD 42 undef = .pointer (some ⟨m, 0, none⟩) := ((hdep 11 (by decide) (by decide)).2 42 rfl).trans (hdep 11 (by decide) (by decide)).1
          clear hoth hdep
          refine .inl ⟨by decide, fun k hk hSt => ?_⟩
          obtain ⟨c0, cz⟩ := hSt.cell
          clear hSt
          simp only [Oper.grows, upd, if_true]
          go_simp
          all_goals first | exact Below.refl _ _ | exact ⟨Below.refl _ _, rfl⟩
        · injection ho with ho; subst ho
          have s12 : a6.tmps.getD 43 undef = .pointer (some ⟨m, 0, none⟩) := ((hdep 12 (by decide) (by decide)).2 43 rfl).trans (hdep 12 (by decide) (by decide)).1
          clear hoth hdep
          refine .inl ⟨by decide, fun k hk hSt => ?_⟩
          obtain ⟨c0, cz⟩ := hSt.cell
          clear hSt
          simp only [Oper.grows, upd, if_true]
          go_simp
          all_goals first | exact Below.refl _ _ | exact ⟨Below.refl _ _, rfl⟩
        · injection ho with ho; subst ho
          have s13 : a6.tmps.getD 44 undef = .pointer (some ⟨m, 0, none⟩) := ((hdep 13 (by decide) (by decide)).2 44 rfl).trans (hdep 13 (by decide) (by decide)).1
          clear hoth hdep
          refine .inl ⟨by decide, fun k hk hSt => ?_⟩
          obtain ⟨c0, cz⟩ := hSt.cell
          clear hSt
          simp only [Oper.grows, upd, if_true]
          go_simp
          all_goals first | exact Below.refl _ _ | exact ⟨Below.refl _ _, rfl⟩
        · injection ho with ho; subst ho
          have s14 : a6.tmps.getD 45 undef = .pointer (some ⟨p, 0, none⟩) := ((hdep 14 (by decide) (by decide)).2 45 rfl).trans (hdep 14 (by decide) (by decide)).1
          clear hoth hdep
          refine .inr ⟨2, by decide, rfl, fun hSt => ?_⟩
          have C := Aside0.mk (StE.call 2 (by omega) NB.out hSt)
          clear hSt
          simp only [Oper.moves, upd, if_true]
          go_simp
          exact C.out.mono fun e w9 hh => ⟨_, hh.1, rfl, hh.2⟩
        · injection ho with ho; subst ho
          have q4 : a6.tmps.getD 4 undef = .pointer (some ⟨m, 0, none⟩) := hoth 4 (by decide)
          clear hoth hdep
          refine .inl ⟨by decide, fun k hk hSt => ?_⟩
          obtain ⟨c0, cz⟩ := hSt.cell
          clear hSt
          simp only [Oper.grows, upd, if_true]
          go_simp
          all_goals first | exact Below.refl _ _ | exact ⟨Below.refl _ _, rfl⟩
        · injection ho with ho; subst ho
          have s16 : a6.tmps.getD 47 undef = .pointer (some ⟨m, 0, none⟩) := ((hdep 16 (by decide) (by decide)).2 47 rfl).trans (hdep 16 (by decide) (by decide)).1
          clear hoth hdep
          refine .inl ⟨by decide, fun k hk hSt => ?_⟩
          obtain ⟨c0, cz⟩ := hSt.cell
          clear hSt
          simp only [Oper.grows, upd, if_true]
          go_simp
          all_goals first | exact Below.refl _ _ | exact ⟨Below.refl _ _, rfl⟩
        · injection ho with ho; subst ho
          have s17 : a6.tmps.getD 48 undef = .pointer (some ⟨m, 0, none⟩) := ((hdep 17 (by decide) (by decide)).2 48 rfl).trans (hdep 17 (by decide) (by decide)).1
          clear hoth hdep
          refine .inl ⟨by decide, fun k hk hSt => ?_⟩
          obtain ⟨c0, cz⟩ := hSt.cell
          clear hSt
          simp only [Oper.grows, upd, if_true]
          go_simp
          all_goals first | exact Below.refl _ _ | exact ⟨Below.refl _ _, rfl⟩
        · injection ho with ho; subst ho
          have s18 : a6.tmps.getD 49 undef = .pointer (some ⟨m, 0, none⟩) := ((hdep 18 (by decide) (by decide)).2 49 rfl).trans (hdep 18 (by decide) (by decide)).1
          clear hoth hdep
          refine .inl ⟨by decide, fun k hk hSt => ?_⟩
          obtain ⟨c0, cz⟩ := hSt.cell
          clear hSt
          simp only [Oper.grows, upd, if_true]
          go_simp
          all_goals first | exact Below.refl _ _ | exact ⟨Below.refl _ _, rfl⟩
        · injection ho with ho; subst ho
          have s19 : a6.tmps.getD 50 undef = .pointer (some ⟨p, 0, none⟩) := ((hdep 19 (by decide) (by decide)).2 50 rfl).trans (hdep 19 (by decide) (by decide)).1
          clear hoth hdep
          refine .inr ⟨3, by decide, rfl, fun hSt => ?_⟩
          have C := Aside0.mk (StE.call 3 (by omega) NB.out hSt)
          clear hSt
          simp only [Oper.moves, upd, if_true]
          go_simp
          exact C.out.mono fun e w9 hh => ⟨_, hh.1, rfl, hh.2⟩
        · injection ho with ho; subst ho
          have q4 : a6.tmps.getD 4 undef = .pointer (some ⟨m, 0, none⟩) := hoth 4 (by decide)
          clear hoth hdep
          refine .inl ⟨by decide, fun k hk hSt => ?_⟩
          obtain ⟨c0, cz⟩ := hSt.cell
          clear hSt
          simp only [Oper.grows, upd, if_true]
          go_simp
          all_goals first | exact Below.refl _ _ | exact ⟨Below.refl _ _, rfl⟩
        · injection ho with ho; subst ho
          have s21 : a6.tmps.getD 52 undef = .pointer (some ⟨m, 0, none⟩) := ((hdep 21 (by decide) (by decide)).2 52 rfl).trans (hdep 21 (by decide) (by decide)).1
          clear hoth hdep
          refine .inl ⟨by decide, fun k hk hSt => ?_⟩
          obtain ⟨c0, cz⟩ := hSt.cell
          clear hSt
          simp only [Oper.grows, upd, if_true]
          go_simp
          all_goals first | exact Below.refl _ _ | exact ⟨Below.refl _ _, rfl⟩
        · injection ho with ho; subst ho
          have s22 : a6.tmps.getD 53 undef = .pointer (some ⟨m, 0, none⟩) := ((hdep 22 (by decide) (by decide)).2 53 rfl).trans (hdep 22 (by decide) (by decide)).1
          clear hoth hdep
          refine .inl ⟨by decide, fun k hk hSt => ?_⟩
          obtain ⟨c0, cz⟩ := hSt.cell
          clear hSt
          simp only [Oper.grows, upd, if_true]
          go_simp
          all_goals first | exact Below.refl _ _ | exact ⟨Below.refl _ _, rfl⟩
        · injection ho with ho; subst ho
          have s23 : a6.tmps.getD 54 undef = .pointer (some ⟨m, 0, none⟩) := ((hdep 23 (by decide) (by decide)).2 54 rfl).trans (hdep 23 (by decide) (by decide)).1
          clear hoth hdep
          refine .inl ⟨by decide, fun k hk hSt => ?_⟩
          obtain ⟨c0, cz⟩ := hSt.cell
          clear hSt
          simp only [Oper.grows, upd, if_true]
          go_simp
          all_goals first | exact Below.refl _ _ | exact ⟨Below.refl _ _, rfl⟩
        · injection ho with ho; subst ho
          have s24 : a6.tmps.getD 55 undef = .pointer (some ⟨p, 0, none⟩) := ((hdep 24 (by decide) (by decide)).2 55 rfl).trans (hdep 24 (by decide) (by decide)).1
          clear hoth hdep
          refine .inr ⟨4, by decide, rfl, fun hSt => ?_⟩
          have C := Aside0.mk (StE.call 4 (by omega) NB.out hSt)
          clear hSt
          simp only [Oper.moves, upd, if_true]
          go_simp
          exact C.out.mono fun e w9 hh => ⟨_, hh.1, rfl, hh.2⟩
        · injection ho with ho; subst ho
          have q4 : a6.tmps.getD 4 undef = .pointer (some ⟨m, 0, none⟩) := hoth 4 (by decide)
          clear hoth hdep
          refine .inl ⟨by decide, fun k hk hSt => ?_⟩
          obtain ⟨c0, cz⟩ := hSt.cell
          clear hSt
          simp only [Oper.grows, upd, if_true]
          go_simp
          all_goals first | exact Below.refl _ _ | exact ⟨Below.refl _ _, rfl⟩
        · injection ho with ho; subst ho
          have s26 : a6.tmps.getD 57 undef = .pointer (some ⟨m, 0, none⟩) := ((hdep 26 (by decide) (by decide)).2 57 rfl).trans (hdep 26 (by decide) (by decide)).1
          clear hoth hdep
          refine .inl ⟨by decide, fun k hk hSt => ?_⟩
          obtain ⟨c0, cz⟩ := hSt.cell
          clear hSt
          simp only [Oper.grows, upd, if_true]
          go_simp
          all_goals first | exact Below.refl _ _ | exact ⟨Below.refl _ _, rfl⟩
        · injection ho with ho; subst ho
          have s27 : a6.tmps.getD 58 undef = .pointer (some ⟨m, 0, none⟩) := ((hdep 27 (by decide) (by decide)).2 58 rfl).trans (hdep 27 (by decide) (by decide)).1
          clear hoth hdep
          refine .inl ⟨by decide, fun k hk hSt => ?_⟩
          obtain ⟨c0, cz⟩ := hSt.cell
          clear hSt
          simp only [Oper.grows, upd, if_true]
          go_simp
          all_goals first | exact Below.refl _ _ | exact ⟨Below.refl _ _, rfl⟩
        · injection ho with ho; subst ho
          have s28 : a6.tmps.getD 59 undef = .pointer (some ⟨m, 0, none⟩) := ((hdep 28 (by decide) (by decide)).2 59 rfl).trans (hdep 28 (by decide) (by decide)).1
          clear hoth hdep
          refine .inl ⟨by decide, fun k hk hSt => ?_⟩
          obtain ⟨c0, cz⟩ := hSt.cell
          clear hSt
          simp only [Oper.grows, upd, if_true]
          go_simp
          all_goals first | exact Below.refl _ _ | exact ⟨Below.refl _ _, rfl⟩
        · injection ho with ho; subst ho
          have s29 : a6.tmps.getD 60 undef = .pointer (some ⟨p, 0, none⟩) := ((hdep 29 (by decide) (by decide)).2 60 rfl).trans (hdep 29 (by decide) (by decide)).1
          clear hoth hdep
          refine .inr ⟨5, by decide, rfl, fun hSt => ?_⟩
          have C := Aside0.mk (StE.call 5 (by omega) NB.out hSt)
          clear hSt
          simp only [Oper.moves, upd, if_true]
          go_simp
          exact C.out.mono fun e w9 hh => ⟨_, hh.1, rfl, hh.2⟩
        · injection ho with ho; subst ho
          have q4 : a6.tmps.getD 4 undef = .pointer (some ⟨m, 0, none⟩) := hoth 4 (by decide)
          clear hoth hdep
          refine .inl ⟨by decide, fun k hk hSt => ?_⟩
          obtain ⟨c0, cz⟩ := hSt.cell
          clear hSt
          simp only [Oper.grows, upd, if_true]
          go_simp
          all_goals first | exact Below.refl _ _ | exact ⟨Below.refl _ _, rfl⟩
        · injection ho with ho; subst ho
          have s31 : a6.tmps.getD 62 undef = .pointer (some ⟨m, 0, none⟩) := ((hdep 31 (by decide) (by decide)).2 62 rfl).trans (hdep 31 (by decide) (by decide)).1
          clear hoth hdep
          refine .inl ⟨by decide, fun k hk hSt => ?_⟩
          obtain ⟨c0, cz⟩ := hSt.cell
          clear hSt
          simp only [Oper.grows, upd, if_true]
          go_simp
          all_goals first | exact Below.refl _ _ | exact ⟨Below.refl _ _, rfl⟩
        · injection ho with ho; subst ho
          have s32 : a6.tmps.getD 63 undef = .pointer (some ⟨m, 0, none⟩) := ((hdep 32 (by decide) (by decide)).2 63 rfl).trans (hdep 32 (by decide) (by decide)).1
          clear hoth hdep
          refine .inl ⟨by decide, fun k hk hSt => ?_⟩
          obtain ⟨c0, cz⟩ := hSt.cell
          clear hSt
          simp only [Oper.grows, upd, if_true]
          go_simp
          all_goals first | exact Below.refl _ _ | exact ⟨Below.refl _ _, rfl⟩
        · injection ho with ho; subst ho
          have s33 : a6.tmps.getD 64 undef = .pointer (some ⟨m, 0, none⟩) := ((hdep 33 (by decide) (by decide)).2 64 rfl).trans (hdep 33 (by decide) (by decide)).1
          clear hoth hdep
          refine .inl ⟨by decide, fun k hk hSt => ?_⟩
          obtain ⟨c0, cz⟩ := hSt.cell
          clear hSt
          simp only [Oper.grows, upd, if_true]
          go_simp
          all_goals first | exact Below.refl _ _ | exact ⟨Below.refl _ _, rfl⟩
        · injection ho with ho; subst ho
          have s34 : a6.tmps.getD 65 undef = .pointer (some ⟨p, 0, none⟩) := ((hdep 34 (by decide) (by decide)).2 65 rfl).trans (hdep 34 (by decide) (by decide)).1
          clear hoth hdep
          refine .inr ⟨6, by decide, rfl, fun hSt => ?_⟩
          have C := Aside0.mk (StE.call 6 (by omega) NB.out hSt)
          clear hSt
          simp only [Oper.moves, upd, if_true]
          go_simp
          exact C.out.mono fun e w9 hh => ⟨_, hh.1, rfl, hh.2⟩
        · injection ho with ho; subst ho
          have q4 : a6.tmps.getD 4 undef = .pointer (some ⟨m, 0, none⟩) := hoth 4 (by decide)
          clear hoth hdep
          refine .inl ⟨by decide, fun k hk hSt => ?_⟩
          obtain ⟨c0, cz⟩ := hSt.cell
          clear hSt
          simp only [Oper.grows, upd, if_true]
          go_simp
          all_goals first | exact Below.refl _ _ | exact ⟨Below.refl _ _, rfl⟩
        · injection ho with ho; subst ho
          have s36 : a6.tmps.getD 67 undef = .pointer (some ⟨m, 0, none⟩) := ((hdep 36 (by decide) (by decide)).2 67 rfl).trans (hdep 36 (by decide) (by decide)).1
          clear hoth hdep
          refine .inl ⟨by decide, fun k hk hSt => ?_⟩
          obtain ⟨c0, cz⟩ := hSt.cell
          clear hSt
          simp only [Oper.grows, upd, if_true]
          go_simp
          all_goals first | exact Below.refl _ _ | exact ⟨Below.refl _ _, rfl⟩
        · injection ho with ho; subst ho
          have s37 : a6.tmps.getD 68 undef = .pointer (some ⟨m, 0, none⟩) := ((hdep 37 (by decide) (by decide)).2 68 rfl).trans (hdep 37 (by decide) (by decide)).1
          clear hoth hdep
          refine .inl ⟨by decide, fun k hk hSt => ?_⟩
          obtain ⟨c0, cz⟩ := hSt.cell
          clear hSt
          simp only [Oper.grows, upd, if_true]
          go_simp
          all_goals first | exact Below.refl _ _ | exact ⟨Below.refl _ _, rfl⟩
        · injection ho with ho; subst ho
          have s38 : a6.tmps.getD 69 undef = .pointer (some ⟨m, 0, none⟩) := ((hdep 38 (by decide) (by decide)).2 69 rfl).trans (hdep 38 (by decide) (by decide)).1
          clear hoth hdep
          refine .inl ⟨by decide, fun k hk hSt => ?_⟩
          obtain ⟨c0, cz⟩ := hSt.cell
          clear hSt
          simp only [Oper.grows, upd, if_true]
          go_simp
          all_goals first | exact Below.refl _ _ | exact ⟨Below.refl _ _, rfl⟩
        · injection ho with ho; subst ho
          have s39 : a6.tmps.getD 70 undef = .pointer (some ⟨p, 0, none⟩) := ((hdep 39 (by decide) (by decide)).2 70 rfl).trans (hdep 39 (by decide) (by decide)).1
          clear hoth hdep
          refine .inr ⟨7, by decide, rfl, fun hSt => ?_⟩
          have C := Aside0.mk (StE.call 7 (by omega) NB.out hSt)
          clear hSt
          simp only [Oper.moves, upd, if_true]
          go_simp
          exact C.out.mono fun e w9 hh => ⟨_, hh.1, rfl, hh.2⟩
        · injection ho with ho; subst ho
          have s5 : a6.tmps.getD 36 undef = .int .i64 ((n + 0 : Nat) : Int) := ((hdep 5 (by decide) (by decide)).2 36 rfl).trans (hdep 5 (by decide) (by decide)).1
          have s10 : a6.tmps.getD 41 undef = .int .i64 ((n + 1 : Nat) : Int) := ((hdep 10 (by decide) (by decide)).2 41 rfl).trans (hdep 10 (by decide) (by decide)).1
          have s15 : a6.tmps.getD 46 undef = .int .i64 ((n + 2 : Nat) : Int) := ((hdep 15 (by decide) (by decide)).2 46 rfl).trans (hdep 15 (by decide) (by decide)).1
          have s20 : a6.tmps.getD 51 undef = .int .i64 ((n + 3 : Nat) : Int) := ((hdep 20 (by decide) (by decide)).2 51 rfl).trans (hdep 20 (by decide) (by decide)).1
          have s25 : a6.tmps.getD 56 undef = .int .i64 ((n + 4 : Nat) : Int) := ((hdep 25 (by decide) (by decide)).2 56 rfl).trans (hdep 25 (by decide) (by decide)).1
          have s30 : a6.tmps.getD 61 undef = .int .i64 ((n + 5 : Nat) : Int) := ((hdep 30 (by decide) (by decide)).2 61 rfl).trans (hdep 30 (by decide) (by decide)).1
          have s35 : a6.tmps.getD 66 undef = .int .i64 ((n + 6 : Nat) : Int) := ((hdep 35 (by decide) (by decide)).2 66 rfl).trans (hdep 35 (by decide) (by decide)).1
          have s40 : a6.tmps.getD 71 undef = .int .i64 ((n + 7 : Nat) : Int) := ((hdep 40 (by decide) (by decide)).2 71 rfl).trans (hdep 40 (by decide) (by decide)).1
          have r5 : a6.tmps[36]?.getD undef = .int .i64 ((n + 0 : Nat) : Int) := by simpa using s5
          have r10 : a6.tmps[41]?.getD undef = .int .i64 ((n + 1 : Nat) : Int) := by simpa using s10
          have r15 : a6.tmps[46]?.getD undef = .int .i64 ((n + 2 : Nat) : Int) := by simpa using s15
          have r20 : a6.tmps[51]?.getD undef = .int .i64 ((n + 3 : Nat) : Int) := by simpa using s20
          have r25 : a6.tmps[56]?.getD undef = .int .i64 ((n + 4 : Nat) : Int) := by simpa using s25
          have r30 : a6.tmps[61]?.getD undef = .int .i64 ((n + 5 : Nat) : Int) := by simpa using s30
          have r35 : a6.tmps[66]?.getD undef = .int .i64 ((n + 6 : Nat) : Int) := by simpa using s35
          have r40 : a6.tmps[71]?.getD undef = .int .i64 ((n + 7 : Nat) : Int) := by simpa using s40
          clear hoth hdep
          refine .inl ⟨by decide, fun k hk hSt => ?_⟩
          obtain ⟨c0, cz⟩ := hSt.cell
          clear hSt
          simp only [Oper.grows, upd, if_true]
          go_simp
          all_goals first | exact Below.refl _ _ | exact ⟨Below.refl _ _, rfl⟩
        · injection ho with ho; subst ho
          have s0 : a6.tmps.getD 31 undef = .pointer (some ⟨m, 0, none⟩) := ((hdep 0 (by decide) (by decide)).2 31 rfl).trans (hdep 0 (by decide) (by decide)).1
          clear hoth hdep
          refine .inl ⟨by decide, fun k hk hSt => ?_⟩
          obtain ⟨c0, cz⟩ := hSt.cell
          clear hSt
          simp only [Oper.grows, upd, if_true]
          go_simp
          all_goals first | exact Below.refl _ _ | exact ⟨Below.refl _ _, rfl⟩
        · injection ho with ho; subst ho
          have s42 : a6.tmps.getD 73 undef = .pointer (some ⟨m, 0, none⟩) := ((hdep 42 (by decide) (by decide)).2 73 rfl).trans (hdep 42 (by decide) (by decide)).1
          clear hoth hdep
          refine .inl ⟨by decide, fun k hk hSt => ?_⟩
          obtain ⟨c0, cz⟩ := hSt.cell
          clear hSt
          simp only [Oper.grows, upd, if_true]
          go_simp
          all_goals first | exact Below.refl _ _ | exact ⟨Below.refl _ _, rfl⟩
        · injection ho with ho; subst ho
          have s43 : a6.tmps.getD 74 undef = .pointer (some ⟨m, 3, none⟩) := ((hdep 43 (by decide) (by decide)).2 74 rfl).trans (hdep 43 (by decide) (by decide)).1
          have s41 : a6.tmps.getD 72 undef = .agg #[.int .i64 ((n + 0 : Nat) : Int), .int .i64 ((n + 1 : Nat) : Int), .int .i64 ((n + 2 : Nat) : Int), .int .i64 ((n + 3 : Nat) : Int), .int .i64 ((n + 4 : Nat) : Int), .int .i64 ((n + 5 : Nat) : Int), .int .i64 ((n + 6 : Nat) : Int), .int .i64 ((n + 7 : Nat) : Int)] := ((hdep 41 (by decide) (by decide)).2 72 rfl).trans (hdep 41 (by decide) (by decide)).1
          clear hoth hdep
          refine .inr ⟨8, by decide, rfl, fun hSt => ?_⟩
          have C := Aside0.mk (StE.store hSt)
          have R := ends_store (show _ from (by unfold StE at hSt; rw [if_neg (by omega)] at hSt; exact hSt.1.cells)) ((n + 0 : Nat) : Int) ((n + 1 : Nat) : Int) ((n + 2 : Nat) : Int) ((n + 3 : Nat) : Int) ((n + 4 : Nat) : Int) ((n + 5 : Nat) : Int) ((n + 6 : Nat) : Int) ((n + 7 : Nat) : Int)
          clear hSt
          exact moves_store 74 (.tmp 74) (.tmp 72) _ _ rfl s43 s41 R ⟨by simp [upd, endVal], C.out, fun _ _ h => h⟩
        · exact absurd hi (by simp)
      · intro v w5 hSt hV
        have z0 : v 0 = .pointer (some ⟨m, 0, none⟩) := hV 0 (by decide)
        have z1 : v 1 = .pointer (some ⟨m, 0, none⟩) := hV 1 (by decide)
        have z2 : v 2 = .pointer (some ⟨m, 0, none⟩) := hV 2 (by decide)
        have z3 : v 3 = .pointer (some ⟨m, 0, none⟩) := hV 3 (by decide)
        have z4 : v 4 = .pointer (some ⟨p, 0, none⟩) := hV 4 (by decide)
        have z5 : v 5 = .int .i64 ((n + 0 : Nat) : Int) := hV 5 (by decide)
        have z6 : v 6 = .pointer (some ⟨m, 0, none⟩) := hV 6 (by decide)
        have z7 : v 7 = .pointer (some ⟨m, 0, none⟩) := hV 7 (by decide)
        have z8 : v 8 = .pointer (some ⟨m, 0, none⟩) := hV 8 (by decide)
        have z9 : v 9 = .pointer (some ⟨p, 0, none⟩) := hV 9 (by decide)
        have z10 : v 10 = .int .i64 ((n + 1 : Nat) : Int) := hV 10 (by decide)
        have z11 : v 11 = .pointer (some ⟨m, 0, none⟩) := hV 11 (by decide)
        have z12 : v 12 = .pointer (some ⟨m, 0, none⟩) := hV 12 (by decide)
        have z13 : v 13 = .pointer (some ⟨m, 0, none⟩) := hV 13 (by decide)
        have z14 : v 14 = .pointer (some ⟨p, 0, none⟩) := hV 14 (by decide)
        have z15 : v 15 = .int .i64 ((n + 2 : Nat) : Int) := hV 15 (by decide)
        have z16 : v 16 = .pointer (some ⟨m, 0, none⟩) := hV 16 (by decide)
        have z17 : v 17 = .pointer (some ⟨m, 0, none⟩) := hV 17 (by decide)
        have z18 : v 18 = .pointer (some ⟨m, 0, none⟩) := hV 18 (by decide)
        have z19 : v 19 = .pointer (some ⟨p, 0, none⟩) := hV 19 (by decide)
        have z20 : v 20 = .int .i64 ((n + 3 : Nat) : Int) := hV 20 (by decide)
        have z21 : v 21 = .pointer (some ⟨m, 0, none⟩) := hV 21 (by decide)
        have z22 : v 22 = .pointer (some ⟨m, 0, none⟩) := hV 22 (by decide)
        have z23 : v 23 = .pointer (some ⟨m, 0, none⟩) := hV 23 (by decide)
        have z24 : v 24 = .pointer (some ⟨p, 0, none⟩) := hV 24 (by decide)
        have z25 : v 25 = .int .i64 ((n + 4 : Nat) : Int) := hV 25 (by decide)
        have z26 : v 26 = .pointer (some ⟨m, 0, none⟩) := hV 26 (by decide)
        have z27 : v 27 = .pointer (some ⟨m, 0, none⟩) := hV 27 (by decide)
        have z28 : v 28 = .pointer (some ⟨m, 0, none⟩) := hV 28 (by decide)
        have z29 : v 29 = .pointer (some ⟨p, 0, none⟩) := hV 29 (by decide)
        have z30 : v 30 = .int .i64 ((n + 5 : Nat) : Int) := hV 30 (by decide)
        have z31 : v 31 = .pointer (some ⟨m, 0, none⟩) := hV 31 (by decide)
        have z32 : v 32 = .pointer (some ⟨m, 0, none⟩) := hV 32 (by decide)
        have z33 : v 33 = .pointer (some ⟨m, 0, none⟩) := hV 33 (by decide)
        have z34 : v 34 = .pointer (some ⟨p, 0, none⟩) := hV 34 (by decide)
        have z35 : v 35 = .int .i64 ((n + 6 : Nat) : Int) := hV 35 (by decide)
        have z36 : v 36 = .pointer (some ⟨m, 0, none⟩) := hV 36 (by decide)
        have z37 : v 37 = .pointer (some ⟨m, 0, none⟩) := hV 37 (by decide)
        have z38 : v 38 = .pointer (some ⟨m, 0, none⟩) := hV 38 (by decide)
        have z39 : v 39 = .pointer (some ⟨p, 0, none⟩) := hV 39 (by decide)
        have z40 : v 40 = .int .i64 ((n + 7 : Nat) : Int) := hV 40 (by decide)
        have z41 : v 41 = .agg #[.int .i64 ((n + 0 : Nat) : Int), .int .i64 ((n + 1 : Nat) : Int), .int .i64 ((n + 2 : Nat) : Int), .int .i64 ((n + 3 : Nat) : Int), .int .i64 ((n + 4 : Nat) : Int), .int .i64 ((n + 5 : Nat) : Int), .int .i64 ((n + 6 : Nat) : Int), .int .i64 ((n + 7 : Nat) : Int)] := hV 41 (by decide)
        have z42 : v 42 = .pointer (some ⟨m, 0, none⟩) := hV 42 (by decide)
        have z43 : v 43 = .pointer (some ⟨m, 3, none⟩) := hV 43 (by decide)
        have z44 : v 44 = undef := hV 44 (by decide)
        have M5 := Aside0.mk (show MkB w5 w.heap.size p m g (.slice va n vc) (endsE n) (labL n) (AZ ((n + 8 : Nat) : Int)) ∧ Below w.heap.size w w5 by have hS9 : StE w p m g n (.slice va n vc) (labL n) 9 w5 := hSt; unfold StE at hS9; rw [if_pos rfl] at hS9; exact hS9)
        clear hSt hV
        simp only [fillM, if_true, z0, z1, z2, z3, z4, z5, z6, z7, z8, z9, z10, z11, z12, z13, z14, z15, z16, z17, z18, z19, z20, z21, z22, z23, z24, z25, z26, z27, z28, z29, z30, z31, z32, z33, z34, z35, z36, z37, z38, z39, z40, z41, z42, z43, z44, Act.put, List.setIfInBounds_toArray, List.set_cons_zero, List.set_cons_succ]
        clear z0 z1 z2 z3 z4 z5 z6 z7 z8 z9 z10 z11 z12 z13 z14 z15 z16 z17 z18 z19 z20 z21 z22 z23 z24 z25 z26 z27 z28 z29 z30 z31 z32 z33 z34 z35 z36 z37 z38 z39 z40 z41 z42 z43 z44 S0 M B c0 cz
        have MA := Aside0.mk (mk_of (l := l) (st := (st : Int)) (sl := (sl : Int)) M5.out.1 HN.out.1 M5.out.2 H.out HB.out)
        have B := Aside0.mk M5.out.2
        have S := Aside0.mk (small8 HN.out.2)
        have EE := Aside0.mk (endsE_all HN.out.2)
        have LS := Aside0.mk (labL_all HN.out.2)
        have SL := Aside0.mk HV.out.chk.sl
        have ST := Aside0.mk (show st < (labL n).length by rw [labL_len, ← HL.out]; have := HV.out.start_; omega)
        replace MA : Aside0 (MkAt w5 w.heap.size p m g (endsE n) (labL n) l (st : Int) (sl : Int) (A8 n)) := MA
        clear M5
        go_wp2_with fail
        refine (enter_calls MA.out S.out (by omega) EE.out SL.out (by rw [HL.out]; exact HN.out.2) ST.out).mono ?_
        rintro e w6 ⟨rfl, hA, hF⟩
        replace MA := Aside0.mk (MA.out.step hA hF)
        replace B := Aside0.mk (B.out.trans (hF.below B.out.size))
        replace S := Aside0.mk ((S.out.run (enterC (endsE n) (labL n) l.length sl st)).mono (n := 5200) (by rw [enter_len]; omega))
        obtain ⟨A2, hA2⟩ : ∃ X, run (A8 n) (enterC (endsE n) (labL n) l.length sl st) = X := ⟨_, rfl⟩
        rw [hA2] at MA S
        have HA2 := Aside0.mk hA2
        clear hA hF hA2
        go_wp2_with (first | (go_at_call 35; refine (len_any MA.out).mono ?_; rintro e wq ⟨rfl, rfl⟩; rw [HL.out]))
        go_loopw [79] (fun i wr => ∃ j : Nat, j ≤ n ∧ i = .int .i64 j ∧ Aside0 (MkAt wr w.heap.size p m g (endsE n) (labL n) l (st : Int) (sl : Int) (instsA (endsE n) (labL n) (l.take j) 0 A2) ∧ Below w.heap.size w wr)) (fun i _ => n - (intOf i).toNat)
        case atStart => exact ⟨0, by omega, rfl, ⟨MA.out, B.out⟩⟩
        case round =>
          obtain ⟨j, hj, rfl, hR⟩ := hrel
          by_cases hlt : j < n
          · have HJ := Aside0.mk hlt
            have MM := Aside0.mk hR.out.1
            have BB := Aside0.mk hR.out.2
            have j0 : (0 : Int) ≤ (j : Int) := by omega
            have j1 : (j : Int) < (n : Int) := by omega
            have j2 : (n : Int) ≤ 4000 := by have := HN.out; omega
            have hjl : j < l.length := by rw [HL.out]; exact hlt
            have SS := Aside0.mk ((insts_small (E := endsE n) (ls := labL n) S.out (l.take j) 0).mono (n := 2000000) (by rw [List.length_take]; have := HN.out; omega))
            have TK := Aside0.mk (show instsA (endsE n) (labL n) (l.take (j + 1)) 0 A2 = run (instsA (endsE n) (labL n) (l.take j) 0 A2) (instC (endsE n) (labL n) (j : Int) (rd_T61 l (j : Int)) (instsA (endsE n) (labL n) (l.take j) 0 A2).labels) by
              have e1 : l.take (j + 1) = l.take j ++ [rd_T61 l (j : Int)] := by
                rw [List.take_succ_eq_append_getElem hjl]
                unfold rd_T61
                rw [Int.toNat_natCast, List.getD_eq_getElem?_getD, List.getElem?_eq_getElem hjl]
                rfl
              rw [e1, insts_snoc, show 0 + (l.take j).length = j by rw [List.length_take]; omega])
            have WY := Aside0.mk (ways_at HV.out hjl)
            have IA := Aside0.mk (inst_any MM.out (by rw [HL.out]; exact HN.out.2) hjl)
            obtain ⟨X, hX⟩ : ∃ X, rd_T61 l (j : Int) = X := ⟨_, rfl⟩
            rw [hX] at TK WY IA
            obtain ⟨AJ, hAJ⟩ : ∃ X, instsA (endsE n) (labL n) (l.take j) 0 A2 = X := ⟨_, rfl⟩
            rw [hAJ] at MM SS TK
            clear hR hj hX hAJ hjl
            go_wp2_with fail
            refine IA.out.mono ?_
            rintro e w7 ⟨rfl, hb7⟩
            replace MM := Aside0.mk (MM.out.below hb7)
            replace BB := Aside0.mk (BB.out.trans (hb7.mono BB.out.size))
            clear hb7 IA
            go_wp2_with fail
            refine (inst_calls MM.out SS.out (by omega) (i := j) (by rw [labL_len]; exact HJ.out) (by rw [labL_len]; exact HN.out.2) LS.out X WY.out.1 WY.out.2.2.2 (by rw [labL_len, ← HL.out]; exact WY.out.2.1) (by rw [labL_len, ← HL.out]; exact WY.out.2.2.1)).mono ?_
            rintro e w8 ⟨rfl, hA, hF⟩
            replace MM := Aside0.mk (MM.out.step hA hF)
            replace BB := Aside0.mk (BB.out.trans (hF.below BB.out.size))
            clear hA hF
            go_wp2
            go_roundw
            case rel => exact ⟨j + 1, by have := HJ.out; omega, by go_num, ⟨by rw [TK.out]; exact MM.out, BB.out⟩⟩
            case measure => simp [intOf]; have := HJ.out; omega
          · obtain rfl : n = j := by omega
            have M := Aside0.mk (show MkAt wr w.heap.size p m g (endsE n) (labL n) l (st : Int) (sl : Int) (instsA (endsE n) (labL n) l 0 A2) by
              have := hR.out.1
              rwa [List.take_of_length_le (by rw [HL.out]; exact Nat.le_refl _)] at this)
            have B := Aside0.mk hR.out.2
            have S := Aside0.mk ((insts_small (E := endsE n) (ls := labL n) S.out l 0).mono (n := 2000000) (by rw [HL.out]; have := HN.out; omega))
            have CG := Aside0.mk (code_good (l := l) (by rw [HL.out]; exact HN.out.2) st sl (by have := SL.out; omega))
            have CE : Aside0 (run (run (instsA (endsE n) (labL n) l 0 A2) (backC (endsE n))) (matchC (endsE n) sl) = codeA l st sl) := ⟨by unfold codeA; rw [HL.out, ← HA2.out, HL.out]⟩
            obtain ⟨A3, hA3⟩ : ∃ X, instsA (endsE n) (labL n) l 0 A2 = X := ⟨_, rfl⟩
            rw [hA3] at M S CE
            clear hR hj hA3 HA2 MA hlt
            go_wp2_with fail
            refine (back_calls M.out S.out (by omega) EE.out).mono ?_
            rintro e w7 ⟨rfl, hA, hF⟩
            replace M := Aside0.mk (M.out.step hA hF)
            replace B := Aside0.mk (B.out.trans (hF.below B.out.size))
            replace S := Aside0.mk ((S.out.run (backC (endsE n))).mono (n := 3000000) (by rw [show (backC (endsE n)).length = 20 from rfl]; omega))
            clear hA hF
            go_wp2_with fail
            refine (match_calls M.out S.out (by omega) EE.out SL.out).mono ?_
            rintro e w8 ⟨rfl, hA, hF⟩
            replace M := Aside0.mk (M.out.step hA hF)
            replace B := Aside0.mk (B.out.trans (hF.below B.out.size))
            rw [CE.out] at M
            clear hA hF CE S
            have TC := Aside0.mk (Text_calls M.out.asm CG.out (good_settle CG.out))
            rw [textV_T] at TC
            obtain ⟨m0, _⟩ := M.out.get
            have mz := M.out.get.2.2.2.2.2.2.2.2.2.2.2
            have CT := Aside0.mk (show codeT l st sl = if (textT (settleF (codeA l st sl))).2 ≠ 0 ∨ 1048576 < (textT (settleF (codeA l st sl))).1.size then (⟨#[]⟩, 110) else ((textT (settleF (codeA l st sl))).1, 0) from rfl)
            generalize textT (settleF (codeA l st sl)) = T at *
            go_wp2_with fail
            refine TC.out.mono ?_
            rintro e w9 ⟨rfl, hA, hF⟩
            replace B := Aside0.mk (B.out.trans (hF.below B.out.size))
            clear hA hF TC m0 mz
            obtain ⟨s, c⟩ := T
            by_cases hc : c = 0
            · subst hc
              by_cases hs : 1048576 < s.size
              · have e : codeT l st sl = (⟨#[]⟩, 110) := by rw [CT.out]; exact if_pos (.inr hs)
                have EC := Aside0.mk e
                have hs' : (1048576 : Int) < (s.size : Int) := by omega
                clear hs CT e
                go_wp2
                go_ret2
                exact ⟨by rw [EC.out]; rfl, B.out⟩
              · have e : codeT l st sl = (s, 0) := by rw [CT.out]; exact if_neg (fun h => by rcases h with h | h; exact h rfl; exact hs h)
                have EC := Aside0.mk e
                have hs' : (s.size : Int) ≤ 1048576 := by omega
                clear hs CT e
                go_wp2
                go_ret2
                exact ⟨by rw [EC.out]; rfl, B.out⟩
            · have e : codeT l st sl = (⟨#[]⟩, 110) := by rw [CT.out]; exact if_pos (.inl hc)
              have EC := Aside0.mk e
              have hc' : (c != 0) = true := bne_iff_ne.2 hc
              clear hc CT e
              go_wp2
              go_ret2
              exact ⟨by rw [EC.out]; rfl, B.out⟩
end Go.Proofs.YtpfcdhjknmijjaaGreat.Em
end
