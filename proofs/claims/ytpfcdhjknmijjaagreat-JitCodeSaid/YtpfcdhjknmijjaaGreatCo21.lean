import Derived.Test.YtpfcdhjknmijjaaGreatCo20
import Derived.StillTailTactics
section
set_option linter.unusedSimpArgs false
set_option linter.unusedVariables false
namespace Go.Proofs.YtpfcdhjknmijjaaGreat.Em
open Go.RowKit Go.Maps Go.Proofs.YtpfcdhjknmijjaaGreat.Ve Go.Proofs.YtpfcdhjknmijjaaGreat.Grow Go.Proofs.YtpfcdhjknmijjaaGreat.Rv Go.Proofs.YtpfcdhjknmijjaaGreat.As Go.Proofs.YtpfcdhjknmijjaaGreat.PEmitFinds
open Go.Proofs.YtpfcdhjknmijjaaGreatW.PrintWords Go.Proofs.YtpfcdhjknmijjaaGreatW.PrintLast Go.Proofs.YtpfcdhjknmijjaaGreatW.PrintMore

/-! ### What is put, as a list -/
inductive Cmd where
  | op (x : OpI)
  | br (nm : ByteArray) (ra rb lab : Int)
  | jmp (rd lab : Int)
  | adr (rd lab : Int)
  | mrk (lab : Int)
  | num (rd n : Int)
  | new
def encC (x : OpI) : Int := (encF x.name x.rd x.ra x.rb x.imm).2
def putO (A : AsmS) (x : OpI) : AsmS := A.putF x (encC x)
def Cmd.step (A : AsmS) : Cmd → AsmS
  | .op x => putO A x
  | .br nm ra rb lab => A.pushIf (brC A nm ra rb lab) ⟨1, ⟨nm, 0, ra, rb, 0⟩, lab, false⟩
  | .jmp rd lab => A.pushIf (toC A rd lab) ⟨2, ⟨⟨#[106, 97, 108]⟩, rd, 0, 0, 0⟩, lab, false⟩
  | .adr rd lab => A.pushIf (toC A rd lab) ⟨3, ⟨⟨#[97, 117, 105, 112, 99]⟩, rd, 0, 0, 0⟩, lab, false⟩
  | .mrk lab => A.markIf (mkC A lab) lab
  | .num rd n => A.puts (numIf rd n (regOk rd))
  | .new => { A with labels := A.labels + 1 }
def run (A : AsmS) (l : List Cmd) : AsmS := l.foldl Cmd.step A
def doF (A : AsmS) (l : List OpI) : AsmS := l.foldl putO A
theorem run_cons (A : AsmS) (c : Cmd) (l : List Cmd) : run A (c :: l) = run (c.step A) l := rfl
theorem run_app (A : AsmS) (k l : List Cmd) : run A (k ++ l) = run (run A k) l := List.foldl_append ..
theorem doF_run (l : List OpI) : ∀ A, doF A l = run A (l.map .op) := by
  induction l with
  | nil => intro A; rfl
  | cons x l ih => intro A; exact ih _
structure Small (A : AsmS) (k : Nat) : Prop where
  ps : A.ps.length ≤ k
  nm : A.nm ≤ k
  lab0 : 0 ≤ A.labels
  lab : A.labels ≤ k
theorem Small.mono {A : AsmS} {k n : Nat} (h : Small A k) (hn : k ≤ n) : Small A n := ⟨Nat.le_trans h.ps hn, Nat.le_trans h.nm hn, h.lab0, by have := h.lab; omega⟩
theorem Small.push {A : AsmS} {k : Nat} (h : Small A k) (x : Pc) : Small (A.push x) (k + 1) := ⟨by have := h.ps; simp [AsmS.push]; omega, by have := h.nm; simp [AsmS.push]; omega, h.lab0, by have := h.lab; simp [AsmS.push]; omega⟩
theorem Small.pushIf {A : AsmS} {k : Nat} (h : Small A k) (c : Int) (x : Pc) : Small (A.pushIf c x) (k + 1) := by
  unfold AsmS.pushIf; split
  · exact h.push x
  · exact h.mono (by omega)
theorem numIf_len (rd n : Int) (b : Bool) : (numIf rd n b).length ≤ 8 := by
  cases b
  · simp [numIf]
  · exact numL_len rd 4 n
theorem Small.step {A : AsmS} {k : Nat} (h : Small A k) (c : Cmd) : Small (c.step A) (k + 8) := by
  cases c with
  | op x => exact (h.pushIf _ _).mono (by omega)
  | br => exact (h.pushIf _ _).mono (by omega)
  | jmp => exact (h.pushIf _ _).mono (by omega)
  | adr => exact (h.pushIf _ _).mono (by omega)
  | mrk l =>
    show Small (A.markIf (mkC A l) l) _
    unfold AsmS.markIf; split
    · exact ⟨by have := h.ps; simp [AsmS.mark]; omega, by have := h.nm; simp [AsmS.mark]; omega, h.lab0, by have := h.lab; simp [AsmS.mark]; omega⟩
    · exact h.mono (by omega)
  | num rd n =>
    show Small (A.puts _) _
    have := numIf_len rd n (regOk rd)
    exact ⟨by rw [puts_len]; have := h.ps; omega, by have := h.nm; simp [AsmS.puts]; omega, h.lab0, by have := h.lab; simp [AsmS.puts]; omega⟩
  | new => exact ⟨by have := h.ps; simp [Cmd.step]; omega, by have := h.nm; simp [Cmd.step]; omega, by have := h.lab0; simp [Cmd.step]; omega, by have := h.lab; simp [Cmd.step]; omega⟩
theorem Small.run {k : Nat} (l : List Cmd) : ∀ {A : AsmS}, Small A k → Small (run A l) (k + 8 * l.length) := by
  induction l generalizing k with
  | nil => intro A h; exact h
  | cons c l ih => intro A h; exact (ih (h.step c)).mono (by simp; omega)
theorem Small.doF {A : AsmS} {k : Nat} (h : Small A k) (l : List OpI) : Small (doF A l) (k + 8 * l.length) := by
  rw [doF_run]; have := h.run (l.map .op); simpa using this

/-! ### The maker -/
structure Ends where
  start : Int
  fail : Int
  restore : Int
  empty : Int
  mtch : Int
  take : Int
  after : Int
  done : Int
def makerC (p g : Nat) (iv : Value) (E : Ends) : Array Value := #[.pointer (some ⟨p, 0, none⟩), .pointer (some ⟨g, 0, none⟩), iv, .int .i64 E.start, .int .i64 E.fail, .int .i64 E.restore, .int .i64 E.empty, .int .i64 E.mtch, .int .i64 E.take, .int .i64 E.after, .int .i64 E.done]
/-- The maker at m works on the 'Asm' at p, the checked program at g, the labels ls. -/
structure MkAt (w : World) (b p m g : Nat) (E : Ends) (ls : List Int) (l : List S61) (st sl : Int) (A : AsmS) : Prop where
  asm : AsmAt w b p A
  bw : b ≤ w.heap.size
  mkr : ∃ r cap, w.heap[m]? = some (.cells (makerC p g (.slice (some ⟨r, 0, none⟩) ls.length cap) E) 76 (0, 0)) ∧ IntsAt w r ls
  chk : ∃ w0 out, IsS63 w0 w g l st sl out ∧ Below w0.heap.size w0 w ∧ w0.heap.size ≤ b
section
variable {w w' : World} {b p m g : Nat} {E : Ends} {ls : List Int} {l : List S61} {st sl : Int} {A A' : AsmS}
theorem tag_no {o : Option Obj} {c : Array Value} {t : Nat} {f : Nat × Nat} (h : o = some (.cells c t f)) (h1 : t ≠ 127) (h2 : t ≠ 141) : ¬ Tagged o := by
  rintro ⟨c', f', h' | h' | ⟨es, k, h'⟩⟩
  · rw [h] at h'; injection h' with h'; injection h' with _ h' _; exact h1 h'
  · rw [h] at h'; injection h' with h'; injection h' with _ h' _; exact h2 h'
  · rw [h] at h'; cases h'
theorem MkAt.step (h : MkAt w b p m g E ls l st sl A) (hA : AsmAt w' b p A') (hF : Fr b w w') : MkAt w' b p m g E ls l st sl A' := by
  obtain ⟨r, cap, hm, cur, hr, hc⟩ := h.mkr
  obtain ⟨w0, out, hI, hB, hb0⟩ := h.chk
  obtain ⟨A0, c0, A3, c3, hg, hge, hC0, hC3⟩ := hI
  refine ⟨hA, Nat.le_trans h.bw hF.size, ⟨r, cap, ?_, cur, ?_, hc⟩, w0, out, ⟨A0, c0, A3, c3, ?_, hge, hC0, hC3⟩, ?_, hb0⟩
  · exact (hF.block m (blk_lt hm) (.inr (tag_no hm (by decide) (by decide)))).trans hm
  · exact (hF.block r (blk_lt hr) (.inr (tag_no hr (by decide) (by decide)))).trans hr
  · exact (hF.block g (blk_lt hg) (.inr (tag_no hg (by decide) (by decide)))).trans hg
  · exact hB.trans ((hF.below h.bw).mono hb0)
theorem MkAt.below (h : MkAt w b p m g E ls l st sl A) (hb : Below w.heap.size w w') : MkAt w' b p m g E ls l st sl A := h.step (h.asm.below hb) (Fr.of_below hb)
theorem MkAt.cells (h : MkAt w b p m g E ls l st sl A) : ∃ r cap, (∀ k, w.cell? ⟨m, k, none⟩ = (makerC p g (.slice (some ⟨r, 0, none⟩) ls.length cap) E)[k]?) ∧ m < w.heap.size ∧ IntsAt w r ls := by
  obtain ⟨r, cap, hm, hI⟩ := h.mkr
  exact ⟨r, cap, blk_cell hm, blk_lt hm, hI⟩
theorem MkAt.alloc (h : MkAt w b p m g E ls l st sl A) (o : Obj) : MkAt (w.alloc o) b p m g E ls l st sl A := h.below (below_alloc (Below.refl _ _) o)
theorem MkAt.drew (h : MkAt w b p m g E ls l st sl A) : MkAt w.drew b p m g E ls l st sl A := h.below (below_drew (Below.refl _ _))
end
/-! ### The calls that make an 'Op' -/
def three (nm : ByteArray) (rd ra rb : Int) : OpI := ⟨nm, rd, ra, rb, 0⟩
def imm (nm : ByteArray) (rd ra n : Int) : OpI := ⟨nm, rd, ra, 0, n⟩
def move (rd ra : Int) : OpI := ⟨⟨#[97, 100, 100, 105]⟩, rd, ra, 0, 0⟩
def store (nm : ByteArray) (rb ra n : Int) : OpI := ⟨nm, 0, ra, rb, n⟩
theorem imm_any (nm : ByteArray) (rd ra n : Int) (w : World) : Calls Tryz.prog 70 #[.string nm, .int .i64 rd, .int .i64 ra, .int .i64 n] w fun e w' => e = .returned (.agg #[.string nm, .int .i64 rd, .int .i64 ra, .int .i64 0, .int .i64 n]) ∧ Below w.heap.size w w' := emit_imm.calls nm rd ra n _ _ _ _ _ w rfl
theorem move_any (rd ra : Int) (w : World) : Calls Tryz.prog 69 #[.int .i64 rd, .int .i64 ra] w fun e w' => e = .returned (.agg #[.string ⟨#[97, 100, 100, 105]⟩, .int .i64 rd, .int .i64 ra, .int .i64 0, .int .i64 0]) ∧ Below w.heap.size w w' := emit_move.calls rd ra _ _ _ _ _ w rfl
theorem three_any (nm : ByteArray) (rd ra rb : Int) (w : World) : Calls Tryz.prog 72 #[.string nm, .int .i64 rd, .int .i64 ra, .int .i64 rb] w fun e w' => e = .returned (.agg #[.string nm, .int .i64 rd, .int .i64 ra, .int .i64 rb, .int .i64 0]) ∧ Below w.heap.size w w' := emit_three.calls nm rd ra rb _ _ _ _ _ w rfl
theorem store_any (nm : ByteArray) (rb ra n : Int) (w : World) : Calls Tryz.prog 74 #[.string nm, .int .i64 rb, .int .i64 ra, .int .i64 n] w fun e w' => e = .returned (.agg #[.string nm, .int .i64 0, .int .i64 ra, .int .i64 rb, .int .i64 n]) ∧ Below w.heap.size w w' := emit_store.calls nm rb ra n _ _ _ _ _ w rfl
theorem still_tail {id : Nat} {Q : Exit → Act → World → Prop} {a : Act} {w : World} {l : List Oper} (n : Nat) (hm : Tryz.prog.follows .mixedOrders = true) (hB : Region.lexTailB .any l.toArray n = true)
    (h : ∀ w2, w2 = w.drew → wpStill Tryz.prog l.toArray w2 (fun a' => wpList Tryz.prog l.toArray Q (l.drop n) a' w2) (l.take n) a) : (Code.region id l.toArray true).wp Tryz.prog Q a w :=
  wp_region_still_tail n hm hB (h _ rfl)
theorem MkAt.get {w : World} {b p m g : Nat} {E : Ends} {ls : List Int} {l : List S61} {st sl : Int} {A : AsmS} (h : MkAt w b p m g E ls l st sl A) :
    w.cell? ⟨m, 0, none⟩ = some (.pointer (some ⟨p, 0, none⟩)) ∧ w.cell? ⟨m, 1, none⟩ = some (.pointer (some ⟨g, 0, none⟩)) ∧ (∃ r cap, w.cell? ⟨m, 2, none⟩ = some (.slice (some ⟨r, 0, none⟩) ls.length cap) ∧ IntsAt w r ls) ∧
    w.cell? ⟨m, 3, none⟩ = some (.int .i64 E.start) ∧ w.cell? ⟨m, 4, none⟩ = some (.int .i64 E.fail) ∧ w.cell? ⟨m, 5, none⟩ = some (.int .i64 E.restore) ∧ w.cell? ⟨m, 6, none⟩ = some (.int .i64 E.empty) ∧
    w.cell? ⟨m, 7, none⟩ = some (.int .i64 E.mtch) ∧ w.cell? ⟨m, 8, none⟩ = some (.int .i64 E.take) ∧ w.cell? ⟨m, 9, none⟩ = some (.int .i64 E.after) ∧ w.cell? ⟨m, 10, none⟩ = some (.int .i64 E.done) ∧ m < w.heap.size := by
  obtain ⟨r, cap, hc, hz, hI⟩ := h.cells
  exact ⟨(hc 0).trans rfl, (hc 1).trans rfl, ⟨r, cap, (hc 2).trans rfl, hI⟩, (hc 3).trans rfl, (hc 4).trans rfl, (hc 5).trans rfl, (hc 6).trans rfl, (hc 7).trans rfl, (hc 8).trans rfl, (hc 9).trans rfl, (hc 10).trans rfl, hz⟩
theorem doF_snoc (A : AsmS) (l : List OpI) (x : OpI) : doF A (l ++ [x]) = putO (doF A l) x := by unfold doF; rw [List.foldl_append]; rfl
set_option maxHeartbeats 4000000 in
set_option maxRecDepth 100000 in
theorem do_calls {w : World} {b p m g : Nat} {E : Ends} {ls : List Int} {l : List S61} {st sl : Int} {A : AsmS} (h : MkAt w b p m g E ls l st sl A) {k : Nat} (hS : Small A k) (hk : k < 800000000) {sb cap : Nat} (L : List OpI) (hL : L.length ≤ 20)
    (hsb : w.heap[sb]? = some (.cells (L.flatMap OpI.cells).toArray 130 (0, 0))) :
    Calls Tryz.prog 68 #[.pointer (some ⟨m, 0, none⟩), .slice (some ⟨sb, 0, none⟩) L.length cap] w fun e w' => e = .returned (.tuple #[]) ∧ AsmAt w' b p (doF A L) ∧ Fr b w w' := by
  have H := Aside0.mk h
  have HS := Aside0.mk hS
  have HK := Aside0.mk hk
  have HB := Aside0.mk hsb
  obtain ⟨n, hn⟩ : ∃ n, L.length = n := ⟨_, rfl⟩
  have HN := Aside0.mk hn
  rw [hn] at hL ⊢
  clear h hS hk hsb hn
  go_enter Tryz.func68, Tryz.ntmps68
  go_wp2
  go_loopw [8] (fun i wr => ∃ j : Nat, j ≤ n ∧ i = .int .i64 j ∧ Aside0 (AsmAt wr b p (doF A (L.take j)) ∧ Fr b w wr)) (fun i _ => n - (intOf i).toNat)
  case atStart => exact ⟨0, by omega, rfl, ⟨H.out.asm, Fr.refl _ _⟩⟩
  case round =>
    obtain ⟨j, hj, rfl, hR⟩ := hrel
    by_cases hlt : j < n
    · have HJ := Aside0.mk hlt
      have hx : j < L.length := by rw [HN.out]; exact hlt
      have M := Aside0.mk (H.out.step hR.out.1 hR.out.2)
      have SB := (hR.out.2.block sb (blk_lt HB.out) (.inr (tag_no HB.out (by decide) (by decide)))).trans HB.out
      have oc := op_cells SB hx
      have TK := Aside0.mk (show doF A (L.take (j + 1)) = putO (doF A (L.take j)) L[j] by
        rw [List.take_succ_eq_append_getElem hx, doF_snoc])
      obtain ⟨x, hxx⟩ : ∃ x, L[j] = x := ⟨_, rfl⟩
      rw [hxx] at oc TK
      obtain ⟨nm, rd, ra, rb, im⟩ := x
      obtain ⟨o0, o1, o2, o3, o4⟩ := oc
      have ez := blk_lt SB
      have j0 : (0 : Int) ≤ (j : Int) := by omega
      have j1 : (j : Int) < (n : Int) := by omega
      go_wp2_with fail
      have M2 := M.out.alloc (.cells #[.string nm, .int .i64 rd, .int .i64 ra, .int .i64 rb, .int .i64 im] 130)
      have hL2 := heap_alloc_last wr (.cells #[.string nm, .int .i64 rd, .int .i64 ra, .int .i64 rb, .int .i64 im] 130)
      have F2 := Fr.alloc b wr (.cells #[.string nm, .int .i64 rd, .int .i64 ra, .int .i64 rb, .int .i64 im] 130)
      generalize wr.alloc (.cells #[.string nm, .int .i64 rd, .int .i64 ra, .int .i64 rb, .int .i64 im] 130) = w2 at *
      refine still_tail 5 (by kernel_rfl) (by kernel_rfl) ?_
      intro w3 hw3
      have M3 := Aside0.mk (show MkAt w3 b p m g E ls l st sl (doF A (L.take j)) by rw [hw3]; exact M2.drew)
      have F3 := Aside0.mk (show Fr b w w3 by rw [hw3]; exact hR.out.2.trans (F2.trans (Fr.of_below (below_drew (Below.refl _ _)))))
      have hL3 : w3.heap[wr.heap.size]? = _ := (show w3.heap[wr.heap.size]? = w2.heap[wr.heap.size]? by rw [hw3]; rfl).trans hL2
      have l0 := blk_cell hL3
      have lz := blk_lt hL3
      obtain ⟨m0, _, _, _, _, _, _, _, _, _, _, mz⟩ := M3.out.get
      clear hw3 M2 hL2 F2 hL3 hxx hx SB M o0 o1 o2 o3 o4
      simp only [List.take_succ_cons, List.take_zero, List.drop_succ_cons, List.drop_zero]
      repeat still_step
      refine wpStill_nil ?_
      go_wp2_with fail
      refine (Put_calls M3.out.asm (by have := (HS.out.doF (L.take j)).ps; have := HK.out; have : (L.take j).length ≤ 20 := by rw [List.length_take]; have := HN.out; omega
                                       omega) ⟨nm, rd, ra, rb, im⟩ (a := (encF nm rd ra rb im).1) (c := (encF nm rd ra rb im).2) rfl).mono ?_
      rintro e w4 ⟨rfl, hA, hF⟩
      have A4 := Aside0.mk hA
      have F4 := Aside0.mk (F3.out.trans hF)
      clear hA hF l0 lz m0 mz
      go_wp2
      go_roundw
      case rel => exact ⟨j + 1, by have := HJ.out; omega, by go_num, ⟨by rw [TK.out]; exact A4.out, F4.out⟩⟩
      case measure => simp [intOf]; have := HJ.out; omega
    · obtain rfl : j = n := by omega
      have A4 := Aside0.mk (show AsmAt wr b p (doF A L) by have := hR.out.1; rwa [List.take_of_length_le (by rw [HN.out]; exact Nat.le_refl _)] at this)
      go_wp2
      exact bodyPost_end (v := .tuple #[]) (by simp [results, Tryz.results68, go_sem]) rfl ⟨rfl, A4.out, hR.out.2⟩
end Go.Proofs.YtpfcdhjknmijjaaGreat.Em
end
section
set_option linter.unusedSimpArgs false
set_option linter.unusedVariables false
namespace Go.Proofs.YtpfcdhjknmijjaaGreat.Em
open Go.RowKit Go.Maps Go.Proofs.YtpfcdhjknmijjaaGreat.Ve Go.Proofs.YtpfcdhjknmijjaaGreat.Grow Go.Proofs.YtpfcdhjknmijjaaGreat.Rv Go.Proofs.YtpfcdhjknmijjaaGreat.As Go.Proofs.YtpfcdhjknmijjaaGreat.PEmitFinds
open Go.Proofs.YtpfcdhjknmijjaaGreatW.PrintWords Go.Proofs.YtpfcdhjknmijjaaGreatW.PrintLast Go.Proofs.YtpfcdhjknmijjaaGreatW.PrintMore

def jobC (ra_ rb_ : Int) : List Cmd := [.op (store ⟨#[115, 100]⟩ ra_ 19 0), .op (store ⟨#[115, 100]⟩ rb_ 19 8), .op (imm ⟨#[97, 100, 100, 105]⟩ 19 19 16)]
set_option maxHeartbeats 4000000 in
set_option maxRecDepth 100000 in
theorem job_calls {w : World} {b p m g : Nat} {E : Ends} {ls : List Int} {l : List S61} {st sl : Int} {A : AsmS} (h : MkAt w b p m g E ls l st sl A) {k : Nat} (hS : Small A k) (hk : k < 700000000) (ra_ rb_ : Int) :
    Calls Tryz.prog 80 #[.pointer (some ⟨m, 0, none⟩), .int .i64 ra_, .int .i64 rb_] w fun e w' => e = .returned (.tuple #[]) ∧ AsmAt w' b p (run A (jobC ra_ rb_)) ∧ Fr b w w' := by
  have M := Aside0.mk h
  have S := Aside0.mk hS
  have K := Aside0.mk hk
  have F := Aside0.mk (Fr.refl b w)
  clear h hS hk
  go_enter Tryz.func80, Tryz.ntmps80
  go_wp2_with (first
      | (go_at_call 69; refine (move_any _ _ _).mono ?_; rintro e wq ⟨rfl, hb⟩; replace M := Aside0.mk (M.out.below hb); replace F := Aside0.mk (F.out.trans (Fr.of_below hb)); clear hb)
      | (go_at_call 70; refine (imm_any _ _ _ _ _).mono ?_; rintro e wq ⟨rfl, hb⟩; replace M := Aside0.mk (M.out.below hb); replace F := Aside0.mk (F.out.trans (Fr.of_below hb)); clear hb)
      | (go_at_call 72; refine (three_any _ _ _ _ _).mono ?_; rintro e wq ⟨rfl, hb⟩; replace M := Aside0.mk (M.out.below hb); replace F := Aside0.mk (F.out.trans (Fr.of_below hb)); clear hb)
      | (go_at_call 74; refine (store_any _ _ _ _ _).mono ?_; rintro e wq ⟨rfl, hb⟩; replace M := Aside0.mk (M.out.below hb); replace F := Aside0.mk (F.out.trans (Fr.of_below hb)); clear hb))
  refine (do_calls (M.out.alloc _) S.out (by have := K.out; omega) [store ⟨#[115, 100]⟩ ra_ 19 0, store ⟨#[115, 100]⟩ rb_ 19 8, imm ⟨#[97, 100, 100, 105]⟩ 19 19 16] (by simp only [List.length_cons, List.length_nil]; omega) (heap_alloc_last _ _)).mono ?_
  rintro e wd ⟨rfl, hA, hF⟩
  replace M := Aside0.mk ((M.out.alloc _).step hA hF)
  replace F := Aside0.mk (F.out.trans ((Fr.alloc b _ _).trans hF))
  clear hA hF
  replace S := Aside0.mk ((S.out.doF [store ⟨#[115, 100]⟩ ra_ 19 0, store ⟨#[115, 100]⟩ rb_ 19 8, imm ⟨#[97, 100, 100, 105]⟩ 19 19 16]).mono (n := k + 24) (by simp only [List.length_cons, List.length_nil]; omega))
  obtain ⟨A1, hA1⟩ : ∃ X, doF A [store ⟨#[115, 100]⟩ ra_ 19 0, store ⟨#[115, 100]⟩ rb_ 19 8, imm ⟨#[97, 100, 100, 105]⟩ 19 19 16] = X := ⟨_, rfl⟩
  rw [hA1] at M S
  have HA1 := Aside0.mk hA1
  clear hA1
  have EQ : Aside0 (run A (jobC ra_ rb_) = A1) := ⟨by
    rw [← HA1.out]
    rfl⟩
  go_wp2
  exact bodyPost_end (v := .tuple #[]) (by simp [results, Tryz.results80, go_sem]) rfl ⟨rfl, by rw [EQ.out]; exact M.out.asm, F.out⟩
def markC (E : Ends) (i : Int) : List Cmd := [.num 5 i, .op (three ⟨#[109, 117, 108]⟩ 5 5 20), .op (three ⟨#[97, 100, 100]⟩ 5 5 22), .op (imm ⟨#[115, 114, 108, 105]⟩ 6 5 3), .op (three ⟨#[97, 100, 100]⟩ 6 6 9), .op (imm ⟨#[108, 98, 117]⟩ 7 6 0), .op (imm ⟨#[97, 110, 100, 105]⟩ 5 5 7), .op (imm ⟨#[97, 100, 100, 105]⟩ 28 0 1), .op (three ⟨#[115, 108, 108]⟩ 28 28 5), .op (three ⟨#[97, 110, 100]⟩ 29 7 28), .br ⟨#[98, 110, 101]⟩ 29 0 E.fail, .op (three ⟨#[111, 114]⟩ 7 7 28), .op (store ⟨#[115, 98]⟩ 7 6 0)]
set_option maxHeartbeats 4000000 in
set_option maxRecDepth 100000 in
theorem mark_calls {w : World} {b p m g : Nat} {E : Ends} {ls : List Int} {l : List S61} {st sl : Int} {A : AsmS} (h : MkAt w b p m g E ls l st sl A) {k : Nat} (hS : Small A k) (hk : k < 700000000) (i : Int) (hi : I64 i) :
    Calls Tryz.prog 77 #[.pointer (some ⟨m, 0, none⟩), .int .i64 i] w fun e w' => e = .returned (.tuple #[]) ∧ AsmAt w' b p (run A (markC E i)) ∧ Fr b w w' := by
  have M := Aside0.mk h
  have S := Aside0.mk hS
  have K := Aside0.mk hk
  have F := Aside0.mk (Fr.refl b w)
  clear h hS hk
  go_enter Tryz.func77, Tryz.ntmps77
  obtain ⟨m0, m1, ⟨r, rcap, m2, hI⟩, m3, m4, m5, m6, m7, m8, m9, m10, mz⟩ := M.out.get
  go_wp2_with fail
  refine (Number_calls M.out.asm (by have := S.out.ps; have := K.out; omega) 5 (n := i) hi).mono ?_
  rintro e wd ⟨rfl, hA, hF⟩
  replace M : Aside0 (MkAt wd b p m g E ls l st sl (Cmd.step A (.num 5 i))) := Aside0.mk (M.out.step hA hF)
  replace F := Aside0.mk (F.out.trans hF)
  clear hA hF
  clear m0 m1 m2 hI m3 m4 m5 m6 m7 m8 m9 m10 mz
  replace S := Aside0.mk ((S.out.step (.num 5 i)).mono (n := k + 8) (by omega))
  obtain ⟨A1, hA1⟩ : ∃ X, Cmd.step A (.num 5 i) = X := ⟨_, rfl⟩
  rw [hA1] at M S
  have HA1 := Aside0.mk hA1
  clear hA1
  go_wp2_with (first
      | (go_at_call 69; refine (move_any _ _ _).mono ?_; rintro e wq ⟨rfl, hb⟩; replace M := Aside0.mk (M.out.below hb); replace F := Aside0.mk (F.out.trans (Fr.of_below hb)); clear hb)
      | (go_at_call 70; refine (imm_any _ _ _ _ _).mono ?_; rintro e wq ⟨rfl, hb⟩; replace M := Aside0.mk (M.out.below hb); replace F := Aside0.mk (F.out.trans (Fr.of_below hb)); clear hb)
      | (go_at_call 72; refine (three_any _ _ _ _ _).mono ?_; rintro e wq ⟨rfl, hb⟩; replace M := Aside0.mk (M.out.below hb); replace F := Aside0.mk (F.out.trans (Fr.of_below hb)); clear hb)
      | (go_at_call 74; refine (store_any _ _ _ _ _).mono ?_; rintro e wq ⟨rfl, hb⟩; replace M := Aside0.mk (M.out.below hb); replace F := Aside0.mk (F.out.trans (Fr.of_below hb)); clear hb))
  refine (do_calls (M.out.alloc _) S.out (by have := K.out; omega) [three ⟨#[109, 117, 108]⟩ 5 5 20, three ⟨#[97, 100, 100]⟩ 5 5 22, imm ⟨#[115, 114, 108, 105]⟩ 6 5 3, three ⟨#[97, 100, 100]⟩ 6 6 9, imm ⟨#[108, 98, 117]⟩ 7 6 0] (by simp only [List.length_cons, List.length_nil]; omega) (heap_alloc_last _ _)).mono ?_
  rintro e wd ⟨rfl, hA, hF⟩
  replace M := Aside0.mk ((M.out.alloc _).step hA hF)
  replace F := Aside0.mk (F.out.trans ((Fr.alloc b _ _).trans hF))
  clear hA hF
  replace S := Aside0.mk ((S.out.doF [three ⟨#[109, 117, 108]⟩ 5 5 20, three ⟨#[97, 100, 100]⟩ 5 5 22, imm ⟨#[115, 114, 108, 105]⟩ 6 5 3, three ⟨#[97, 100, 100]⟩ 6 6 9, imm ⟨#[108, 98, 117]⟩ 7 6 0]).mono (n := k + 48) (by simp only [List.length_cons, List.length_nil]; omega))
  obtain ⟨A2, hA2⟩ : ∃ X, doF A1 [three ⟨#[109, 117, 108]⟩ 5 5 20, three ⟨#[97, 100, 100]⟩ 5 5 22, imm ⟨#[115, 114, 108, 105]⟩ 6 5 3, three ⟨#[97, 100, 100]⟩ 6 6 9, imm ⟨#[108, 98, 117]⟩ 7 6 0] = X := ⟨_, rfl⟩
  rw [hA2] at M S
  have HA2 := Aside0.mk hA2
  clear hA2
  go_wp2_with (first
      | (go_at_call 69; refine (move_any _ _ _).mono ?_; rintro e wq ⟨rfl, hb⟩; replace M := Aside0.mk (M.out.below hb); replace F := Aside0.mk (F.out.trans (Fr.of_below hb)); clear hb)
      | (go_at_call 70; refine (imm_any _ _ _ _ _).mono ?_; rintro e wq ⟨rfl, hb⟩; replace M := Aside0.mk (M.out.below hb); replace F := Aside0.mk (F.out.trans (Fr.of_below hb)); clear hb)
      | (go_at_call 72; refine (three_any _ _ _ _ _).mono ?_; rintro e wq ⟨rfl, hb⟩; replace M := Aside0.mk (M.out.below hb); replace F := Aside0.mk (F.out.trans (Fr.of_below hb)); clear hb)
      | (go_at_call 74; refine (store_any _ _ _ _ _).mono ?_; rintro e wq ⟨rfl, hb⟩; replace M := Aside0.mk (M.out.below hb); replace F := Aside0.mk (F.out.trans (Fr.of_below hb)); clear hb))
  refine (do_calls (M.out.alloc _) S.out (by have := K.out; omega) [imm ⟨#[97, 110, 100, 105]⟩ 5 5 7, imm ⟨#[97, 100, 100, 105]⟩ 28 0 1, three ⟨#[115, 108, 108]⟩ 28 28 5, three ⟨#[97, 110, 100]⟩ 29 7 28] (by simp only [List.length_cons, List.length_nil]; omega) (heap_alloc_last _ _)).mono ?_
  rintro e wd ⟨rfl, hA, hF⟩
  replace M := Aside0.mk ((M.out.alloc _).step hA hF)
  replace F := Aside0.mk (F.out.trans ((Fr.alloc b _ _).trans hF))
  clear hA hF
  replace S := Aside0.mk ((S.out.doF [imm ⟨#[97, 110, 100, 105]⟩ 5 5 7, imm ⟨#[97, 100, 100, 105]⟩ 28 0 1, three ⟨#[115, 108, 108]⟩ 28 28 5, three ⟨#[97, 110, 100]⟩ 29 7 28]).mono (n := k + 80) (by simp only [List.length_cons, List.length_nil]; omega))
  obtain ⟨A3, hA3⟩ : ∃ X, doF A2 [imm ⟨#[97, 110, 100, 105]⟩ 5 5 7, imm ⟨#[97, 100, 100, 105]⟩ 28 0 1, three ⟨#[115, 108, 108]⟩ 28 28 5, three ⟨#[97, 110, 100]⟩ 29 7 28] = X := ⟨_, rfl⟩
  rw [hA3] at M S
  have HA3 := Aside0.mk hA3
  clear hA3
  go_wp2_with fail
  refine still_tail 9 (by kernel_rfl) (by kernel_rfl) ?_
  intro wi hwi
  replace M := Aside0.mk (show MkAt wi b p m g E ls l st sl A3 by rw [hwi]; exact M.out.drew)
  replace F := Aside0.mk (show Fr b w wi by rw [hwi]; exact F.out.trans (Fr.of_below (below_drew (Below.refl _ _))))
  clear hwi
  obtain ⟨m0, m1, ⟨r, rcap, m2, hI⟩, m3, m4, m5, m6, m7, m8, m9, m10, mz⟩ := M.out.get
  simp only [List.take_succ_cons, List.take_zero, List.drop_succ_cons, List.drop_zero]
  repeat still_step
  refine wpStill_nil ?_
  go_wp2_with fail
  refine (Branch_calls M.out.asm (by have := S.out.ps; have := K.out; omega) ⟨#[98, 110, 101]⟩ 29 0 E.fail).mono ?_
  rintro e wd ⟨rfl, hA, hF⟩
  replace M : Aside0 (MkAt wd b p m g E ls l st sl (Cmd.step A3 (.br ⟨#[98, 110, 101]⟩ 29 0 E.fail))) := Aside0.mk (M.out.step hA hF)
  replace F := Aside0.mk (F.out.trans hF)
  clear hA hF
  clear m0 m1 m2 hI m3 m4 m5 m6 m7 m8 m9 m10 mz
  replace S := Aside0.mk ((S.out.step (.br ⟨#[98, 110, 101]⟩ 29 0 E.fail)).mono (n := k + 88) (by omega))
  obtain ⟨A4, hA4⟩ : ∃ X, Cmd.step A3 (.br ⟨#[98, 110, 101]⟩ 29 0 E.fail) = X := ⟨_, rfl⟩
  rw [hA4] at M S
  have HA4 := Aside0.mk hA4
  clear hA4
  go_wp2_with (first
      | (go_at_call 69; refine (move_any _ _ _).mono ?_; rintro e wq ⟨rfl, hb⟩; replace M := Aside0.mk (M.out.below hb); replace F := Aside0.mk (F.out.trans (Fr.of_below hb)); clear hb)
      | (go_at_call 70; refine (imm_any _ _ _ _ _).mono ?_; rintro e wq ⟨rfl, hb⟩; replace M := Aside0.mk (M.out.below hb); replace F := Aside0.mk (F.out.trans (Fr.of_below hb)); clear hb)
      | (go_at_call 72; refine (three_any _ _ _ _ _).mono ?_; rintro e wq ⟨rfl, hb⟩; replace M := Aside0.mk (M.out.below hb); replace F := Aside0.mk (F.out.trans (Fr.of_below hb)); clear hb)
      | (go_at_call 74; refine (store_any _ _ _ _ _).mono ?_; rintro e wq ⟨rfl, hb⟩; replace M := Aside0.mk (M.out.below hb); replace F := Aside0.mk (F.out.trans (Fr.of_below hb)); clear hb))
  refine (do_calls (M.out.alloc _) S.out (by have := K.out; omega) [three ⟨#[111, 114]⟩ 7 7 28, store ⟨#[115, 98]⟩ 7 6 0] (by simp only [List.length_cons, List.length_nil]; omega) (heap_alloc_last _ _)).mono ?_
  rintro e wd ⟨rfl, hA, hF⟩
  replace M := Aside0.mk ((M.out.alloc _).step hA hF)
  replace F := Aside0.mk (F.out.trans ((Fr.alloc b _ _).trans hF))
  clear hA hF
  replace S := Aside0.mk ((S.out.doF [three ⟨#[111, 114]⟩ 7 7 28, store ⟨#[115, 98]⟩ 7 6 0]).mono (n := k + 104) (by simp only [List.length_cons, List.length_nil]; omega))
  obtain ⟨A5, hA5⟩ : ∃ X, doF A4 [three ⟨#[111, 114]⟩ 7 7 28, store ⟨#[115, 98]⟩ 7 6 0] = X := ⟨_, rfl⟩
  rw [hA5] at M S
  have HA5 := Aside0.mk hA5
  clear hA5
  have EQ : Aside0 (run A (markC E i) = A5) := ⟨by
    rw [← HA5.out, ← HA4.out, ← HA3.out, ← HA2.out, ← HA1.out]
    rfl⟩
  go_wp2
  exact bodyPost_end (v := .tuple #[]) (by simp [results, Tryz.results77, go_sem]) rfl ⟨rfl, by rw [EQ.out]; exact M.out.asm, F.out⟩
end Go.Proofs.YtpfcdhjknmijjaaGreat.Em
end
