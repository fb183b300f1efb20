import Derived.Test.YtpfcdhjknmijjaaGreatCo31
import Derived.Maps.StringElems
section
namespace Go.Proofs.YtpfcdhjknmijjaaGreat.Ht
open Go.RowKit Go.Maps Go.Proofs.YtpfcdhjknmijjaaGreat.Grow Go.Proofs.YtpfcdhjknmijjaaGreat.Rv Go.Proofs.YtpfcdhjknmijjaaGreat.As
open Go.Proofs.YtpfcdhjknmijjaaGreatW.PrintWords Go.Proofs.YtpfcdhjknmijjaaGreatW.PrintLast Go.Proofs.YtpfcdhjknmijjaaGreatW.PrintMore

/-! ### Words that were decoded -/
structure Done where
  op : OpI
  by_ : ByteArray
  num : Bool
def Done.val (d : Done) : Value := .agg #[.string d.op.name, .int .i64 d.op.rd, .int .i64 d.op.ra, .int .i64 d.op.rb, .int .i64 d.op.imm, .string d.by_, .bool d.num]
def Done.enc (d : Done) : DataW Unit := .agg [.lit (.string d.op.name.data.toList), .lit (.int .i64 d.op.rd), .lit (.int .i64 d.op.ra), .lit (.int .i64 d.op.rb), .lit (.int .i64 d.op.imm), .lit (.string d.by_.data.toList), .lit (.bool d.num)]
def done0 : Done := ⟨⟨⟨#[]⟩, 0, 0, 0, 0⟩, ⟨#[]⟩, false⟩
/-- How such a struct reads. -/
noncomputable def Rd (v : Value) : Option (DataW Unit × List MemPlace) := by
  classical
  exact if h : ∃ d : Done, v = d.val then some (h.choose.enc, []) else none
theorem val_inj {c d : Done} (h : c.val = d.val) : c = d := by
  obtain ⟨⟨a1, a2, a3, a4, a5⟩, a6, a7⟩ := c
  obtain ⟨⟨b1, b2, b3, b4, b5⟩, b6, b7⟩ := d
  simp [Done.val] at h
  obtain ⟨rfl, rfl, rfl, rfl, rfl, rfl, rfl⟩ := h
  rfl
theorem ba_inj {a b : ByteArray} (h : a.data.toList = b.data.toList) : a = b := by
  cases a; cases b
  simp only at h
  exact congrArg ByteArray.mk (Array.toList_inj.1 h)
theorem enc_inj {c d : Done} (h : c.enc = d.enc) : c = d := by
  obtain ⟨⟨a1, a2, a3, a4, a5⟩, a6, a7⟩ := c
  obtain ⟨⟨b1, b2, b3, b4, b5⟩, b6, b7⟩ := d
  simp only [Done.enc, DataW.agg.injEq, List.cons.injEq, DataW.lit.injEq, Lit.string.injEq, Lit.int.injEq, Lit.bool.injEq, true_and, and_true] at h
  obtain ⟨h1, rfl, rfl, rfl, rfl, h6, rfl⟩ := h
  obtain rfl := ba_inj h1
  obtain rfl := ba_inj h6
  rfl
theorem Rd_val (d : Done) : Rd d.val = some (d.enc, []) := by
  unfold Rd
  have h : ∃ c : Done, d.val = c.val := ⟨d, rfl⟩
  rw [dif_pos h, val_inj (h.choose_spec.symm.trans rfl)]
theorem Rd_inv {v : Value} {z : DataW Unit × List MemPlace} (h : Rd v = some z) : ∃ d : Done, v = d.val ∧ z = (d.enc, []) := by
  unfold Rd at h
  split at h
  · rename_i hd
    exact ⟨hd.choose, hd.choose_spec, by simpa using h.symm⟩
  · cases h
theorem law22 : Keyed Tryz.prog 146 := int_keyed Tryz.underlying146
theorem under144 : Tryz.prog.underlying 173 = some (.map 146 219) := by kernel_rfl
theorem zero148 (w : World) : (zeroValue 219).run Tryz.prog w = .ok done0.val w := by kernel_rfl
def U32 (k : Int) : Prop := 0 ≤ k ∧ k < 4294967296
theorem U32.wf {k : Int} (h : U32 k) : (Lit.int .u32 k).wf = true := by
  have e1 : IntKind.u32.min = 0 := rfl
  have e2 : IntKind.u32.max = 4294967295 := rfl
  simp only [Lit.wf, Bool.and_eq_true, decide_eq_true_eq]
  unfold U32 at h
  omega
theorem keyOf_u32 {k : Int} (h : U32 k) : keyOf Tryz.prog 146 (.int .u32 k) = some (.int .u32 k) := by
  simp [keyOf, mapKey, Tryz.underlying146, h.wf]
def SeenAt (w : World) (M n : Nat) (f : Int → Option Done) : Prop :=
  ∃ D : DataW Unit, w.ownsMap Tryz.prog 146 Rd M n D ∧ ∀ (k : Int) (z : DataW Unit), D.atKey (.int .u32 k) z = ((f k).elim z Done.enc)
theorem SeenAt.lookup {w : World} {M n : Nat} {f : Int → Option Done} (h : SeenAt w M n f) {k : Int} (hk : U32 k) :
    (Instr.lookup 173 (.map (some M)) (.int .u32 k) true).run Tryz.prog w = .ok (.tuple #[((f k).getD done0).val, .bool (f k).isSome]) w := by
  obtain ⟨D, ho, hD⟩ := h
  obtain ⟨v, ps, hrun, hv⟩ := ho.look_ok law22 under144 (zero148 w) (Rd_val done0) (keyOf_u32 hk)
  obtain ⟨c, rfl, hc⟩ := Rd_inv hv
  simp only [Prod.mk.injEq] at hc
  rw [hrun]
  have h1 := hc.1
  rw [hD] at h1
  cases hf : f k with
  | none =>
    rw [hf] at h1
    have e : Maps.has D (.int .u32 k) = false := has_false_of_atKey fun z => by rw [hD, hf]; rfl
    rw [e, ← enc_inj h1]; rfl
  | some y =>
    rw [hf] at h1
    have e : Maps.has D (.int .u32 k) = true := has_true_of_atKey fun z => by rw [hD, hf]; rfl
    rw [e, ← enc_inj h1]; rfl
theorem SeenAt.block {w : World} {M n : Nat} {f : Int → Option Done} (h : SeenAt w M n f) : ∃ es c, w.heap[M]? = some (.map es c) := by
  obtain ⟨D, ⟨es, c, hb, _⟩, _⟩ := h
  exact ⟨es, c, hb⟩
theorem SeenAt.kept {w w' : World} {M n : Nat} {f : Int → Option Done} (h : SeenAt w M n f) (hb : w'.heap[M]? = w.heap[M]?) : SeenAt w' M n f := by
  obtain ⟨D, ⟨es, c, hb0, r⟩, hD⟩ := h
  exact ⟨D, ⟨es, c, hb.trans hb0, r⟩, hD⟩
theorem SeenAt.made (w : World) : SeenAt (w.alloc (.map #[] 0)) w.heap.size 0 fun _ => none :=
  ⟨.map [], World.ownsMap_made w _ _ _, fun _ _ => rfl⟩
theorem SeenAt.update {w : World} {M n : Nat} {f : Int → Option Done} (h : SeenAt w M n f) (hn : n < maxLen) {k : Int} (d : Done) (hk : U32 k) :
    ∃ w', (Instr.mapUpdate 173 (.map (some M)) (.int .u32 k) d.val).run Tryz.prog w = .ok () w' ∧ SeenAt w' M (n + 1) (fun j => if j = k then some d else f j) ∧ w.grownBy w' (some M) := by
  obtain ⟨D, ho, hD⟩ := h
  obtain ⟨w', hrun, ho', hg⟩ := ho.update law22 under144 hn (keyOf_u32 hk) (Rd_val d)
  refine ⟨w', hrun, ⟨_, ho', fun j z => ?_⟩, hg⟩
  by_cases e : j = k
  · subst e
    rw [atKey_put_same ho.isMap (law22.key (keyOf_u32 hk))]; simp
  · rw [atKey_put_other (fun e' => e (by injection e')), hD]; simp [e]
end Go.Proofs.YtpfcdhjknmijjaaGreat.Ht

namespace Go.Proofs.YtpfcdhjknmijjaaGreat.Ht
open Go.RowKit Go.Maps Go.Proofs.YtpfcdhjknmijjaaGreat.Grow Go.Proofs.YtpfcdhjknmijjaaGreat.Rv Go.Proofs.YtpfcdhjknmijjaaGreat.As
open Go.Proofs.YtpfcdhjknmijjaaGreatW.PrintWords Go.Proofs.YtpfcdhjknmijjaaGreatW.PrintLast Go.Proofs.YtpfcdhjknmijjaaGreatW.PrintMore

/-! ### A machine -/
/-- The name by which an instruction with a number reckons. -/
def withL : List (ByteArray × ByteArray) := [
  (⟨#[97, 100, 100, 105]⟩, ⟨#[97, 100, 100]⟩), (⟨#[115, 108, 116, 105]⟩, ⟨#[115, 108, 116]⟩), (⟨#[115, 108, 116, 105, 117]⟩, ⟨#[115, 108, 116, 117]⟩),
  (⟨#[120, 111, 114, 105]⟩, ⟨#[120, 111, 114]⟩), (⟨#[111, 114, 105]⟩, ⟨#[111, 114]⟩), (⟨#[97, 110, 100, 105]⟩, ⟨#[97, 110, 100]⟩), (⟨#[97, 100, 100, 105, 119]⟩, ⟨#[97, 100, 100, 119]⟩),
  (⟨#[115, 108, 108, 105]⟩, ⟨#[115, 108, 108]⟩), (⟨#[115, 114, 108, 105]⟩, ⟨#[115, 114, 108]⟩), (⟨#[115, 114, 97, 105]⟩, ⟨#[115, 114, 97]⟩),
  (⟨#[115, 108, 108, 105, 119]⟩, ⟨#[115, 108, 108, 119]⟩), (⟨#[115, 114, 108, 105, 119]⟩, ⟨#[115, 114, 108, 119]⟩), (⟨#[115, 114, 97, 105, 119]⟩, ⟨#[115, 114, 97, 119]⟩)]
def withF (nm : ByteArray) : Option ByteArray := (withL.find? fun x => decide (x.1 = nm)).map Prod.snd
def mkDone (x : OpI) : Done := match withF x.name with
  | none => ⟨x, x.name, false⟩
  | some o => ⟨x, o, true⟩
def doneF (k : Int) : Option Done := if (decF k).2 = 0 then some (mkDone (decF k).1) else none

structure HartS where
  mem : MemS
  pc : Int
  regs : List Int
structure HB where
  mp : Nat
  q : Nat
  M : Nat
  gs : List Nat
def hcells (B : HB) (S : HartS) : List Value := .pointer (some ⟨B.mp, 0, none⟩) :: .int .u64 S.pc :: (S.regs.map (Value.int .u64) ++ [.map (some B.M)])
structure HartIs (w : World) (p : Nat) (B : HB) (n : Nat) (S : HartS) : Prop where
  head : w.heap[p]? = some (.cells (hcells B S).toArray 175 (0, 0))
  len : S.regs.length = 32
  mem : MemIs w B.mp B.q B.gs S.mem
  nd : B.gs.Nodup
  seen : ∃ f, SeenAt w B.M n f ∧ ∀ k d, f k = some d → U32 k ∧ doneF k = some d
/-- The blocks that a machine writes to. -/
def HF (p : Nat) (B : HB) (k : Nat) : Prop := k = p ∨ k = B.M ∨ MemF B.mp B.gs k
theorem HartIs.lt {w : World} {p n : Nat} {B : HB} {S : HartS} (h : HartIs w p B n S) : p < w.heap.size := blk_lt h.head
theorem HartIs.M_lt {w : World} {p n : Nat} {B : HB} {S : HartS} (h : HartIs w p B n S) : B.M < w.heap.size := by
  obtain ⟨f, h, _⟩ := h.seen
  obtain ⟨es, c, h⟩ := h.block
  exact blk_lt h
theorem HartIs.kept {w w' : World} {p n : Nat} {B : HB} {S : HartS} (h : HartIs w p B n S) (hk : ∀ k, k < w.heap.size → w'.heap[k]? = w.heap[k]?) : HartIs w' p B n S := by
  obtain ⟨f, hs, hf⟩ := h.seen
  exact ⟨(hk _ h.lt).trans h.head, h.len, h.mem.kept hk, h.nd, f, hs.kept (hk _ h.M_lt), hf⟩
theorem HartIs.below {w w' : World} {p n : Nat} {B : HB} {S : HartS} (h : HartIs w p B n S) (hb : Below w.heap.size w w') : HartIs w' p B n S := h.kept hb.block
theorem HartIs.c0 {w : World} {p n : Nat} {B : HB} {S : HartS} (h : HartIs w p B n S) : w.cell? ⟨p, 0, none⟩ = some (.pointer (some ⟨B.mp, 0, none⟩)) := (blk_cell h.head _).trans (by rfl)
theorem HartIs.c1 {w : World} {p n : Nat} {B : HB} {S : HartS} (h : HartIs w p B n S) : w.cell? ⟨p, 1, none⟩ = some (.int .u64 S.pc) := (blk_cell h.head _).trans (by rfl)
theorem HartIs.cM {w : World} {p n : Nat} {B : HB} {S : HartS} (h : HartIs w p B n S) : w.cell? ⟨p, 34, none⟩ = some (.map (some B.M)) := by
  refine (blk_cell h.head _).trans ?_
  have := h.len
  simp [hcells, this]
theorem HartIs.cr {w : World} {p n : Nat} {B : HB} {S : HartS} (h : HartIs w p B n S) {i : Nat} (hi : i < 32) : w.cell? ⟨p, 2 + i, none⟩ = some (.int .u64 (S.regs.getD i 0)) := by
  refine (blk_cell h.head _).trans ?_
  have := h.len
  rw [Nat.add_comm]
  simp [hcells, List.getElem?_append, this, hi]
def HartS.reg (S : HartS) (i : Int) : Int := if 0 ≤ i ∧ i < 32 then S.regs.getD i.toNat 0 else 0
def HartS.put (S : HartS) (i x : Int) : HartS := if 0 < i ∧ i < 32 then { S with regs := S.regs.set i.toNat x } else S
theorem HartIs.setR {w : World} {p n : Nat} {B : HB} {S : HartS} (h : HartIs w p B n S) {i : Nat} (hi : i < 32) (x : Int) : HartIs (w.setCell ⟨p, 2 + i, none⟩ (.int .u64 x)) p B n { S with regs := S.regs.set i x } := by
  have hl := h.len
  have nb : ∀ k, k ≠ p → (w.setCell ⟨p, 2 + i, none⟩ (.int .u64 x)).heap[k]? = w.heap[k]? := fun k hk => heap_setCell_other _ _ _ _ hk
  obtain ⟨cap, m1⟩ := h.mem.head
  obtain ⟨cur, m2, m3⟩ := h.mem.row
  obtain ⟨f, s1, s2⟩ := h.seen
  obtain ⟨es, c, sb⟩ := s1.block
  have hh := h.head
  refine ⟨?_, by simp [hl], ⟨⟨cap, ?_⟩, ⟨cur, ?_, m3⟩, h.mem.len, fun j hj hj' => ?_⟩, h.nd, f, s1.kept ?_, s2⟩
  · rw [heap_setCell_same w p (2 + i) _ 175 _ h.head]
    simp only [hcells, Nat.add_comm 2 i, List.setIfInBounds_toArray, List.set_cons_succ]
    rw [List.set_append_left _ _ (by simp [hl, hi]), List.map_set]
  · exact (nb _ fun e => by rw [e, hh] at m1; simp at m1).trans m1
  · exact (nb _ fun e => by rw [e, hh] at m2; simp at m2).trans m2
  · have mb := h.mem.bytes j hj hj'
    exact (nb _ fun e => by
      have e' : B.gs[j] = p := e
      rw [e', hh] at mb; simp at mb).trans mb
  · exact nb _ fun e => by rw [e, hh] at sb; simp at sb
theorem HartIs.setPC {w : World} {p n : Nat} {B : HB} {S : HartS} (h : HartIs w p B n S) (x : Int) : HartIs (w.setCell ⟨p, 1, none⟩ (.int .u64 x)) p B n { S with pc := x } := by
  have hl := h.len
  have nb : ∀ k, k ≠ p → (w.setCell ⟨p, 1, none⟩ (.int .u64 x)).heap[k]? = w.heap[k]? := fun k hk => heap_setCell_other _ _ _ _ hk
  obtain ⟨cap, m1⟩ := h.mem.head
  obtain ⟨cur, m2, m3⟩ := h.mem.row
  obtain ⟨f, s1, s2⟩ := h.seen
  obtain ⟨es, c, sb⟩ := s1.block
  have hh := h.head
  refine ⟨?_, hl, ⟨⟨cap, ?_⟩, ⟨cur, ?_, m3⟩, h.mem.len, fun j hj hj' => ?_⟩, h.nd, f, s1.kept ?_, s2⟩
  · rw [heap_setCell_same w p 1 _ 175 _ h.head]
    rfl
  · exact (nb _ fun e => by rw [e, hh] at m1; simp at m1).trans m1
  · exact (nb _ fun e => by rw [e, hh] at m2; simp at m2).trans m2
  · have mb := h.mem.bytes j hj hj'
    exact (nb _ fun e => by
      have e' : B.gs[j] = p := e
      rw [e', hh] at mb; simp at mb).trans mb
  · exact nb _ fun e => by rw [e, hh] at sb; simp at sb

theorem Reg_calls {w : World} {p n : Nat} {B : HB} {S : HartS} (h : HartIs w p B n S) (i : Int) : Calls Tryz.prog 54 #[.pointer (some ⟨p, 0, none⟩), .int .i64 i] w fun e w' => e = .returned (.int .u64 (S.reg i)) ∧ w' = w := by
  obtain ⟨R, hR⟩ : ∃ R, S.reg i = R := ⟨_, rfl⟩
  rw [hR]
  by_cases hi : 0 ≤ i ∧ i < 32
  · obtain ⟨i0, i1⟩ := hi
    obtain ⟨j, rfl⟩ := Int.eq_ofNat_of_zero_le i0
    have c := h.cr (i := j) (by omega)
    have hr : S.regs.getD j 0 = R := by rw [← hR]; unfold HartS.reg; rw [if_pos ⟨i0, i1⟩, Int.toNat_natCast]
    rw [hr] at c
    have z1 := h.lt
    clear h hr hR
    go_enter Tryz.func54, Tryz.ntmps54
    go_wp2
    go_ret
    exact ⟨by simp, rfl⟩
  · have hr : R = 0 := by rw [← hR]; unfold HartS.reg; rw [if_neg hi]
    subst hr
    clear h hR
    by_cases i0 : i < 0
    · clear hi
      go_enter Tryz.func54, Tryz.ntmps54
      go_wp2
      go_ret
      exact ⟨by simp, rfl⟩
    · have i1 : 32 ≤ i := by omega
      clear hi
      go_enter Tryz.func54, Tryz.ntmps54
      go_wp2
      go_ret
      exact ⟨by simp, rfl⟩
theorem Set_calls {w : World} {p n : Nat} {B : HB} {S : HartS} (h : HartIs w p B n S) (i x : Int) : Calls Tryz.prog 66 #[.pointer (some ⟨p, 0, none⟩), .int .i64 i, .int .u64 x] w fun e w' => e = .returned (.tuple #[]) ∧ HartIs w' p B n (S.put i x) ∧ Keep (HF p B) w w' := by
  obtain ⟨R, hR⟩ : ∃ R, S.put i x = R := ⟨_, rfl⟩
  rw [hR]
  have H := Aside0.mk h
  by_cases hi : 0 < i ∧ i < 32
  · obtain ⟨i0, i1⟩ := hi
    obtain ⟨j, rfl⟩ := Int.eq_ofNat_of_zero_le (Int.le_of_lt i0)
    have c := h.cr (i := j) (by omega)
    have fz := frozen_of_row w p (2 + j) _ 175 h.head
    have hr : R = { S with regs := S.regs.set j x } := by rw [← hR]; unfold HartS.put; rw [if_pos ⟨i0, i1⟩, Int.toNat_natCast]
    have HR := Aside0.mk hr
    have z1 := h.lt
    have S2 := Aside0.mk (h.setR (i := j) (by omega) x)
    clear h hr hR
    go_enter Tryz.func66, Tryz.ntmps66
    go_wp2
    refine bodyPost_end (v := .tuple #[]) (by simp [results, Tryz.results66, go_sem]) rfl ⟨rfl, by rw [HR.out]; exact S2.out, Keep.setCell _ (.inl rfl)⟩
  · have hr : R = S := by rw [← hR]; unfold HartS.put; rw [if_neg hi]
    have HR := Aside0.mk hr
    clear h hR hr
    by_cases i0 : i ≤ 0
    · clear hi
      go_enter Tryz.func66, Tryz.ntmps66
      go_wp2
      refine bodyPost_end (v := .tuple #[]) (by simp [results, Tryz.results66, go_sem]) rfl ⟨rfl, by rw [HR.out]; exact H.out, Keep.refl _ _⟩
    · have i1 : 32 ≤ i := by omega
      have i2 : 0 < i := by omega
      clear hi
      go_enter Tryz.func66, Tryz.ntmps66
      go_wp2
      refine bodyPost_end (v := .tuple #[]) (by simp [results, Tryz.results66, go_sem]) rfl ⟨rfl, by rw [HR.out]; exact H.out, Keep.refl _ _⟩
end Go.Proofs.YtpfcdhjknmijjaaGreat.Ht

namespace Go.Proofs.YtpfcdhjknmijjaaGreat.Ht
open Go.RowKit Go.Maps Go.Proofs.YtpfcdhjknmijjaaGreat.Grow Go.Proofs.YtpfcdhjknmijjaaGreat.Rv Go.Proofs.YtpfcdhjknmijjaaGreat.As
open Go.Proofs.YtpfcdhjknmijjaaGreatW.PrintWords Go.Proofs.YtpfcdhjknmijjaaGreatW.PrintLast Go.Proofs.YtpfcdhjknmijjaaGreatW.PrintMore

theorem mk_seen (w : World) : (Instr.makeMap 173 none).run Tryz.prog w = .ok (.map (some w.heap.size)) (w.alloc (.map #[] 0)) := by kernel_rfl
/-- A machine as New makes it. -/
def new0 (S : MemS) (pc : Int) : HartS := ⟨S, pc, List.replicate 32 0⟩
set_option maxHeartbeats 2000000 in
theorem New_calls {w : World} {mp q : Nat} {gs : List Nat} {S : MemS} (h : MemIs w mp q gs S) (hnd : gs.Nodup) (pc : Int) : Calls Tryz.prog 65 #[.pointer (some ⟨mp, 0, none⟩), .int .u64 pc] w fun e w' => e = .returned (.pointer (some ⟨w.heap.size + 1, 0, none⟩)) ∧ HartIs w' (w.heap.size + 1) ⟨mp, q, w.heap.size, gs⟩ 0 (new0 S pc) ∧ Below w.heap.size w w' := by
  have hm := mk_seen w
  go_enter Tryz.func65, Tryz.ntmps65
  go_wp2
  refine bodyPost_ret (v := .pointer (some ⟨w.heap.size + 1, 0, none⟩)) (by simp [results, Tryz.results65, go_sem]) rfl ⟨rfl, ⟨?_, ?_, ?_, hnd, ?_⟩, ?_⟩
  · exact heap_alloc_at _ _ (by simp)
  · rfl
  · exact h.below (below_alloc (below_alloc (Below.refl _ _) _) _)
  · exact ⟨fun _ => none, (SeenAt.made w).kept (Below.heap_alloc _ _ _ (by simp)), fun _ _ h => by cases h⟩
  · exact below_alloc (below_alloc (Below.refl _ _) _) _

/-! ### The names of instructions with a number -/
theorem law9 : Keyed Tryz.prog 9 := string_keyed Tryz.underlying9
abbrev Small (s : ByteArray) : Prop := s.size ≤ 1000
theorem Small.le {s : ByteArray} (h : Small s) : s.size ≤ maxLen := Nat.le_trans h (by decide)
theorem keyOf_str {s : ByteArray} (h : Small s) : keyOf Tryz.prog 9 (.string s) = some (.string s.data.toList) := by
  have := h.le
  simp [keyOf, mapKey, Tryz.underlying9, this]
theorem under182 : Tryz.prog.underlying 252 = some (.map 9 9) := by kernel_rfl
theorem zero9 (w : World) : (zeroValue 9).run Tryz.prog w = .ok (.string ⟨#[]⟩) w := by kernel_rfl
def StrAt (w : World) (M n : Nat) (f : ByteArray → Option ByteArray) : Prop :=
  ∃ D : DataW Unit, w.ownsMap Tryz.prog 9 (plainElem Tryz.prog 9) M n D ∧ ∀ (k : ByteArray) (z : DataW Unit), D.atKey (.string k.data.toList) z = ((f k).elim z fun v => .lit (.string v.data.toList))
theorem StrAt.lookup {w : World} {M n : Nat} {f : ByteArray → Option ByteArray} (h : StrAt w M n f) {k : ByteArray} (hk : Small k) :
    (Instr.lookup 252 (.map (some M)) (.string k) true).run Tryz.prog w = .ok (.tuple #[.string ((f k).getD ⟨#[]⟩), .bool (f k).isSome]) w := by
  obtain ⟨D, ho, hD⟩ := h
  obtain ⟨v, ps, hrun, hv⟩ := ho.look_ok law9 under182 (zero9 w) (plainElem_string Tryz.underlying9 (s := ⟨#[]⟩) (by decide)) (keyOf_str hk)
  obtain ⟨c, rfl, hc, hwc⟩ := plainElem_string_inv Tryz.underlying9 hv
  simp only [Prod.mk.injEq] at hc
  rw [hrun]
  have h1 := hc.1
  rw [hD] at h1
  cases hf : f k with
  | none =>
    rw [hf] at h1
    have e : Maps.has D (.string k.data.toList) = false := has_false_of_atKey fun z => by rw [hD, hf]; rfl
    rw [e]
    simp only [Option.elim, DataW.lit.injEq, Lit.string.injEq] at h1
    have h2 : (⟨#[]⟩ : ByteArray).data.toList = c.data.toList := h1
    rw [← ba_inj h2]; rfl
  | some y =>
    rw [hf] at h1
    have e : Maps.has D (.string k.data.toList) = true := has_true_of_atKey fun z => by rw [hD, hf]; rfl
    rw [e]
    simp only [Option.elim, DataW.lit.injEq, Lit.string.injEq] at h1
    rw [← ba_inj h1]; rfl
theorem StrAt.made (w : World) : StrAt (w.alloc (.map #[] 0)) w.heap.size 0 fun _ => none :=
  ⟨.map [], World.ownsMap_made w _ _ _, fun _ _ => rfl⟩
theorem StrAt.update {w : World} {M n : Nat} {f : ByteArray → Option ByteArray} (h : StrAt w M n f) (hn : n < maxLen) (k v : ByteArray) (hk : Small k) (hv : Small v) :
    ∃ w', (Instr.mapUpdate 252 (.map (some M)) (.string k) (.string v)).run Tryz.prog w = .ok () w' ∧ StrAt w' M (n + 1) (fun j => if j = k then some v else f j) ∧ w.grownBy w' (some M) := by
  obtain ⟨D, ho, hD⟩ := h
  obtain ⟨w', hrun, ho', hg⟩ := ho.update law9 under182 hn (keyOf_str hk) (plainElem_string Tryz.underlying9 hv.le)
  refine ⟨w', hrun, ⟨_, ho', fun j z => ?_⟩, hg⟩
  by_cases e : j = k
  · subst e
    rw [atKey_put_same ho.isMap (law9.key (keyOf_str hk))]; simp
  · rw [atKey_put_other (fun e' => e (ba_inj (by injection e'))), hD]; simp [e]
theorem below_grown {b : Nat} {w w1 w2 : World} {M : Nat} (h : Below b w w1) (hg : w1.grownBy w2 (some M)) (hM : b ≤ M) (hb : b ≤ w.heap.size) : Below b w w2 :=
  ⟨hg.os.trans h.os, hg.tape.trans h.tape, hg.output.trans h.output, Nat.le_trans h.size hg.size, fun k hk => (hg.block k (by have := h.size; omega) (by simp; omega)).trans (h.block k hk)⟩
def with0 : ByteArray → Option ByteArray := fun _ => none
def with1 : ByteArray → Option ByteArray := fun j => if j = ⟨#[97, 100, 100, 105]⟩ then some ⟨#[97, 100, 100]⟩ else with0 j
def with2 : ByteArray → Option ByteArray := fun j => if j = ⟨#[115, 108, 116, 105]⟩ then some ⟨#[115, 108, 116]⟩ else with1 j
def with3 : ByteArray → Option ByteArray := fun j => if j = ⟨#[115, 108, 116, 105, 117]⟩ then some ⟨#[115, 108, 116, 117]⟩ else with2 j
def with4 : ByteArray → Option ByteArray := fun j => if j = ⟨#[120, 111, 114, 105]⟩ then some ⟨#[120, 111, 114]⟩ else with3 j
def with5 : ByteArray → Option ByteArray := fun j => if j = ⟨#[111, 114, 105]⟩ then some ⟨#[111, 114]⟩ else with4 j
def with6 : ByteArray → Option ByteArray := fun j => if j = ⟨#[97, 110, 100, 105]⟩ then some ⟨#[97, 110, 100]⟩ else with5 j
def with7 : ByteArray → Option ByteArray := fun j => if j = ⟨#[97, 100, 100, 105, 119]⟩ then some ⟨#[97, 100, 100, 119]⟩ else with6 j
def with8 : ByteArray → Option ByteArray := fun j => if j = ⟨#[115, 108, 108, 105]⟩ then some ⟨#[115, 108, 108]⟩ else with7 j
def with9 : ByteArray → Option ByteArray := fun j => if j = ⟨#[115, 114, 108, 105]⟩ then some ⟨#[115, 114, 108]⟩ else with8 j
def with10 : ByteArray → Option ByteArray := fun j => if j = ⟨#[115, 114, 97, 105]⟩ then some ⟨#[115, 114, 97]⟩ else with9 j
def with11 : ByteArray → Option ByteArray := fun j => if j = ⟨#[115, 108, 108, 105, 119]⟩ then some ⟨#[115, 108, 108, 119]⟩ else with10 j
def with12 : ByteArray → Option ByteArray := fun j => if j = ⟨#[115, 114, 108, 105, 119]⟩ then some ⟨#[115, 114, 108, 119]⟩ else with11 j
def with13 : ByteArray → Option ByteArray := fun j => if j = ⟨#[115, 114, 97, 105, 119]⟩ then some ⟨#[115, 114, 97, 119]⟩ else with12 j
theorem with_all : with13 = withF := by
  funext j
  by_cases h12 : j = ⟨#[115, 114, 97, 105, 119]⟩
  · subst h12; decide +kernel
  by_cases h11 : j = ⟨#[115, 114, 108, 105, 119]⟩
  · subst h11; decide +kernel
  by_cases h10 : j = ⟨#[115, 108, 108, 105, 119]⟩
  · subst h10; decide +kernel
  by_cases h9 : j = ⟨#[115, 114, 97, 105]⟩
  · subst h9; decide +kernel
  by_cases h8 : j = ⟨#[115, 114, 108, 105]⟩
  · subst h8; decide +kernel
  by_cases h7 : j = ⟨#[115, 108, 108, 105]⟩
  · subst h7; decide +kernel
  by_cases h6 : j = ⟨#[97, 100, 100, 105, 119]⟩
  · subst h6; decide +kernel
  by_cases h5 : j = ⟨#[97, 110, 100, 105]⟩
  · subst h5; decide +kernel
  by_cases h4 : j = ⟨#[111, 114, 105]⟩
  · subst h4; decide +kernel
  by_cases h3 : j = ⟨#[120, 111, 114, 105]⟩
  · subst h3; decide +kernel
  by_cases h2 : j = ⟨#[115, 108, 116, 105, 117]⟩
  · subst h2; decide +kernel
  by_cases h1 : j = ⟨#[115, 108, 116, 105]⟩
  · subst h1; decide +kernel
  by_cases h0 : j = ⟨#[97, 100, 100, 105]⟩
  · subst h0; decide +kernel
  unfold withF withL
  have e : ∀ a : ByteArray, j ≠ a → decide (a = j) = false := fun a h => decide_eq_false fun e => h e.symm
  simp only [List.find?, e _ h0, e _ h1, e _ h2, e _ h3, e _ h4, e _ h5, e _ h6, e _ h7, e _ h8, e _ h9, e _ h10, e _ h11, e _ h12, Option.map_none]
  unfold with13 with12 with11 with10 with9 with8 with7 with6 with5 with4 with3 with2 with1 with0
  simp only [if_neg h0, if_neg h1, if_neg h2, if_neg h3, if_neg h4, if_neg h5, if_neg h6, if_neg h7, if_neg h8, if_neg h9, if_neg h10, if_neg h11, if_neg h12]
theorem mk_with (w : World) : (Instr.makeMap 252 none).run Tryz.prog w = .ok (.map (some w.heap.size)) (w.alloc (.map #[] 0)) := by kernel_rfl
set_option maxHeartbeats 4000000 in
set_option maxRecDepth 100000 in
theorem withNumber_calls (w : World) : Calls Tryz.prog 177 #[] w fun e w' => ∃ M, e = .returned (.map (some M)) ∧ StrAt w' M 13 withF ∧ Below w.heap.size w w' := by
  have hm := mk_with w
  have s0 := StrAt.made w
  have b0 := below_alloc (Below.refl w.heap.size w) (.map #[] 0)
  generalize hw0 : (w.alloc (.map #[] 0)) = w0 at *
  obtain ⟨w1, r1, s1, g1⟩ := s0.update (by decide) ⟨#[97, 100, 100, 105]⟩ ⟨#[97, 100, 100]⟩ (by decide) (by decide)
  have b1 := below_grown b0 g1 (Nat.le_refl _) (Nat.le_refl _)
  clear s0 g1 b0
  obtain ⟨w2, r2, s2, g2⟩ := s1.update (by decide) ⟨#[115, 108, 116, 105]⟩ ⟨#[115, 108, 116]⟩ (by decide) (by decide)
  have b2 := below_grown b1 g2 (Nat.le_refl _) (Nat.le_refl _)
  clear s1 g2 b1
  obtain ⟨w3, r3, s3, g3⟩ := s2.update (by decide) ⟨#[115, 108, 116, 105, 117]⟩ ⟨#[115, 108, 116, 117]⟩ (by decide) (by decide)
  have b3 := below_grown b2 g3 (Nat.le_refl _) (Nat.le_refl _)
  clear s2 g3 b2
  obtain ⟨w4, r4, s4, g4⟩ := s3.update (by decide) ⟨#[120, 111, 114, 105]⟩ ⟨#[120, 111, 114]⟩ (by decide) (by decide)
  have b4 := below_grown b3 g4 (Nat.le_refl _) (Nat.le_refl _)
  clear s3 g4 b3
  obtain ⟨w5, r5, s5, g5⟩ := s4.update (by decide) ⟨#[111, 114, 105]⟩ ⟨#[111, 114]⟩ (by decide) (by decide)
  have b5 := below_grown b4 g5 (Nat.le_refl _) (Nat.le_refl _)
  clear s4 g5 b4
  obtain ⟨w6, r6, s6, g6⟩ := s5.update (by decide) ⟨#[97, 110, 100, 105]⟩ ⟨#[97, 110, 100]⟩ (by decide) (by decide)
  have b6 := below_grown b5 g6 (Nat.le_refl _) (Nat.le_refl _)
  clear s5 g6 b5
  obtain ⟨w7, r7, s7, g7⟩ := s6.update (by decide) ⟨#[97, 100, 100, 105, 119]⟩ ⟨#[97, 100, 100, 119]⟩ (by decide) (by decide)
  have b7 := below_grown b6 g7 (Nat.le_refl _) (Nat.le_refl _)
  clear s6 g7 b6
  obtain ⟨w8, r8, s8, g8⟩ := s7.update (by decide) ⟨#[115, 108, 108, 105]⟩ ⟨#[115, 108, 108]⟩ (by decide) (by decide)
  have b8 := below_grown b7 g8 (Nat.le_refl _) (Nat.le_refl _)
  clear s7 g8 b7
  obtain ⟨w9, r9, s9, g9⟩ := s8.update (by decide) ⟨#[115, 114, 108, 105]⟩ ⟨#[115, 114, 108]⟩ (by decide) (by decide)
  have b9 := below_grown b8 g9 (Nat.le_refl _) (Nat.le_refl _)
  clear s8 g9 b8
  obtain ⟨w10, r10, s10, g10⟩ := s9.update (by decide) ⟨#[115, 114, 97, 105]⟩ ⟨#[115, 114, 97]⟩ (by decide) (by decide)
  have b10 := below_grown b9 g10 (Nat.le_refl _) (Nat.le_refl _)
  clear s9 g10 b9
  obtain ⟨w11, r11, s11, g11⟩ := s10.update (by decide) ⟨#[115, 108, 108, 105, 119]⟩ ⟨#[115, 108, 108, 119]⟩ (by decide) (by decide)
  have b11 := below_grown b10 g11 (Nat.le_refl _) (Nat.le_refl _)
  clear s10 g11 b10
  obtain ⟨w12, r12, s12, g12⟩ := s11.update (by decide) ⟨#[115, 114, 108, 105, 119]⟩ ⟨#[115, 114, 108, 119]⟩ (by decide) (by decide)
  have b12 := below_grown b11 g12 (Nat.le_refl _) (Nat.le_refl _)
  clear s11 g12 b11
  obtain ⟨w13, r13, s13, g13⟩ := s12.update (by decide) ⟨#[115, 114, 97, 105, 119]⟩ ⟨#[115, 114, 97, 119]⟩ (by decide) (by decide)
  have b13 := below_grown b12 g13 (Nat.le_refl _) (Nat.le_refl _)
  clear s12 g13 b12
  rw [← with_all]
  have S := Aside0.mk s13
  have B := Aside0.mk b13
  clear s13 b13
  go_enter Tryz.func177, Tryz.ntmps177
  go_wp2
  go_ret
  exact ⟨_, rfl, S.out, B.out⟩
end Go.Proofs.YtpfcdhjknmijjaaGreat.Ht

namespace Go.Proofs.YtpfcdhjknmijjaaGreat.Ht
open Go.RowKit Go.Maps Go.Proofs.YtpfcdhjknmijjaaGreat.Grow Go.Proofs.YtpfcdhjknmijjaaGreat.Rv Go.Proofs.YtpfcdhjknmijjaaGreat.As
open Go.Proofs.YtpfcdhjknmijjaaGreatW.PrintWords Go.Proofs.YtpfcdhjknmijjaaGreatW.PrintLast Go.Proofs.YtpfcdhjknmijjaaGreatW.PrintMore

theorem StrAt.block {w : World} {M n : Nat} {f : ByteArray → Option ByteArray} (h : StrAt w M n f) : ∃ es c, w.heap[M]? = some (.map es c) := by
  obtain ⟨D, ⟨es, c, hb, _⟩, _⟩ := h
  exact ⟨es, c, hb⟩
theorem StrAt.below {w w' : World} {M n : Nat} {f : ByteArray → Option ByteArray} (h : StrAt w M n f) (hb : Below w.heap.size w w') : StrAt w' M n f := by
  obtain ⟨es, c, e⟩ := h.block
  obtain ⟨D, ⟨es, c, hb0, r⟩, hD⟩ := h
  exact ⟨D, ⟨es, c, (hb.block _ (blk_lt e)).trans hb0, r⟩, hD⟩
/-- What next gives. -/
def nextF (S : HartS) : Done × Int :=
  if (fetchF S.mem S.pc).2 = 0 then match doneF (fetchF S.mem S.pc).1 with
    | some d => (d, 0)
    | none => (done0, 260)
  else (done0, (fetchF S.mem S.pc).2)
/-- A state that a machine can have. -/
structure GoodH (S : HartS) : Prop where
  mem : GoodM S.mem
  bytes : GoodB S.mem
  pc : 0 ≤ S.pc ∧ S.pc < 18446744073709551616
  regs : ∀ x ∈ S.regs, 0 ≤ x ∧ x < 18446744073709551616
  len : S.regs.length = 32
  zero : S.regs.getD 0 0 = 0
theorem fetchF_u32 {S : MemS} (hG : GoodM S) (hB : GoodB S) (a : Int) : U32 (fetchF S a).1 := by
  unfold fetchF
  split
  · split
    · exact ⟨by decide, by decide⟩
    · rename_i i f hF
      obtain ⟨hi, hlen⟩ := found_in hF hG
      have hb : Bytes (bytesAt S i f 4) := fun b hb => by
        unfold bytesAt at hb
        rw [List.getElem?_eq_getElem hi] at hb
        exact hB _ (List.getElem_mem hi) b (List.mem_of_mem_drop (List.mem_of_mem_take hb))
      have h := numF_b _ hb
      have hl : (bytesAt S i f 4).length ≤ 4 := by unfold bytesAt; exact List.length_take_le _ _
      refine ⟨h.1, Int.lt_of_lt_of_le h.2 ?_⟩
      have : ∀ n, n ≤ 4 → (256 : Int) ^ n ≤ 4294967296 := by decide
      exact this _ hl
  · exact ⟨by decide, by decide⟩
theorem names_few : ∀ k, k < 64 → (kd k).1.size ≤ 1000 := by decide +kernel
theorem decF_small {x : Int} (h : (decF x).2 = 0) : Small (decF x).1.name := by
  unfold decF at h ⊢
  split
  · rename_i hk
    exact names_few _ hk
  · rename_i hk
    rw [if_neg hk] at h
    cases h
theorem decF_260 (x : Int) : (decF x).2 = 0 ∨ (decF x).2 = 260 := by
  unfold decF
  split
  · exact .inl rfl
  · exact .inr rfl
/-- The machine's blocks apart, only the map is written to. -/
theorem HartIs.grown {w w' : World} {p n m : Nat} {B : HB} {S : HartS} (h : HartIs w p B n S) (hg : w.grownBy w' (some B.M)) {f : Int → Option Done} (hs : SeenAt w' B.M m f) (hf : ∀ k d, f k = some d → U32 k ∧ doneF k = some d) : HartIs w' p B m S := by
  obtain ⟨f0, h0, _⟩ := h.seen
  obtain ⟨es, c, sb⟩ := h0.block
  have hh := h.head
  obtain ⟨cap, m1⟩ := h.mem.head
  obtain ⟨cur, m2, m3⟩ := h.mem.row
  have nb : ∀ k o, k < w.heap.size → w.heap[k]? = some o → (∀ es c, o ≠ .map es c) → w'.heap[k]? = w.heap[k]? := fun k o hk ho hne => hg.block k hk fun e => by
    obtain rfl : k = B.M := by simpa using e
    rw [sb] at ho
    exact hne es c (by simpa using ho.symm)
  refine ⟨?_, h.len, ⟨⟨cap, ?_⟩, ⟨cur, ?_, m3⟩, h.mem.len, fun j hj hj' => ?_⟩, h.nd, f, hs, hf⟩
  · exact (nb _ _ (blk_lt hh) hh (by intro es c e; cases e)).trans hh
  · exact (nb _ _ (blk_lt m1) m1 (by intro es c e; cases e)).trans m1
  · exact (nb _ _ (blk_lt m2) m2 (by intro es c e; cases e)).trans m2
  · have mb := h.mem.bytes j hj hj'
    exact (nb _ _ (blk_lt mb) mb (by intro es c e; cases e)).trans mb
theorem Keep.of_grown {F : Nat → Prop} {w w' : World} {M : Nat} (hg : w.grownBy w' (some M)) (hM : F M) : Keep F w w' :=
  ⟨hg.os, hg.tape, hg.output, hg.size, fun k hk hF => hg.block k hk fun e => hF ((show k = M by simpa using e) ▸ hM)⟩
theorem nextF_err {S : HartS} {e : Int} (h : (fetchF S.mem S.pc).2 = e) (he : e ≠ 0) : nextF S = (done0, e) := by
  unfold nextF; rw [h, if_neg he]
theorem nextF_ok {S : HartS} {W : Int} {d : Done} (h : (fetchF S.mem S.pc).2 = 0) (hW : (fetchF S.mem S.pc).1 = W) (hd : doneF W = some d) : nextF S = (d, 0) := by
  unfold nextF; rw [if_pos h, hW, hd]
theorem nextF_no {S : HartS} {W : Int} (h : (fetchF S.mem S.pc).2 = 0) (hW : (fetchF S.mem S.pc).1 = W) (hd : doneF W = none) : nextF S = (done0, 260) := by
  unfold nextF; rw [if_pos h, hW, hd]
theorem HartIs.far {w0 w w' : World} {p n0 n : Nat} {B : HB} {S0 S : HartS} (h0 : HartIs w0 p B n0 S0) (h : HartIs w p B n S) (hk : ∀ k, k < w0.heap.size → w'.heap[k]? = w.heap[k]?) : HartIs w' p B n S := by
  obtain ⟨c0, a1⟩ := h0.mem.head
  obtain ⟨r0, a2, _⟩ := h0.mem.row
  obtain ⟨cap, h1⟩ := h.mem.head
  obtain ⟨cur, h2, h3⟩ := h.mem.row
  obtain ⟨f, hs, hf⟩ := h.seen
  refine ⟨(hk _ h0.lt).trans h.head, h.len, ⟨⟨cap, (hk _ (blk_lt a1)).trans h1⟩, ⟨cur, (hk _ (blk_lt a2)).trans h2, h3⟩, h.mem.len, fun i hi hi' => (hk _ ?_).trans (h.mem.bytes i hi hi')⟩, h.nd, f, hs.kept (hk _ h0.M_lt), hf⟩
  exact blk_lt (h0.mem.bytes i (by rw [← h0.mem.len]; exact hi') hi')
theorem seen_new {f : Int → Option Done} (hf : ∀ k d, f k = some d → U32 k ∧ doneF k = some d) {W : Int} {d : Done} (hW : U32 W) (hd : doneF W = some d) :
    ∀ k d', (fun j => if j = W then some d else f j) k = some d' → U32 k ∧ doneF k = some d' := by
  intro k d' h
  by_cases e : k = W
  · subst e
    simp only [if_pos] at h
    exact ⟨hW, hd.trans h⟩
  · simp only [if_neg e] at h
    exact hf k d' h
theorem Keep.far {F : Nat → Prop} {w w1 w2 : World} (h : Keep F w w1) (hb : Below w.heap.size w1 w2) : Keep F w w2 :=
  ⟨hb.os.trans h.os, hb.tape.trans h.tape, hb.output.trans h.output, Nat.le_trans h.size hb.size, fun k hk hF => (hb.block k hk).trans (h.block k hk hF)⟩
/-- Seven cells of a block are written. -/
def fill7 (w : World) (L : Nat) (d : Done) : World :=
  ((((((w.setCell ⟨L, 0, none⟩ (.string d.op.name)).setCell ⟨L, 1, none⟩ (.int .i64 d.op.rd)).setCell ⟨L, 2, none⟩ (.int .i64 d.op.ra)).setCell ⟨L, 3, none⟩ (.int .i64 d.op.rb)).setCell ⟨L, 4, none⟩ (.int .i64 d.op.imm)).setCell ⟨L, 5, none⟩ (.string d.by_)).setCell ⟨L, 6, none⟩ (.bool d.num)
def Done.cells (d : Done) : Array Value := #[.string d.op.name, .int .i64 d.op.rd, .int .i64 d.op.ra, .int .i64 d.op.rb, .int .i64 d.op.imm, .string d.by_, .bool d.num]
theorem fill7_at {w : World} {L : Nat} {c d : Done} (h : w.heap[L]? = some (.cells c.cells 219 (0, 0))) : (fill7 w L d).heap[L]? = some (.cells d.cells 219 (0, 0)) := by
  have h0 := heap_setCell_same _ L 0 _ 219 (.string d.op.name) h
  have h1 := heap_setCell_same _ L 1 _ 219 (.int .i64 d.op.rd) h0
  have h2 := heap_setCell_same _ L 2 _ 219 (.int .i64 d.op.ra) h1
  have h3 := heap_setCell_same _ L 3 _ 219 (.int .i64 d.op.rb) h2
  have h4 := heap_setCell_same _ L 4 _ 219 (.int .i64 d.op.imm) h3
  have h5 := heap_setCell_same _ L 5 _ 219 (.string d.by_) h4
  have h6 := heap_setCell_same _ L 6 _ 219 (.bool d.num) h5
  unfold fill7
  rw [h6]
  simp only [Done.cells, List.setIfInBounds_toArray, List.set_cons_zero, List.set_cons_succ]
theorem fill7_below {b : Nat} {a w : World} {L : Nat} (h : Below b a w) (hL : b ≤ L) (d : Done) : Below b a (fill7 w L d) :=
  ((((((h.setCell (p := ⟨L, 0, none⟩) hL _).setCell (p := ⟨L, 1, none⟩) hL _).setCell (p := ⟨L, 2, none⟩) hL _).setCell (p := ⟨L, 3, none⟩) hL _).setCell (p := ⟨L, 4, none⟩) hL _).setCell (p := ⟨L, 5, none⟩) hL _).setCell (p := ⟨L, 6, none⟩) hL _
set_option maxHeartbeats 4000000 in
set_option maxRecDepth 100000 in
theorem next_calls {w : World} {p n : Nat} {B : HB} {S : HartS} (h : HartIs w p B n S) (hG : GoodH S) (hn : n < maxLen) :
    Calls Tryz.prog 147 #[.pointer (some ⟨p, 0, none⟩)] w fun e w' => e = .returned (.tuple #[(nextF S).1.val, .int .i64 (nextF S).2]) ∧ (∃ m, m ≤ n + 1 ∧ HartIs w' p B m S) ∧ Keep (HF p B) w w' := by
  obtain ⟨R, hR⟩ : ∃ R, nextF S = R := ⟨_, rfl⟩
  rw [hR]
  have HR := Aside0.mk hR
  have H0 := Aside0.mk h
  have HU := Aside0.mk (fetchF_u32 hG.mem hG.bytes S.pc)
  have FC := Aside0.mk (fun (w5 : World) (h5 : HartIs w5 p B n S) => Fetch_calls h5.mem hG.mem hG.bytes hG.pc.1 hG.pc.2)
  obtain ⟨W, hW⟩ : ∃ W, (fetchF S.mem S.pc).1 = W := ⟨_, rfl⟩
  obtain ⟨E, hE⟩ : ∃ E, (fetchF S.mem S.pc).2 = E := ⟨_, rfl⟩
  rw [hW, hE] at FC
  rw [hW] at HU
  have HW := Aside0.mk hW
  have HE := Aside0.mk hE
  clear h hR hW hE hG
  go_enter Tryz.func147, Tryz.ntmps147
  go_wp2_with fail
  have hL := heap_alloc_last w (.cells #[.string ⟨#[]⟩, .int .i64 0, .int .i64 0, .int .i64 0, .int .i64 0, .string ⟨#[]⟩, .bool false] 219)
  have B1 := below_alloc (Below.refl w.heap.size w) (.cells #[.string ⟨#[]⟩, .int .i64 0, .int .i64 0, .int .i64 0, .int .i64 0, .string ⟨#[]⟩, .bool false] 219)
  generalize (w.alloc (.cells #[.string ⟨#[]⟩, .int .i64 0, .int .i64 0, .int .i64 0, .int .i64 0, .string ⟨#[]⟩, .bool false] 219)) = w1 at *
  have H1 := Aside0.mk (H0.out.below B1)
  refine wp_region_grow2 [13, 14, 15, 16, 17, 18, 19, 20, 21, 12, 22, 23, 4, 5] (fun j v w1 => match j with
      | 0 => v = .pointer (some ⟨p, 0, none⟩)
      | 1 => v = .pointer (some ⟨p, 0, none⟩)
      | 2 => v = .pointer (some ⟨p, 0, none⟩)
      | 3 => v = .pointer (some ⟨B.mp, 0, none⟩)
      | 4 => v = .pointer (some ⟨p, 0, none⟩)
      | 5 => v = .pointer (some ⟨p, 0, none⟩)
      | 6 => v = .pointer (some ⟨p, 1, none⟩)
      | 7 => v = .int .u64 S.pc
      | 8 => v = .tuple #[.int .u32 W, .int .i64 E]
      | 9 => v = .tuple #[.int .u32 W, .int .i64 E]
      | 10 => v = .int .u32 W
      | 11 => v = .int .i64 E
      | 12 => v = .int .u32 W
      | 13 => v = .int .i64 E
      | _ => True) (by kernel_rfl) (by kernel_rfl) ?_ ?_ ?_
  · intro j v w1 w2 hv hb
    rcases j with _ | _ | _ | _ | _ | _ | _ | _ | _ | _ | _ | _ | _ | _ | j <;> first | exact hv | trivial
  · refine ⟨?_, ?_, ?_, ?_, ?_, ?_, ?_, ?_, ?_, ?_, ?_, ?_, ?_, ?_, trivial⟩
    all_goals
      intro a w5 hB hoth hdep
      have h5 := H1.out.below hB
      have fc := FC.out w5 h5
      have p0 := h5.c0
      have p1 := h5.c1
      have z0 := h5.lt
      have h0 := hoth 0 (by decide)
      clear hoth hB hL B1 H1 FC HU HW HE HR H0 h5
      simp [bd1, bd2, bd3, bd5, bd6] at hdep h0
      simp only [StepTo, Oper.grows]
      go_simp
      all_goals first
        | exact Below.refl _ _
        | (refine ⟨Below.refl _ _, fc.mono ?_⟩; rintro e w' ⟨rfl, hb⟩; exact ⟨rfl, hb⟩)
        | exact ⟨Below.refl _ _, rfl⟩
        | skip
  · intro v w5 hB hv
    have q4 : v 12 = _ := hv 12 (by decide)
    have q5 : v 13 = _ := hv 13 (by decide)
    simp only [fillF, q4, q5, Act.put, List.setIfInBounds_toArray, List.set_cons_zero, List.set_cons_succ, List.length_cons, List.length_nil, Nat.reduceAdd, List.drop_succ_cons, List.drop_zero]
    have h5 := Aside0.mk (H1.out.below hB)
    have hL5 := blk_below hL hB
    have B5 := B1.trans (hB.mono B1.size)
    have zL := blk_lt hL5
    have cL := blk_cell hL5
    have fL := fun o => frozen_of_row w5 w.heap.size o _ 219 hL5
    have pM := h5.out.cM
    have p0 := h5.out.c0
    have zp := h5.out.lt
    clear hv hB hL H1 q4 q5 FC B1
    by_cases hE0 : E = 0
    · subst hE0
      obtain ⟨f, hs0, hf⟩ := H0.out.seen
      have hs := hs0.kept (B5.block _ H0.out.M_lt)
      have hlook := hs.lookup HU.out
      cases hd : f W with
      | some d =>
        have hR : R = (d, 0) := by rw [← HR.out]; exact nextF_ok HE.out HW.out (hf W d hd).2
        subst hR
        rw [hd] at hlook
        clear hs hs0 hf hd HR HU
        simp only [Option.getD_some, Option.isSome_some, Done.val] at hlook ⊢
        go_wp2
        have hF := fill7_at (d := d) (c := done0) hL5
        have BF := fill7_below B5 (Nat.le_refl _) d
        have cF := blk_cell (blk_below hF (below_alloc (Below.refl _ _) (.cells d.cells 219)))
        have zF := blk_lt (blk_below hF (below_alloc (Below.refl _ _) (.cells d.cells 219)))
        have BG := below_alloc BF (.cells d.cells 219)
        refine bodyPost_ret (w := (fill7 w5 w.heap.size d).alloc (.cells d.cells 219)) (v := .tuple #[d.val, .int .i64 0]) ?_ rfl ⟨rfl, ⟨n, by omega, H0.out.below BG⟩, Keep.of_below BG⟩
        generalize (fill7 w5 w.heap.size d).alloc (.cells d.cells 219) = wz at *
        unfold Done.cells at cF
        clear hF BF BG B5 cL fL hL5 zL
        simp [results, Tryz.results147, go_sem, Done.val, cF]
      | none =>
        rw [hd] at hlook
        simp only [Option.getD_none, Option.isSome_none, Done.val, done0] at hlook
        obtain ⟨y, c, hy⟩ : ∃ y c, decF W = (y, c) := ⟨_, _, rfl⟩
        have HS := Aside0.mk hs0
        have HFF := Aside0.mk hf
        have HD := Aside0.mk hd
        clear hs hs0 hf hd
        go_wp2_with fail
        have B6' := below_alloc B5 (.cells #[Value.string ⟨#[]⟩, .int .i64 0, .int .i64 0, .int .i64 0, .int .i64 0, .string ⟨#[]⟩, .bool false] 219)
        have hL6' := blk_below hL5 (below_alloc (Below.refl _ _) (.cells #[Value.string ⟨#[]⟩, .int .i64 0, .int .i64 0, .int .i64 0, .int .i64 0, .string ⟨#[]⟩, .bool false] 219))
        refine (decode_at hy _).mono ?_
        rintro e w6 ⟨rfl, hb6⟩
        have B6 := Aside0.mk (B6'.trans (hb6.mono B6'.size))
        have hL6 := Aside0.mk (blk_below hL6' hb6)
        clear B6' hL6' hb6 hL5 B5 zL cL fL pM p0 zp hlook
        have cL := blk_cell hL6.out
        have fL := fun o => frozen_of_row w6 w.heap.size o _ 219 hL6.out
        have zL := blk_lt hL6.out
        by_cases hc : c = 0
        · subst hc
          go_wp2_with fail
          have hO7 := blk_alloc (heap_alloc_last w6 (.cells #[.string y.name, .int .i64 y.rd, .int .i64 y.ra, .int .i64 y.rb, .int .i64 y.imm] 130)) (.cells #[.string y.name, .int .i64 y.rd, .int .i64 y.ra, .int .i64 y.rb, .int .i64 y.imm, .string y.name, .bool false] 219)
          have hD7 := heap_alloc_at (w6.alloc (.cells #[.string y.name, .int .i64 y.rd, .int .i64 y.ra, .int .i64 y.rb, .int .i64 y.imm] 130)) (.cells #[.string y.name, .int .i64 y.rd, .int .i64 y.ra, .int .i64 y.rb, .int .i64 y.imm, .string y.name, .bool false] 219) (n := w6.heap.size + 1) (by simp)
          have B7 := below_alloc (below_alloc B6.out (.cells #[.string y.name, .int .i64 y.rd, .int .i64 y.ra, .int .i64 y.rb, .int .i64 y.imm] 130)) (.cells #[.string y.name, .int .i64 y.rd, .int .i64 y.ra, .int .i64 y.rb, .int .i64 y.imm, .string y.name, .bool false] 219)
          have hL7 := blk_alloc (blk_alloc hL6.out (.cells #[.string y.name, .int .i64 y.rd, .int .i64 y.ra, .int .i64 y.rb, .int .i64 y.imm] 130)) (.cells #[.string y.name, .int .i64 y.rd, .int .i64 y.ra, .int .i64 y.rb, .int .i64 y.imm, .string y.name, .bool false] 219)
          have hne := B6.out.size
          obtain ⟨D, hD⟩ : ∃ D, w6.heap.size + 1 = D := ⟨_, rfl⟩
          rw [hD] at hD7 ⊢
          have hDL : w.heap.size < D := by omega
          obtain ⟨O, hO⟩ : ∃ O, w6.heap.size = O := ⟨_, rfl⟩
          rw [hO] at hO7 ⊢
          generalize ((w6.alloc (.cells #[.string y.name, .int .i64 y.rd, .int .i64 y.ra, .int .i64 y.rb, .int .i64 y.imm] 130)).alloc (.cells #[.string y.name, .int .i64 y.rd, .int .i64 y.ra, .int .i64 y.rb, .int .i64 y.imm, .string y.name, .bool false] 219)) = w7 at *
          have HB7 := Aside0.mk B7
          have HL7 := Aside0.mk hL7
          have HD7 := Aside0.mk hD7
          have hsm := decF_small (x := W) (by rw [hy])
          rw [hy] at hsm
          obtain ⟨WN, hWN⟩ : ∃ WN, withF y.name = WN := ⟨_, rfl⟩
          clear cL fL zL hD hO hne B7 hL7 hD7 B6 hL6
          refine wp_region_grow2 [53, 54, 55, 56, 52, 57, 58, 10, 11] (fun j v w1 => match j with
            | 0 => ∃ M', v = .map (some M') ∧ StrAt w1 M' 13 withF
            | 1 => v = .pointer (some ⟨O, 0, none⟩)
            | 2 => v = .string y.name
            | 3 => v = .tuple #[.string (WN.getD ⟨#[]⟩), .bool WN.isSome]
            | 4 => v = .tuple #[.string (WN.getD ⟨#[]⟩), .bool WN.isSome]
            | 5 => v = .string (WN.getD ⟨#[]⟩)
            | 6 => v = .bool WN.isSome
            | 7 => v = .string (WN.getD ⟨#[]⟩)
            | 8 => v = .bool WN.isSome
            | _ => True) (by kernel_rfl) (by kernel_rfl) ?_ ?_ ?_
          · intro j v w1 w2 hv hb
            rcases j with _ | _ | _ | _ | _ | _ | _ | _ | _ | j <;> first | exact hv | trivial | (obtain ⟨M', rfl, hg⟩ := hv; exact ⟨M', rfl, hg.below hb⟩)
          · refine ⟨?_, ?_, ?_, ?_, ?_, ?_, ?_, ?_, ?_, trivial⟩
            rotate_left 3
            · intro a w9 hB hoth hdep
              have d0 := hdep ⟨0, .data⟩ (by simp) rfl 53 rfl
              have d2 : a.tmps.getD 55 undef = .string y.name := hdep ⟨2, .data⟩ (by simp) rfl 55 rfl
              obtain ⟨M', d0, hst⟩ := d0
              have hl := hst.lookup hsm
              rw [hWN] at hl
              clear hoth hB HL7 HB7 HD7 hO7 hst hdep
              simp only [Array.getD_eq_getD_getElem?] at d0 d2
              simp only [StepTo, Oper.grows]
              go_simp
              exact Below.refl _ _
            all_goals
              intro a w9 hB hoth hdep
              have cO := blk_cell (blk_below hO7 hB)
              have zO := blk_lt (blk_below hO7 hB)
              have h8 := hoth 8 (by decide)
              have wn := withNumber_calls w9
              clear hoth hB HL7 HB7 HD7 hO7 hWN
              simp [bd1, bd2, bd3, bd5, bd6] at hdep h8
              simp only [StepTo, Oper.grows]
              go_simp
              all_goals first
                | exact Below.refl _ _
                | (refine ⟨Below.refl _ _, wn.mono ?_⟩; rintro e w' ⟨M', rfl, hst, hb⟩; exact ⟨_, rfl, hb, M', rfl, hst⟩)
                | exact ⟨Below.refl _ _, rfl⟩
                | exact ⟨Below.refl _ _, hdep.1⟩
          · intro v w8 hB hv
            have q7 : v 7 = _ := hv 7 (by decide)
            have q8 : v 8 = _ := hv 8 (by decide)
            simp only [fillF, q7, q8, Act.put, List.setIfInBounds_toArray, List.set_cons_zero, List.set_cons_succ, List.length_cons, List.length_nil, Nat.reduceAdd, List.drop_succ_cons, List.drop_zero]
            have hL8 := blk_below HL7.out hB
            have hD8 := blk_below HD7.out hB
            have B8 := HB7.out.trans (hB.mono HB7.out.size)
            clear hv hB HL7 HD7 HB7 hO7 q7 q8
            cases hw : WN with
            | none =>
              have hdone : doneF W = some ⟨y, y.name, false⟩ := by unfold doneF mkDone; rw [hy, if_pos rfl]; simp only [hWN, hw]
              have hR : R = (⟨y, y.name, false⟩, 0) := by rw [← HR.out]; exact nextF_ok HE.out HW.out hdone
              obtain ⟨w9, hrun, hs9, hg⟩ := (show SeenAt w8.drew B.M n f from (HS.out.kept (B8.block _ H0.out.M_lt)).kept rfl).update hn ⟨y, y.name, false⟩ HU.out
              have hM9 : B.M < w.heap.size := H0.out.M_lt
              have h8 := H0.out.below B8
              have G9 := Aside0.mk (show World.grownBy w8 w9 (some B.M) from ⟨hg.os, hg.tape, hg.output, hg.size, hg.block⟩)
              have hL9 := (hg.block w.heap.size (blk_lt hL8) (by simp; omega)).trans hL8
              have hD9 := (hg.block D (blk_lt hD8) (by simp; omega)).trans hD8
              have S9 := Aside0.mk hs9
              have pM := h8.cM
              have p0 := h8.c0
              have zp := h8.lt
              have cD := blk_cell hD8
              have zD := blk_lt hD8
              have zL8 := blk_lt hL8
              have HL9 := Aside0.mk hL9
              have HD9 := Aside0.mk hD9
              have HD := Aside0.mk hdone
              have HB8 := Aside0.mk B8
              simp only [Done.val] at hrun
              subst hR
              clear hs9 hg hL9 hD9 hdone hD8 hL8 B8 h8 hM9 hw
              go_wp2_with fail
              go_region_law (fail)
              all_goals
                clear hrun cD zD zL8 pM p0 zp
                have cD := blk_cell HD9.out
                have zD := blk_lt HD9.out
                have cL := blk_cell HL9.out
                have fL := fun o => frozen_of_row w9 w.heap.size o _ 219 HL9.out
                have zL := blk_lt HL9.out
                go_wp2
                have hF := fill7_at (d := ⟨y, y.name, false⟩) (c := done0) HL9.out
                have cF := blk_cell hF
                have zF := blk_lt hF
                have h9 := (H0.out.below HB8.out).grown G9.out S9.out (seen_new HFF.out HU.out HD.out)
                have hFar := H0.out.far h9 (fill7_below (Below.refl w.heap.size w9) (Nat.le_refl _) ⟨y, y.name, false⟩).block
                have KK := ((Keep.of_below HB8.out).trans (Keep.of_grown (F := HF p B) G9.out (.inr (.inl rfl)))).far (fill7_below (Below.refl w.heap.size w9) (Nat.le_refl _) ⟨y, y.name, false⟩)
                refine bodyPost_ret (w := fill7 w9 w.heap.size ⟨y, y.name, false⟩) (v := .tuple #[Done.val ⟨y, y.name, false⟩, .int .i64 0]) ?_ rfl ⟨rfl, ⟨n + 1, Nat.le_refl _, hFar⟩, KK⟩
                generalize fill7 w9 w.heap.size ⟨y, y.name, false⟩ = wz at *
                unfold Done.cells at cF
                clear hF cL fL zL HD9 HL9
                simp [results, Tryz.results147, go_sem, Done.val, cF]
            | some o =>
              have hdone : doneF W = some ⟨y, o, true⟩ := by unfold doneF mkDone; rw [hy, if_pos rfl]; simp only [hWN, hw]
              have cD0 := blk_cell hD8
              have zD0 := blk_lt hD8
              have fD0 := fun o => frozen_of_row w8 D o _ 219 hD8
              go_wp2_with fail
              clear cD0 zD0 fD0
              replace hD8 := heap_setCell_same _ D 6 _ 219 (.bool true) (heap_setCell_same w8 D 5 _ 219 (.string o) hD8)
              replace hL8 := (heap_setCell_other (w8.setCell ⟨D, 5, none⟩ (.string o)) ⟨D, 6, none⟩ w.heap.size (.bool true) (Nat.ne_of_lt hDL)).trans ((heap_setCell_other w8 ⟨D, 5, none⟩ w.heap.size (.string o) (Nat.ne_of_lt hDL)).trans hL8)
              replace B8 := (B8.setCell (p := ⟨D, 5, none⟩) (Nat.le_of_lt hDL) (.string o)).setCell (p := ⟨D, 6, none⟩) (Nat.le_of_lt hDL) (.bool true)
              simp only [List.setIfInBounds_toArray, List.set_cons_zero, List.set_cons_succ] at hD8
              generalize (w8.setCell ⟨D, 5, none⟩ (.string o)).setCell ⟨D, 6, none⟩ (.bool true) = w8' at *
              have hR : R = (⟨y, o, true⟩, 0) := by rw [← HR.out]; exact nextF_ok HE.out HW.out hdone
              obtain ⟨w9, hrun, hs9, hg⟩ := (show SeenAt w8'.drew B.M n f from (HS.out.kept (B8.block _ H0.out.M_lt)).kept rfl).update hn ⟨y, o, true⟩ HU.out
              have hM9 : B.M < w.heap.size := H0.out.M_lt
              have h8 := H0.out.below B8
              have G9 := Aside0.mk (show World.grownBy w8' w9 (some B.M) from ⟨hg.os, hg.tape, hg.output, hg.size, hg.block⟩)
              have hL9 := (hg.block w.heap.size (blk_lt hL8) (by simp; omega)).trans hL8
              have hD9 := (hg.block D (blk_lt hD8) (by simp; omega)).trans hD8
              have S9 := Aside0.mk hs9
              have pM := h8.cM
              have p0 := h8.c0
              have zp := h8.lt
              have cD := blk_cell hD8
              have zD := blk_lt hD8
              have zL8 := blk_lt hL8
              have HL9 := Aside0.mk hL9
              have HD9 := Aside0.mk hD9
              have HD := Aside0.mk hdone
              have HB8 := Aside0.mk B8
              simp only [Done.val] at hrun
              subst hR
              clear hs9 hg hL9 hD9 hdone hD8 hL8 B8 h8 hM9 hw
              go_region_law (fail)
              all_goals
                clear hrun cD zD zL8 pM p0 zp
                have cD := blk_cell HD9.out
                have zD := blk_lt HD9.out
                have cL := blk_cell HL9.out
                have fL := fun o => frozen_of_row w9 w.heap.size o _ 219 HL9.out
                have zL := blk_lt HL9.out
                go_wp2
                have hF := fill7_at (d := ⟨y, o, true⟩) (c := done0) HL9.out
                have cF := blk_cell hF
                have zF := blk_lt hF
                have h9 := (H0.out.below HB8.out).grown G9.out S9.out (seen_new HFF.out HU.out HD.out)
                have hFar := H0.out.far h9 (fill7_below (Below.refl w.heap.size w9) (Nat.le_refl _) ⟨y, o, true⟩).block
                have KK := ((Keep.of_below HB8.out).trans (Keep.of_grown (F := HF p B) G9.out (.inr (.inl rfl)))).far (fill7_below (Below.refl w.heap.size w9) (Nat.le_refl _) ⟨y, o, true⟩)
                refine bodyPost_ret (w := fill7 w9 w.heap.size ⟨y, o, true⟩) (v := .tuple #[Done.val ⟨y, o, true⟩, .int .i64 0]) ?_ rfl ⟨rfl, ⟨n + 1, Nat.le_refl _, hFar⟩, KK⟩
                generalize fill7 w9 w.heap.size ⟨y, o, true⟩ = wz at *
                unfold Done.cells at cF
                clear hF cL fL zL HD9 HL9
                simp [results, Tryz.results147, go_sem, Done.val, cF]
        · have hR : R = (done0, 260) := by
            rw [← HR.out]; refine nextF_no HE.out HW.out ?_
            unfold doneF; rw [hy, if_neg hc]
          have hc2 : c = 260 := by have := decF_260 W; rw [hy] at this; exact this.resolve_left hc
          subst hR hc2
          clear hc
          go_wp2
          have hF := fill7_at (d := done0) (c := done0) hL6.out
          have BF := fill7_below B6.out (Nat.le_refl _) done0
          have cF := blk_cell (blk_below hF (below_alloc (Below.refl _ _) (.cells #[.string y.name, .int .i64 y.rd, .int .i64 y.ra, .int .i64 y.rb, .int .i64 y.imm] 130)))
          have zF := blk_lt (blk_below hF (below_alloc (Below.refl _ _) (.cells #[.string y.name, .int .i64 y.rd, .int .i64 y.ra, .int .i64 y.rb, .int .i64 y.imm] 130)))
          have BG := below_alloc BF (.cells #[.string y.name, .int .i64 y.rd, .int .i64 y.ra, .int .i64 y.rb, .int .i64 y.imm] 130)
          refine bodyPost_ret (w := (fill7 w6 w.heap.size done0).alloc (.cells #[.string y.name, .int .i64 y.rd, .int .i64 y.ra, .int .i64 y.rb, .int .i64 y.imm] 130)) (v := .tuple #[done0.val, .int .i64 260]) ?_ rfl ⟨rfl, ⟨n, by omega, H0.out.below BG⟩, Keep.of_below BG⟩
          generalize (fill7 w6 w.heap.size done0).alloc (.cells #[.string y.name, .int .i64 y.rd, .int .i64 y.ra, .int .i64 y.rb, .int .i64 y.imm] 130) = wz at *
          unfold Done.cells done0 at cF
          clear hF BF BG cL fL zL B6 hL6
          simp [results, Tryz.results147, go_sem, Done.val, done0, cF]
    · have hR : R = (done0, E) := by rw [← HR.out]; exact nextF_err HE.out hE0
      subst hR
      go_wp2
      have hF := fill7_at (d := done0) (c := done0) hL5
      have BF := fill7_below B5 (Nat.le_refl _) done0
      have cF := blk_cell hF
      have zF := blk_lt hF
      refine bodyPost_ret (w := fill7 w5 w.heap.size done0) (v := .tuple #[done0.val, .int .i64 E]) ?_ rfl ⟨rfl, ⟨n, by omega, H0.out.below BF⟩, Keep.of_below BF⟩
      generalize fill7 w5 w.heap.size done0 = wz at *
      unfold Done.cells done0 at cF
      clear hF BF B5 cL fL hL5 zL
      simp [results, Tryz.results147, go_sem, Done.val, done0, cF]
end Go.Proofs.YtpfcdhjknmijjaaGreat.Ht

namespace Go.Proofs.YtpfcdhjknmijjaaGreat.Ht
open Go.RowKit Go.Maps Go.Proofs.YtpfcdhjknmijjaaGreat.Grow Go.Proofs.YtpfcdhjknmijjaaGreat.Rv Go.Proofs.YtpfcdhjknmijjaaGreat.As Go.Proofs.YtpfcdhjknmijjaaGreat.PHartQuotients
open Go.Proofs.YtpfcdhjknmijjaaGreatW.PrintWords Go.Proofs.YtpfcdhjknmijjaaGreatW.PrintLast Go.Proofs.YtpfcdhjknmijjaaGreatW.PrintMore

/-! ### What an instruction makes: it is always a number -/
abbrev U64 (x : Int) : Prop := 0 ≤ x ∧ x < 18446744073709551616
theorem wrap_range (x : Int) : U64 (IntKind.u64.wrap x) := by rw [IntKind.wrap_u64]; exact ⟨Int.emod_nonneg _ (by decide), Int.emod_lt_of_pos _ (by decide)⟩
theorem bits_range (op : BinOp) (x y : Int) : U64 (Go.bits op .u64 x y) := by unfold Go.bits; exact wrap_range _
theorem div_range {x d : Int} (hx : U64 x) (hd : 0 < d) : U64 (x / d) := ⟨Int.ediv_nonneg hx.1 (Int.le_of_lt hd), Int.lt_of_le_of_lt (Int.ediv_le_self _ hx.1) hx.2⟩
theorem shr_range {x : Int} (y : Int) (hx : U64 x) (k : IntKind) : U64 (shr k x y) := div_range hx (Int.pow_pos (by decide))
theorem wrap64_zero {x : Int} (h : U64 x) (h0 : x ≠ 0) : wrap64 x ≠ 0 := by unfold wrap64; have := h.1; have := h.2; omega
theorem tmod_range {x y : Int} (hx : U64 x) (hy : U64 y) (h0 : y ≠ 0) : U64 (Int.tmod x y) := by
  rw [Int.tmod_eq_emod_of_nonneg hx.1]
  exact ⟨Int.emod_nonneg _ h0, Int.lt_trans (Int.emod_lt_of_pos _ (by have := hy.1; omega)) hy.2⟩
theorem extend_ok (x n : Int) : ∃ r, hart_extend.f x n = some r ∧ U64 r := by
  unfold hart_extend.f
  rw [if_pos (wrap_range _).1]
  exact ⟨_, rfl, wrap_range _⟩
theorem quotient_ok (nm : ByteArray) {a b : Int} (ha : U64 a) (hb : U64 b) (k : Nat) : ∃ r, hart_quotient.f (k + 3) nm a b = some r ∧ U64 r := by
  have j2 : ∀ x8 x37, b ≠ 0 → ∃ r, hart_quotient.j2 (k + 1) a b x8 x37 = some r ∧ U64 r := fun x8 x37 h0 => by
    have hw := wrap64_zero hb h0
    rw [hart_quotient.j2, if_neg hw, if_neg hw]
    split
    · split
      · exact ⟨_, rfl, by decide, by decide⟩
      · exact ⟨_, rfl, ha⟩
    · split
      · exact ⟨_, rfl, wrap_range _⟩
      · exact ⟨_, rfl, wrap_range _⟩
  have j1 : ∀ x7 x8 x15, ∃ r, hart_quotient.j1 (k + 2) nm a b x7 x8 x15 = some r ∧ U64 r := fun x7 x8 x15 => by
    rw [hart_quotient.j1]
    split
    · exact ⟨_, rfl, ha⟩
    · split
      · exact ⟨_, rfl, by decide, by decide⟩
      · rename_i h0
        split
        · exact ⟨_, rfl, wrap_range _⟩
        · split
          · exact ⟨_, rfl, tmod_range ha hb h0⟩
          · split <;> exact j2 _ _ h0
  have j0 : ∀ x7 x8, ∃ r, hart_quotient.j0 (k + 3) nm a b x7 x8 = some r ∧ U64 r := fun x7 x8 => by
    rw [hart_quotient.j0]
    split <;> exact j1 _ _ _
  unfold hart_quotient.f
  split <;> exact j0 _ _
theorem mul_ok (a b : Int) : ∃ r, bits_Mul64.f a b = some r ∧ U64 r.1 := ⟨_, rfl, wrap_range _⟩
theorem upper_ok (nm : ByteArray) (a b : Int) : ∃ r, hart_upper.f nm a b = some r ∧ U64 r := by
  obtain ⟨m, hm, hr⟩ := mul_ok a b
  unfold hart_upper.f
  rw [hm, Option.bind_some]
  repeat' split
  all_goals first | exact ⟨_, rfl, wrap_range _⟩ | exact ⟨_, rfl, hr⟩
theorem bit_ok (b : Bool) : ∃ r, hart_bit.f b = some r ∧ U64 r := by
  cases b
  · exact ⟨0, rfl, by decide, by decide⟩
  · exact ⟨1, rfl, by decide, by decide⟩
theorem bind_ok {o : Option Int} (h : ∃ r, o = some r ∧ U64 r) : ∃ r, (o.bind fun t => some t) = some r ∧ U64 r := by
  obtain ⟨r, rfl, hr⟩ := h
  exact ⟨r, rfl, hr⟩
theorem ite_ok {c : Prop} [Decidable c] {x y : Option Int} (h1 : c → ∃ r, x = some r ∧ U64 r) (h2 : ¬ c → ∃ r, y = some r ∧ U64 r) : ∃ r, (if c then x else y) = some r ∧ U64 r := by
  by_cases h : c
  · rw [if_pos h]; exact h1 h
  · rw [if_neg h]; exact h2 h
theorem long_ok (nm : ByteArray) {a b : Int} (ha : U64 a) (hb : U64 b) (k : Nat) : ∃ r, hart_long.f (k + 4) nm a b = some r ∧ U64 r := by
  have j0 : ∀ x, ∃ r, hart_long.j0 (k + 4) nm a b x = some r ∧ U64 r := fun x => by
    rw [hart_long.j0]
    split
    · exact bind_ok (upper_ok _ _ _)
    · exact bind_ok (quotient_ok _ ha hb k)
  unfold hart_long.f
  rw [if_pos (bits_range .and b 63).1, if_pos (bits_range .and b 63).1, if_pos (bits_range .and b 63).1]
  repeat' (refine ite_ok (fun _ => ?_) (fun _ => ?_))
  all_goals first | exact j0 _ | exact bind_ok (upper_ok _ _ _) | exact bind_ok (quotient_ok _ ha hb k) | exact bind_ok (bit_ok _) | exact ⟨_, rfl, wrap_range _⟩ | exact ⟨_, rfl, bits_range _ _ _⟩ | exact ⟨_, rfl, shl_range _ _⟩ | exact ⟨_, rfl, shr_range _ ha _⟩
theorem word_ok (nm : ByteArray) {a b : Int} (ha : U64 a) (hb : U64 b) (k : Nat) : ∃ r, hart_word.f (k + 6) nm a b = some r ∧ U64 r := by
  have j1 : ∀ x, ∃ r, hart_word.j1 (k + 5) nm a b x = some r ∧ U64 r := fun x => by
    rw [hart_word.j1]
    split
    · exact bind_ok (quotient_ok _ (bits_range _ _ _) (bits_range _ _ _) (k + 1))
    · exact bind_ok (long_ok _ ha hb k)
  have j0 : ∀ x7 x, ∃ r, hart_word.j0 (k + 6) nm a b x7 x = some r ∧ U64 r := fun x7 x => by
    rw [hart_word.j0]
    split
    · obtain ⟨p, hp, hp'⟩ := extend_ok a 32
      obtain ⟨q, hq, hq'⟩ := extend_ok b 32
      rw [hp, Option.bind_some, hq, Option.bind_some]
      exact bind_ok (quotient_ok _ hp' hq' (k + 2))
    · split <;> exact j1 _
  unfold hart_word.f
  rw [if_pos (bits_range .and b 31).1, if_pos (bits_range .and b 31).1, if_pos (bits_range .and b 31).1]
  repeat' split
  all_goals first | exact j0 _ _ | exact ⟨_, rfl, wrap_range _⟩ | exact ⟨_, rfl, shl_range _ _⟩ | exact ⟨_, rfl, shr_range _ ⟨Int.emod_nonneg _ (by decide), Int.lt_trans (Int.emod_lt_of_pos _ (by decide)) (by decide)⟩ _⟩
theorem reck_ok (nm : ByteArray) (h0 : 0 < nm.size) (h1 : nm.size ≤ 1000) {a b : Int} (ha : U64 a) (hb : U64 b) : ∃ r, hart_reckon.f 20 nm a b = some r ∧ U64 r := by
  have e : wrap64 ((nm.size : Int) - 1) = (nm.size : Int) - 1 := by unfold wrap64; omega
  unfold hart_reckon.f
  rw [e]
  refine ite_ok (fun _ => ite_ok (fun _ => ite_ok (fun _ => ite_ok (fun _ => ?_) (fun h => ?_)) (fun _ => ?_)) (fun h => ?_)) (fun h => ?_)
  rotate_left
  · omega
  rotate_left
  · omega
  · omega
  · obtain ⟨r, hr, _⟩ := word_ok (nm.extract 0 ((nm.size : Int) - 1).toNat) ha hb 14
    rw [hr, Option.bind_some]
    exact bind_ok (extend_ok r 32)
  · exact bind_ok (long_ok nm ha hb 16)
/-- What an instruction makes. -/
def reckF (nm : ByteArray) (a b : Int) : Int := (hart_reckon.f 20 nm a b).getD 0
theorem reckF_some (nm : ByteArray) (h0 : 0 < nm.size) (h1 : nm.size ≤ 1000) {a b : Int} (ha : U64 a) (hb : U64 b) : hart_reckon.f 20 nm a b = some (reckF nm a b) ∧ U64 (reckF nm a b) := by
  obtain ⟨r, hr, hu⟩ := reck_ok nm h0 h1 ha hb
  unfold reckF
  rw [hr]
  exact ⟨rfl, hu⟩
def takenF (nm : ByteArray) (a b : Int) : Bool := (hart_taken.f nm a b).getD false
theorem takenF_some (nm : ByteArray) (a b : Int) : hart_taken.f nm a b = some (takenF nm a b) := by
  unfold takenF hart_taken.f
  repeat' split
  all_goals rfl
def widthF (nm : ByteArray) : Int × Bool := (hart_width.f 3 nm).getD (0, false)
theorem widthF_some (nm : ByteArray) : hart_width.f 3 nm = some (widthF nm) := by
  have j1 : ∀ x y, ∃ r, hart_width.j1 2 x nm y = some r := fun x y => by
    rw [hart_width.j1]
    repeat' split
    all_goals exact ⟨_, rfl⟩
  have j0 : ∀ x y, ∃ r, hart_width.j0 3 x nm y = some r := fun x y => by
    rw [hart_width.j0]
    repeat' split
    all_goals first | exact ⟨_, rfl⟩ | exact j1 _ _
  have h : ∃ r, hart_width.f 3 nm = some r := by
    unfold hart_width.f
    repeat' split
    all_goals first | exact ⟨_, rfl⟩ | exact j0 _ _
  obtain ⟨r, hr⟩ := h
  unfold widthF
  rw [hr]; rfl
def extF (x n : Int) : Int := (hart_extend.f x n).getD 0
theorem extF_some (x n : Int) : hart_extend.f x n = some (extF x n) ∧ U64 (extF x n) := by
  obtain ⟨r, hr, hu⟩ := extend_ok x n
  unfold extF
  rw [hr]
  exact ⟨rfl, hu⟩
end Go.Proofs.YtpfcdhjknmijjaaGreat.Ht

namespace Go.Proofs.YtpfcdhjknmijjaaGreat.Ht
open Go.RowKit Go.Maps Go.Proofs.YtpfcdhjknmijjaaGreat.Grow Go.Proofs.YtpfcdhjknmijjaaGreat.Rv Go.Proofs.YtpfcdhjknmijjaaGreat.As Go.Proofs.YtpfcdhjknmijjaaGreat.PHartQuotients
open Go.Proofs.YtpfcdhjknmijjaaGreatW.PrintWords Go.Proofs.YtpfcdhjknmijjaaGreatW.PrintLast Go.Proofs.YtpfcdhjknmijjaaGreatW.PrintMore

/-! ### The printed contracts, as a walk wants them -/
theorem reck_calls {nm : ByteArray} (h0 : 0 < nm.size) (h1 : nm.size ≤ 1000) {a b : Int} (ha : U64 a) (hb : U64 b) (w : World) :
    Calls Tryz.prog 153 #[.string nm, .int .u64 a, .int .u64 b] w fun e w' => e = .returned (.int .u64 (reckF nm a b)) ∧ Below w.heap.size w w' :=
  (hart_reckon.calls 20 nm a b _ w (reckF_some nm h0 h1 ha hb).1).mono fun _ _ h => ⟨h.1, h.2.below⟩
theorem taken_calls (nm : ByteArray) (a b : Int) (w : World) :
    Calls Tryz.prog 152 #[.string nm, .int .u64 a, .int .u64 b] w fun e w' => e = .returned (.bool (takenF nm a b)) ∧ Below w.heap.size w w' :=
  (hart_taken.calls nm a b _ w (takenF_some nm a b)).mono fun _ _ h => ⟨h.1, h.2.below⟩
theorem width_calls (nm : ByteArray) (w : World) :
    Calls Tryz.prog 148 #[.string nm] w fun e w' => e = .returned (.tuple #[.int .i64 (widthF nm).1, .bool (widthF nm).2]) ∧ Below w.heap.size w w' :=
  (hart_width.calls 3 nm (widthF nm).1 (widthF nm).2 w (widthF_some nm)).mono fun _ _ h => ⟨h.1, h.2.below⟩
theorem ext_calls (x n : Int) (w : World) :
    Calls Tryz.prog 150 #[.int .u64 x, .int .i64 n] w fun e w' => e = .returned (.int .u64 (extF x n)) ∧ Below w.heap.size w w' :=
  (hart_extend.calls x n _ w (extF_some x n).1).mono fun _ _ h => ⟨h.1, h.2.below⟩

/-! ### A step -/
def isN (nm : ByteArray) (l : List UInt8) : Bool := nm.toList == l
def sysL : List (List UInt8) := [[101, 99, 97, 108, 108], [101, 98, 114, 101, 97, 107]]
def loadL : List (List UInt8) := [[108, 98], [108, 104], [108, 119], [108, 100], [108, 98, 117], [108, 104, 117], [108, 119, 117]]
def storeL : List (List UInt8) := [[115, 98], [115, 104], [115, 119], [115, 100]]
def branchL : List (List UInt8) := [[98, 101, 113], [98, 110, 101], [98, 108, 116], [98, 103, 101], [98, 108, 116, 117], [98, 103, 101, 117]]
def clsF (nm : ByteArray) : Nat :=
  if sysL.any (isN nm) then 0 else if loadL.any (isN nm) then 1 else if storeL.any (isN nm) then 2 else if branchL.any (isN nm) then 3
  else if isN nm [108, 117, 105] then 4 else if isN nm [97, 117, 105, 112, 99] then 5 else if isN nm [106, 97, 108] then 6 else if isN nm [106, 97, 108, 114] then 7 else 8
def HartS.at_ (S : HartS) (nx : Int) : HartS := { S with pc := nx }
def widthV (nm : ByteArray) (v : Int) : Int := if (widthF nm).2 = true then extF v (8 * (widthF nm).1) else v
def loadS (S : HartS) (nm : ByteArray) (rd at_ nx : Int) : HartS × Int :=
  if (loadF S.mem at_ (widthF nm).1).2 = 0 then ((S.put rd (widthV nm (loadF S.mem at_ (widthF nm).1).1)).at_ nx, 0) else (S, (loadF S.mem at_ (widthF nm).1).2)
def storeS (S : HartS) (nm : ByteArray) (x at_ nx : Int) : HartS × Int :=
  if (storeF S.mem at_ (widthF nm).1 x).2 = 0 then ({ S with mem := (storeF S.mem at_ (widthF nm).1 x).1, pc := nx }, 0) else (S, (storeF S.mem at_ (widthF nm).1 x).2)
/-- What an instruction does; a, b: its registers, i: its number, nx: the place behind it. -/
def execF (S : HartS) (d : Done) (a b i nx : Int) : HartS × Int :=
  match clsF d.op.name with
  | 0 => (S, 260)
  | 1 => loadS S d.op.name d.op.rd (IntKind.u64.wrap (a + i)) nx
  | 2 => storeS S d.op.name b (IntKind.u64.wrap (a + i)) nx
  | 3 => (S.at_ (if takenF d.op.name a b = true then IntKind.u64.wrap (S.pc + i) else nx), 0)
  | 4 => ((S.put d.op.rd (IntKind.u64.wrap (i * 4096))).at_ nx, 0)
  | 5 => ((S.put d.op.rd (IntKind.u64.wrap (S.pc + IntKind.u64.wrap (i * 4096)))).at_ nx, 0)
  | 6 => ((S.put d.op.rd nx).at_ (IntKind.u64.wrap (S.pc + i)), 0)
  | 7 => ((S.put d.op.rd nx).at_ (Go.bits .andNot .u64 (IntKind.u64.wrap (a + i)) 1), 0)
  | _ => ((S.put d.op.rd (reckF d.by_ a (if d.num = true then i else b))).at_ nx, 0)
def HartS.ra (S : HartS) (i : Int) : Int := S.regs.getD i.toNat 0
def stepF (S : HartS) : HartS × Int :=
  if (nextF S).2 = 0 then execF S (nextF S).1 (S.ra (nextF S).1.op.ra) (S.ra (nextF S).1.op.rb) (IntKind.u64.wrap (nextF S).1.op.imm) (IntKind.u64.wrap (S.pc + 4)) else (S, (nextF S).2)

/-! ### What is known of a decoded instruction -/
structure GoodD (d : Done) : Prop where
  rd : 0 ≤ d.op.rd ∧ d.op.rd < 32
  ra : 0 ≤ d.op.ra ∧ d.op.ra < 32
  rb : 0 ≤ d.op.rb ∧ d.op.rb < 32
  by0 : 0 < d.by_.size
  by1 : d.by_.size ≤ 1000
theorem rg_few (has : Bool) {x s : Int} (hx : U32 x) (s0 : 0 ≤ s) (s1 : s ≤ 31) : 0 ≤ rgN has x s ∧ rgN has x s < 32 := by
  cases has
  · rw [rg_no]; omega
  · obtain ⟨N, rfl⟩ := Int.eq_ofNat_of_zero_le hx.1
    obtain ⟨t, rfl⟩ := Int.eq_ofNat_of_zero_le s0
    rw [rg_val N t (by have := hx.2; omega) (by omega)]
    have := Nat.mod_lt (N / 2 ^ t) (show 32 > 0 by decide)
    generalize N / 2 ^ t % 32 = z at *
    omega
theorem names_pos : ∀ k, k < 64 → 0 < (kd k).1.size := by decide +kernel
theorem with_sizes : withL.all (fun x => decide (0 < x.2.size) && decide (x.2.size ≤ 1000)) = true := by decide +kernel
theorem withF_size {nm o : ByteArray} (h : withF nm = some o) : 0 < o.size ∧ o.size ≤ 1000 := by
  unfold withF at h
  obtain ⟨x, hx, rfl⟩ := Option.map_eq_some_iff.1 h
  have := List.all_eq_true.1 with_sizes x (List.mem_of_find?_eq_some hx)
  simpa using this
theorem doneF_good {x : Int} {d : Done} (hx : U32 x) (h : doneF x = some d) : GoodD d := by
  unfold doneF at h
  split at h
  · rename_i h0
    have hd : d = mkDone (decF x).1 := (Option.some.inj h).symm
    have hk : dIdx x < 64 := by
      unfold decF at h0
      split at h0
      · assumption
      · cases h0
    have hy : (decF x).1 = decAt (dIdx x) x := by unfold decF; rw [if_pos hk]
    rw [hy] at hd
    have e1 : d.op = decAt (dIdx x) x := by rw [hd]; unfold mkDone; split <;> rfl
    have e2 : 0 < d.by_.size ∧ d.by_.size ≤ 1000 := by
      rw [hd]; unfold mkDone
      split
      · exact ⟨names_pos _ hk, names_few _ hk⟩
      · rename_i o ho
        exact withF_size ho
    exact ⟨by rw [e1]; exact rg_few _ hx (by decide) (by decide), by rw [e1]; exact rg_few _ hx (by decide) (by decide), by rw [e1]; exact rg_few _ hx (by decide) (by decide), e2.1, e2.2⟩
  · cases h
theorem nextF_good {S : HartS} (hG : GoodH S) (h : (nextF S).2 = 0) : GoodD (nextF S).1 := by
  have hu := fetchF_u32 hG.mem hG.bytes S.pc
  unfold nextF at h ⊢
  split
  · rename_i h0
    rw [if_pos h0] at h
    split
    · rename_i d hd
      exact doneF_good hu hd
    · rename_i hd
      rw [hd] at h; cases h
  · rename_i h0
    rw [if_neg h0] at h
    exact absurd h h0
end Go.Proofs.YtpfcdhjknmijjaaGreat.Ht
end
