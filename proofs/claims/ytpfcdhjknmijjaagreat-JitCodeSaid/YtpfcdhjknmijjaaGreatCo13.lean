import Derived.Test.YtpfcdhjknmijjaaGreatCo11
import Derived.Test.YtpfcdhjknmijjaaGreatCo12
import Derived.Deep.WholeRow
import Derived.Test.YtpfcdhjknmijjaaGreatCo4
section
namespace Go.Proofs.YtpfcdhjknmijjaaGreat.Rv
open Go.RowKit

/-- Runs a list of unguarded operations, each of which gives a value. -/
noncomputable def runVals (P : Program) : List Oper → Act → World → Option (Act × World)
  | [], a, w => some (a, w)
  | o :: rest, a, w =>
    match o.guard with
    | some _ => none
    | none => match (execOp a.eval o).run P w with
      | .ok (.value v) w' => runVals P rest (a.put o.dst v) w'
      | _ => none

theorem wpList_vals {P : Program} {ops : Array Oper} {Q : Exit → Act → World → Prop} {rest : List Oper} :
    ∀ (l : List Oper) {a a' : Act} {w w' : World}, runVals P l a w = some (a', w') → wpList P ops Q rest a' w' → wpList P ops Q (l ++ rest) a w
  | [], a, a', w, w', h, hk => by
    simp only [runVals, Option.some.injEq, Prod.mk.injEq] at h
    obtain ⟨rfl, rfl⟩ := h
    exact hk
  | o :: l, a, a', w, w', h, hk => by
    unfold runVals at h
    split at h
    · cases h
    · rename_i hg
      refine wpList_plain hg fun K hK => ?_
      unfold Oper.wp
      split at h
      · rename_i v w1 hr
        rw [hr, Oper.upon_value]
        exact hK _ _ (wpList_vals l h hk)
      · cases h

/-- The first so many operations of a region. -/
theorem wpList_vals_take {P : Program} {ops : Array Oper} {Q : Exit → Act → World → Prop} {l : List Oper} (n : Nat)
    {a a' : Act} {w w' : World} (h : runVals P (l.take n) a w = some (a', w')) (hk : wpList P ops Q (l.drop n) a' w') : wpList P ops Q l a w := by
  have := wpList_vals (P := P) (ops := ops) (Q := Q) (rest := l.drop n) (l.take n) h hk
  rwa [List.take_append_drop] at this

def kinds : List (ByteArray × Int × Int) := [
  (⟨#[97, 100, 100]⟩, 0, 51), (⟨#[115, 117, 98]⟩, 0, 1073741875), (⟨#[115, 108, 108]⟩, 0, 4147),
  (⟨#[115, 108, 116]⟩, 0, 8243), (⟨#[115, 108, 116, 117]⟩, 0, 12339), (⟨#[120, 111, 114]⟩, 0, 16435),
  (⟨#[115, 114, 108]⟩, 0, 20531), (⟨#[115, 114, 97]⟩, 0, 1073762355), (⟨#[111, 114]⟩, 0, 24627),
  (⟨#[97, 110, 100]⟩, 0, 28723), (⟨#[109, 117, 108]⟩, 0, 33554483), (⟨#[109, 117, 108, 104]⟩, 0, 33558579),
  (⟨#[109, 117, 108, 104, 115, 117]⟩, 0, 33562675), (⟨#[109, 117, 108, 104, 117]⟩, 0, 33566771), (⟨#[100, 105, 118]⟩, 0, 33570867),
  (⟨#[100, 105, 118, 117]⟩, 0, 33574963), (⟨#[114, 101, 109]⟩, 0, 33579059), (⟨#[114, 101, 109, 117]⟩, 0, 33583155),
  (⟨#[97, 100, 100, 119]⟩, 0, 59), (⟨#[115, 117, 98, 119]⟩, 0, 1073741883), (⟨#[115, 108, 108, 119]⟩, 0, 4155),
  (⟨#[115, 114, 108, 119]⟩, 0, 20539), (⟨#[115, 114, 97, 119]⟩, 0, 1073762363), (⟨#[109, 117, 108, 119]⟩, 0, 33554491),
  (⟨#[100, 105, 118, 119]⟩, 0, 33570875), (⟨#[100, 105, 118, 117, 119]⟩, 0, 33574971), (⟨#[114, 101, 109, 119]⟩, 0, 33579067),
  (⟨#[114, 101, 109, 117, 119]⟩, 0, 33583163), (⟨#[97, 100, 100, 105]⟩, 1, 19), (⟨#[115, 108, 116, 105]⟩, 1, 8211),
  (⟨#[115, 108, 116, 105, 117]⟩, 1, 12307), (⟨#[120, 111, 114, 105]⟩, 1, 16403), (⟨#[111, 114, 105]⟩, 1, 24595),
  (⟨#[97, 110, 100, 105]⟩, 1, 28691), (⟨#[97, 100, 100, 105, 119]⟩, 1, 27), (⟨#[108, 98]⟩, 1, 3),
  (⟨#[108, 104]⟩, 1, 4099), (⟨#[108, 119]⟩, 1, 8195), (⟨#[108, 100]⟩, 1, 12291),
  (⟨#[108, 98, 117]⟩, 1, 16387), (⟨#[108, 104, 117]⟩, 1, 20483), (⟨#[108, 119, 117]⟩, 1, 24579),
  (⟨#[106, 97, 108, 114]⟩, 1, 103), (⟨#[115, 108, 108, 105]⟩, 2, 4115), (⟨#[115, 114, 108, 105]⟩, 2, 20499),
  (⟨#[115, 114, 97, 105]⟩, 2, 1073762323), (⟨#[115, 108, 108, 105, 119]⟩, 3, 4123), (⟨#[115, 114, 108, 105, 119]⟩, 3, 20507),
  (⟨#[115, 114, 97, 105, 119]⟩, 3, 1073762331), (⟨#[115, 98]⟩, 4, 35), (⟨#[115, 104]⟩, 4, 4131),
  (⟨#[115, 119]⟩, 4, 8227), (⟨#[115, 100]⟩, 4, 12323), (⟨#[98, 101, 113]⟩, 5, 99),
  (⟨#[98, 110, 101]⟩, 5, 4195), (⟨#[98, 108, 116]⟩, 5, 16483), (⟨#[98, 103, 101]⟩, 5, 20579),
  (⟨#[98, 108, 116, 117]⟩, 5, 24675), (⟨#[98, 103, 101, 117]⟩, 5, 28771), (⟨#[108, 117, 105]⟩, 6, 55),
  (⟨#[97, 117, 105, 112, 99]⟩, 6, 23), (⟨#[106, 97, 108]⟩, 7, 111), (⟨#[101, 99, 97, 108, 108]⟩, 8, 115),
  (⟨#[101, 98, 114, 101, 97, 107]⟩, 8, 1048691)]

def kindCells (x : ByteArray × Int × Int) : List Value := [.string x.1, .int .i64 x.2.1, .int .u32 x.2.2]
def tableCells : Array Value := (kinds.flatMap kindCells).toArray
def tabObj : Obj := .cells tableCells 195
def tableV : Value := .agg tableCells

noncomputable def tops : List Oper := match Tryz.f126.body with
  | some (.seq _ (.seq (.region _ ops _) _)) => ops.toList
  | _ => []
def act0 (p : Value) : Act := { tmps := ((Array.replicate 66 undef).setIfInBounds 0 p), defers := [] }
noncomputable def act1 (p : Value) : Act := ((runVals Tryz.prog (tops.take 65) (act0 p) default).getD (act0 p, default)).1

theorem tab_run (p : Value) (w : World) : runVals Tryz.prog (tops.take 65) (act0 p) w = some (act1 p, w) := by kernel_rfl
theorem tab_65 (p : Value) : (act1 p).eval (.tmp 65) = tableV := by kernel_rfl
theorem tab_p (p : Value) : ((act1 p).put none undef).tmps.getD 0 undef = p := by kernel_rfl
theorem tab_d (p : Value) : ((act1 p).put none undef).defers = [] := by kernel_rfl
theorem tab_0 (p : Value) : (act1 p).eval (.tmp 0) = p := by kernel_rfl
theorem table_any (w : World) : Calls Tryz.prog 126 #[] w fun e w' => e = .returned tableV ∧ w.alloc tabObj = w' := by
  refine calls_of_wp Tryz.func126 rfl ?_
  apply wp_seq_k
  intro K hK
  apply wp_region_lit
  refine wpList_vals_take 1 (a' := act0 (.pointer (some ⟨w.heap.size, 0, none⟩))) (w' := w.alloc (.cells ((List.replicate 64 [Value.string ⟨#[]⟩, .int .i64 0, .int .u32 0]).flatten.toArray) 195)) (by kernel_rfl) ?_
  apply wpList_nil
  apply hK
  clear hK K
  apply wp_seq_k
  intro K hK
  apply wp_region_lit
  refine wpList_vals_take 65 (a' := act1 (.pointer (some ⟨w.heap.size, 0, none⟩))) (w' := w.alloc (.cells ((List.replicate 64 [Value.string ⟨#[]⟩, .int .i64 0, .int .u32 0]).flatten.toArray) 195)) (tab_run _ _) ?_
  refine wpList_store_row rfl 195 (.tmp 0) (.tmp 65) rfl w.heap.size tableCells (tab_0 _) (tab_65 _) 195 ((List.replicate 64 [Value.string ⟨#[]⟩, .int .i64 0, .int .u32 0]).flatten.toArray) (heap_alloc_last _ _) (by kernel_rfl) (by kernel_rfl) (by kernel_rfl) ?_
  rw [World.setRow_alloc_new]
  apply wpList_nil
  apply hK
  apply wp_ret
  refine bodyPost_ret (v := tableV) ?_ (tab_d _) ⟨rfl, rfl⟩
  exact results_cell_row (fn := Tryz.f126) rfl _ _ w.heap.size 195 tableCells (0, 0) (.array 64 194) (tab_p _) (heap_alloc_last _ _) (by kernel_rfl) rfl (by kernel_rfl)


def kd (k : Nat) : ByteArray × Int × Int := kinds.getD k (ByteArray.empty, 0, 0)
theorem index_table : ∀ (k : Nat), k < 64 → ∀ w : World, (Instr.index 195 tableV (.int .i64 (k : Int))).run Tryz.prog w = .ok (.agg #[.string (kd k).1, .int .i64 (kd k).2.1, .int .u32 (kd k).2.2]) w
  | 0, _, _ => by kernel_rfl
  | 1, _, _ => by kernel_rfl
  | 2, _, _ => by kernel_rfl
  | 3, _, _ => by kernel_rfl
  | 4, _, _ => by kernel_rfl
  | 5, _, _ => by kernel_rfl
  | 6, _, _ => by kernel_rfl
  | 7, _, _ => by kernel_rfl
  | 8, _, _ => by kernel_rfl
  | 9, _, _ => by kernel_rfl
  | 10, _, _ => by kernel_rfl
  | 11, _, _ => by kernel_rfl
  | 12, _, _ => by kernel_rfl
  | 13, _, _ => by kernel_rfl
  | 14, _, _ => by kernel_rfl
  | 15, _, _ => by kernel_rfl
  | 16, _, _ => by kernel_rfl
  | 17, _, _ => by kernel_rfl
  | 18, _, _ => by kernel_rfl
  | 19, _, _ => by kernel_rfl
  | 20, _, _ => by kernel_rfl
  | 21, _, _ => by kernel_rfl
  | 22, _, _ => by kernel_rfl
  | 23, _, _ => by kernel_rfl
  | 24, _, _ => by kernel_rfl
  | 25, _, _ => by kernel_rfl
  | 26, _, _ => by kernel_rfl
  | 27, _, _ => by kernel_rfl
  | 28, _, _ => by kernel_rfl
  | 29, _, _ => by kernel_rfl
  | 30, _, _ => by kernel_rfl
  | 31, _, _ => by kernel_rfl
  | 32, _, _ => by kernel_rfl
  | 33, _, _ => by kernel_rfl
  | 34, _, _ => by kernel_rfl
  | 35, _, _ => by kernel_rfl
  | 36, _, _ => by kernel_rfl
  | 37, _, _ => by kernel_rfl
  | 38, _, _ => by kernel_rfl
  | 39, _, _ => by kernel_rfl
  | 40, _, _ => by kernel_rfl
  | 41, _, _ => by kernel_rfl
  | 42, _, _ => by kernel_rfl
  | 43, _, _ => by kernel_rfl
  | 44, _, _ => by kernel_rfl
  | 45, _, _ => by kernel_rfl
  | 46, _, _ => by kernel_rfl
  | 47, _, _ => by kernel_rfl
  | 48, _, _ => by kernel_rfl
  | 49, _, _ => by kernel_rfl
  | 50, _, _ => by kernel_rfl
  | 51, _, _ => by kernel_rfl
  | 52, _, _ => by kernel_rfl
  | 53, _, _ => by kernel_rfl
  | 54, _, _ => by kernel_rfl
  | 55, _, _ => by kernel_rfl
  | 56, _, _ => by kernel_rfl
  | 57, _, _ => by kernel_rfl
  | 58, _, _ => by kernel_rfl
  | 59, _, _ => by kernel_rfl
  | 60, _, _ => by kernel_rfl
  | 61, _, _ => by kernel_rfl
  | 62, _, _ => by kernel_rfl
  | 63, _, _ => by kernel_rfl
  | k + 64, h, _ => absurd h (by omega)

end Go.Proofs.YtpfcdhjknmijjaaGreat.Rv

namespace Go.Proofs.YtpfcdhjknmijjaaGreat.Rv
open Go.RowKit
open Go.Proofs.YtpfcdhjknmijjaaGreatW.PrintWords Go.Proofs.YtpfcdhjknmijjaaGreatW.PrintLast Go.Proofs.YtpfcdhjknmijjaaGreatW.PrintMore
open Go.Proofs.YtpfcdhjknmijjaaGreat.PHartQuotients

def ownI (f : Int) : Int := if f = 0 ∨ f = 3 then 4261441663 else if f = 2 then 4227887231 else if f = 6 ∨ f = 7 then 127 else if f = 8 then 4294967295 else 28799
theorem own_val (f : Int) : rvcode_form_own.f 9 f = some (ownI f) := by
  by_cases h0 : f = 0
  · subst h0; rfl
  by_cases h3 : f = 3
  · subst h3; rfl
  by_cases h2 : f = 2
  · subst h2; rfl
  by_cases h6 : f = 6
  · subst h6; rfl
  by_cases h7 : f = 7
  · subst h7; rfl
  by_cases h8 : f = 8
  · subst h8; rfl
  simp [rvcode_form_own.f, rvcode_form_own.j0, rvcode_form_own.j1, ownI, h0, h3, h2, h6, h7, h8]
theorem own_any (f : Int) (w : World) : Calls Tryz.prog 187 #[.int .i64 f] w fun e w' => e = .returned (.int .u32 (ownI f)) ∧ ∃ n, w' = w.drewN n :=
  (rvcode_form_own.calls 9 f _ w (own_val f)).mono fun _ _ ⟨he, hd⟩ => ⟨he, hd.out⟩

/-- What a form has: the parts of an instruction, and where its number lies. -/
def prt (f : Int) : Bool × Bool × Bool × Int × Int × Int :=
  if f = 0 then (true, true, true, 0, 0, 1) else if f = 1 then (true, true, false, -2048, 2047, 1) else if f = 2 then (true, true, false, 0, 63, 1)
  else if f = 3 then (true, true, false, 0, 31, 1) else if f = 4 then (false, true, true, -2048, 2047, 1) else if f = 5 then (false, true, true, -4096, 4094, 2)
  else if f = 6 then (true, false, false, -524288, 524287, 1) else if f = 7 then (true, false, false, -1048576, 1048574, 2) else (false, false, false, 0, 0, 1)

set_option maxHeartbeats 1000000 in
set_option maxRecDepth 100000 in
theorem parts_any (f : Int) (w : World) : Calls Tryz.prog 127 #[.int .i64 f] w fun e w' => e = .returned (.agg #[.bool (prt f).1, .bool (prt f).2.1, .bool (prt f).2.2.1, .int .i64 (prt f).2.2.2.1, .int .i64 (prt f).2.2.2.2.1, .int .i64 (prt f).2.2.2.2.2]) ∧ ∃ o, w.alloc o = w' := by
  go_enter Tryz.func127, Tryz.ntmps127
  go_wp2
  all_goals
    refine bodyPost_ret (v := .agg #[.bool (prt f).1, .bool (prt f).2.1, .bool (prt f).2.2.1, .int .i64 (prt f).2.2.2.1, .int .i64 (prt f).2.2.2.2.1, .int .i64 (prt f).2.2.2.2.2]) ?_ rfl ⟨rfl, _, rfl⟩
    simp_all [results, Tryz.results127, go_sem, prt]
end Go.Proofs.YtpfcdhjknmijjaaGreat.Rv

namespace Go.Proofs.YtpfcdhjknmijjaaGreat.Rv
open Go.RowKit Go.Proofs.YtpfcdhjknmijjaaGreat.Grow
open Go.Proofs.YtpfcdhjknmijjaaGreatW.PrintWords Go.Proofs.YtpfcdhjknmijjaaGreatW.PrintLast Go.Proofs.YtpfcdhjknmijjaaGreatW.PrintMore
open Go.Proofs.YtpfcdhjknmijjaaGreat.PHartQuotients

def NoM (x : Int) (k : Nat) : Prop := ∀ j, j < k → Go.bits .and .u32 x (ownI (kd j).2.1) ≠ (kd j).2.2
theorem fld0 : ∀ (a b c : Value) (w : World), (Instr.field 194 (.agg #[a, b, c]) 0).run Tryz.prog w = .ok a w := fun _ _ _ _ => by kernel_rfl
theorem fld1 : ∀ (a b c : Value) (w : World), (Instr.field 194 (.agg #[a, b, c]) 1).run Tryz.prog w = .ok b w := fun _ _ _ _ => by kernel_rfl
theorem fld2 : ∀ (a b c : Value) (w : World), (Instr.field 194 (.agg #[a, b, c]) 2).run Tryz.prog w = .ok c w := fun _ _ _ _ => by kernel_rfl

/-- A block of five cells that was laid in 'w.alloc ..' still stands in a world above it. -/
theorem own5 {w wr : World} {a b c d e : Value} {t : TypeId} (h : Below (w.heap.size + 1) (w.alloc (Obj.cells #[a, b, c, d, e] t)) wr) :
    wr.cell? ⟨w.heap.size, 0, none⟩ = some a ∧ wr.cell? ⟨w.heap.size, 1, none⟩ = some b ∧ wr.cell? ⟨w.heap.size, 2, none⟩ = some c ∧ wr.cell? ⟨w.heap.size, 3, none⟩ = some d ∧ wr.cell? ⟨w.heap.size, 4, none⟩ = some e ∧
    (∀ o, wr.frozen? ⟨w.heap.size, o, none⟩ = false) ∧ (∀ j, w.heap.size < wr.heap.size + j) ∧ w.heap.size < wr.heap.size := by
  have hb := h.block w.heap.size (by omega)
  rw [heap_alloc_last] at hb
  have hs := h.size
  simp at hs
  refine ⟨?_, ?_, ?_, ?_, ?_, ?_, fun j => by omega, by omega⟩ <;> simp [World.cell?, World.frozen?, hb]

theorem wrapu (a : Int) : 0 ≤ IntKind.u64.wrap a := by rw [IntKind.wrap_u64]; omega
theorem heap_alloc_at (w : World) (o : Obj) {n : Nat} (h : n = w.heap.size) : (w.alloc o).heap[n]? = some o := by subst h; exact heap_alloc_last w o
def gat (f x : Int) : Int := (rvcode_gather.f f x).getD 0
theorem gather_some (f x : Int) : ∃ r, rvcode_gather.f f x = some r := by
  unfold rvcode_gather.f rvcode_cut.f
  by_cases h1 : f = 1
  · rw [if_pos h1]; exact ⟨_, rfl⟩
  by_cases h2 : f = 2
  · rw [if_neg h1, if_pos h2, if_pos (wrapu _), if_pos (wrapu _)]; exact ⟨_, rfl⟩
  by_cases h3 : f = 3
  · rw [if_neg h1, if_neg h2, if_pos h3, if_pos (wrapu _), if_pos (wrapu _)]; exact ⟨_, rfl⟩
  by_cases h4 : f = 4
  · rw [if_neg h1, if_neg h2, if_neg h3, if_pos h4, if_pos (wrapu _), if_pos (wrapu _)]; exact ⟨_, rfl⟩
  by_cases h5 : f = 5
  · rw [if_neg h1, if_neg h2, if_neg h3, if_neg h4, if_pos h5]; simp only [if_pos (wrapu _)]; exact ⟨_, rfl⟩
  by_cases h6 : f = 6
  · rw [if_neg h1, if_neg h2, if_neg h3, if_neg h4, if_neg h5, if_pos h6]; exact ⟨_, rfl⟩
  by_cases h7 : f = 7
  · rw [if_neg h1, if_neg h2, if_neg h3, if_neg h4, if_neg h5, if_neg h6, if_pos h7]; simp only [if_pos (wrapu _)]; exact ⟨_, rfl⟩
  rw [if_neg h1, if_neg h2, if_neg h3, if_neg h4, if_neg h5, if_neg h6, if_neg h7]; exact ⟨_, rfl⟩
theorem gather_any (f x : Int) (w : World) : Calls Tryz.prog 188 #[.int .i64 f, .int .u32 x] w fun e w' => e = .returned (.int .i64 (gat f x)) ∧ ∃ n, w' = w.drewN n := by
  have h : rvcode_gather.f f x = some (gat f x) := by
    unfold gat
    obtain ⟨r, hr⟩ := gather_some f x
    rw [hr]; rfl
  exact (rvcode_gather.calls f x _ w h).mono fun _ _ ⟨he, hd⟩ => ⟨he, hd.out⟩
def cutI (x a b : Int) : Int := (rvcode_cut.f x a b).getD 0
theorem cut_any (x a b : Int) (w : World) : Calls Tryz.prog 162 #[.int .u32 x, .int .i64 a, .int .i64 b] w fun e w' => e = .returned (.int .u32 (cutI x a b)) ∧ ∃ n, w' = w.drewN n := by
  have h : rvcode_cut.f x a b = some (cutI x a b) := by
    unfold cutI rvcode_cut.f
    rw [if_pos (wrapu _), if_pos (wrapu _)]
    rfl
  exact (rvcode_cut.calls x a b _ w h).mono fun _ _ ⟨he, hd⟩ => ⟨he, hd.out⟩

/-- A register that a form has, read off a word. -/
def rgN (has : Bool) (x a : Int) : Int := if has then wrap64 (cutI x a 5) else 0
def opV (n : ByteArray) (rd ra rb imm : Int) : Value := .agg #[.string n, .int .i64 rd, .int .i64 ra, .int .i64 rb, .int .i64 imm]

theorem NoM_succ {x : Int} {k : Nat} (h : NoM x k) (hk : Go.bits .and .u32 x (ownI (kd k).2.1) ≠ (kd k).2.2) : NoM x (k + 1) := fun j hj => by
  by_cases e : j = k
  · subst e; exact hk
  · exact h j (by omega)

/-- What 'Decode' answers: the first kind whose bits a word has. -/
def DecPost (x : Int) (w : World) (e : Ending) (w' : World) : Prop :=
  ((NoM x 64 ∧ e = .returned (.tuple #[opV ⟨#[]⟩ 0 0 0 0, .int .i64 260])) ∨
   (∃ k, k < 64 ∧ NoM x k ∧ Go.bits .and .u32 x (ownI (kd k).2.1) = (kd k).2.2 ∧
      e = .returned (.tuple #[opV (kd k).1 (rgN (prt (kd k).2.1).1 x 7) (rgN (prt (kd k).2.1).2.1 x 15) (rgN (prt (kd k).2.1).2.2.1 x 20) (gat (kd k).2.1 x), .int .i64 0]))) ∧
  Below w.heap.size w w'

set_option maxHeartbeats 1000000 in
set_option maxRecDepth 100000 in
theorem decode_calls (x : Int) (w : World) : Calls Tryz.prog 176 #[.int .u32 x] w (DecPost x w) := by
  have f0 := fld0
  have f1 := fld1
  have f2 := fld2
  go_enter Tryz.func176, Tryz.ntmps176
  go_wp2
  go_loopw [4] (fun i wr => ∃ k : Nat, k ≤ 64 ∧ i = .int .i64 k ∧ NoM x k ∧ Below (w.heap.size + 1) (w.alloc (Obj.cells #[Value.string ⟨#[]⟩, Value.int IntKind.i64 0, Value.int IntKind.i64 0, Value.int IntKind.i64 0, Value.int IntKind.i64 0] 130)) wr) (fun i _ => 64 - (intOf i).toNat)
  case atStart => exact ⟨0, by omega, rfl, fun j h => absurd h (by omega), Below.refl _ _⟩
  case round =>
    obtain ⟨k, hk, rfl, hn, hb0⟩ := hrel
    obtain ⟨c0, c1, c2, c3, c4, hfr, hsz, hsz0⟩ := own5 hb0
    have hb0w : Below w.heap.size w wr := ((Below.refl _ _).alloc (Nat.le_refl _) _).trans (hb0.mono (by omega))
    have hblk := (hb0.block w.heap.size (by omega)).trans (heap_alloc_last w _)
    by_cases hlt : k < 64
    · have hix := fun w1 => index_table k hlt w1
      by_cases hm : Go.bits .and .u32 x (ownI (kd k).2.1) = (kd k).2.2
      · have hm1 := bne_eq_false_iff_eq.mpr hm
        clear hm
        have hk64 : ((k : Int) == 64) = false := beq_eq_false_iff_ne.mpr (by omega)
        go_wp2_with (first | (go_at_call 126; refine (table_any _).mono ?_; rintro e w' ⟨rfl, rfl⟩) | (go_at_call 187; refine (own_any _ _).mono ?_; rintro e w' ⟨rfl, n, rfl⟩) | (go_at_call 127; refine (parts_any _ _).mono ?_; rintro e w' ⟨rfl, o, rfl⟩))
        generalize hW : (World.alloc _ _) = W0
        refine wp_region_grow [39, 40, 41, 42, 43, 44, 45, 7] (fun j v w1 => match j with
          | 0 => v = .pointer (some ⟨wr.heap.size + 1 + 1 + 1 + 1 + 1, 0, none⟩)
          | 1 => v = .string (kd k).1
          | 2 => v = .pointer (some ⟨wr.heap.size + 1 + 1 + 1 + 1 + 1, 1, none⟩)
          | 3 => v = .int .i64 (kd k).2.1
          | 4 => v = .int .u32 x
          | 5 => v = .int .i64 (gat (kd k).2.1 x)
          | 6 => v = .agg #[.string (kd k).1, .int .i64 0, .int .i64 0, .int .i64 0, .int .i64 (gat (kd k).2.1 x)]
          | 7 => ∃ b, v = .pointer (some ⟨b, 0, none⟩) ∧ W0.heap.size ≤ b ∧ w1.heap[b]? = some (.cells #[Value.string ⟨#[]⟩, Value.int IntKind.i64 0, Value.int IntKind.i64 0, Value.int IntKind.i64 0, Value.int IntKind.i64 0] 130 (0, 0))
          | _ => True) (by kernel_rfl) (by kernel_rfl) ?_ ?_ ?_
        · intro j v w1 w2 hv hb
          rcases j with _ | _ | _ | _ | _ | _ | _ | _ | j
          · exact hv
          · exact hv
          · exact hv
          · exact hv
          · exact hv
          · exact hv
          · exact hv
          · obtain ⟨b, h1, h2, h3⟩ := hv
            exact ⟨b, h1, h2, (hb.block b (blk_lt h3)).trans h3⟩
          · trivial
        · have hW5 : W0.heap[wr.heap.size + 1 + 1 + 1 + 1 + 1]? = some (.cells #[Value.string (kd k).1, .int .i64 (kd k).2.1, .int .u32 (kd k).2.2] 194 (0, 0)) := by
            rw [← hW]
            exact blk_alloc (blk_alloc (heap_alloc_at _ _ (by simp)) _) _
          clear c0 c1 c2 c3 c4 hfr hsz hsz0 hix f0 f1 f2 hm1 hk64
          refine ⟨?_, ?_, ?_, ?_, ?_, ?_, ?_, ?_, trivial⟩
          all_goals
            intro a w1 hB hoth hdep
            have hb5 := (hB.block _ (blk_lt hW5)).trans hW5
            have p0 := blk_cell hb5 0
            have p1 := blk_cell hb5 1
            have h5 := hoth 5 (by decide)
            have h0 := hoth 0 (by decide)
            clear hoth
            simp at hdep h5 h0 p0 p1
            simp only [StepTo, Oper.grows]
            go_simp
            first
              | exact Below.refl _ _
              | (refine ⟨Below.refl _ _, (gather_any _ _ _).mono ?_⟩; rintro e w' ⟨rfl, n, rfl⟩; exact ⟨rfl, pw_below_drewN (Below.refl _ _) _⟩)
              | exact ⟨below_alloc (Below.refl _ _) _, hB.size, (Array.getElem?_eq_some_iff.1 (heap_alloc_last _ _)).2⟩
        · intro v w1 hB hv
          have q0 : v 0 = _ := hv 0 (by decide)
          have q1 : v 1 = _ := hv 1 (by decide)
          have q2 : v 2 = _ := hv 2 (by decide)
          have q3 : v 3 = _ := hv 3 (by decide)
          have q4 : v 4 = _ := hv 4 (by decide)
          have q5 : v 5 = _ := hv 5 (by decide)
          have q6 : v 6 = _ := hv 6 (by decide)
          obtain ⟨b, q7, hb7, hc7⟩ := hv 7 (by decide)
          simp only [fillF, q0, q1, q2, q3, q4, q5, q6, q7, Act.put, List.setIfInBounds_toArray, List.set_cons_zero, List.set_cons_succ, List.length_cons, List.length_nil, Nat.reduceAdd, List.drop_succ_cons, List.drop_zero]
          refine wpList_store_row rfl 130 (.tmp 7) (.tmp 45) rfl b _ rfl rfl 130 _ hc7 (by kernel_rfl) (by rfl) (by simp [Value.oneCell']) ?_
          have hz : w.heap.size < W0.heap.size := by rw [← hW]; simp; omega
          have hBw : Below w.heap.size w W0 := by
            rw [← hW]
            repeat (first | exact hb0w | apply below_alloc | apply pw_below_drewN)
          have hW6 : W0.heap[wr.heap.size + 1 + 1 + 1 + 1 + 1 + 1 + 1]? = some (.cells #[.bool (prt (kd k).2.1).1, .bool (prt (kd k).2.1).2.1, .bool (prt (kd k).2.1).2.2.1, .int .i64 (prt (kd k).2.1).2.2.2.1, .int .i64 (prt (kd k).2.1).2.2.2.2.1, .int .i64 (prt (kd k).2.1).2.2.2.2.2] 198 (0, 0)) := by
            rw [← hW]
            exact heap_alloc_at _ _ (by simp)
          have hWb : W0.heap[w.heap.size]? = some (.cells #[Value.string ⟨#[]⟩, Value.int IntKind.i64 0, Value.int IntKind.i64 0, Value.int IntKind.i64 0, Value.int IntKind.i64 0] 130 (0, 0)) := by
            rw [← hW]
            repeat (first | exact hblk | refine blk_alloc ?_ _ | refine blk_drewN ?_ _)
          have g6 := blk_lt hW6
          have e6 := (setRow_other w1 b _ #[.string (kd k).1, .int .i64 0, .int .i64 0, .int .i64 0, .int .i64 (gat (kd k).2.1 x)] (by omega)).trans ((hB.block _ g6).trans hW6)
          have e2 := (setRow_other w1 b _ #[.string (kd k).1, .int .i64 0, .int .i64 0, .int .i64 0, .int .i64 (gat (kd k).2.1 x)] (by omega)).trans ((hB.block _ hz).trans hWb)
          have e7 := setRow_heap w1 b _ #[.string (kd k).1, .int .i64 0, .int .i64 0, .int .i64 0, .int .i64 (gat (kd k).2.1 x)] 130 (0, 0) hc7
          have hB2 : Below w.heap.size w (w1.setRow b #[.string (kd k).1, .int .i64 0, .int .i64 0, .int .i64 0, .int .i64 (gat (kd k).2.1 x)]) := by
            have h1 := hBw.trans (hB.mono (Nat.le_of_lt hz))
            exact ⟨h1.os, h1.tape, h1.output, by simpa using h1.size, fun i hi => (setRow_other w1 b i _ (by omega)).trans (h1.block i hi)⟩
          have n0 : w.heap.size ≤ b := by omega
          have n1 : b ≠ w.heap.size := by omega
          have n2 : w.heap.size ≠ b := by omega
          have n3 : b ≠ wr.heap.size + 1 + 1 + 1 + 1 + 1 + 1 + 1 := by omega
          have n4 : wr.heap.size + 1 + 1 + 1 + 1 + 1 + 1 + 1 ≠ b := by omega
          have n5 : w.heap.size ≠ wr.heap.size + 1 + 1 + 1 + 1 + 1 + 1 + 1 := by omega
          generalize w1.setRow b _ = W2 at *
          clear hW hB hv hc7 hb7 hz hBw hW6 hWb g6 W0 w1 c0 c1 c2 c3 c4 hfr hsz hsz0 hb0 hb0w hblk hix hlt hk
          have p6 := blk_cell e6
          have p2 := blk_cell e2
          have p7 := blk_cell e7
          have z2 := blk_frozen e2
          have z7 := blk_frozen e7
          clear q0 q1 q2 q3 q4 q5 q6 q7
          go_wp2_with (first | (go_at_call 162; refine (cut_any _ _ _ _).mono ?_; rintro e w' ⟨rfl, n, rfl⟩))
          all_goals
            refine bodyPost_ret (v := .tuple #[opV (kd k).1 (rgN (prt (kd k).2.1).1 x 7) (rgN (prt (kd k).2.1).2.1 x 15) (rgN (prt (kd k).2.1).2.2.1 x 20) (gat (kd k).2.1 x), .int .i64 0]) ?_ rfl
              ⟨.inr ⟨k, by omega, hn, bne_eq_false_iff_eq.mp hm1, rfl⟩, ?_⟩
            · simp only [results, Tryz.results176, opV, rgN]
              go_simp
            · (with_reducible repeat (first | exact hB2 | refine Below.setCell ?_ ?_ _ | refine pw_below_drewN ?_ _)) <;> first | exact Nat.le_refl _ | exact n0
      · have hm1 := bne_iff_ne.mpr hm
        clear c0 c1 c2 c3 c4 hfr
        go_wp2_with (first | (go_at_call 126; refine (table_any _).mono ?_; rintro e w' ⟨rfl, rfl⟩) | (go_at_call 187; refine (own_any _ _).mono ?_; rintro e w' ⟨rfl, n, rfl⟩))
        go_roundw
        case rel => exact ⟨k + 1, by omega, by go_num, NoM_succ hn hm, by
          refine hb0.trans ((?_ : Below wr.heap.size wr _).mono hsz0)
          repeat (first | exact Below.refl _ _ | apply below_alloc | refine pw_below_drewN ?_ _)⟩
        case measure => simp [intOf]; omega
    · have hk64 : ((k : Int) == 64) = true := beq_iff_eq.mpr (by omega)
      go_wp2_with (first | (go_at_call 126; refine (table_any _).mono ?_; rintro e w' ⟨rfl, rfl⟩) | (go_at_call 187; refine (own_any _ _).mono ?_; rintro e w' ⟨rfl, n, rfl⟩))
      refine bodyPost_ret (v := .tuple #[opV ⟨#[]⟩ 0 0 0 0, .int .i64 260]) ?_ rfl ⟨.inl ⟨by rwa [show k = 64 from by omega] at hn, rfl⟩, ?_⟩
      · simp only [results, Tryz.results176, opV]
        go_simp
      · (with_reducible repeat (first | exact hb0w | refine Below.setCell ?_ ?_ _ | refine pw_below_drewN ?_ _ | apply below_alloc)) <;> exact Nat.le_refl _
end Go.Proofs.YtpfcdhjknmijjaaGreat.Rv

namespace Go.Proofs.YtpfcdhjknmijjaaGreat.Rv
open Go.RowKit Go.Proofs.YtpfcdhjknmijjaaGreat.Grow
open Go.Proofs.YtpfcdhjknmijjaaGreatW.PrintWords Go.Proofs.YtpfcdhjknmijjaaGreatW.PrintLast Go.Proofs.YtpfcdhjknmijjaaGreatW.PrintMore
open Go.Proofs.YtpfcdhjknmijjaaGreat.PHartQuotients

def regB (n : Int) (has : Bool) : Bool := n == 0 || (has && decide (n > 0) && decide (n < 32))
theorem register_any (n : Int) (has : Bool) (w : World) : Calls Tryz.prog 128 #[.int .i64 n, .bool has] w fun e w' => e = .returned (.bool (regB n has)) ∧ ∃ m, w' = w.drewN m := by
  have h : rvcode_register.f n has = some (regB n has) := by
    unfold rvcode_register.f regB
    by_cases h0 : n = 0
    · subst h0; rfl
    · rw [if_neg h0]
      have : (n == 0) = false := beq_eq_false_iff_ne.mpr h0
      rw [this]
      cases has
      · simp
      · by_cases hp : n > 0 <;> simp [hp]
  exact (rvcode_register.calls n has _ w h).mono fun _ _ ⟨he, hd⟩ => ⟨he, hd.out⟩

def sct (f x : Int) : Int := (rvcode_scatter.f 3 f x).getD 0
theorem scatter_some (f x : Int) : ∃ r, rvcode_scatter.f 3 f x = some r := by
  have key : ∀ b : Bool, ∃ r, rvcode_scatter.j0 3 x f b = some r := by
    intro b
    cases b
    · unfold rvcode_scatter.j0 rvcode_cut.f
      simp only [if_pos (wrapu _), Option.bind_some, Bool.false_eq_true, if_false]
      by_cases h4 : f = 4
      · rw [if_pos h4]; exact ⟨_, rfl⟩
      by_cases h5 : f = 5
      · rw [if_neg h4, if_pos h5]; exact ⟨_, rfl⟩
      by_cases h6 : f = 6
      · rw [if_neg h4, if_neg h5, if_pos h6]; exact ⟨_, rfl⟩
      by_cases h7 : f = 7
      · rw [if_neg h4, if_neg h5, if_neg h6, if_pos h7]; exact ⟨_, rfl⟩
      rw [if_neg h4, if_neg h5, if_neg h6, if_neg h7]; exact ⟨_, rfl⟩
    · exact ⟨_, rfl⟩
  unfold rvcode_scatter.f
  by_cases h1 : f = 1
  · rw [if_pos h1]; exact key _
  · rw [if_neg h1]
    by_cases h2 : f = 2
    · rw [if_pos h2]; exact key _
    · rw [if_neg h2]; exact key _
theorem scatter_any (f x : Int) (w : World) : Calls Tryz.prog 129 #[.int .i64 f, .int .u32 x] w fun e w' => e = .returned (.int .u32 (sct f x)) ∧ ∃ n, w' = w.drewN n := by
  have h : rvcode_scatter.f 3 f x = some (sct f x) := by
    unfold sct
    obtain ⟨r, hr⟩ := scatter_some f x
    rw [hr]; rfl
  exact (rvcode_scatter.calls 3 f x _ w h).mono fun _ _ ⟨he, hd⟩ => ⟨he, hd.out⟩

theorem toList_inj {a b : ByteArray} (h : a.toList = b.toList) : a = b := by
  rw [ByteArray.toList_eq, ByteArray.toList_eq] at h
  cases a; cases b
  simp only at h
  exact congrArg ByteArray.mk (Array.toList_inj.1 h)

def NoN (nm : ByteArray) (k : Nat) : Prop := ∀ j, j < k → (kd j).1 ≠ nm
theorem NoN_succ {nm : ByteArray} {k : Nat} (h : NoN nm k) (hk : (kd k).1 ≠ nm) : NoN nm (k + 1) := fun j hj => by
  by_cases e : j = k
  · subst e; exact hk
  · exact h j (by omega)


theorem prt_by (f : Int) : ¬ (prt f).2.2.2.2.2 = 0 := by
  unfold prt
  repeat' split
  all_goals decide

/-- May an instruction's parts be so? -/
def encOk (f rd ra rb imm : Int) : Bool :=
  regB rd (prt f).1 && regB ra (prt f).2.1 && regB rb (prt f).2.2.1 && decide ((prt f).2.2.2.1 ≤ imm) && decide (imm ≤ (prt f).2.2.2.2.1) && (imm.tmod (prt f).2.2.2.2.2 == 0)

theorem encOk_iff {f rd ra rb imm : Int} : encOk f rd ra rb imm = true ↔ regB rd (prt f).1 = true ∧ regB ra (prt f).2.1 = true ∧ regB rb (prt f).2.2.1 = true ∧ (prt f).2.2.2.1 ≤ imm ∧ imm ≤ (prt f).2.2.2.2.1 ∧
    (imm.tmod (prt f).2.2.2.2.2 != 0) = false := by
  simp [encOk, and_assoc]

/-- The word of an instruction. -/
def wordOf (bits f rd ra rb imm : Int) : Int :=
  Go.bits .or .u32 (Go.bits .or .u32 (Go.bits .or .u32 (Go.bits .or .u32 bits (IntKind.u32.wrap (IntKind.u32.wrap rd * 128))) (IntKind.u32.wrap (IntKind.u32.wrap ra * 32768))) (IntKind.u32.wrap (IntKind.u32.wrap rb * 1048576))) (sct f (IntKind.u32.wrap imm))

/-- What 'Encode' answers. -/
def EncPost (nm : ByteArray) (rd ra rb imm : Int) (w : World) (e : Ending) (w' : World) : Prop :=
  ((NoN nm 64 ∧ e = .returned (.tuple #[.int .u32 0, .int .i64 260])) ∨
   (∃ k, k < 64 ∧ NoN nm k ∧ (kd k).1 = nm ∧
     ((encOk (kd k).2.1 rd ra rb imm = false ∧ e = .returned (.tuple #[.int .u32 0, .int .i64 260])) ∨
      (encOk (kd k).2.1 rd ra rb imm = true ∧ e = .returned (.tuple #[.int .u32 (wordOf (kd k).2.2 (kd k).2.1 rd ra rb imm), .int .i64 0]))))) ∧
  Below w.heap.size w w'

set_option maxHeartbeats 1000000 in
set_option maxRecDepth 100000 in
theorem encode_calls (nm : ByteArray) (rd ra rb imm : Int) (w : World) : Calls Tryz.prog 84 #[opV nm rd ra rb imm] w (EncPost nm rd ra rb imm w) := by
  have f0 := fld0
  have f1 := fld1
  have f2 := fld2
  go_enter Tryz.func84, Tryz.ntmps84
  unfold opV
  go_wp2
  go_loopw [4] (fun i wr => ∃ k : Nat, k ≤ 64 ∧ i = .int .i64 k ∧ NoN nm k ∧ Below (w.heap.size + 1) (w.alloc (Obj.cells #[Value.string nm, Value.int IntKind.i64 rd, Value.int IntKind.i64 ra, Value.int IntKind.i64 rb, Value.int IntKind.i64 imm] 130)) wr) (fun i _ => 64 - (intOf i).toNat)
  case atStart => exact ⟨0, by omega, rfl, fun j h => absurd h (by omega), Below.refl _ _⟩
  case round =>
    obtain ⟨k, hk, rfl, hn, hb0⟩ := hrel
    have hb0w : Below w.heap.size w wr := ((Below.refl _ _).alloc (Nat.le_refl _) _).trans (hb0.mono (by omega))
    have hblk := (hb0.block w.heap.size (by omega)).trans (heap_alloc_last w _)
    have hsz0 := blk_lt hblk
    by_cases hlt : k < 64
    · have hix := fun w1 => index_table k hlt w1
      go_wp2_with fail
      refine wp_region_grow [7, 8, 9, 10, 11, 12, 13, 14, 15, 16, 17, 18, 19] (fun j v w1 => match j with
        | 0 => v = .int .i64 k
        | 1 => v = tableV
        | 2 => v = .int .i64 64
        | 3 => v = .bool true
        | 4 => v = .bool true
        | 5 => v = tableV
        | 6 => v = .int .i64 k
        | 7 => v = .agg #[.string (kd k).1, .int .i64 (kd k).2.1, .int .u32 (kd k).2.2]
        | 8 => v = .string (kd k).1
        | 9 => v = .pointer (some ⟨w.heap.size, 0, none⟩)
        | 10 => v = .string nm
        | 11 => v = .bool (!((kd k).1.toList == nm.toList))
        | 12 => v = .bool (!((kd k).1.toList == nm.toList))
        | _ => True) (by kernel_rfl) (by kernel_rfl) ?_ ?_ ?_
      · intro j v w1 w2 hv hb
        rcases j with _ | _ | _ | _ | _ | _ | _ | _ | _ | _ | _ | _ | _ | j <;> first | exact hv | trivial
      · refine ⟨?_, ?_, ?_, ?_, ?_, ?_, ?_, ?_, ?_, ?_, ?_, ?_, ?_, trivial⟩
        all_goals
          intro a w1 hB hoth hdep
          have hb := (hB.block _ (blk_lt hblk)).trans hblk
          have p0 := blk_cell hb 0
          have h4 := hoth 4 (by decide)
          have h1 := hoth 1 (by decide)
          clear hoth
          simp at hdep h4 h1 p0
          simp only [StepTo, Oper.grows]
          go_simp
          all_goals first
            | exact Below.refl _ _
            | (refine ⟨Below.refl _ _, (table_any _).mono ?_⟩; rintro e w' ⟨rfl, rfl⟩; exact ⟨rfl, below_alloc (Below.refl _ _) _⟩)
            | exact ⟨Below.refl _ _, by omega⟩
      · intro v w1 hB hv
        have q0 : v 0 = _ := hv 0 (by decide)
        have q1 : v 1 = _ := hv 1 (by decide)
        have q2 : v 2 = _ := hv 2 (by decide)
        have q3 : v 3 = _ := hv 3 (by decide)
        have q4 : v 4 = _ := hv 4 (by decide)
        have q5 : v 5 = _ := hv 5 (by decide)
        have q6 : v 6 = _ := hv 6 (by decide)
        have q7 : v 7 = _ := hv 7 (by decide)
        have q8 : v 8 = _ := hv 8 (by decide)
        have q9 : v 9 = _ := hv 9 (by decide)
        have q10 : v 10 = _ := hv 10 (by decide)
        have q11 : v 11 = _ := hv 11 (by decide)
        have q12 : v 12 = _ := hv 12 (by decide)
        simp only [fillF, q0, q1, q2, q3, q4, q5, q6, q7, q8, q9, q10, q11, q12, Act.put, List.setIfInBounds_toArray, List.set_cons_zero, List.set_cons_succ, List.length_cons, List.length_nil, Nat.reduceAdd, List.drop_succ_cons, List.drop_zero]
        clear q0 q1 q2 q3 q4 q5 q6 q7 q8 q9 q10 q11 q12 hv
        have hb1 := (hB.block _ (blk_lt hblk)).trans hblk
        have hbw := hb0w.trans (hB.mono (Nat.le_of_lt hsz0))
        have hz1 := blk_lt hb1
        have hz : ∀ j, w.heap.size < w1.heap.size + j := fun j => by omega
        have p1 := blk_cell hb1
        by_cases hm : (kd k).1 = nm
        · have hs : (!((kd k).1.toList == nm.toList)) = false := by rw [hm]; simp
          have hk64 : ((k : Int) == 64) = false := beq_eq_false_iff_ne.mpr (by omega)
          have hby := prt_by (kd k).2.1
          rw [hs]
          clear hs hb0 hb0w hblk hsz0 hB
          have hbx := Aside0.mk hbw
          have hmx := Aside0.mk hm
          have hb1x := Aside0.mk hb1
          clear hbw hm hb1
          go_wp2_with (first | (go_at_call 126; refine (table_any _).mono ?_; rintro e w' ⟨rfl, rfl⟩) | (go_at_call 127; refine (parts_any _ _).mono ?_; rintro e w' ⟨rfl, o, rfl⟩) | (go_at_call 128; refine (register_any _ _ _).mono ?_; rintro e w' ⟨rfl, n, rfl⟩))
          rotate_left 1
          · have hbw := hbx.out
            have hb1 := hb1x.out
            obtain ⟨w1s, hw1s⟩ : ∃ n, n = w1.heap.size := ⟨_, rfl⟩
            simp only [← hw1s]
            generalize hW : (World.alloc _ _) = W0
            have hWx : W0.heap[w.heap.size]? = some (.cells #[.string nm, .int .i64 rd, .int .i64 ra, .int .i64 rb, .int .i64 imm] 130 (0, 0)) := by
              rw [← hW]
              (with_reducible repeat (first | exact hb1 | refine blk_alloc ?_ _ | refine blk_drewN ?_ _))
            have hbw0 : Below w.heap.size w W0 := by
              rw [← hW]
              (with_reducible repeat (first | exact hbw | apply below_alloc | refine pw_below_drewN ?_ _))
            have hzW : w.heap.size ≤ W0.heap.size := hbw0.size
            have hWk : W0.heap[w1s + 1 + 1]? = some (.cells #[.string (kd k).1, .int .i64 (kd k).2.1, .int .u32 (kd k).2.2] 194 (0, 0)) := by
              rw [← hW]
              (with_reducible repeat (first | exact heap_alloc_at _ _ (by simp [hw1s]) | refine blk_alloc ?_ _ | refine blk_drewN ?_ _))
            refine wp_region_grow [76, 77, 78, 79, 80, 81, 82, 83, 84, 85, 86, 87, 88, 89, 90, 91, 92, 93, 94, 95, 96, 97, 98, 99] (fun j v w1 => match j with
              | 0 => v = .pointer (some ⟨w1s + 1 + 1, 2, none⟩)
              | 1 => v = .int .u32 ((kd k).2.2)
              | 2 => v = .pointer (some ⟨w.heap.size, 1, none⟩)
              | 3 => v = .int .i64 (rd)
              | 4 => v = .int .u32 (IntKind.u32.wrap rd)
              | 5 => v = .int .u32 (IntKind.u32.wrap (IntKind.u32.wrap rd * 128))
              | 6 => v = .int .u32 (Go.bits .or .u32 (kd k).2.2 (IntKind.u32.wrap (IntKind.u32.wrap rd * 128)))
              | 7 => v = .pointer (some ⟨w.heap.size, 2, none⟩)
              | 8 => v = .int .i64 (ra)
              | 9 => v = .int .u32 (IntKind.u32.wrap ra)
              | 10 => v = .int .u32 (IntKind.u32.wrap (IntKind.u32.wrap ra * 32768))
              | 11 => v = .int .u32 (Go.bits .or .u32 (Go.bits .or .u32 (kd k).2.2 (IntKind.u32.wrap (IntKind.u32.wrap rd * 128))) (IntKind.u32.wrap (IntKind.u32.wrap ra * 32768)))
              | 12 => v = .pointer (some ⟨w.heap.size, 3, none⟩)
              | 13 => v = .int .i64 (rb)
              | 14 => v = .int .u32 (IntKind.u32.wrap rb)
              | 15 => v = .int .u32 (IntKind.u32.wrap (IntKind.u32.wrap rb * 1048576))
              | 16 => v = .int .u32 (Go.bits .or .u32 (Go.bits .or .u32 (Go.bits .or .u32 (kd k).2.2 (IntKind.u32.wrap (IntKind.u32.wrap rd * 128))) (IntKind.u32.wrap (IntKind.u32.wrap ra * 32768))) (IntKind.u32.wrap (IntKind.u32.wrap rb * 1048576)))
              | 17 => v = .pointer (some ⟨w1s + 1 + 1, 1, none⟩)
              | 18 => v = .int .i64 ((kd k).2.1)
              | 19 => v = .pointer (some ⟨w.heap.size, 4, none⟩)
              | 20 => v = .int .i64 (imm)
              | 21 => v = .int .u32 (IntKind.u32.wrap imm)
              | 22 => v = .int .u32 (sct (kd k).2.1 (IntKind.u32.wrap imm))
              | 23 => v = .int .u32 (Go.bits .or .u32 (Go.bits .or .u32 (Go.bits .or .u32 (Go.bits .or .u32 (kd k).2.2 (IntKind.u32.wrap (IntKind.u32.wrap rd * 128))) (IntKind.u32.wrap (IntKind.u32.wrap ra * 32768))) (IntKind.u32.wrap (IntKind.u32.wrap rb * 1048576))) (sct (kd k).2.1 (IntKind.u32.wrap imm)))
              | _ => True) (by kernel_rfl) (by kernel_rfl) ?_ ?_ ?_
            · intro j v w1 w2 hv hb
              rcases j with _ | _ | _ | _ | _ | _ | _ | _ | _ | _ | _ | _ | _ | _ | _ | _ | _ | _ | _ | _ | _ | _ | _ | _ | j <;> first | exact hv | trivial
            · clear hW f0 f1 f2 hz hix p1 hw1s
              refine ⟨?_, ?_, ?_, ?_, ?_, ?_, ?_, ?_, ?_, ?_, ?_, ?_, ?_, ?_, ?_, ?_, ?_, ?_, ?_, ?_, ?_, ?_, ?_, ?_, trivial⟩
              all_goals
                intro a w2 hB hoth hdep
                have px := blk_cell ((hB.block _ (blk_lt hWx)).trans hWx)
                have pk := blk_cell ((hB.block _ (blk_lt hWk)).trans hWk)
                have h1 := hoth 1 (by decide)
                have h5 := hoth 5 (by decide)
                clear hoth
                simp at hdep h5 h1
                simp only [StepTo, Oper.grows]
                go_simp
                all_goals first
                  | exact Below.refl _ _
                  | exact ⟨Below.refl _ _, rfl⟩
                  | (refine ⟨Below.refl _ _, (scatter_any _ _ _).mono ?_⟩; rintro e w' ⟨rfl, n, rfl⟩; exact ⟨rfl, pw_below_drewN (Below.refl _ _) _⟩)
            · intro v w2 hB hv
              have q0 : v 0 = _ := hv 0 (by decide)
              have q1 : v 1 = _ := hv 1 (by decide)
              have q2 : v 2 = _ := hv 2 (by decide)
              have q3 : v 3 = _ := hv 3 (by decide)
              have q4 : v 4 = _ := hv 4 (by decide)
              have q5 : v 5 = _ := hv 5 (by decide)
              have q6 : v 6 = _ := hv 6 (by decide)
              have q7 : v 7 = _ := hv 7 (by decide)
              have q8 : v 8 = _ := hv 8 (by decide)
              have q9 : v 9 = _ := hv 9 (by decide)
              have q10 : v 10 = _ := hv 10 (by decide)
              have q11 : v 11 = _ := hv 11 (by decide)
              have q12 : v 12 = _ := hv 12 (by decide)
              have q13 : v 13 = _ := hv 13 (by decide)
              have q14 : v 14 = _ := hv 14 (by decide)
              have q15 : v 15 = _ := hv 15 (by decide)
              have q16 : v 16 = _ := hv 16 (by decide)
              have q17 : v 17 = _ := hv 17 (by decide)
              have q18 : v 18 = _ := hv 18 (by decide)
              have q19 : v 19 = _ := hv 19 (by decide)
              have q20 : v 20 = _ := hv 20 (by decide)
              have q21 : v 21 = _ := hv 21 (by decide)
              have q22 : v 22 = _ := hv 22 (by decide)
              have q23 : v 23 = _ := hv 23 (by decide)
              simp only [fillF, q0, q1, q2, q3, q4, q5, q6, q7, q8, q9, q10, q11, q12, q13, q14, q15, q16, q17, q18, q19, q20, q21, q22, q23, Act.put, List.setIfInBounds_toArray, List.set_cons_zero, List.set_cons_succ, List.length_cons, List.length_nil, Nat.reduceAdd, List.drop_succ_cons, List.drop_zero]
              clear q0 q1 q2 q3 q4 q5 q6 q7 q8 q9 q10 q11 q12 q13 q14 q15 q16 q17 q18 q19 q20 q21 q22 q23 hv
              go_wp2
              go_ret2
              exact ⟨.inr ⟨k, hlt, hn, hmx.out, .inr ⟨encOk_iff.2 ⟨by assumption, by assumption, by assumption, by assumption, by assumption, And.right (by assumption : ((prt (kd k).2.1).2.2.2.1 ≤ imm ∧ imm ≤ (prt (kd k).2.1).2.2.2.2.1) ∧ (imm.tmod (prt (kd k).2.1).2.2.2.2.2 != 0) = false)⟩, rfl⟩⟩, (pw_below_drewN hbw0 _).trans (hB.mono hzW)⟩
          all_goals
            go_ret2
            refine ⟨.inr ⟨k, hlt, hn, hmx.out, .inl ⟨Bool.eq_false_iff.2 (fun h => ?_), rfl⟩⟩, ?_⟩
            · obtain ⟨h1, h2, h3, h4, h5, h6⟩ := encOk_iff.1 h
              first
                | exact absurd h1 (by assumption)
                | exact absurd h2 (by assumption)
                | exact absurd h3 (by assumption)
                | omega
                | (have ht : (imm < (prt (kd k).2.1).2.2.2.1 ∨ (prt (kd k).2.1).2.2.2.2.1 < imm) ∨ (imm.tmod (prt (kd k).2.1).2.2.2.2.2 != 0) = true := by assumption
                   rcases ht with (ht | ht) | ht
                   · omega
                   · omega
                   · rw [h6] at ht; cases ht)
            · (with_reducible repeat (first | exact hbx.out | apply below_alloc | refine pw_below_drewN ?_ _))
        · have hs : (!((kd k).1.toList == nm.toList)) = true := by
            have : ((kd k).1.toList == nm.toList) = false := beq_eq_false_iff_ne.mpr (fun e => hm (toList_inj e))
            rw [this]; rfl
          rw [hs]
          have hb2 := hb0.trans (hB.mono hsz0)
          clear hs hb0 hb0w hblk hsz0 hB hb1 hbw hz1 hz p1 hix
          go_wp2
          go_roundw
          case rel => exact ⟨k + 1, by omega, by go_num, NoN_succ hn hm, hb2⟩
          case measure => simp [intOf]; omega
    · go_wp2_with fail
      refine wp_region_grow [7, 8, 9, 10, 11, 12, 13, 14, 15, 16, 17, 18, 19] (fun j v w1 => match j with
        | 0 => v = .int .i64 k
        | 1 => v = tableV
        | 2 => v = .int .i64 64
        | 3 => v = .bool false
        | 4 => v = .bool false
        | 5 => v = undef
        | 6 => v = undef
        | 7 => v = undef
        | 8 => v = undef
        | 9 => v = undef
        | 10 => v = undef
        | 11 => v = undef
        | 12 => v = .bool false
        | _ => True) (by kernel_rfl) (by kernel_rfl) ?_ ?_ ?_
      · intro j v w1 w2 hv hb
        rcases j with _ | _ | _ | _ | _ | _ | _ | _ | _ | _ | _ | _ | _ | j <;> first | exact hv | trivial
      · refine ⟨?_, ?_, ?_, ?_, ?_, ?_, ?_, ?_, ?_, ?_, ?_, ?_, ?_, trivial⟩
        all_goals
          intro a w1 hB hoth hdep
          have hb := (hB.block _ (blk_lt hblk)).trans hblk
          have p0 := blk_cell hb 0
          have h4 := hoth 4 (by decide)
          have h1 := hoth 1 (by decide)
          clear hoth
          simp at hdep h4 h1 p0
          simp only [StepTo, Oper.grows]
          go_simp
          all_goals first
            | exact Below.refl _ _
            | (refine ⟨Below.refl _ _, (table_any _).mono ?_⟩; rintro e w' ⟨rfl, rfl⟩; exact ⟨rfl, below_alloc (Below.refl _ _) _⟩)
            | exact ⟨Below.refl _ _, by omega⟩
      · intro v w1 hB hv
        have q0 : v 0 = _ := hv 0 (by decide)
        have q1 : v 1 = _ := hv 1 (by decide)
        have q2 : v 2 = _ := hv 2 (by decide)
        have q3 : v 3 = _ := hv 3 (by decide)
        have q4 : v 4 = _ := hv 4 (by decide)
        have q5 : v 5 = _ := hv 5 (by decide)
        have q6 : v 6 = _ := hv 6 (by decide)
        have q7 : v 7 = _ := hv 7 (by decide)
        have q8 : v 8 = _ := hv 8 (by decide)
        have q9 : v 9 = _ := hv 9 (by decide)
        have q10 : v 10 = _ := hv 10 (by decide)
        have q11 : v 11 = _ := hv 11 (by decide)
        have q12 : v 12 = _ := hv 12 (by decide)
        simp only [fillF, q0, q1, q2, q3, q4, q5, q6, q7, q8, q9, q10, q11, q12, Act.put, List.setIfInBounds_toArray, List.set_cons_zero, List.set_cons_succ, List.length_cons, List.length_nil, Nat.reduceAdd, List.drop_succ_cons, List.drop_zero]
        clear q0 q1 q2 q3 q4 q5 q6 q7 q8 q9 q10 q11 q12 hv
        have hb1 := (hB.block _ (blk_lt hblk)).trans hblk
        have hbw := hb0w.trans (hB.mono (Nat.le_of_lt hsz0))
        have hz1 := blk_lt hb1
        have hz : ∀ j, w.heap.size < w1.heap.size + j := fun j => by omega
        have p1 := blk_cell hb1
        have hk64 : ((k : Int) == 64) = true := beq_iff_eq.mpr (by omega)
        have hkk : k = 64 := by omega
        clear hb0 hb0w hblk hsz0 hB hb1
        have hkx := Aside0.mk hkk
        clear hkk
        go_wp2_with (first | (go_at_call 126; refine (table_any _).mono ?_; rintro e w' ⟨rfl, rfl⟩))
        go_ret2
        exact ⟨.inl ⟨by rw [hkx.out] at hn; exact hn, rfl⟩, below_alloc hbw _⟩
end Go.Proofs.YtpfcdhjknmijjaaGreat.Rv

namespace Go.Proofs.YtpfcdhjknmijjaaGreat.Rv
open Go.RowKit

/-- The first kind of a name; 64: there is none. -/
def nIdx (nm : ByteArray) : Nat := kinds.findIdx fun x => decide (x.1 = nm)
/-- The first kind whose bits a word has; 64: there is none. -/
def dIdx (x : Int) : Nat := kinds.findIdx fun y => Go.bits .and .u32 x (ownI y.2.1) == y.2.2

def encF (nm : ByteArray) (rd ra rb imm : Int) : Int × Int :=
  if nIdx nm < 64 ∧ encOk (kd (nIdx nm)).2.1 rd ra rb imm = true then (wordOf (kd (nIdx nm)).2.2 (kd (nIdx nm)).2.1 rd ra rb imm, 0) else (0, 260)

structure OpI where
  name : ByteArray
  rd : Int
  ra : Int
  rb : Int
  imm : Int
  deriving DecidableEq

def decAt (k : Nat) (x : Int) : OpI :=
  ⟨(kd k).1, rgN (prt (kd k).2.1).1 x 7, rgN (prt (kd k).2.1).2.1 x 15, rgN (prt (kd k).2.1).2.2.1 x 20, gat (kd k).2.1 x⟩
def decF (x : Int) : OpI × Int := if dIdx x < 64 then (decAt (dIdx x) x, 0) else (⟨⟨#[]⟩, 0, 0, 0, 0⟩, 260)

theorem kinds_len : kinds.length = 64 := by decide
theorem kd_eq (j : Nat) (h : j < 64) : kd j = kinds[j]'(by rw [kinds_len]; exact h) := by
  unfold kd
  rw [List.getD_eq_getElem?_getD, List.getElem?_eq_getElem (by rw [kinds_len]; exact h)]; rfl

theorem findIdx_is {p : ByteArray × Int × Int → Bool} {k : Nat} (hk : k < 64) (h1 : ∀ j, j < k → p (kd j) = false) (h2 : p (kd k) = true) : kinds.findIdx p = k := by
  have hl : k < kinds.length := by rw [kinds_len]; exact hk
  refine (List.findIdx_eq hl).2 ⟨by rw [← kd_eq k hk]; exact h2, fun j hj => ?_⟩
  rw [← kd_eq j (by omega)]
  exact h1 j hj
theorem findIdx_none {p : ByteArray × Int × Int → Bool} (h1 : ∀ j, j < 64 → p (kd j) = false) : kinds.findIdx p = 64 := by
  rw [← kinds_len]
  refine List.findIdx_eq_length.2 (fun x hx => ?_)
  obtain ⟨j, hj, rfl⟩ := List.mem_iff_getElem.1 hx
  rw [kinds_len] at hj
  rw [← kd_eq j hj]
  exact h1 j hj

theorem encode_any (nm : ByteArray) (rd ra rb imm : Int) (w : World) : Calls Tryz.prog 84 #[opV nm rd ra rb imm] w fun e w' =>
    e = .returned (.tuple #[.int .u32 (encF nm rd ra rb imm).1, .int .i64 (encF nm rd ra rb imm).2]) ∧ Below w.heap.size w w' := by
  refine (encode_calls nm rd ra rb imm w).mono fun e w' h => ?_
  obtain ⟨h, hb⟩ := h
  refine ⟨?_, hb⟩
  rcases h with ⟨hn, he⟩ | ⟨k, hk, hn, hm, h⟩
  · have : nIdx nm = 64 := findIdx_none fun j hj => by simpa using hn j hj
    rw [he, encF, this]; rfl
  · have : nIdx nm = k := findIdx_is hk (fun j hj => by simpa using hn j hj) (by simpa using hm)
    rcases h with ⟨ho, he⟩ | ⟨ho, he⟩
    · rw [he, encF, this, if_neg (fun h => by rw [ho] at h; cases h.2)]
    · rw [he, encF, this, if_pos ⟨hk, ho⟩]

theorem decode_any (x : Int) (w : World) : Calls Tryz.prog 176 #[.int .u32 x] w fun e w' =>
    e = .returned (.tuple #[opV (decF x).1.name (decF x).1.rd (decF x).1.ra (decF x).1.rb (decF x).1.imm, .int .i64 (decF x).2]) ∧ Below w.heap.size w w' := by
  refine (decode_calls x w).mono fun e w' h => ?_
  obtain ⟨h, hb⟩ := h
  refine ⟨?_, hb⟩
  rcases h with ⟨hn, he⟩ | ⟨k, hk, hn, hm, he⟩
  · have : dIdx x = 64 := findIdx_none fun j hj => by simpa using hn j hj
    rw [he, decF, this]; rfl
  · have : dIdx x = k := findIdx_is hk (fun j hj => by simpa using hn j hj) (by simpa using hm)
    rw [he, decF, this, if_pos hk]; rfl
end Go.Proofs.YtpfcdhjknmijjaaGreat.Rv

namespace Go.Proofs.YtpfcdhjknmijjaaGreat.Rv
open Go.RowKit Go.Proofs.YtpfcdhjknmijjaaGreat.Grow
open Go.Proofs.YtpfcdhjknmijjaaGreatW.PrintWords Go.Proofs.YtpfcdhjknmijjaaGreatW.PrintLast Go.Proofs.YtpfcdhjknmijjaaGreatW.PrintMore
theorem cell_one_at (w : World) (x : Value) (t : TypeId) {n : Nat} (h : n = w.heap.size) : ∀ j u, [x][j]? = some u → (w.alloc (.cells #[x] t)).cell? ((⟨n, 0, none⟩ : Addr).add j) = some u := by
  subst h; exact cell_one_new w x t
theorem own_ge {w : World} {base e size n : Nat} {v : Value} {xs : List Value} (h : w.ownsRow base e size v n xs) : ∀ j, v.ownBlock = some j → base ≤ j := by
  intro j hj
  obtain ⟨_, ⟨rfl, _⟩ | ⟨g, cap, cur, rfl, hg, _⟩⟩ := h
  · simp [Value.ownBlock] at hj
  · simp [Value.ownBlock] at hj; omega
theorem encode_at {nm : ByteArray} {rd ra rb imm a b : Int} (h : encF nm rd ra rb imm = (a, b)) (w : World) : Calls Tryz.prog 84 #[.agg #[.string nm, .int .i64 rd, .int .i64 ra, .int .i64 rb, .int .i64 imm]] w fun e w' =>
    e = .returned (.tuple #[.int .u32 a, .int .i64 b]) ∧ Below w.heap.size w w' := by
  have := encode_any nm rd ra rb imm w
  rw [h] at this
  exact this
theorem decode_at {x : Int} {y : OpI} {c : Int} (h : decF x = (y, c)) (w : World) : Calls Tryz.prog 176 #[.int .u32 x] w fun e w' =>
    e = .returned (.tuple #[.agg #[.string y.name, .int .i64 y.rd, .int .i64 y.ra, .int .i64 y.rb, .int .i64 y.imm], .int .i64 c]) ∧ Below w.heap.size w w' := by
  have := decode_any x w
  rw [h] at this
  exact this
end Go.Proofs.YtpfcdhjknmijjaaGreat.Rv
end
