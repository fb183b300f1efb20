import Derived.Test.YtciehejifdbpoaaPRvcodeDecodesx5
import Derived.Deep.WholeRow
namespace Go.Proofs.Ytciehejifdbpoaa.Rv
open Go.RowKit

/-- Runs a list of unguarded operations, each of which gives a value. -/
noncomputable def runVals (P : Program) : List Oper → Act → World → Option (Act × World)
  | [], a, w => some (a, w)
  | o :: rest, a, w =>
    match o.guard with
    | some _ => none
    | none => match (execOp a.eval o).run P w with
      | .ok (.value v) w' => runVals P rest (a.put o.dst v) w'
      | _ => none

theorem wpList_vals {P : Program} {ops : Array Oper} {Q : Exit → Act → World → Prop} {rest : List Oper} :
    ∀ (l : List Oper) {a a' : Act} {w w' : World}, runVals P l a w = some (a', w') → wpList P ops Q rest a' w' → wpList P ops Q (l ++ rest) a w
  | [], a, a', w, w', h, hk => by
    simp only [runVals, Option.some.injEq, Prod.mk.injEq] at h
    obtain ⟨rfl, rfl⟩ := h
    exact hk
  | o :: l, a, a', w, w', h, hk => by
    unfold runVals at h
    split at h
    · cases h
    · rename_i hg
      refine wpList_plain hg fun K hK => ?_
      unfold Oper.wp
      split at h
      · rename_i v w1 hr
        rw [hr, Oper.upon_value]
        exact hK _ _ (wpList_vals l h hk)
      · cases h

/-- The first so many operations of a region. -/
theorem wpList_vals_take {P : Program} {ops : Array Oper} {Q : Exit → Act → World → Prop} {l : List Oper} (n : Nat)
    {a a' : Act} {w w' : World} (h : runVals P (l.take n) a w = some (a', w')) (hk : wpList P ops Q (l.drop n) a' w') : wpList P ops Q l a w := by
  have := wpList_vals (P := P) (ops := ops) (Q := Q) (rest := l.drop n) (l.take n) h hk
  rwa [List.take_append_drop] at this

def kinds : List (ByteArray × Int × Int) := [
  (⟨#[97, 100, 100]⟩, 0, 51), (⟨#[115, 117, 98]⟩, 0, 1073741875), (⟨#[115, 108, 108]⟩, 0, 4147),
  (⟨#[115, 108, 116]⟩, 0, 8243), (⟨#[115, 108, 116, 117]⟩, 0, 12339), (⟨#[120, 111, 114]⟩, 0, 16435),
  (⟨#[115, 114, 108]⟩, 0, 20531), (⟨#[115, 114, 97]⟩, 0, 1073762355), (⟨#[111, 114]⟩, 0, 24627),
  (⟨#[97, 110, 100]⟩, 0, 28723), (⟨#[109, 117, 108]⟩, 0, 33554483), (⟨#[109, 117, 108, 104]⟩, 0, 33558579),
  (⟨#[109, 117, 108, 104, 115, 117]⟩, 0, 33562675), (⟨#[109, 117, 108, 104, 117]⟩, 0, 33566771), (⟨#[100, 105, 118]⟩, 0, 33570867),
  (⟨#[100, 105, 118, 117]⟩, 0, 33574963), (⟨#[114, 101, 109]⟩, 0, 33579059), (⟨#[114, 101, 109, 117]⟩, 0, 33583155),
  (⟨#[97, 100, 100, 119]⟩, 0, 59), (⟨#[115, 117, 98, 119]⟩, 0, 1073741883), (⟨#[115, 108, 108, 119]⟩, 0, 4155),
  (⟨#[115, 114, 108, 119]⟩, 0, 20539), (⟨#[115, 114, 97, 119]⟩, 0, 1073762363), (⟨#[109, 117, 108, 119]⟩, 0, 33554491),
  (⟨#[100, 105, 118, 119]⟩, 0, 33570875), (⟨#[100, 105, 118, 117, 119]⟩, 0, 33574971), (⟨#[114, 101, 109, 119]⟩, 0, 33579067),
  (⟨#[114, 101, 109, 117, 119]⟩, 0, 33583163), (⟨#[97, 100, 100, 105]⟩, 1, 19), (⟨#[115, 108, 116, 105]⟩, 1, 8211),
  (⟨#[115, 108, 116, 105, 117]⟩, 1, 12307), (⟨#[120, 111, 114, 105]⟩, 1, 16403), (⟨#[111, 114, 105]⟩, 1, 24595),
  (⟨#[97, 110, 100, 105]⟩, 1, 28691), (⟨#[97, 100, 100, 105, 119]⟩, 1, 27), (⟨#[108, 98]⟩, 1, 3),
  (⟨#[108, 104]⟩, 1, 4099), (⟨#[108, 119]⟩, 1, 8195), (⟨#[108, 100]⟩, 1, 12291),
  (⟨#[108, 98, 117]⟩, 1, 16387), (⟨#[108, 104, 117]⟩, 1, 20483), (⟨#[108, 119, 117]⟩, 1, 24579),
  (⟨#[106, 97, 108, 114]⟩, 1, 103), (⟨#[115, 108, 108, 105]⟩, 2, 4115), (⟨#[115, 114, 108, 105]⟩, 2, 20499),
  (⟨#[115, 114, 97, 105]⟩, 2, 1073762323), (⟨#[115, 108, 108, 105, 119]⟩, 3, 4123), (⟨#[115, 114, 108, 105, 119]⟩, 3, 20507),
  (⟨#[115, 114, 97, 105, 119]⟩, 3, 1073762331), (⟨#[115, 98]⟩, 4, 35), (⟨#[115, 104]⟩, 4, 4131),
  (⟨#[115, 119]⟩, 4, 8227), (⟨#[115, 100]⟩, 4, 12323), (⟨#[98, 101, 113]⟩, 5, 99),
  (⟨#[98, 110, 101]⟩, 5, 4195), (⟨#[98, 108, 116]⟩, 5, 16483), (⟨#[98, 103, 101]⟩, 5, 20579),
  (⟨#[98, 108, 116, 117]⟩, 5, 24675), (⟨#[98, 103, 101, 117]⟩, 5, 28771), (⟨#[108, 117, 105]⟩, 6, 55),
  (⟨#[97, 117, 105, 112, 99]⟩, 6, 23), (⟨#[106, 97, 108]⟩, 7, 111), (⟨#[101, 99, 97, 108, 108]⟩, 8, 115),
  (⟨#[101, 98, 114, 101, 97, 107]⟩, 8, 1048691)]

def kindCells (x : ByteArray × Int × Int) : List Value := [.string x.1, .int .i64 x.2.1, .int .u32 x.2.2]
def tableCells : Array Value := (kinds.flatMap kindCells).toArray
def tabObj : Obj := .cells tableCells 108
def tableV : Value := .agg tableCells

noncomputable def tops : List Oper := match Try.f52.body with
  | some (.seq _ (.seq (.region _ ops _) _)) => ops.toList
  | _ => []
def act0 (p : Value) : Act := { tmps := ((Array.replicate 66 undef).setIfInBounds 0 p), defers := [] }
noncomputable def act1 (p : Value) : Act := ((runVals Try.prog (tops.take 65) (act0 p) default).getD (act0 p, default)).1

theorem tab_run (p : Value) (w : World) : runVals Try.prog (tops.take 65) (act0 p) w = some (act1 p, w) := by kernel_rfl
theorem tab_65 (p : Value) : (act1 p).eval (.tmp 65) = tableV := by kernel_rfl
theorem tab_p (p : Value) : ((act1 p).put none undef).tmps.getD 0 undef = p := by kernel_rfl
theorem tab_d (p : Value) : ((act1 p).put none undef).defers = [] := by kernel_rfl
theorem tab_0 (p : Value) : (act1 p).eval (.tmp 0) = p := by kernel_rfl
theorem info108 : (Try.prog.info? 108).map (fun i => (i.zero, i.size)) = some (some (.agg ((List.replicate 64 [Value.string ⟨#[]⟩, .int .i64 0, .int .u32 0]).flatten.toArray)), 192) := by kernel_rfl

theorem table_any (w : World) : Calls Try.prog 52 #[] w fun e w' => e = .returned tableV ∧ w.alloc tabObj = w' := by
  refine calls_of_wp Try.func52 rfl ?_
  apply wp_seq_k
  intro K hK
  apply wp_region_lit
  refine wpList_vals_take 1 (a' := act0 (.pointer (some ⟨w.heap.size, 0, none⟩))) (w' := w.alloc (.cells ((List.replicate 64 [Value.string ⟨#[]⟩, .int .i64 0, .int .u32 0]).flatten.toArray) 108)) (by kernel_rfl) ?_
  apply wpList_nil
  apply hK
  clear hK K
  apply wp_seq_k
  intro K hK
  apply wp_region_lit
  refine wpList_vals_take 65 (a' := act1 (.pointer (some ⟨w.heap.size, 0, none⟩))) (w' := w.alloc (.cells ((List.replicate 64 [Value.string ⟨#[]⟩, .int .i64 0, .int .u32 0]).flatten.toArray) 108)) (tab_run _ _) ?_
  refine wpList_store_row rfl 108 (.tmp 0) (.tmp 65) rfl w.heap.size tableCells (tab_0 _) (tab_65 _) 108 ((List.replicate 64 [Value.string ⟨#[]⟩, .int .i64 0, .int .u32 0]).flatten.toArray) (heap_alloc_last _ _) (by kernel_rfl) (by kernel_rfl) (by kernel_rfl) ?_
  rw [World.setRow_alloc_new]
  apply wpList_nil
  apply hK
  apply wp_ret
  refine bodyPost_ret (v := tableV) ?_ (tab_d _) ⟨rfl, rfl⟩
  exact results_cell_row (fn := Try.f52) rfl _ _ w.heap.size 108 tableCells (0, 0) (.array 64 107) (tab_p _) (heap_alloc_last _ _) (by kernel_rfl) rfl (by kernel_rfl)


def kd (k : Nat) : ByteArray × Int × Int := kinds.getD k (ByteArray.empty, 0, 0)
def kindV (k : Nat) : Value := .agg #[.string (kd k).1, .int .i64 (kd k).2.1, .int .u32 (kd k).2.2]

theorem index_table : ∀ (k : Nat), k < 64 → ∀ w : World, (Instr.index 108 tableV (.int .i64 (k : Int))).run Try.prog w = .ok (.agg #[.string (kd k).1, .int .i64 (kd k).2.1, .int .u32 (kd k).2.2]) w
  | 0, _, _ => by kernel_rfl
  | 1, _, _ => by kernel_rfl
  | 2, _, _ => by kernel_rfl
  | 3, _, _ => by kernel_rfl
  | 4, _, _ => by kernel_rfl
  | 5, _, _ => by kernel_rfl
  | 6, _, _ => by kernel_rfl
  | 7, _, _ => by kernel_rfl
  | 8, _, _ => by kernel_rfl
  | 9, _, _ => by kernel_rfl
  | 10, _, _ => by kernel_rfl
  | 11, _, _ => by kernel_rfl
  | 12, _, _ => by kernel_rfl
  | 13, _, _ => by kernel_rfl
  | 14, _, _ => by kernel_rfl
  | 15, _, _ => by kernel_rfl
  | 16, _, _ => by kernel_rfl
  | 17, _, _ => by kernel_rfl
  | 18, _, _ => by kernel_rfl
  | 19, _, _ => by kernel_rfl
  | 20, _, _ => by kernel_rfl
  | 21, _, _ => by kernel_rfl
  | 22, _, _ => by kernel_rfl
  | 23, _, _ => by kernel_rfl
  | 24, _, _ => by kernel_rfl
  | 25, _, _ => by kernel_rfl
  | 26, _, _ => by kernel_rfl
  | 27, _, _ => by kernel_rfl
  | 28, _, _ => by kernel_rfl
  | 29, _, _ => by kernel_rfl
  | 30, _, _ => by kernel_rfl
  | 31, _, _ => by kernel_rfl
  | 32, _, _ => by kernel_rfl
  | 33, _, _ => by kernel_rfl
  | 34, _, _ => by kernel_rfl
  | 35, _, _ => by kernel_rfl
  | 36, _, _ => by kernel_rfl
  | 37, _, _ => by kernel_rfl
  | 38, _, _ => by kernel_rfl
  | 39, _, _ => by kernel_rfl
  | 40, _, _ => by kernel_rfl
  | 41, _, _ => by kernel_rfl
  | 42, _, _ => by kernel_rfl
  | 43, _, _ => by kernel_rfl
  | 44, _, _ => by kernel_rfl
  | 45, _, _ => by kernel_rfl
  | 46, _, _ => by kernel_rfl
  | 47, _, _ => by kernel_rfl
  | 48, _, _ => by kernel_rfl
  | 49, _, _ => by kernel_rfl
  | 50, _, _ => by kernel_rfl
  | 51, _, _ => by kernel_rfl
  | 52, _, _ => by kernel_rfl
  | 53, _, _ => by kernel_rfl
  | 54, _, _ => by kernel_rfl
  | 55, _, _ => by kernel_rfl
  | 56, _, _ => by kernel_rfl
  | 57, _, _ => by kernel_rfl
  | 58, _, _ => by kernel_rfl
  | 59, _, _ => by kernel_rfl
  | 60, _, _ => by kernel_rfl
  | 61, _, _ => by kernel_rfl
  | 62, _, _ => by kernel_rfl
  | 63, _, _ => by kernel_rfl
  | k + 64, h, _ => absurd h (by omega)

end Go.Proofs.Ytciehejifdbpoaa.Rv
