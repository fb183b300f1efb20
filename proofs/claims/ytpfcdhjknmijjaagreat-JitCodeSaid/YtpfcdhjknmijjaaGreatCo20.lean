import Derived.Test.YtpfcdhjknmijjaaGreatCo2
import Derived.Test.YtpfcdhjknmijjaaGreatCo16
import Derived.Test.YtpfcdhjknmijjaaGreatCo17
import Derived.Test.YtpfcdhjknmijjaaGreatCo19
section
namespace Go.Proofs.YtpfcdhjknmijjaaGreat.PEmitFinds
open Go.RowKit Go.Proofs.YtpfcdhjknmijjaaGreatW.PrintWords Go.Proofs.YtpfcdhjknmijjaaGreatW.PrintLast Go.Proofs.YtpfcdhjknmijjaaGreatW.PrintMore
attribute [local go_sem] max2_int min2_int max_two min_two max_three min_three max_four min_four   -- for this text's walks alone
set_option linter.unusedVariables false
set_option linter.unusedSimpArgs false

/-! ### burinref12_Word: function 31 -/
def burinref12_Word.f (a0 : Int) : Option (Bool) := if a0 ≥ 48 then (if a0 ≤ 57 then (some true) else (if a0 ≥ 65 then (if a0 ≤ 90 then (some true) else (if a0 = 95 then (some true) else (if a0 ≥ 97 then (some (decide (a0 ≤ 122))) else (some false)))) else (if a0 = 95 then (some true) else (if a0 ≥ 97 then (some (decide (a0 ≤ 122))) else (some false))))) else (if a0 ≥ 65 then (if a0 ≤ 90 then (some true) else (if a0 = 95 then (some true) else (if a0 ≥ 97 then (some (decide (a0 ≤ 122))) else (some false)))) else (if a0 = 95 then (some true) else (if a0 ≥ 97 then (some (decide (a0 ≤ 122))) else (some false))))
/-! ### burinref30_Table: function 10 -/
def burinref30_Table.l0 : Nat → List Int → Int → Option (ByteArray)
  | 0, _, _ => none
  | k + 1, x1, x2 => if x2 < 256 then ((burinref12_Word.f x2).bind fun t162 => (if t162 = true then (if x1.length < 140737488355328 then (burinref30_Table.l0 k (x1 ++ [1]) (wrap64 (x2 + 1))) else (none)) else (if x1.length < 140737488355328 then (burinref30_Table.l0 k (x1 ++ [0]) (wrap64 (x2 + 1))) else (none)))) else (some (strOfNums x1))
def burinref30_Table.f (k : Nat)  : Option (ByteArray) := burinref30_Table.l0 k ([] : List Int) 0
/-! ### burinref30_Pairs: function 14 -/
def burinref30_Pairs.f (l0_0 : List (S61)) (a0_1 : Int) (a0_2 : Int) (a1 : Int) : Option (Int) := if a1 < 0 then (some 0) else (if a1 > 262144 then (some 0) else (some (wrap64 ((l0_0.length : Int) * (wrap64 (a1 + 1))))))
/-! ### burinref30_Work: function 12 -/
def burinref30_Work.f (l0_0 : List (S61)) (a0_1 : Int) (a0_2 : Int) (a1 : Int) : Option (Int) := (burinref30_Pairs.f l0_0 a0_1 a0_2 a1).bind fun t171 => (if t171 = 0 then (some 0) else (if (Int.tmod t171 64) = 0 then (some (wrap64 ((wrap64 ((wrap64 (16 * a0_2)) + (wrap64 (8 * (wrap64 (Int.tdiv t171 64)))))) + (wrap64 (16 * (wrap64 (t171 + 1))))))) else (some (wrap64 ((wrap64 ((wrap64 (16 * a0_2)) + (wrap64 (8 * (wrap64 ((wrap64 (Int.tdiv t171 64)) + 1)))))) + (wrap64 (16 * (wrap64 (t171 + 1)))))))))
/-! ### burinref30_bytes: function 85 -/
def burinref30_bytes.l0 : Nat → Int → Int → List Int → Int → Option (ByteArray)
  | 0, _, _, _, _ => none
  | k + 1, x0, x1, x5, x6 => if x6 < x0 then (if 0 ≤ x6 then (if x6 < (x5.length : Int) then (burinref30_bytes.l0 k x0 x1 (x5.set (x6 : Int).toNat x1) (wrap64 (x6 + 1))) else (none)) else (none)) else (some (strOfNums x5))
def burinref30_bytes.f (k : Nat) (a0 : Int) (a1 : Int) : Option (ByteArray) := if 0 ≤ a0 then (if (a0 : Int).toNat ≤ 281474976710656 then (burinref30_bytes.l0 k a0 a1 (List.replicate (a0 : Int).toNat 0) 0) else (none)) else (none)
end Go.Proofs.YtpfcdhjknmijjaaGreat.PEmitFinds
end
section
set_option linter.unusedSimpArgs false
set_option linter.unusedVariables false
namespace Go.Proofs.YtpfcdhjknmijjaaGreat.Em
open Go.RowKit Go.Proofs.YtpfcdhjknmijjaaGreat.Grow Go.Proofs.YtpfcdhjknmijjaaGreat.Rv Go.Proofs.YtpfcdhjknmijjaaGreat.As Go.Proofs.YtpfcdhjknmijjaaGreat.PEmitFinds
open Go.Proofs.YtpfcdhjknmijjaaGreatW.PrintWords Go.Proofs.YtpfcdhjknmijjaaGreatW.PrintLast Go.Proofs.YtpfcdhjknmijjaaGreatW.PrintMore

/-! ### The table of words -/
def wordsS : List UInt8 := [48, 49, 50, 51, 52, 53, 54, 55, 56, 57, 65, 66, 67, 68, 69, 70, 71, 72, 73, 74, 75, 76, 77, 78, 79, 80, 81, 82, 83, 84, 85, 86, 87, 88, 89, 90, 95, 97, 98, 99, 100, 101, 102, 103, 104, 105, 106, 107, 108, 109, 110, 111, 112, 113, 114, 115, 116, 117, 118, 119, 120, 121, 122]
def idxB (c : Nat) : Int := Lib.indexByte wordsS c.toUInt8
def wordB (c : Nat) : Bool := decide (0 < c) && decide (c < 128) && decide (0 ≤ idxB c)
theorem index_at (c : Nat) (w : World) : Calls Tryz.prog 67 #[.string ⟨wordsS.toArray⟩, .int .u8 (c : Int)] w fun e w' => e = .returned (.int .i64 (idxB c)) ∧ w' = w :=
  (Tryz.strings_IndexByte ⟨wordsS.toArray⟩ (c : Int) w).mono fun _ _ h => h
set_option maxHeartbeats 2000000 in
set_option maxRecDepth 100000 in
theorem word_calls (c : Nat) (hc : c < 256) (w : World) : Calls Tryz.prog 30 #[.int .i64 (c : Int)] w fun e w' => e = .returned (.bool (wordB c)) ∧ w' = w := by
  have IA := Aside0.mk (index_at c)
  unfold wordsS at IA
  have c0 : (0 : Int) ≤ (c : Int) := by omega
  have c1 : (c : Int) < 256 := by omega
  by_cases h0 : c = 0
  · subst h0
    clear IA
    go_enter Tryz.func30, Tryz.ntmps30
    go_wp2
    go_ret
    exact ⟨rfl, rfl⟩
  have h1 : (0 : Int) < (c : Int) := by omega
  by_cases h2 : c < 128
  · have e : wordB c = decide (0 ≤ idxB c) := by unfold wordB; rw [decide_eq_true (show 0 < c by omega), decide_eq_true h2]; rfl
    have h3 : (c : Int) < 128 := by omega
    obtain ⟨z, hz⟩ : ∃ z, idxB c = z := ⟨_, rfl⟩
    rw [hz] at e IA
    rw [e]
    clear e hz h2 h0 hc
    go_enter Tryz.func30, Tryz.ntmps30
    go_wp2_with fail
    refine (IA.out _).mono ?_
    rintro e w2 ⟨rfl, rfl⟩
    go_wp2
    go_ret
    exact ⟨rfl, rfl⟩
  · have e : wordB c = false := by unfold wordB; rw [decide_eq_false h2]; simp
    have h3 : (128 : Int) ≤ (c : Int) := by omega
    rw [e]
    clear IA h2 e h0 hc
    go_enter Tryz.func30, Tryz.ntmps30
    go_wp2
    go_ret
    exact ⟨rfl, rfl⟩
def tabC (i : Nat) : Array Value := ((List.range 256).map fun j => Value.int .u8 (if j < i ∧ wordB j = true then 1 else 0)).toArray
def tabS : ByteArray := ⟨((List.range 256).map fun j => if wordB j = true then (1 : UInt8) else 0).toArray⟩
theorem tabC_size (i : Nat) : (tabC i).size = 256 := by simp [tabC]
theorem tabC_get {i j : Nat} (h : j < 256) : (tabC i)[j]? = some (.int .u8 (if j < i ∧ wordB j = true then 1 else 0)) := by simp [tabC, h]
theorem tabC_zero : tabC 0 = (madeCells #[Value.int .u8 0] 256) := by
  apply Array.ext_getElem?
  intro j
  by_cases h : j < 256
  · rw [tabC_get h]; simp [madeCells, h, Nat.mod_one]
  · rw [Array.getElem?_eq_none (by rw [tabC_size]; omega), Array.getElem?_eq_none (by simp [madeCells]; omega)]
theorem tabC_no {i : Nat} (h : wordB i = false) : tabC i = tabC (i + 1) := by
  apply Array.ext_getElem?
  intro j
  by_cases hj : j < 256
  · rw [tabC_get hj, tabC_get hj]
    by_cases e : j = i
    · subst e; rw [if_neg (by simp [h]), if_neg (by simp [h])]
    · by_cases h2 : j < i
      · by_cases h3 : wordB j = true
        · rw [if_pos ⟨h2, h3⟩, if_pos ⟨by omega, h3⟩]
        · rw [if_neg (fun q => h3 q.2), if_neg (fun q => h3 q.2)]
      · rw [if_neg (fun q => h2 q.1), if_neg (fun q => by omega)]
  · rw [Array.getElem?_eq_none (by rw [tabC_size]; omega), Array.getElem?_eq_none (by rw [tabC_size]; omega)]
theorem tabC_yes {i : Nat} (hi : i < 256) (h : wordB i = true) : (tabC i).setIfInBounds i (.int .u8 1) = tabC (i + 1) := by
  apply Array.ext_getElem?
  intro j
  by_cases hj : j < 256
  · by_cases e : i = j
    · subst e
      rw [Array.getElem?_setIfInBounds_self_of_lt (by rw [tabC_size]; exact hi), tabC_get hj, if_pos ⟨by omega, h⟩]
    · rw [Array.getElem?_setIfInBounds_ne e, tabC_get hj, tabC_get hj]
      by_cases h2 : j < i
      · by_cases h3 : wordB j = true
        · rw [if_pos ⟨h2, h3⟩, if_pos ⟨by omega, h3⟩]
        · rw [if_neg (fun q => h3 q.2), if_neg (fun q => h3 q.2)]
      · rw [if_neg (fun q => h2 q.1), if_neg (fun q => by omega)]
  · rw [Array.getElem?_eq_none (by simp [tabC_size]; omega), Array.getElem?_eq_none (by rw [tabC_size]; omega)]
def tabI : List Int := (List.range 256).map fun j => if wordB j = true then 1 else 0
theorem map_tab (n : Nat) : (List.range n).map (fun j => Value.int .u8 (if j < n ∧ wordB j = true then 1 else 0)) = ((List.range n).map fun j => if wordB j = true then (1 : Int) else 0).map (Value.int .u8) := by
  rw [List.map_map]
  apply List.map_congr_left
  intro j hj
  rw [List.mem_range] at hj
  simp only [Function.comp]
  by_cases h : wordB j = true
  · rw [if_pos ⟨hj, h⟩, if_pos h]
  · rw [if_neg (fun q => h q.2), if_neg h]
theorem tabC_end : tabC 256 = (tabI.map (Value.int .u8)).toArray := congrArg List.toArray (map_tab 256)
theorem tabI_str : strOf tabI = tabS := by decide +kernel
theorem tab_string {w : World} {b cap : Nat} (h : w.heap[b]? = some (.cells (tabC 256) 66 (0, 0))) : (convert 68 9 (.slice (some ⟨b, 0, none⟩) 256 cap)).run Tryz.prog w = .ok (.string tabS) w := by
  rw [run_convert_bytes_string w 68 9 5 _ _ _ under130 und5 und9, ← tabI_str]
  refine run_bytesToString w _ 256 cap tabI ?_
  have hl : (loadCells ⟨b, 0, none⟩ (tabI.map (Value.int .u8)).length).run Tryz.prog w = .ok (tabI.map (Value.int .u8)).toArray w :=
    run_loadCells_list (P := Tryz.prog) w ⟨b, 0, none⟩ _ (fun j u hu => by
      rw [Addr.add_mid, Nat.zero_add, cell_of_row w b _ _ 66 (0, 0) h, tabC_end]
      simpa using hu)
  rw [List.length_map, show tabI.length = 256 from by simp [tabI]] at hl
  exact hl
theorem zero66 : Tryz.zeroCells66 = tabC 0 := by rw [tabC_zero]; kernel_rfl
set_option maxHeartbeats 4000000 in
set_option maxRecDepth 100000 in
theorem table_calls (w : World) : Calls Tryz.prog 9 #[] w fun e w' => e = .returned (.string tabS) ∧ Below w.heap.size w w' := by
  go_enter Tryz.func9, Tryz.ntmps9
  go_wp2_with fail
  rw [zero66]
  have hb0 := heap_alloc_new w (.cells (tabC 0) 66)
  have B0 := below_alloc (Below.refl w.heap.size w) (.cells (tabC 0) 66)
  generalize w.alloc (.cells (tabC 0) 66) = w1 at *
  go_loopw [3] (fun i wr => ∃ k : Nat, k ≤ 256 ∧ i = .int .i64 k ∧ Aside0 (wr.heap[w.heap.size]? = some (.cells (tabC k) 66 (0, 0)) ∧ Below w.heap.size w wr)) (fun i _ => 256 - (intOf i).toNat)
  case atStart => exact ⟨0, by omega, rfl, ⟨hb0, B0⟩⟩
  case round =>
    obtain ⟨k, hk, rfl, hH⟩ := hrel
    clear hb0 B0
    by_cases hlt : k < 256
    · have HK := Aside0.mk hlt
      have WC := Aside0.mk (fun w9 => word_calls k hlt w9)
      have WY := Aside0.mk (fun h => tabC_yes (i := k) hlt h)
      have WN := Aside0.mk (fun h => tabC_no (i := k) h)
      obtain ⟨b, hb⟩ : ∃ b, wordB k = b := ⟨_, rfl⟩
      rw [hb] at WC WY WN
      have k0 : (0 : Int) ≤ (k : Int) := by omega
      have k1 : (k : Int) < 256 := by omega
      clear hlt hb hk
      go_wp2_with fail
      refine (WC.out _).mono ?_
      rintro e w2 ⟨rfl, rfl⟩
      have hh := hH.out.1
      have z := blk_lt hh
      have c0 := (blk_cell hh k).trans (tabC_get HK.out)
      have f0 := frozen_of_row w2 w.heap.size k _ 66 hh
      have H2 := Aside0.mk (heap_setCell_same w2 w.heap.size k _ 66 (.int .u8 1) hh)
      have B2 := Aside0.mk (hH.out.2.setCell (p := ⟨w.heap.size, k, none⟩) (Nat.le_refl _) (.int .u8 1))
      clear hh WC
      cases b
      · clear c0 f0
        go_wp2
        go_roundw
        case rel => exact ⟨k + 1, by have := HK.out; omega, by go_num, ⟨by rw [← WN.out (by simp)]; exact hH.out.1, hH.out.2⟩⟩
        case measure => simp [intOf]; have := HK.out; omega
      · go_wp2
        go_roundw
        case rel => exact ⟨k + 1, by have := HK.out; omega, by go_num, ⟨by rw [← WY.out (by simp)]; exact H2.out, B2.out⟩⟩
        case measure => simp [intOf]; have := HK.out; omega
    · obtain rfl : k = 256 := by omega
      have TS := tab_string (cap := 256) hH.out.1
      have z := blk_lt hH.out.1
      have B2 := Aside0.mk hH.out.2
      clear hH hk hlt
      go_wp2
      go_ret
      exact ⟨rfl, B2.out⟩
end Go.Proofs.YtpfcdhjknmijjaaGreat.Em
end
