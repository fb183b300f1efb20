import Derived.Test.YtpfcdhjknmijjaaGreatCo42
section
set_option linter.unusedSimpArgs false
set_option linter.unusedVariables false
namespace Go.Proofs.YtpfcdhjknmijjaaGreat.Jc
open Go.Proofs.YtpfcdhjknmijjaaGreatW.PrintWords Go.Proofs.YtpfcdhjknmijjaaGreatW.PrintLast Go.Proofs.YtpfcdhjknmijjaaGreatW.PrintMore
open Go.RowKit Go.Proofs.YtpfcdhjknmijjaaGreat.Em Go.Proofs.YtpfcdhjknmijjaaGreat.Ve Go.Proofs.YtpfcdhjknmijjaaGreat.Rv Go.Proofs.YtpfcdhjknmijjaaGreat.As Go.Proofs.YtpfcdhjknmijjaaGreat.PEmitFinds
/-! ### Every label that a piece names is marked -/
def labOf : Cmd → Option Int
  | .br _ _ _ lab => some lab
  | .jmp _ lab => some lab
  | .adr _ lab => some lab
  | _ => none
def Mk (A : AsmS) (z : Int) : Prop := ∃ t, A.marks z = some t
theorem mk_step {A : AsmS} {z : Int} (h : Mk A z) (c : Cmd) : Mk (c.step A) z := by
  cases c with
  | mrk lab =>
    show Mk (A.markIf (mkC A lab) lab) z
    unfold AsmS.markIf
    split
    · obtain ⟨t, ht⟩ := h
      unfold Mk AsmS.mark
      dsimp only
      split
      · exact ⟨_, rfl⟩
      · exact ⟨t, ht⟩
    · exact h
  | op x => show Mk (A.pushIf _ _) z; unfold AsmS.pushIf; split <;> exact h
  | br nm ra rb lab => show Mk (A.pushIf _ _) z; unfold AsmS.pushIf; split <;> exact h
  | jmp rd lab => show Mk (A.pushIf _ _) z; unfold AsmS.pushIf; split <;> exact h
  | adr rd lab => show Mk (A.pushIf _ _) z; unfold AsmS.pushIf; split <;> exact h
  | num rd n => exact h
  | new => exact h
theorem mk_run {A : AsmS} {z : Int} (h : Mk A z) (l : List Cmd) : Mk (run A l) z := by
  induction l generalizing A with
  | nil => exact h
  | cons c l ih => exact ih (mk_step h c)
theorem mk_here {A : AsmS} {z : Int} (h0 : 0 ≤ z) (h1 : z < A.labels) : Mk (Cmd.step A (.mrk z)) z := by
  show Mk (A.markIf (mkC A z) z) z
  by_cases hm : (A.marks z).isSome = true
  · obtain ⟨t, ht⟩ := Option.isSome_iff_exists.1 hm
    unfold AsmS.markIf
    split
    · unfold Mk AsmS.mark
      dsimp only
      split
      · exact ⟨_, rfl⟩
      · exact ⟨t, ht⟩
    · exact ⟨t, ht⟩
  · have hc : mkC A z = 0 := by
      unfold mkC
      rw [decide_eq_true h0, decide_eq_true h1, if_neg (by decide), if_neg hm]
    unfold AsmS.markIf
    rw [if_pos hc]
    unfold Mk AsmS.mark
    simp
theorem mk_at {A : AsmS} {z : Int} (p s : List Cmd) (h0 : 0 ≤ z) (h1 : z < A.labels + (newsC p : Int)) : Mk (run A (p ++ .mrk z :: s)) z := by
  rw [run_app, run_cons]
  exact mk_run (mk_here h0 (by rw [run_labels]; exact h1)) s
theorem used_step {A : AsmS} (c : Cmd) : ∀ x ∈ (c.step A).ps, x ∈ A.ps ∨ x.sort = 0 ∨ labOf c = some x.label := by
  have hp : ∀ (k : Int) (y : Pc), ∀ x ∈ (A.pushIf k y).ps, x ∈ A.ps ∨ x = y := by
    intro k y x hx
    unfold AsmS.pushIf at hx
    split at hx
    · rcases List.mem_append.1 hx with hx | hx
      · exact .inl hx
      · simp at hx; exact .inr hx
    · exact .inl hx
  intro x hx
  cases c with
  | op o => rcases hp _ _ x hx with h | rfl; exact .inl h; exact .inr (.inl rfl)
  | br nm ra rb lab => rcases hp _ _ x hx with h | rfl; exact .inl h; exact .inr (.inr rfl)
  | jmp rd lab => rcases hp _ _ x hx with h | rfl; exact .inl h; exact .inr (.inr rfl)
  | adr rd lab => rcases hp _ _ x hx with h | rfl; exact .inl h; exact .inr (.inr rfl)
  | mrk lab =>
    have : x ∈ (A.markIf (mkC A lab) lab).ps := hx
    unfold AsmS.markIf at this
    split at this <;> exact .inl this
  | num rd n =>
    rcases List.mem_append.1 hx with h | h
    · exact .inl h
    · obtain ⟨o, _, rfl⟩ := List.mem_map.1 h
      exact .inr (.inl rfl)
  | new => exact .inl hx
theorem used_run (l : List Cmd) : ∀ {A : AsmS}, ∀ x ∈ (run A l).ps, x ∈ A.ps ∨ x.sort = 0 ∨ ∃ c ∈ l, labOf c = some x.label := by
  induction l with
  | nil => exact fun x hx => .inl hx
  | cons c l ih =>
    intro A x hx
    rcases ih (A := c.step A) x hx with h | h | ⟨d, hd, he⟩
    · rcases used_step c x h with h | h | h
      · exact .inl h
      · exact .inr (.inl h)
      · exact .inr (.inr ⟨c, List.mem_cons_self .., h⟩)
    · exact .inr (.inl h)
    · exact .inr (.inr ⟨d, List.mem_cons_of_mem _ hd, he⟩)
/-- All labels that the list names are below N, or marked in it. -/
def Good (N k : Int) (l : List Cmd) : Prop := ∀ c ∈ l, ∀ z, labOf c = some z → (0 ≤ z ∧ z < N) ∨ ∃ p s, l = p ++ .mrk z :: s ∧ 0 ≤ z ∧ z < k + (newsC p : Int)
def Jn (N : Int) (A : AsmS) : Prop := ∀ x ∈ A.ps, x.sort ≠ 0 → (0 ≤ x.label ∧ x.label < N) ∨ Mk A x.label
theorem jn_run {N : Int} {A : AsmS} {l : List Cmd} (h : Jn N A) (hg : Good N A.labels l) : Jn N (run A l) := by
  intro x hx hs
  rcases used_run l x hx with h1 | h1 | ⟨c, hc, he⟩
  · rcases h x h1 hs with h2 | h2
    · exact .inl h2
    · exact .inr (mk_run h2 l)
  · exact absurd h1 hs
  · rcases hg c hc _ he with h2 | ⟨p, s, rfl, h0, h1⟩
    · exact .inl h2
    · exact .inr (mk_at p s h0 h1)
theorem news_app (a b : List Cmd) : newsC (a ++ b) = newsC a + newsC b := by unfold newsC; rw [List.countP_append]
theorem good_app {N k : Int} {a b : List Cmd} (ha : Good N k a) (hb : Good N (k + (newsC a : Int)) b) : Good N k (a ++ b) := by
  intro c hc z hz
  rcases List.mem_append.1 hc with hc | hc
  · rcases ha c hc z hz with h | ⟨p, s, rfl, h0, h1⟩
    · exact .inl h
    · exact .inr ⟨p, s ++ b, by simp, h0, h1⟩
  · rcases hb c hc z hz with h | ⟨p, s, rfl, h0, h1⟩
    · exact .inl h
    · exact .inr ⟨a ++ p, s, by simp, h0, by rw [news_app]; omega⟩
/-- A list all of whose labels are below N. -/
def Plain (N : Int) (l : List Cmd) : Prop := ∀ c ∈ l, ∀ z, labOf c = some z → 0 ≤ z ∧ z < N
theorem Plain.good {N k : Int} {l : List Cmd} (h : Plain N l) : Good N k l := fun c hc z hz => .inl (h c hc z hz)
theorem plain_nil (N : Int) : Plain N [] := fun c hc => by cases hc
theorem plain_cons {N : Int} {c : Cmd} {l : List Cmd} (hc : ∀ z, labOf c = some z → 0 ≤ z ∧ z < N) (h : Plain N l) : Plain N (c :: l) := fun d hd => by
  rcases List.mem_cons.1 hd with rfl | hd
  · exact hc
  · exact h d hd
theorem plain_app {N : Int} {a b : List Cmd} (ha : Plain N a) (hb : Plain N b) : Plain N (a ++ b) := fun d hd => by
  rcases List.mem_append.1 hd with hd | hd
  · exact ha d hd
  · exact hb d hd
theorem no_lab {N : Int} {c : Cmd} (h : labOf c = none) : ∀ z, labOf c = some z → 0 ≤ z ∧ z < N := fun z hz => by rw [h] at hz; cases hz
theorem the_lab {N y : Int} {c : Cmd} (h : labOf c = some y) (hy : 0 ≤ y ∧ y < N) : ∀ z, labOf c = some z → 0 ≤ z ∧ z < N := fun z hz => by rw [h] at hz; injection hz with hz; subst hz; exact hy
theorem mark_plain {N : Int} {E : Em.Ends} (hf : 0 ≤ E.fail ∧ E.fail < N) (i : Int) : Plain N (markC E i) := by
  unfold markC
  repeat' (first | exact plain_nil N | exact plain_cons (no_lab rfl) ?_ | refine plain_cons (no_lab rfl) ?_ | refine plain_cons (the_lab rfl hf) ?_)
structure EndsIn (N : Int) (E : Em.Ends) : Prop where
  start : 0 ≤ E.start ∧ E.start < N
  fail : 0 ≤ E.fail ∧ E.fail < N
  restore : 0 ≤ E.restore ∧ E.restore < N
  empty : 0 ≤ E.empty ∧ E.empty < N
  mtch : 0 ≤ E.mtch ∧ E.mtch < N
  take : 0 ≤ E.take ∧ E.take < N
  after : 0 ≤ E.after ∧ E.after < N
  done : 0 ≤ E.done ∧ E.done < N
theorem back_plain {N : Int} {E : Em.Ends} (h : EndsIn N E) : Plain N (backC E) := by
  unfold backC
  repeat' (first | exact plain_nil N | refine plain_cons (no_lab rfl) ?_ | refine plain_cons (the_lab rfl (by first | exact h.fail | exact h.restore | exact h.empty | exact h.done | exact h.start)) ?_)
theorem copy_plain {N : Int} (sl : Int) (n : Nat) : Plain N ((List.range n).flatMap (copyC sl)) := by
  intro c hc
  obtain ⟨j, _, hj⟩ := List.mem_flatMap.1 hc
  unfold copyC at hj
  simp at hj
  rcases hj with rfl | rfl <;> exact no_lab rfl
theorem match_plain {N : Int} {E : Em.Ends} (h : EndsIn N E) (n : Nat) : Plain N (matchC E n) := by
  unfold matchC
  refine plain_app (plain_app ?_ (copy_plain _ _)) ?_
  · unfold matchH
    repeat' (first | exact plain_nil N | refine plain_cons (no_lab rfl) ?_ | refine plain_cons (the_lab rfl (by first | exact h.take | exact h.after)) ?_)
  · unfold matchT
    repeat' (first | exact plain_nil N | refine plain_cons (no_lab rfl) ?_ | refine plain_cons (the_lab rfl h.fail) ?_)
theorem enter_plain {N : Int} {E : Em.Ends} {ls : List Int} {len n s0 : Nat} (h : 0 ≤ rd ls (s0 : Int) ∧ rd ls (s0 : Int) < N) : Plain N (enterC E ls len n s0) := by
  unfold enterC
  repeat' (first | exact plain_nil N | refine plain_cons (no_lab rfl) ?_ | refine plain_cons (the_lab rfl h) ?_)
theorem line_good {N L : Int} (hL : 0 ≤ L) {E : Em.Ends} (h : EndsIn N E) (a b : Int) : Good N L (lineC E a b L) := by
  intro c hc z hz
  unfold lineC at hc ⊢
  simp only [List.mem_cons, List.not_mem_nil, or_false] at hc
  rcases hc with rfl | rfl | rfl | rfl | rfl | rfl | rfl <;> simp only [labOf] at hz <;> (try cases hz)
  · exact .inr ⟨[.new, .br ⟨#[98, 101, 113]⟩ 22 a L, .op (three ⟨#[97, 100, 100]⟩ 5 23 22), .op (imm ⟨#[108, 98, 117]⟩ 5 5 b), .op (imm ⟨#[97, 100, 100, 105]⟩ 6 0 10), .br ⟨#[98, 110, 101]⟩ 5 6 E.fail], [], rfl, hL, by show L < L + ((1 : Nat) : Int); omega⟩
  · exact .inl h.fail
theorem side_good {N L : Int} (hL : 0 ≤ L) (r a b : Int) : Good N L (sideC r a b L) := by
  intro c hc z hz
  unfold sideC at hc ⊢
  simp only [List.mem_cons, List.not_mem_nil, or_false] at hc
  rcases hc with rfl | rfl | rfl | rfl | rfl | rfl | rfl | rfl <;> simp only [labOf] at hz <;> (try cases hz)
  exact .inr ⟨[.new, .op (Em.move r 0), .br ⟨#[98, 101, 113]⟩ 22 a L, .op (three ⟨#[97, 100, 100]⟩ 5 23 22), .op (imm ⟨#[108, 98, 117]⟩ 5 5 b), .op (three ⟨#[97, 100, 100]⟩ 5 5 21), .op (imm ⟨#[108, 98, 117]⟩ r 5 0)], [], rfl, hL, by show L < L + ((1 : Nat) : Int); omega⟩
theorem side_news (r a b L : Int) : newsC (sideC r a b L) = 1 := rfl
theorem words_good {N L : Int} (hL : 0 ≤ L) : Good N L (wordsC L) := by
  have e : wordsC L = sideC (sideR 0) (sideW 0) (sideB 0) (L + ((0 : Nat) : Int)) ++ (sideC (sideR 1) (sideW 1) (sideB 1) (L + ((1 : Nat) : Int)) ++ []) := rfl
  rw [e, List.append_nil]
  have e0 : L + ((0 : Nat) : Int) = L := by simp
  rw [e0]
  refine good_app (side_good hL _ _ _) ?_
  rw [side_news]
  exact side_good (by omega) _ _ _
theorem assert_good {N L : Int} (hL : 0 ≤ L) {E : Em.Ends} (h : EndsIn N E) (kind : Int) : Good N L (assertC E kind L) := by
  have one : ∀ (nm : ByteArray) (ra rb : Int), Plain N [.br nm ra rb E.fail] := fun nm ra rb => plain_cons (the_lab rfl h.fail) (plain_nil N)
  unfold assertC
  repeat' split
  · exact (one _ _ _).good
  · exact (one _ _ _).good
  · exact line_good hL h _ _
  · exact line_good hL h _ _
  · exact good_app (words_good hL) (one _ _ _).good
  · exact good_app (words_good hL) (one _ _ _).good
theorem job_plain (N a b : Int) : Plain N (jobC a b) := by
  unfold jobC
  repeat' (first | exact plain_nil N | refine plain_cons (no_lab rfl) ?_)
/-- Labels that an instruction leads to. -/
def LeadsIn (N : Int) (ls : List Int) (x : S61) : Prop := (x.f0 ≠ 5 → x.f0 ≠ 6 → 0 ≤ rd ls x.f3 ∧ rd ls x.f3 < N) ∧ (x.f0 = 2 → 0 ≤ rd ls x.f4 ∧ rd ls x.f4 < N)
theorem instB_good {N L : Int} (hL : 0 ≤ L) {E : Em.Ends} (h : EndsIn N E) {ls : List Int} {x : S61} (hx : LeadsIn N ls x) (h6 : 1 ≤ x.f0 ∧ x.f0 ≤ 6) : Good N L (instB E ls x L) := by
  have jmp : ∀ y, (0 ≤ y ∧ y < N) → Plain N [.jmp 0 y] := fun y hy => plain_cons (the_lab rfl hy) (plain_nil N)
  unfold instB
  split
  · rename_i e
    have h3 := hx.1 (by omega) (by omega)
    refine Plain.good ?_
    repeat' (first | exact plain_nil N | refine plain_cons (no_lab rfl) ?_ | refine plain_cons (the_lab rfl h.fail) ?_ | refine plain_cons (the_lab rfl h3) ?_)
  · split
    · rename_i e
      exact (plain_cons (the_lab rfl (hx.2 e)) (plain_app (job_plain N _ _) (jmp _ (hx.1 (by omega) (by omega))))).good
    · split
      · rename_i e
        exact (plain_app (plain_cons (no_lab rfl) (plain_cons (no_lab rfl) (plain_nil N))) (plain_app (job_plain N _ _) (plain_cons (no_lab rfl) (jmp _ (hx.1 (by omega) (by omega)))))).good
      · split
        · rename_i e
          exact good_app (assert_good hL h _) (jmp _ (hx.1 (by omega) (by omega))).good
        · split
          · exact (jmp _ h.mtch).good
          · exact (jmp _ h.fail).good
theorem instC_good {N L : Int} (hL : 0 ≤ L) {E : Em.Ends} (h : EndsIn N E) {ls : List Int} {i : Int} {x : S61} (hx : LeadsIn N ls x) (h6 : 1 ≤ x.f0 ∧ x.f0 ≤ 6) : Good N L (instC E ls i x L) := by
  have e : instC E ls i x L = ([.mrk (rd ls i)] ++ markC E i) ++ instB E ls x L := by unfold instC; simp
  rw [e]
  refine good_app (plain_app (plain_cons (no_lab rfl) (plain_nil N)) (mark_plain h.fail i)).good ?_
  rw [show newsC ([Cmd.mrk (rd ls i)] ++ markC E i) = 0 from rfl]
  rw [Int.natCast_zero, Int.add_zero]
  exact instB_good hL h hx h6
end Go.Proofs.YtpfcdhjknmijjaaGreat.Jc
end
section
set_option linter.unusedSimpArgs false
set_option linter.unusedVariables false
namespace Go.Proofs.YtpfcdhjknmijjaaGreat.Jc
open Go.Proofs.YtpfcdhjknmijjaaGreatW.PrintWords Go.Proofs.YtpfcdhjknmijjaaGreatW.PrintLast Go.Proofs.YtpfcdhjknmijjaaGreatW.PrintMore
open Go.RowKit Go.Proofs.YtpfcdhjknmijjaaGreat.Em Go.Proofs.YtpfcdhjknmijjaaGreat.Ve Go.Proofs.YtpfcdhjknmijjaaGreat.Rv Go.Proofs.YtpfcdhjknmijjaaGreat.As Go.Proofs.YtpfcdhjknmijjaaGreat.PEmitFinds
/-! ### The code of a checked program is whole -/
theorem mk_mem {A : AsmS} {z : Int} {l : List Cmd} (h : Cmd.mrk z ∈ l) (h0 : 0 ≤ z) (h1 : z < A.labels) : Mk (run A l) z := by
  obtain ⟨p, s, rfl⟩ := List.append_of_mem h
  exact mk_at p s h0 (by omega)
theorem labels_le (A : AsmS) (l : List Cmd) : A.labels ≤ (run A l).labels := by rw [run_labels]; omega
theorem insts_all {N : Int} {E : Em.Ends} {ls : List Int} (hE : EndsIn N E) (hN : 0 ≤ N) : ∀ (r : List S61) (i : Nat) (A : AsmS), N ≤ A.labels → Jn N A → AllOk A → (∀ x ∈ r, LeadsIn N ls x ∧ 1 ≤ x.f0 ∧ x.f0 ≤ 6) → (∀ j : Nat, i ≤ j → j < i + r.length → 0 ≤ rd ls (j : Int) ∧ rd ls (j : Int) < N) →
    Jn N (instsA E ls r i A) ∧ AllOk (instsA E ls r i A) ∧ N ≤ (instsA E ls r i A).labels ∧ (∀ z, Mk A z → Mk (instsA E ls r i A) z) ∧ (∀ j : Nat, i ≤ j → j < i + r.length → Mk (instsA E ls r i A) (rd ls (j : Int)))
  | [], i, A, hl, hJ, hO, hx, hj => ⟨hJ, hO, hl, fun z h => h, fun j h1 h2 => absurd h2 (by simp; omega)⟩
  | x :: r, i, A, hl, hJ, hO, hx, hj => by
    obtain ⟨hx1, hx2⟩ := hx x (List.mem_cons_self ..)
    have hi := hj i (Nat.le_refl _) (by simp)
    have ih := insts_all hE hN r (i + 1) (run A (instC E ls (i : Int) x A.labels)) (Int.le_trans hl (labels_le A _)) (jn_run hJ (instC_good (by omega) hE hx1 hx2)) (all_run hO _) (fun y hy => hx y (List.mem_cons_of_mem _ hy)) (fun j h1 h2 => hj j (by omega) (by simp; omega))
    obtain ⟨i1, i2, i3, i4, i5⟩ := ih
    refine ⟨i1, i2, i3, fun z h => i4 z (mk_run h _), fun j h1 h2 => ?_⟩
    by_cases e : j = i
    · subst e
      exact i4 _ (mk_mem (by unfold instC; exact List.mem_cons_self ..) hi.1 (by omega))
    · exact i5 j (by omega) (by simp at h2; omega)
theorem rd_lab {n : Nat} {z : Int} (h0 : 0 ≤ z) (h1 : z < n) : rd (labL n) z = z := by
  obtain ⟨k, rfl⟩ := Int.eq_ofNat_of_zero_le h0
  have hk : k < n := by omega
  unfold rd labL
  simp [hk]
theorem ends_in (n : Nat) : EndsIn ((n : Int) + 8) (endsE n) := by
  constructor <;> (unfold endsE; dsimp only; constructor <;> omega)
theorem ps_step (A : AsmS) (c : Cmd) : A.ps.length ≤ (c.step A).ps.length := by
  cases c with
  | op x => show _ ≤ (A.pushIf _ _).ps.length; unfold AsmS.pushIf; split <;> simp [AsmS.push]
  | br nm ra rb lab => show _ ≤ (A.pushIf _ _).ps.length; unfold AsmS.pushIf; split <;> simp [AsmS.push]
  | jmp rd lab => show _ ≤ (A.pushIf _ _).ps.length; unfold AsmS.pushIf; split <;> simp [AsmS.push]
  | adr rd lab => show _ ≤ (A.pushIf _ _).ps.length; unfold AsmS.pushIf; split <;> simp [AsmS.push]
  | mrk lab => show _ ≤ (A.markIf _ _).ps.length; unfold AsmS.markIf; split <;> simp [AsmS.mark]
  | num rd n => show _ ≤ (A.puts _).ps.length; simp [AsmS.puts]
  | new => exact Nat.le_refl _
theorem ps_run (l : List Cmd) : ∀ A : AsmS, A.ps.length ≤ (run A l).ps.length := by
  induction l with
  | nil => exact fun A => Nat.le_refl _
  | cons c l ih => exact fun A => Nat.le_trans (ps_step A c) (ih _)
theorem ps_insts {E : Em.Ends} {ls : List Int} : ∀ (r : List S61) (i : Nat) (A : AsmS), A.ps.length ≤ (instsA E ls r i A).ps.length
  | [], i, A => Nat.le_refl _
  | x :: r, i, A => Nat.le_trans (ps_run _ A) (ps_insts r (i + 1) _)
theorem first_enc : encC (Em.move 8 15) = 0 := by decide +kernel
theorem code_facts {l : List S61} {st sl : Nat} (hV : ValidP l st sl) (hl : l.length ≤ 200) : AllOk (codeA l st sl) ∧ Jn ((l.length : Int) + 8) (codeA l st sl) ∧ (∀ z, 0 ≤ z → z < (l.length : Int) + 8 → Mk (codeA l st sl) z) ∧ (codeA l st sl).ps.length ≤ 70000 ∧ 1 ≤ (codeA l st sl).ps.length := by
  have hE := ends_in l.length
  have hst := hV.start_
  have hsl := hV.chk.sl
  have hx : ∀ x ∈ l, LeadsIn ((l.length : Int) + 8) (labL l.length) x ∧ 1 ≤ x.f0 ∧ x.f0 ≤ 6 := by
    intro x hx
    have hF := hV.chk.fits x hx
    have hT := hV.tgt x hx
    have ho := hF.op
    refine ⟨⟨fun h5 h6 => ?_, fun h2 => ?_⟩, ho⟩
    · have h3 : x.f3 < (l.length : Int) := hT _ (by
        unfold leadsL
        have : x.f0 = 1 ∨ x.f0 = 2 ∨ x.f0 = 3 ∨ x.f0 = 4 := by omega
        rcases this with h | h | h | h <;> simp [h])
      have h0 := hF.x_.1
      rw [rd_lab h0 h3]; omega
    · have h3 : x.f4 < (l.length : Int) := hT _ (by unfold leadsL; simp [h2])
      have h0 := hF.y_.1
      rw [rd_lab h0 h3]; omega
  have hrd : ∀ j : Nat, j < l.length → 0 ≤ rd (labL l.length) (j : Int) ∧ rd (labL l.length) (j : Int) < (l.length : Int) + 8 := fun j hj => by rw [rd_lab (by omega) (by omega)]; omega
  have l0 : (A8 l.length).labels = (l.length : Int) + 8 := by show ((l.length + 8 : Nat) : Int) = _; omega
  have j0 : Jn ((l.length : Int) + 8) (A8 l.length) := fun x hx => by cases hx
  have a0 : AllOk (A8 l.length) := fun x hx => by cases hx
  have sm0 := small8 (n := l.length) (by omega)
  have hen : Plain ((l.length : Int) + 8) (enterC (endsE l.length) (labL l.length) l.length sl st) := enter_plain (hrd st (by omega))
  have j1 := jn_run j0 (l := enterC (endsE l.length) (labL l.length) l.length sl st) hen.good
  have a1 := all_run a0 (enterC (endsE l.length) (labL l.length) l.length sl st)
  have l1 := labels_le (A8 l.length) (enterC (endsE l.length) (labL l.length) l.length sl st)
  have sm1 := sm0.run (enterC (endsE l.length) (labL l.length) l.length sl st)
  have m1 : Mk (run (A8 l.length) (enterC (endsE l.length) (labL l.length) l.length sl st)) (endsE l.length).start := mk_mem (by unfold enterC; simp) hE.start.1 (by rw [l0]; exact hE.start.2)
  have p1 : 1 ≤ (run (A8 l.length) (enterC (endsE l.length) (labL l.length) l.length sl st)).ps.length := by
    have e : enterC (endsE l.length) (labL l.length) l.length sl st = .op (Em.move 8 15) :: (enterC (endsE l.length) (labL l.length) l.length sl st).tail := rfl
    rw [e, run_cons]
    refine Nat.le_trans ?_ (ps_run _ _)
    show 1 ≤ (AsmS.pushIf (A8 l.length) (encC (Em.move 8 15)) _).ps.length
    rw [first_enc]
    simp [AsmS.pushIf, AsmS.push]
  rw [l0] at l1
  unfold codeA
  rw [show (enterC (endsE l.length) (labL l.length) l.length sl st).length = 21 from rfl] at sm1
  generalize run (A8 l.length) (enterC (endsE l.length) (labL l.length) l.length sl st) = A1 at *
  obtain ⟨j2, a2, l2, k2, m2⟩ := insts_all hE (by omega) l 0 A1 l1 j1 a1 hx (fun j _ h => hrd j (by omega))
  have sm2 := insts_small (E := endsE l.length) (ls := labL l.length) sm1 l 0
  have p2 := Nat.le_trans p1 (ps_insts (E := endsE l.length) (ls := labL l.length) l 0 A1)
  have s2 := k2 _ m1
  clear k2 m1 p1 sm1 j1 a1 l1
  generalize instsA (endsE l.length) (labL l.length) l 0 A1 = A2 at *
  have j3 := jn_run j2 (back_plain hE).good
  have a3 := all_run a2 (backC (endsE l.length))
  have l3 := labels_le A2 (backC (endsE l.length))
  have sm3 := sm2.run (backC (endsE l.length))
  have p3 := Nat.le_trans p2 (ps_run (backC (endsE l.length)) A2)
  have t1 : Mk (run A2 (backC (endsE l.length))) (endsE l.length).fail := mk_mem (by unfold backC; simp) hE.fail.1 (by have := hE.fail.2; omega)
  have t2 : Mk (run A2 (backC (endsE l.length))) (endsE l.length).restore := mk_mem (by unfold backC; simp) hE.restore.1 (by have := hE.restore.2; omega)
  have t3 : Mk (run A2 (backC (endsE l.length))) (endsE l.length).empty := mk_mem (by unfold backC; simp) hE.empty.1 (by have := hE.empty.2; omega)
  have t0 := mk_run s2 (backC (endsE l.length))
  have tn : ∀ j : Nat, j < l.length → Mk (run A2 (backC (endsE l.length))) (rd (labL l.length) (j : Int)) := fun j hj => mk_run (m2 j (Nat.zero_le _) (by omega)) _
  rw [show (backC (endsE l.length)).length = 20 from rfl] at sm3
  clear s2 m2 p2 sm2 j2 a2
  generalize run A2 (backC (endsE l.length)) = A3 at *
  have hml := match_len (endsE l.length) sl
  have sm4 := sm3.run (matchC (endsE l.length) sl)
  have u4 : Mk (run A3 (matchC (endsE l.length) sl)) (endsE l.length).mtch := mk_mem (by unfold matchC matchH; simp) hE.mtch.1 (by have := hE.mtch.2; omega)
  have u5 : Mk (run A3 (matchC (endsE l.length) sl)) (endsE l.length).take := mk_mem (by unfold matchC matchH; simp) hE.take.1 (by have := hE.take.2; omega)
  have u6 : Mk (run A3 (matchC (endsE l.length) sl)) (endsE l.length).after := mk_mem (by unfold matchC matchT; simp) hE.after.1 (by have := hE.after.2; omega)
  have u7 : Mk (run A3 (matchC (endsE l.length) sl)) (endsE l.length).done := mk_mem (by unfold matchC matchT; simp) hE.done.1 (by have := hE.done.2; omega)
  refine ⟨all_run a3 _, jn_run j3 (match_plain hE sl).good, fun z h0 h1 => ?_, by have := sm4.ps; omega, Nat.le_trans p3 (ps_run _ A3)⟩
  by_cases hz : z < (l.length : Int)
  · obtain ⟨k, rfl⟩ := Int.eq_ofNat_of_zero_le h0
    have := tn k (by omega)
    rw [rd_lab h0 hz] at this
    exact mk_run this _
  · obtain ⟨d, hd⟩ : ∃ d : Nat, z = (l.length : Int) + d := ⟨(z - l.length).toNat, by omega⟩
    have hd8 : d < 8 := by omega
    subst hd
    match d, hd8 with
    | 0, _ => exact mk_run t0 _
    | 1, _ => exact mk_run t1 _
    | 2, _ => exact mk_run t2 _
    | 3, _ => exact mk_run t3 _
    | 4, _ => exact u4
    | 5, _ => exact u5
    | 6, _ => exact u6
    | 7, _ => exact u7
end Go.Proofs.YtpfcdhjknmijjaaGreat.Jc
end
section
set_option linter.unusedSimpArgs false
set_option linter.unusedVariables false
namespace Go.Proofs.YtpfcdhjknmijjaaGreat.Jc
open Go.Proofs.YtpfcdhjknmijjaaGreatW.PrintWords Go.Proofs.YtpfcdhjknmijjaaGreatW.PrintLast Go.Proofs.YtpfcdhjknmijjaaGreatW.PrintMore
open Go.RowKit Go.Proofs.YtpfcdhjknmijjaaGreat.Em Go.Proofs.YtpfcdhjknmijjaaGreat.Ve Go.Proofs.YtpfcdhjknmijjaaGreat.Rv Go.Proofs.YtpfcdhjknmijjaaGreat.As Go.Proofs.YtpfcdhjknmijjaaGreat.PEmitFinds
theorem ops_len {A : AsmS} {i : Nat} {x : Pc} {o : List OpI} (h : opsAt A i x = some o) : 1 ≤ o.length ∧ o.length ≤ 2 := by
  have hF : ∀ far, 1 ≤ (opsF x far).1.length ∧ (opsF x far).1.length ≤ 2 := by
    intro far
    unfold opsF
    repeat' split
    all_goals simp
  unfold opsAt at h
  split at h
  · injection h with h; subst h; simp
  · split at h
    · cases h
    · split at h
      · injection h with h; subst h; exact hF _
      · cases h
theorem piece_len {A : AsmS} {i : Nat} {x : Pc} {bs : List Int} (h : pieceB A i x = some bs) : bs.length % 4 = 0 ∧ 4 ≤ bs.length ∧ bs.length ≤ 8 := by
  unfold pieceB at h
  obtain ⟨o, h1, h2⟩ := Option.bind_eq_some_iff.1 h
  have hl := encB_len _ _ h2
  have ho := ops_len h1
  omega
theorem text_all {A : AsmS} (h : ∀ i (hi : i < A.ps.length), ∃ bs, pieceB A i A.ps[i] = some bs) : ∀ k, k ≤ A.ps.length → ∃ bs, textL A k = some bs ∧ bs.length % 4 = 0 ∧ 4 * k ≤ bs.length ∧ bs.length ≤ 8 * k
  | 0, _ => ⟨[], rfl, rfl, by simp, by simp⟩
  | k + 1, hk => by
    obtain ⟨bs, h1, h2, h3, h4⟩ := text_all h k (by omega)
    obtain ⟨cs, hc⟩ := h k (by omega)
    obtain ⟨p1, p2, p3⟩ := piece_len hc
    refine ⟨bs ++ cs, ?_, by rw [List.length_append]; omega, by rw [List.length_append]; omega, by rw [List.length_append]; omega⟩
    show (textL A k).bind _ = _
    rw [h1, Option.bind_some, List.getElem?_eq_getElem (by omega), Option.bind_some, hc]
    rfl
/-- The code of a checked program of at most 200 instructions. -/
theorem code_whole {l : List S61} {st sl : Nat} (hV : ValidP l st sl) (hl : l.length ≤ 200) : (codeT l st sl).2 = 0 ∧ (codeT l st sl).1.size % 4 = 0 ∧ 4 ≤ (codeT l st sl).1.size ∧ (codeT l st sl).1.size ≤ 1048576 := by
  obtain ⟨hO, hJ, hM, hs, h1⟩ := code_facts hV hl
  obtain ⟨A, hA⟩ : ∃ A, codeA l st sl = A := ⟨_, rfl⟩
  rw [hA] at hO hJ hM hs h1
  have hlen : (settleF A).ps.length = A.ps.length := withL_len _ _
  have hp : ∀ i (hi : i < (settleF A).ps.length), ∃ bs, pieceB (settleF A) i (settleF A).ps[i] = some bs := by
    intro i hi
    have hi' : i < A.ps.length := by rw [hlen] at hi; exact hi
    have e : (settleF A).ps[i] = { A.ps[i] with long := longF A i } := withL_get hi'
    rw [e]
    refine piece_ok hO hs hi' (fun h0 => ?_)
    have hx := List.getElem_mem hi'
    rcases hJ _ hx h0 with h2 | h2
    · exact hM _ h2.1 h2.2
    · exact h2
  obtain ⟨bs, b1, b2, b3, b4⟩ := text_all hp (settleF A).ps.length (Nat.le_refl _)
  rw [hlen] at b3 b4
  have ht : textT (settleF A) = (As.strOf bs, 0) := by unfold textT; rw [b1]
  have hz : (As.strOf bs).size = bs.length := Em.strOf_size bs
  unfold codeT
  rw [hA, ht]
  dsimp only
  rw [if_neg (by rw [hz]; omega)]
  dsimp only
  rw [hz]
  omega
end Go.Proofs.YtpfcdhjknmijjaaGreat.Jc
end
