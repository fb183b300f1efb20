import Derived.Test.YtpfcdhjknmijjaaGreatCo37
section
set_option linter.unusedSimpArgs false
set_option linter.unusedVariables false
set_option maxRecDepth 100000
namespace Go.Proofs.YtpfcdhjknmijjaaGreat.Ew
open Go.RowKit Go.Maps Go.Proofs.YtpfcdhjknmijjaaGreat.Em Go.Proofs.YtpfcdhjknmijjaaGreat.Ve Go.Proofs.YtpfcdhjknmijjaaGreat.Grow Go.Proofs.YtpfcdhjknmijjaaGreat.Rv Go.Proofs.YtpfcdhjknmijjaaGreat.PEmitFinds Go.Proofs.YtpfcdhjknmijjaaGreat.Ht
open Go.Proofs.YtpfcdhjknmijjaaGreatW.PrintWords Go.Proofs.YtpfcdhjknmijjaaGreatW.PrintLast Go.Proofs.YtpfcdhjknmijjaaGreatW.PrintMore
/-- All that is known of an example. -/
structure ExP (l : List S61) (st sl : Nat) (T : ByteArray) (x : ByteArray) (L : List S89) (R : List RegIn) (F : Int) (O : HartS) (n : Nat) (bs : List Int) (rs : List Int) : Prop where
  valid : ValidP l st sl
  code : codeT l st sl = (T, 0)
  ne : T.toList.isEmpty = false
  nx : x.toList.isEmpty = false
  sz : x.size ≤ 1000000
  regs : burinref30_Regions.f 600 l st sl T x = some L
  len : L.length = 4
  rlen : R.length = 4
  same : ∀ (i : Nat) (h : i < 4), (rd_T89 L i).f0 = (R[i]'(by omega)).base ∧ (rd_T89 L i).f1 = (R[i]'(by omega)).data ∧ (rd_T89 L i).f2 = (R[i]'(by omega)).rights
  ok : RegsOk R
  good : GoodH (setsF (new0 (memOf R) 65536) (regL x.size 0 false false) 32)
  fuel : fuelF l.length x.size = F
  few : F < 1000000
  ran : runF 32768 F.toNat 0 (setsF (new0 (memOf R) 65536) (regL x.size 0 false false) 32) = (O, n, 0)
  big : 10 < n
  mem : 3 < O.mem.rs.length
  got : (O.mem.rs[3]'mem).bytes = bs
  work : workF l.length sl x.size = bs.length
  ans : O.reg 10 = 1
  told : burinref30_Told.f 100 l st sl 1 (As.strOf bs) = some (true, rs)
  idx : ∀ (w : World) (k : Nat), k < 32 → (Instr.index 83 (.agg (regC x.size 0 false false)) (.int .i64 (k : Int))).run Tryz.prog w = .ok (.int .u64 ((regL x.size 0 false false).getD k 0)) w
theorem at_add (g m : Nat) : (⟨g, 0, none⟩ : Addr).add m = ⟨g, m, none⟩ := by
  unfold Addr.add
  split
  · rename_i e; simp [e]
  · simp
end Go.Proofs.YtpfcdhjknmijjaaGreat.Ew
end
