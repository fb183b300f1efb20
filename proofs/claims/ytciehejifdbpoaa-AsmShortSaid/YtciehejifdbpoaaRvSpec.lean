import Derived.Test.YtciehejifdbpoaaRvEnc
namespace Go.Proofs.Ytciehejifdbpoaa.Rv
open Go.RowKit

/-- The first kind of a name; 64: there is none. -/
def nIdx (nm : ByteArray) : Nat := kinds.findIdx fun x => decide (x.1 = nm)
/-- The first kind whose bits a word has; 64: there is none. -/
def dIdx (x : Int) : Nat := kinds.findIdx fun y => Go.bits .and .u32 x (ownI y.2.1) == y.2.2

def encF (nm : ByteArray) (rd ra rb imm : Int) : Int × Int :=
  if nIdx nm < 64 ∧ encOk (kd (nIdx nm)).2.1 rd ra rb imm = true then (wordOf (kd (nIdx nm)).2.2 (kd (nIdx nm)).2.1 rd ra rb imm, 0) else (0, 260)

structure OpI where
  name : ByteArray
  rd : Int
  ra : Int
  rb : Int
  imm : Int
  deriving DecidableEq

def decAt (k : Nat) (x : Int) : OpI :=
  ⟨(kd k).1, rgN (prt (kd k).2.1).1 x 7, rgN (prt (kd k).2.1).2.1 x 15, rgN (prt (kd k).2.1).2.2.1 x 20, gat (kd k).2.1 x⟩
def decF (x : Int) : OpI × Int := if dIdx x < 64 then (decAt (dIdx x) x, 0) else (⟨⟨#[]⟩, 0, 0, 0, 0⟩, 260)

theorem kinds_len : kinds.length = 64 := by decide
theorem kd_eq (j : Nat) (h : j < 64) : kd j = kinds[j]'(by rw [kinds_len]; exact h) := by
  unfold kd
  rw [List.getD_eq_getElem?_getD, List.getElem?_eq_getElem (by rw [kinds_len]; exact h)]; rfl

theorem findIdx_is {p : ByteArray × Int × Int → Bool} {k : Nat} (hk : k < 64) (h1 : ∀ j, j < k → p (kd j) = false) (h2 : p (kd k) = true) : kinds.findIdx p = k := by
  have hl : k < kinds.length := by rw [kinds_len]; exact hk
  refine (List.findIdx_eq hl).2 ⟨by rw [← kd_eq k hk]; exact h2, fun j hj => ?_⟩
  rw [← kd_eq j (by omega)]
  exact h1 j hj
theorem findIdx_none {p : ByteArray × Int × Int → Bool} (h1 : ∀ j, j < 64 → p (kd j) = false) : kinds.findIdx p = 64 := by
  rw [← kinds_len]
  refine List.findIdx_eq_length.2 (fun x hx => ?_)
  obtain ⟨j, hj, rfl⟩ := List.mem_iff_getElem.1 hx
  rw [kinds_len] at hj
  rw [← kd_eq j hj]
  exact h1 j hj

theorem encode_any (nm : ByteArray) (rd ra rb imm : Int) (w : World) : Calls Try.prog 17 #[opV nm rd ra rb imm] w fun e w' =>
    e = .returned (.tuple #[.int .u32 (encF nm rd ra rb imm).1, .int .i64 (encF nm rd ra rb imm).2]) ∧ Below w.heap.size w w' := by
  refine (encode_calls nm rd ra rb imm w).mono fun e w' h => ?_
  obtain ⟨h, hb⟩ := h
  refine ⟨?_, hb⟩
  rcases h with ⟨hn, he⟩ | ⟨k, hk, hn, hm, h⟩
  · have : nIdx nm = 64 := findIdx_none fun j hj => by simpa using hn j hj
    rw [he, encF, this]; rfl
  · have : nIdx nm = k := findIdx_is hk (fun j hj => by simpa using hn j hj) (by simpa using hm)
    rcases h with ⟨ho, he⟩ | ⟨ho, he⟩
    · rw [he, encF, this, if_neg (fun h => by rw [ho] at h; cases h.2)]
    · rw [he, encF, this, if_pos ⟨hk, ho⟩]

theorem decode_any (x : Int) (w : World) : Calls Try.prog 15 #[.int .u32 x] w fun e w' =>
    e = .returned (.tuple #[opV (decF x).1.name (decF x).1.rd (decF x).1.ra (decF x).1.rb (decF x).1.imm, .int .i64 (decF x).2]) ∧ Below w.heap.size w w' := by
  refine (decode_calls x w).mono fun e w' h => ?_
  obtain ⟨h, hb⟩ := h
  refine ⟨?_, hb⟩
  rcases h with ⟨hn, he⟩ | ⟨k, hk, hn, hm, he⟩
  · have : dIdx x = 64 := findIdx_none fun j hj => by simpa using hn j hj
    rw [he, decF, this]; rfl
  · have : dIdx x = k := findIdx_is hk (fun j hj => by simpa using hn j hj) (by simpa using hm)
    rw [he, decF, this, if_pos hk]; rfl
end Go.Proofs.Ytciehejifdbpoaa.Rv
