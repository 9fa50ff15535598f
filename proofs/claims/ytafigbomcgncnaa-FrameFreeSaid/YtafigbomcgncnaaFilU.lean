/-
  Layer 10: Read, whole; what Crash does, in plain.
-/
import Derived.Test.YtafigbomcgncnaaFilT
import Derived.Test.YtafigbomcgncnaaZeros
namespace Go.Dav
set_option linter.unusedVariables false
set_option linter.unusedSimpArgs false
open Go Go.RowKit

/-- How much of a piece stays. -/
def staysOf (keep : List Bool) (tear cut : Int) (i : Nat) (p : List UInt8) : Nat :=
  if (i : Int) = tear then min (max cut 0).toNat p.length else if keep[i]? = some true then p.length else 0
def crashStep (keep : List Bool) (tear cut : Int) (s : List UInt8 × Nat) (i : Nat) (p : List UInt8) : List UInt8 × Nat :=
  if 0 < staysOf keep tear cut i p then (s.1 ++ List.replicate s.2 0 ++ p.take (staysOf keep tear cut i p), p.length - staysOf keep tear cut i p) else (s.1, s.2 + p.length)
/-- .. behind the first k pieces. -/
def crashTo (F : FileD) (keep : List Bool) (tear cut : Int) : Nat → List UInt8 × Nat
  | 0 => (F.firm, 0)
  | k + 1 => match F.loose[k]? with
    | some p => crashStep keep tear cut (crashTo F keep tear cut k) k p
    | none => crashTo F keep tear cut k
theorem crashTo_succ {F : FileD} {keep : List Bool} {tear cut : Int} {k : Nat} {p : List UInt8} (h : F.loose[k]? = some p) : crashTo F keep tear cut (k + 1) = crashStep keep tear cut (crashTo F keep tear cut k) k p := by
  rw [crashTo, h]
def FileD.crash (F : FileD) (keep : List Bool) (tear cut : Int) : FileD × Int :=
  if F.right = true then ({ firm := (crashTo F keep tear cut F.loose.length).1, loose := [], fuse := -1, fault := -1, off := false }, 0) else (F, 200)
theorem staysOf_le (keep : List Bool) (tear cut : Int) (i : Nat) (p : List UInt8) : staysOf keep tear cut i p ≤ p.length := by
  unfold staysOf; split
  · exact Nat.min_le_right _ _
  · split <;> omega
/-- No more bytes than there were. -/
theorem crashTo_le (F : FileD) (keep : List Bool) (tear cut : Int) : ∀ k, (crashTo F keep tear cut k).1.length + (crashTo F keep tear cut k).2 ≤ F.firm.length + sumTo F.loose k
  | 0 => by simp [crashTo]
  | k + 1 => by
    have ih := crashTo_le F keep tear cut k
    cases h : F.loose[k]? with
    | none =>
      have e : crashTo F keep tear cut (k + 1) = crashTo F keep tear cut k := by rw [crashTo, h]
      rw [e]
      have : sumTo F.loose (k + 1) = sumTo F.loose k := by
        unfold sumTo
        rw [List.take_of_length_le (by have := List.getElem?_eq_none_iff.1 h; omega), List.take_of_length_le (by have := List.getElem?_eq_none_iff.1 h; omega)]
      omega
    | some p =>
      have hs := staysOf_le keep tear cut k p
      rw [crashTo_succ h, sumTo_succ h]
      unfold crashStep
      split
      · simp; omega
      · simp; omega
end Go.Dav
namespace Go.Proofs.Ytafigbomcgncnaa
set_option linter.unusedVariables false
set_option linter.unusedSimpArgs false
open Go.RowKit Go.Dav Go.Shelf
theorem Try_Read (F : FileD) (fa la : Option Addr) (fl fc ll lc : Nat) (at_ n : Int) (w : World) (S : Nat → Prop) (hF : FileS w S fa fl fc la ll lc F) (hS : ∀ b, S b → b < w.heap.size) (h1 : I64' at_) (h2 : I64' n) :
    Calls Try.prog 41 #[.agg #[.slice fa fl fc, .slice la ll lc, .int .i64 F.fuse, .int .i64 F.fault, .bool F.off], .int .i64 at_, .int .i64 n] w (GivesRead w (F.read at_ n).1 (F.read at_ n).2) := by
  by_cases h : (F.read at_ n).2 = 0
  · have hr : F.right = true := by
      apply Classical.byContradiction
      intro hr
      unfold FileD.read at h
      rw [if_neg hr] at h
      cases h
    have hab : ¬ (at_ < 0 ∨ n < 0) := fun hab => by
      unfold FileD.read at h
      rw [if_pos hr, if_pos hab] at h
      cases h
    have hm : ¬ (F.many : Int) - at_ < n := fun hm => by
      unfold FileD.read at h
      rw [if_pos hr, if_neg hab, if_pos hm] at h
      cases h
    have e : F.read at_ n = ((F.all.drop at_.toNat).take n.toNat, 0) := by
      unfold FileD.read
      rw [if_pos hr, if_neg hab, if_neg hm]
    rw [e]
    have ea : at_ = ((at_.toNat : Nat) : Int) := by omega
    have en : n = ((n.toNat : Nat) : Int) := by omega
    have := Try_Read_yes F fa la fl fc ll lc at_.toNat n.toNat w S hF hS hr (by omega)
    rw [← ea, ← en] at this
    exact this
  · exact Try_Read_no F fa la fl fc ll lc at_ n w hF.at_ h1 h2 h
end Go.Proofs.Ytafigbomcgncnaa
