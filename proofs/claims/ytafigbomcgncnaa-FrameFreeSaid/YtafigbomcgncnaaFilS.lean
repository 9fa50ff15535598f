/-
  Layer 10: Read, walked: where it reads.
-/
import Derived.Test.YtafigbomcgncnaaFilR
namespace Go.Dav
set_option linter.unusedVariables false
set_option linter.unusedSimpArgs false
open Go Go.RowKit

/-- What of a run lies between at and at + n. -/
def part {W : World} {S : Nat → Prop} (at_ n : Nat) (x : RunT W S) : List UInt8 := (x.1.l.take (at_ + n - x.1.at_.toNat)).drop (at_ - x.1.at_.toNat)
def readOf {W : World} {S : Nat → Prop} (at_ n : Nat) (xs : List (RunT W S)) : List UInt8 := (xs.map (part at_ n)).flatten
theorem readOf_snoc {W : World} {S : Nat → Prop} (at_ n : Nat) (xs : List (RunT W S)) (x : RunT W S) : readOf at_ n (xs ++ [x]) = readOf at_ n xs ++ part at_ n x := by simp [readOf]
/-- .. of rows that lie one behind the other from o on. -/
def rowsOf (at_ n : Nat) : Nat → List (List UInt8) → List UInt8
  | _, [] => []
  | o, l :: ls => (l.take (at_ + n - o)).drop (at_ - o) ++ rowsOf at_ n (o + l.length) ls
theorem rowsOf_eq (at_ n : Nat) : ∀ (ls : List (List UInt8)) (o : Nat), rowsOf at_ n o ls = (ls.flatten.take (at_ + n - o)).drop (at_ - o)
  | [], o => by simp [rowsOf]
  | l :: ls, o => by
    rw [rowsOf, rowsOf_eq at_ n ls, List.flatten_cons, List.take_append, List.drop_append, List.length_take]
    congr 1
    by_cases h : l.length ≤ at_ + n - o
    · rw [Nat.min_eq_right h, Nat.sub_sub, Nat.sub_sub]
    · have h1 : at_ + n - o - l.length = 0 := by omega
      have h2 : at_ + n - (o + l.length) = 0 := by omega
      rw [h1, h2]; simp
theorem readOf_rows {W : World} {S : Nat → Prop} (at_ n : Nat) : ∀ (xs : List (RunT W S)) (o : Nat), (∀ (j : Nat) x, xs[j]? = some x → x.1.at_ = ((o + ((xs.take j).map fun y => y.1.l.length).sum : Nat) : Int)) → readOf at_ n xs = rowsOf at_ n o (xs.map fun y => y.1.l)
  | [], o, _ => rfl
  | x :: xs, o, h => by
    have h0 := h 0 x rfl
    have ih := readOf_rows at_ n xs (o + x.1.l.length) fun j y hy => by
      have := h (j + 1) y (by simpa using hy)
      rw [this, List.take_succ_cons, List.map_cons, List.sum_cons]
      omega
    have e : readOf at_ n (x :: xs) = part at_ n x ++ readOf at_ n xs := by simp [readOf]
    have e2 : x.1.at_.toNat = o := by rw [h0]; simp
    rw [e, ih, List.map_cons, rowsOf]
    unfold part
    rw [e2]
theorem runAt_sum (F : FileD) (j : Nat) : runAt F j = (((F.firm :: F.loose).take j).map List.length).sum := by cases j <;> simp [runAt, sumTo]
theorem RunsTo.at_ {W : World} {S : Nat → Prop} {F : FileD} {k : Nat} {xs : List (RunT W S)} (h : RunsTo F k xs) : ∀ (j : Nat) x, xs[j]? = some x → x.1.at_ = ((0 + ((xs.take j).map fun y => y.1.l.length).sum : Nat) : Int) := fun j x hj => by
  have hjl := (List.getElem?_eq_some_iff.1 hj).1
  have hlen : xs.length = min k (F.loose.length + 1) := by
    have h1 := congrArg List.length h.1
    rw [List.length_map, List.length_take, List.length_cons] at h1
    exact h1
  rw [h.2 j x hj, runAt_sum]
  have e : (F.firm :: F.loose).take j = (xs.take j).map fun y => y.1.l := by
    rw [List.map_take, h.1, List.take_take, Nat.min_eq_left (by omega)]
  rw [e, List.map_map]
  simp [Function.comp_def]
theorem readOf_all {W : World} {S : Nat → Prop} {F : FileD} {xs : List (RunT W S)} (at_ n : Nat) (h : RunsTo F (F.loose.length + 1) xs) : readOf at_ n xs = (F.all.drop at_).take n := by
  rw [readOf_rows at_ n xs 0 h.at_, rowsOf_eq, h.1, List.take_of_length_le (l := F.firm :: F.loose) (i := F.loose.length + 1) (by simp)]
  simp [FileD.all, List.drop_take]
theorem readOf_some {W : World} {S : Nat → Prop} {F : FileD} {k : Nat} {xs : List (RunT W S)} {x : RunT W S} (at_ n : Nat) (h : RunsTo F k (xs ++ [x])) (hx : ((at_ + n : Nat) : Int) ≤ x.1.at_) : readOf at_ n xs = (F.all.drop at_).take n := by
  have h1 : RunsTo F xs.length xs := by
    refine ⟨?_, fun j y hy => h.2 j y (by rw [List.getElem?_append_left (List.getElem?_eq_some_iff.1 hy).1]; exact hy)⟩
    have h2 := congrArg (List.take xs.length) h.1
    have hlen : xs.length + 1 = min k (F.loose.length + 1) := by
      have h1 := congrArg List.length h.1
      rw [List.length_map, List.length_take, List.length_cons, List.length_append] at h1
      exact h1
    rw [List.map_append, List.take_append_of_le_length (by simp), List.take_of_length_le (by simp), List.take_take, Nat.min_eq_left (by omega)] at h2
    exact h2
  have h3 := h.2 xs.length x (by simp)
  rw [h3, runAt_sum] at hx
  rw [readOf_rows at_ n xs 0 h1.at_, rowsOf_eq, h1.1]
  have e : F.all = ((F.firm :: F.loose).take xs.length).flatten ++ ((F.firm :: F.loose).drop xs.length).flatten := by
    rw [← List.flatten_append, List.take_append_drop]; rfl
  rw [e, List.take_drop, List.take_append_of_le_length (by rw [List.length_flatten]; omega)]
  simp
theorem CellsS.part {W : World} {S : Nat → Prop} {b o n lo hi : Nat} {xs : List Value} (h : CellsS W S (some ⟨b, o, none⟩) n xs) (h1 : lo ≤ hi) (h2 : hi ≤ n) : CellsS W S (some ⟨b, o + lo, none⟩) (hi - lo) ((xs.take hi).drop lo) :=
  ⟨by rw [List.length_drop, List.length_take, h.len]; omega, fun k v hk => by
    rw [List.getElem?_drop] at hk
    have hlt := (List.getElem?_eq_some_iff.1 hk).1
    rw [List.length_take] at hlt
    rw [List.getElem?_take_of_lt (by omega)] at hk
    obtain ⟨b', o', g1, g2, g3, g4⟩ := h.at_ _ v hk
    cases g1
    exact ⟨b, o + lo, rfl, g2, g3, by rw [Nat.add_assoc]; exact g4⟩⟩
end Go.Dav
