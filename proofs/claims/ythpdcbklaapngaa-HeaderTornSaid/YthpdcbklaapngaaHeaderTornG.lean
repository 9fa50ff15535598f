/-
  Layer 10: the reference's Crash, byte by byte, in plain: what the row holds on the way, and what comes of it.
  Layer 10: Crash, whole.
  Layer 12, the plain law: which header is the last one, whatever is laid.
  Layer 12: finds, walked.
  Layer 10: files that lie apart from the call's own boxes.
  Layer 12: steps, walked.
  How the statements' arguments are opened: steps, headers, losses.
  HeaderTorn, walked.
-/
import Derived.Test.YthpdcbklaapngaaHeaderTornD
import Derived.Test.YthpdcbklaapngaaHeaderTornF
import Derived.Deep.DeepCutAuto
import Derived.Test.YthpdcbklaapngaaHeaderTornA
import Derived.Lib.SmallJoins
namespace Go.Dav
set_option linter.unusedVariables false
set_option linter.unusedSimpArgs false
open Go Go.RowKit

theorem crashTo_len (F : FileD) (keep : List Bool) (tear cut : Int) : ∀ k, (crashTo F keep tear cut k).1.length + (crashTo F keep tear cut k).2 = F.firm.length + sumTo F.loose k
  | 0 => by simp [crashTo, sumTo]
  | k + 1 => by
    have ih := crashTo_len F keep tear cut k
    cases h : F.loose[k]? with
    | none =>
      have e : crashTo F keep tear cut (k + 1) = crashTo F keep tear cut k := by rw [crashTo, h]
      have hl := List.getElem?_eq_none_iff.1 h
      have : sumTo F.loose (k + 1) = sumTo F.loose k := by
        unfold sumTo
        rw [List.take_of_length_le (by omega), List.take_of_length_le (by omega)]
      rw [e]; omega
    | some p =>
      have hs := staysOf_le keep tear cut k p
      rw [crashTo_succ h, sumTo_succ h]
      unfold crashStep
      split
      · simp; omega
      · simp; omega

/-- Does a byte stay: the j-th of piece i? -/
def staysB (keep : List Bool) (tear cut : Int) (i j : Nat) : Bool := if (i : Int) = tear then decide ((j : Int) < cut) else decide (keep[i]? = some true)
theorem staysB_iff {keep : List Bool} {tear cut : Int} {i j : Nat} {p : List UInt8} (hj : j < p.length) : staysB keep tear cut i j = true ↔ j < staysOf keep tear cut i p := by
  unfold staysB staysOf
  split
  · simp; omega
  · split <;> simp [*]

def looseAt (F : FileD) (k : Nat) : List UInt8 := (F.loose[k]?).getD []
theorem looseAt_get {F : FileD} {k : Nat} {p : List UInt8} (h : F.loose[k]? = some p) : looseAt F k = p := by unfold looseAt; rw [h]; rfl
/-- The row, behind k pieces and j bytes of the next one. -/
def rowOf (F : FileD) (keep : List Bool) (tear cut : Int) (k j : Nat) : List UInt8 :=
  (crashTo F keep tear cut k).1 ++ (List.replicate (crashTo F keep tear cut k).2 0 ++ ((looseAt F k).take (min j (staysOf keep tear cut k (looseAt F k))) ++ (List.replicate (j - min j (staysOf keep tear cut k (looseAt F k))) 0 ++ ((looseAt F k).drop j ++ (F.loose.drop (k + 1)).flatten))))
def endOf (F : FileD) (keep : List Bool) (tear cut : Int) (k j : Nat) : Nat :=
  if 0 < min j (staysOf keep tear cut k (looseAt F k)) then F.firm.length + sumTo F.loose k + min j (staysOf keep tear cut k (looseAt F k)) else (crashTo F keep tear cut k).1.length

theorem drop_piece (F : FileD) (k : Nat) : looseAt F k ++ (F.loose.drop (k + 1)).flatten = (F.loose.drop k).flatten := by
  unfold looseAt
  by_cases h : k < F.loose.length
  · rw [List.drop_eq_getElem_cons h, List.flatten_cons, List.getElem?_eq_getElem h]; rfl
  · rw [List.drop_eq_nil_of_le (by omega), List.drop_eq_nil_of_le (by omega), List.getElem?_eq_none (by omega)]; rfl
theorem rowOf_head (F : FileD) (keep : List Bool) (tear cut : Int) (k : Nat) : rowOf F keep tear cut k 0 = (crashTo F keep tear cut k).1 ++ (List.replicate (crashTo F keep tear cut k).2 0 ++ (F.loose.drop k).flatten) := by
  unfold rowOf
  rw [← drop_piece F k]
  simp
theorem rowOf_zero (F : FileD) (keep : List Bool) (tear cut : Int) : rowOf F keep tear cut 0 0 = F.all := by
  rw [rowOf_head]; simp [crashTo, FileD.all]
theorem rowOf_next {F : FileD} {keep : List Bool} {tear cut : Int} {k : Nat} {p : List UInt8} (h : F.loose[k]? = some p) : rowOf F keep tear cut k p.length = rowOf F keep tear cut (k + 1) 0 := by
  have hs := staysOf_le keep tear cut k p
  rw [rowOf_head, crashTo_succ h]
  unfold rowOf
  rw [looseAt_get h, Nat.min_eq_right hs, List.drop_length, List.nil_append]
  unfold crashStep
  split
  · simp
  · have h0 : staysOf keep tear cut k p = 0 := by omega
    rw [h0]
    simp only [List.take_zero, List.nil_append, Nat.sub_zero]
    show _ ++ (_ ++ (_ ++ _)) = _ ++ (List.replicate (_ + p.length) 0 ++ _)
    rw [← List.replicate_append_replicate (n := (crashTo F keep tear cut k).2) (m := p.length), List.append_assoc (List.replicate _ _)]
theorem endOf_zero (F : FileD) (keep : List Bool) (tear cut : Int) (k : Nat) : endOf F keep tear cut k 0 = (crashTo F keep tear cut k).1.length := by unfold endOf; simp
theorem endOf_next {F : FileD} {keep : List Bool} {tear cut : Int} {k : Nat} {p : List UInt8} (h : F.loose[k]? = some p) : endOf F keep tear cut k p.length = endOf F keep tear cut (k + 1) 0 := by
  have hs := staysOf_le keep tear cut k p
  have hl := crashTo_len F keep tear cut k
  rw [endOf_zero, crashTo_succ h]
  unfold endOf crashStep
  rw [looseAt_get h, Nat.min_eq_right hs]
  split
  · simp; omega
  · rfl
theorem rowOf_length (F : FileD) (keep : List Bool) (tear cut : Int) (k j : Nat) (hj : j ≤ (looseAt F k).length) : (rowOf F keep tear cut k j).length = F.many := by
  have h1 := crashTo_len F keep tear cut k
  have h2 := congrArg List.length (drop_piece F k)
  have h3 : (F.loose.map List.length).sum = sumTo F.loose k + ((F.loose.drop k).flatten).length := by
    unfold sumTo; rw [List.length_flatten, ← List.sum_append, ← List.map_append, List.take_append_drop]
  unfold rowOf FileD.many
  have h4 := staysOf_le keep tear cut k (looseAt F k)
  simp only [List.length_append, List.length_replicate, List.length_take, List.length_drop] at h2 ⊢
  omega
theorem rowOf_stays {F : FileD} {keep : List Bool} {tear cut : Int} {k j : Nat} {p : List UInt8} (h : F.loose[k]? = some p) (hj : j < p.length) (hs : staysB keep tear cut k j = true) :
    rowOf F keep tear cut k (j + 1) = rowOf F keep tear cut k j ∧ endOf F keep tear cut k (j + 1) = F.firm.length + sumTo F.loose k + j + 1 := by
  have h1 := (staysB_iff hj).1 hs
  unfold rowOf endOf
  rw [looseAt_get h, Nat.min_eq_left (by omega : j + 1 ≤ _), Nat.min_eq_left (by omega : j ≤ _), Nat.sub_self, Nat.sub_self]
  refine ⟨?_, by rw [if_pos (by omega)]; omega⟩
  congr 2
  rw [List.replicate_zero, List.nil_append, List.nil_append, ← List.append_assoc, ← List.append_assoc, List.take_append_drop, List.take_append_drop]
theorem rowOf_goes {F : FileD} {keep : List Bool} {tear cut : Int} {k j : Nat} {p : List UInt8} (h : F.loose[k]? = some p) (hj : j < p.length) (hs : staysB keep tear cut k j = false) :
    rowOf F keep tear cut k (j + 1) = (rowOf F keep tear cut k j).set (F.firm.length + sumTo F.loose k + j) 0 ∧ endOf F keep tear cut k (j + 1) = endOf F keep tear cut k j := by
  have h1 : ¬ j < staysOf keep tear cut k p := fun h1 => by rw [(staysB_iff hj).2 h1] at hs; cases hs
  have hl := crashTo_len F keep tear cut k
  unfold rowOf endOf
  rw [looseAt_get h, Nat.min_eq_right (by omega : _ ≤ j + 1), Nat.min_eq_right (by omega : _ ≤ j)]
  refine ⟨?_, rfl⟩
  have hsl := staysOf_le keep tear cut k p
  generalize hst : staysOf keep tear cut k p = st at *
  rw [List.set_append_right _ _ (by omega), List.set_append_right _ _ (by simp; omega), List.set_append_right _ _ (by simp; omega), List.set_append_right _ _ (by simp; omega)]
  have e : F.firm.length + sumTo F.loose k + j - (crashTo F keep tear cut k).1.length - (List.replicate (crashTo F keep tear cut k).2 (0 : UInt8)).length - (p.take st).length - (List.replicate (j - st) (0 : UInt8)).length = 0 := by
    simp; omega
  rw [e, List.drop_eq_getElem_cons hj, List.cons_append, List.set_cons_zero]
  congr 3
  rw [show j + 1 - st = (j - st) + 1 by omega, List.replicate_succ', List.append_assoc]
  rfl
/-- What is handed back. -/
theorem rowOf_end (F : FileD) (keep : List Bool) (tear cut : Int) : (rowOf F keep tear cut F.loose.length 0).take (endOf F keep tear cut F.loose.length 0) = (crashTo F keep tear cut F.loose.length).1 := by
  rw [rowOf_head, endOf_zero, List.take_left']
  rfl
end Go.Dav

namespace Go.Proofs.Ythpdcbklaapngaa
set_option linter.unusedVariables false
set_option linter.unusedSimpArgs false
open Go.RowKit Go.Dav
attribute [local go_sem] Gives ite_val ite_val_true

set_option maxRecDepth 8000 in
set_option maxHeartbeats 4000000 in
theorem Try_Crash (F : FileD) (fa la ka : Option Addr) (fl fc ll lc kl kc : Nat) (keep : List Bool) (tear cut : Int) (w : World) (S : Nat → Prop) (hF : FileS w S fa fl fc la ll lc F) (hK : BoolsAt w ka kl kc keep) (hS : ∀ b, S b → b < w.heap.size) (ht : I64' tear) (hcut : I64' cut) :
    Calls Try.prog 11 #[.agg #[.slice fa fl fc, .slice la ll lc, .int .i64 F.fuse, .int .i64 F.fault, .bool F.off], .slice ka kl kc, .int .i64 tear, .int .i64 cut] w (GivesFile w S (F.crash keep tear cut).1 (F.crash keep tear cut).2) := by
  cases hr : F.right with
  | true => exact Try_Crash_yes F fa la ka fl fc ll lc kl kc keep tear cut w S hF hK hS hr ht hcut
  | false =>
    have hW : Below w.heap.size w ((w.alloc (.cells [.slice fa fl fc, .slice la ll lc, .int .i64 F.fuse, .int .i64 F.fault, .bool F.off].toArray 27)).alloc (.cells #[.slice none 0 0, .slice none 0 0, .int .i64 0, .int .i64 0, .bool false] 27)) := (by repeat (first | (with_reducible exact Below.refl _ _) | (with_reducible exact Below.refl _ _) | (with_reducible refine Below.setCell ?_ (by first | omega | (simp; done) | (simp; omega)) _) | (with_reducible refine Below.alloc ?_ (by first | omega | (simp; done) | (simp; omega)) _) | (with_reducible refine Below.drew ?_) | (with_reducible refine below_drewN ?_ _)))
    have hf0 := (Blk.new w [.slice fa fl fc, .slice la ll lc, .int .i64 F.fuse, .int .i64 F.fault, .bool F.off] 27).alloc (o := (.cells #[.slice none 0 0, .slice none 0 0, .int .i64 0, .int .i64 0, .bool false] 27))
    have B0 := Blk.new' (w.alloc (.cells [.slice fa fl fc, .slice la ll lc, .int .i64 F.fuse, .int .i64 F.fault, .bool F.off].toArray 27)) [.slice none 0 0, .slice none 0 0, .int .i64 0, .int .i64 0, .bool false] 27 (p := w.heap.size + 1) (by simp)
    have hC := Try_Check F fa la fl fc ll lc _ (hF.ext hW).at_
    rw [FileD.err_wrong hr] at hC
    have HOP := Lib.hid (show F.crash keep tear cut = (F, 200) by unfold FileD.crash; rw [if_neg (by rw [hr]; decide)])
    have HC := Lib.hid hC
    have HF := Lib.hid (hF.ext hW)
    have HSS := Lib.hid hS
    have HF0 := Lib.hid hf0
    have HB0 := Lib.hid B0
    clear hW hf0 B0 hC hF hK hS ht hcut hr
    go_enter Try.func11, Try.ntmps11
    go_wp2_with fail
    refine HC.out.mono ?_; rintro e w1 ⟨rfl, hb1⟩
    have s1 := hb1.size
    simp only [World.size_alloc] at s1
    have B1 := HF0.out.ext hb1
    have B2 := HB0.out.ext hb1
    have q1 := B1.cells
    have q2 := B2.cells
    have m2 := B2.marks
    have l1 := B1.lt
    have l2 := B2.lt
    have HF1 := Lib.hid (HF.out.ext hb1)
    have bel : Below w.heap.size w w1 := (by repeat (first | (with_reducible exact Below.refl _ _) | (with_reducible exact Below.refl _ _) | (with_reducible refine Below.setCell ?_ (by first | omega | (simp; done) | (simp; omega)) _) | (with_reducible refine Below.alloc ?_ (by first | omega | (simp; done) | (simp; omega)) _) | (with_reducible refine Below.drew ?_) | (with_reducible refine below_drewN ?_ _) | (with_reducible refine Below.trans ?_ (hb1.mono (by first | omega | (simp; done) | (simp; omega))))))
    have HB2 := Lib.hid B2
    clear hb1 B1 B2 HC
    go_wp2
    rw [HOP.out]
    have c2 := (((((HB2.out.set 0 (.slice fa fl fc)).set 1 (.slice la ll lc)).set 2 (.int .i64 F.fuse)).set 3 (.int .i64 F.fault)).set 4 (.bool F.off)).cells
    simp only [List.set_cons_zero, List.set_cons_succ] at c2
    refine bodyPost_ret (v := .tuple #[.agg #[.slice fa fl fc, .slice la ll lc, .int .i64 F.fuse, .int .i64 F.fault, .bool F.off], .int .i64 200]) (by simp [results, Try.results11, go_sem, c2]) rfl ⟨fa, fl, fc, la, ll, lc, rfl, ?_, ?_⟩
    · refine (HF1.out.same (Only.size (p := w.heap.size + 1) (by repeat (first | (with_reducible exact Only.refl _ _) | (with_reducible refine Only.set ?_ _ _) | (with_reducible refine Only.alloc ?_ _) | (with_reducible refine Only.drew ?_)))) (fun b h hlt => Only.block (p := w.heap.size + 1) (by repeat (first | (with_reducible exact Only.refl _ _) | (with_reducible refine Only.set ?_ _ _) | (with_reducible refine Only.alloc ?_ _) | (with_reducible refine Only.drew ?_))) b hlt ?_)).mono fun b h => Or.inl h
      have := HSS.out b h; omega
    · exact (by repeat (first | (with_reducible exact Below.refl _ _) | (with_reducible exact Below.refl _ _) | (with_reducible refine Below.setCell ?_ (by first | omega | (simp; done) | (simp; omega)) _) | (with_reducible refine Below.alloc ?_ (by first | omega | (simp; done) | (simp; omega)) _) | (with_reducible refine Below.drew ?_) | (with_reducible refine below_drewN ?_ _) | (with_reducible refine Below.trans ?_ (bel.mono (by first | omega | (simp; done) | (simp; omega))))))
end Go.Proofs.Ythpdcbklaapngaa

namespace Go.Dav
set_option linter.unusedVariables false
set_option linter.unusedSimpArgs false
open Go Go.RowKit
/-- A file that refuses nothing, of not more than so many bytes. -/
structure Calm (F : FileD) (n : Nat) : Prop where
  full : F.full = true
  fuse : F.fuse = -1
  fault : F.fault = -1
  off : F.off = false
  many : F.many ≤ n
theorem Calm.right {F : FileD} {n : Nat} (h : Calm F n) (hn : n ≤ 524288) : F.right = true :=
  FileD.right_spec.2 ⟨h.full, by rw [h.fuse]; omega, by rw [h.fault]; omega, (fun e => by rw [h.off] at e; cases e), by have := h.many; omega⟩
theorem Calm.mono {F : FileD} {n m : Nat} (h : Calm F n) (hn : n ≤ m) : Calm F m := ⟨h.full, h.fuse, h.fault, h.off, by have := h.many; omega⟩
theorem Calm.asked {F : FileD} {n k : Nat} (h : Calm F n) (hn : n + k ≤ 524288) : F.asked (k : Int) = (F, 0) := by
  have hm := h.many
  unfold FileD.asked
  rw [if_neg (by rw [h.off]; decide), if_neg (by omega), if_neg (by rw [h.fault]; omega), if_neg (by rw [h.fuse]; omega)]
  obtain ⟨f, l, a, b, c⟩ := F
  have e1 : a = -1 := h.fuse
  have e2 : b = -1 := h.fault
  subst e1 e2
  rfl
def FileD.with (F : FileD) (x : List UInt8) : FileD := { F with loose := F.loose ++ [x] }
theorem FileD.with_all (F : FileD) (x : List UInt8) : (F.with x).all = F.all ++ x := by simp [FileD.with, FileD.all]
theorem Calm.append {F : FileD} {n m : Nat} {x : List UInt8} (h : Calm F n) (hx : x ≠ []) (hm : x.length ≤ m) (hn : n + m ≤ 524288) : F.append x = (F.with x, 0) ∧ Calm (F.with x) (n + m) := by
  refine ⟨?_, ?_, h.fuse, h.fault, h.off, ?_⟩
  · unfold FileD.append
    rw [if_neg (fun e => hx e.2)]
    unfold FileD.op
    rw [if_pos (h.right (by omega)), h.asked (by omega), if_pos rfl]
    rfl
  · have hf := h.full
    unfold FileD.full FileD.with at *
    rw [List.all_append, hf]
    cases x with
    | nil => exact absurd rfl hx
    | cons => rfl
  · have := h.many
    rw [← FileD.all_length, FileD.with_all, List.length_append, FileD.all_length]; omega
theorem Calm.fput {F : FileD} {n : Nat} {p : List UInt8} (h : Calm F n) (h1 : 1 ≤ p.length) (h2 : p.length ≤ 300) (hn : n + 700 ≤ 524288) : (∃ pl, F.fput p = (F.with (pieceOf F.all (outOf p)), pl, 0)) ∧ Calm (F.with (pieceOf F.all (outOf p))) (n + 700) := by
  have hl := layOn_len F.all.length (padFor F.all) (outOf p)
  have hp := padFor_len F.all
  rw [outOf_len] at hl
  obtain ⟨ha, hc⟩ := h.append (x := pieceOf F.all (outOf p)) (pieceOf_ne _ _) (m := 700) (by unfold pieceOf; omega) hn
  refine ⟨⟨placeOf F.all (outOf p), ?_⟩, hc⟩
  unfold FileD.fput
  rw [if_pos (h.right (by omega)), if_pos ⟨h1, by omega⟩, ha, if_pos rfl]
theorem laidOf_nil (n g a : Nat) : laidOf n g a ≠ [] := fun h => by have := laidOf_len n g a; rw [h] at this; simp at this
theorem Calm.put {F : FileD} {n : Nat} {hd : HeadD} (h : Calm F n) (hr : hd.right = true) (hn : n + 128 ≤ 524288) : F.put hd = (F.with (laidOf F.many hd.gen hd.at_.toNat), 0) ∧ Calm (F.with (laidOf F.many hd.gen hd.at_.toNat)) (n + 128) := by
  have hp := padOf_lt F.many
  obtain ⟨ha, hc⟩ := h.append (x := laidOf F.many hd.gen hd.at_.toNat) (laidOf_nil _ _ _) (m := 128) (by rw [laidOf_len]; omega) hn
  refine ⟨?_, hc⟩
  unfold FileD.put
  rw [if_pos (h.right (by omega)), if_pos hr, ha]
def FileD.synced (F : FileD) : FileD := { F with firm := F.all, loose := [] }
theorem FileD.synced_all (F : FileD) : F.synced.all = F.all := by simp [FileD.synced, FileD.all]
theorem Calm.sync {F : FileD} {n : Nat} (h : Calm F n) (hn : n ≤ 524288) : F.sync = (F.synced, 0) ∧ Calm F.synced n := by
  refine ⟨?_, rfl, h.fuse, h.fault, h.off, ?_⟩
  · unfold FileD.sync FileD.op
    have hk := h.asked (k := 0) (by omega)
    rw [show ((0 : Nat) : Int) = 0 from rfl] at hk
    rw [if_pos (h.right hn), hk, if_pos rfl]
    rfl
  · have := h.many
    rw [← FileD.all_length, FileD.synced_all, FileD.all_length]; exact this
theorem Calm.none_ : Calm FileD.none 0 := ⟨rfl, rfl, rfl, rfl, by simp [FileD.none, FileD.many]⟩
/-- A loss of power that cuts the one piece that is not firm. -/
theorem Calm.crash {F : FileD} {n : Nat} {x : List UInt8} {cut : Nat} (h : Calm (F.synced.with x) n) (hn : n ≤ 524288) (hcut : cut ≤ x.length) : (F.synced.with x).crash [] 0 (cut : Int) = (⟨F.all ++ x.take cut, [], -1, -1, false⟩, 0) ∧ Calm ⟨F.all ++ x.take cut, [], -1, -1, false⟩ n := by
  have hl : (F.synced.with x).loose = [x] := by simp [FileD.with, FileD.synced]
  have hf : (F.synced.with x).firm = F.all := by simp [FileD.with, FileD.synced]
  have hs : staysOf [] 0 (cut : Int) 0 x = cut := by
    unfold staysOf
    rw [if_pos (show ((0 : Nat) : Int) = 0 from rfl)]
    omega
  have hc : (crashTo (F.synced.with x) [] 0 (cut : Int) 1).1 = F.all ++ x.take cut := by
    rw [crashTo_succ (k := 0) (p := x) (by rw [hl]; rfl)]
    unfold crashStep
    rw [hs]
    have h0 : crashTo (F.synced.with x) [] 0 (cut : Int) 0 = (F.all, 0) := by rw [crashTo, hf]
    rw [h0]
    split
    · simp
    · rename_i hh
      have : cut = 0 := by omega
      subst this; simp
  refine ⟨?_, rfl, rfl, rfl, rfl, ?_⟩
  · unfold FileD.crash
    rw [if_pos (h.right hn), hl]
    simp only [List.length_singleton]
    rw [hc]
  · have hm := h.many
    rw [← FileD.all_length, FileD.with_all, FileD.synced_all, List.length_append] at hm
    simp only [FileD.many, List.map_nil, List.sum_nil, List.length_append, List.length_take]
    omega
theorem isOf_one {l : List UInt8} (h : isOf l = true) : l[0]? = some 1 := by
  unfold isOf at h
  rw [Bool.and_eq_true, decide_eq_true_eq] at h
  rw [← h.2]; exact blockOf_first _ _
theorem isOf_165 {l : List UInt8} (h : isOf l = true) : l[63]? = some 165 := by
  unfold isOf at h
  rw [Bool.and_eq_true, decide_eq_true_eq] at h
  rw [← h.2]; exact blockOf_last _ _
theorem isOf_no0 {l : List UInt8} {c : UInt8} (h : l[0]? = some c) (hc : c ≠ 1) : isOf l = false := by
  cases hi : isOf l with
  | false => rfl
  | true => have := isOf_one hi; rw [h] at this; exact absurd (Option.some.inj this) hc
theorem blockAt_get {l : List UInt8} {j : Nat} : (blockAt l j)[0]? = l[j * 64]? := by
  unfold blockAt
  rw [List.getElem?_take, if_pos (by omega), List.getElem?_drop, Nat.add_zero]
theorem blockAt_app {l m : List UInt8} {j : Nat} (h : j < l.length / 64) : blockAt (l ++ m) j = blockAt l j := by
  unfold blockAt
  rw [List.drop_append_of_le_length (by omega), List.take_append_of_le_length (by rw [List.length_drop]; omega)]
/-- The last header among these bytes. -/
structure Ends (l : List UInt8) (last : Option HeadD) : Prop where
  tail : isMarked l = true → isOf (l.drop (l.length / 64 * 64) ++ List.replicate (64 - l.length % 64) 0) = false
  none_ : last = none → ∀ j, j < l.length / 64 → isOf (blockAt l j) = false
  some_ : ∀ h, last = some h → h.right = true ∧ h.gen < 18446744073709551616 ∧ ∃ i, i < l.length / 64 ∧ blockAt l i = blockOf h.gen h.at_.toNat ∧ ∀ j, i < j → j < l.length / 64 → isOf (blockAt l j) = false
theorem Ends.more {l m : List UInt8} {last : Option HeadD} (h : Ends l last) (hnew : ∀ j, l.length / 64 ≤ j → j < (l ++ m).length / 64 → isOf (blockAt (l ++ m) j) = false)
    (htail : isMarked (l ++ m) = true → isOf ((l ++ m).drop ((l ++ m).length / 64 * 64) ++ List.replicate (64 - (l ++ m).length % 64) 0) = false) : Ends (l ++ m) last := by
  have hlen : l.length / 64 ≤ (l ++ m).length / 64 := by rw [List.length_append]; omega
  have hall : ∀ j, (j < l.length / 64 → isOf (blockAt l j) = false) → j < (l ++ m).length / 64 → isOf (blockAt (l ++ m) j) = false := fun j hj hl => by
    by_cases hjl : j < l.length / 64
    · rw [blockAt_app hjl]; exact hj hjl
    · exact hnew j (by omega) hl
  refine ⟨htail, fun e j hj => hall j (h.none_ e j) hj, fun hd e => ?_⟩
  obtain ⟨h1, h2, i, hi, hb, ho⟩ := h.some_ hd e
  exact ⟨h1, h2, i, by omega, by rw [blockAt_app hi]; exact hb, fun j hij hj => hall j (ho j hij) hj⟩
theorem Ends.nil_ : Ends [] none := ⟨(fun h => by simp [isMarked] at h), (fun _ j hj => by simp at hj), fun h e => by cases e⟩
theorem notMarked {l : List UInt8} (h : isMarked l = false) (h0 : l.length % 64 ≠ 0) : l[l.length - l.length % 64]? = some 0 := by
  unfold isMarked at h
  rw [decide_eq_true h0, Bool.true_and] at h
  simpa using h
theorem Ends.record {l cs : List UInt8} {last : Option HeadD} (h : Ends l last) (hcs : cs ≠ []) : Ends (l ++ pieceOf l cs) last := by
  refine h.more (fun j hj1 hj2 => ?_) (fun hm => ?_)
  · by_cases hp : l.length ≤ j * 64
    · exact isOf_no0 (c := 0) (by rw [blockAt_get]; exact laid_mark l cs hp (by omega) (by omega)) (by decide)
    · have e1 : j * 64 = l.length - l.length % 64 := by omega
      cases hmk : isMarked l with
      | true =>
        have ht := h.tail hmk
        have e2 : blockAt (l ++ pieceOf l cs) j = l.drop (l.length / 64 * 64) ++ List.replicate (64 - l.length % 64) 0 := by
          unfold blockAt
          rw [piece_body, List.append_assoc, show j * 64 = l.length / 64 * 64 by omega, List.drop_append_of_le_length (by omega), ← List.append_assoc]
          unfold padFor
          rw [if_pos hmk, List.take_left' (by rw [List.length_append, List.length_drop, List.length_replicate]; omega)]
        rw [e2]; exact ht
      | false =>
        exact isOf_no0 (c := 0) (by rw [blockAt_get, e1, List.getElem?_append_left (by omega)]; exact notMarked hmk (by omega)) (by decide)
  · exfalso
    have hlen : (l ++ padFor l).length < (l ++ pieceOf l cs).length := by
      rw [piece_body, @List.length_append _ (l ++ padFor l)]
      have : bodyAt (l ++ padFor l).length cs ≠ [] := by
        cases cs with
        | nil => exact absurd rfl hcs
        | cons c cs => rw [bodyAt_cons]; split <;> simp
      have := List.length_pos_iff.2 this
      omega
    have hle : l.length ≤ (l ++ pieceOf l cs).length := by rw [List.length_append]; omega
    unfold isMarked at hm
    rw [Bool.and_eq_true, decide_eq_true_eq] at hm
    obtain ⟨hm1, hm2⟩ := hm
    by_cases hs : l.length ≤ (l ++ pieceOf l cs).length - (l ++ pieceOf l cs).length % 64
    · rw [laid_mark l cs hs (by omega) (by omega)] at hm2
      simp at hm2
    · have e1 : (l ++ pieceOf l cs).length - (l ++ pieceOf l cs).length % 64 = l.length - l.length % 64 := by omega
      cases hmk : isMarked l with
      | true =>
        rw [List.length_append] at hlen
        unfold padFor at hlen
        rw [if_pos hmk, List.length_replicate] at hlen
        omega
      | false =>
        rw [e1, List.getElem?_append_left (by omega), notMarked hmk (by omega)] at hm2
        simp at hm2
theorem Ends.header {l : List UInt8} {last : Option HeadD} {hd : HeadD} (_h : Ends l last) (hr : hd.right = true) (hg : hd.gen < 18446744073709551616) : Ends (l ++ laidOf l.length hd.gen hd.at_.toNat) (some hd) := by
  have hlen : (l ++ laidOf l.length hd.gen hd.at_.toNat).length = l.length + padOf l.length + 64 := by rw [List.length_append, laidOf_len]; omega
  have hpad : (l.length + padOf l.length) % 64 = 0 := by unfold padOf; omega
  refine ⟨fun hm => ?_, (fun e => by cases e), fun h e => ?_⟩
  · exfalso
    unfold isMarked at hm
    rw [Bool.and_eq_true, decide_eq_true_eq] at hm
    omega
  · cases e
    refine ⟨hr, hg, (l.length + padOf l.length) / 64, by omega, ?_, fun j h1 h2 => by omega⟩
    unfold blockAt
    rw [show (l.length + padOf l.length) / 64 * 64 = (l ++ List.replicate (padOf l.length) 0).length by rw [List.length_append, List.length_replicate]; omega]
    unfold laidOf
    rw [← List.append_assoc, List.drop_left, List.take_of_length_le (by rw [blockOf_len]; omega)]
/-- Zeros that fill the last block, or a part of it. -/
theorem Ends.zeros {l : List UInt8} {last : Option HeadD} {k : Nat} (h : Ends l last) (hk : k ≤ padOf l.length) : Ends (l ++ List.replicate k 0) last := by
  by_cases hk0 : k = 0
  · subst hk0; simpa using h
  have hpk : l.length % 64 ≠ 0 ∧ l.length % 64 + k ≤ 64 := by unfold padOf at hk; omega
  have hlen : (l ++ List.replicate k 0).length = l.length + k := by rw [List.length_append, List.length_replicate]
  refine h.more (fun j hj1 hj2 => ?_) (fun hm => ?_)
  · have e0 : j = l.length / 64 := by omega
    have e1 : k = 64 - l.length % 64 := by omega
    cases hmk : isMarked l with
    | true =>
      have ht := h.tail hmk
      rw [← e1] at ht
      have e2 : blockAt (l ++ List.replicate k 0) j = l.drop (l.length / 64 * 64) ++ List.replicate k 0 := by
        unfold blockAt
        rw [e0, List.drop_append_of_le_length (by omega), List.take_of_length_le (by rw [List.length_append, List.length_drop, List.length_replicate]; omega)]
      rw [e2]; exact ht
    | false =>
      exact isOf_no0 (c := 0) (by rw [blockAt_get, show j * 64 = l.length - l.length % 64 by omega, List.getElem?_append_left (by omega)]; exact notMarked hmk hpk.1) (by decide)
  · have hm2 := hm
    unfold isMarked at hm2
    rw [Bool.and_eq_true, decide_eq_true_eq, hlen] at hm2
    have e1 : l.length + k - (l.length + k) % 64 = l.length - l.length % 64 := by omega
    have hmk : isMarked l = true := by
      cases hmk : isMarked l with
      | true => rfl
      | false =>
        have h2 := hm2.2
        rw [e1, List.getElem?_append_left (by omega), notMarked hmk hpk.1] at h2
        simp at h2
    have ht := h.tail hmk
    rw [hlen, show (l.length + k) / 64 * 64 = l.length / 64 * 64 by omega, List.drop_append_of_le_length (by omega), List.append_assoc, List.replicate_append_replicate, show k + (64 - (l.length + k) % 64) = 64 - l.length % 64 by omega]
    exact ht
/-- A header's block that lacks a byte is none. -/
theorem Ends.torn {l : List UInt8} {last : Option HeadD} {g a cut : Nat} (h : Ends l last) (hc : cut < (laidOf l.length g a).length) : Ends (l ++ (laidOf l.length g a).take cut) last := by
  rw [laidOf_len] at hc
  by_cases hk : cut ≤ padOf l.length
  · unfold laidOf
    rw [List.take_append_of_le_length (by rw [List.length_replicate]; exact hk), List.take_replicate, Nat.min_eq_left hk]
    exact h.zeros hk
  · have h0 := h.zeros (Nat.le_refl (padOf l.length))
    have hlen : (l ++ List.replicate (padOf l.length) 0).length % 64 = 0 := by rw [List.length_append, List.length_replicate]; unfold padOf; omega
    obtain ⟨c, hcc⟩ : ∃ c, cut - padOf l.length = c := ⟨_, rfl⟩
    have hc64 : c < 64 ∧ 0 < c := by omega
    have e : l ++ (laidOf l.length g a).take cut = (l ++ List.replicate (padOf l.length) 0) ++ (blockOf g a).take c := by
      unfold laidOf
      rw [List.take_append, List.length_replicate, hcc, List.take_of_length_le (by rw [List.length_replicate]; omega), List.append_assoc]
    rw [e]
    obtain ⟨L, hL⟩ : ∃ L, l ++ List.replicate (padOf l.length) 0 = L := ⟨_, rfl⟩
    rw [hL] at h0 hlen ⊢
    have hbl : ((blockOf g a).take c).length = c := by rw [List.length_take, blockOf_len]; omega
    refine h0.more (fun j hj1 hj2 => ?_) (fun _ => ?_)
    · rw [List.length_append, hbl] at hj2; omega
    · rw [List.length_append, hbl, show (L.length + c) / 64 * 64 = L.length by omega, List.drop_left, show (L.length + c) % 64 = c by omega]
      cases hi : isOf ((blockOf g a).take c ++ List.replicate (64 - c) 0) with
      | false => rfl
      | true =>
        have h3 := isOf_165 hi
        rw [List.getElem?_append_right (by rw [hbl]; omega), hbl, List.getElem?_replicate, if_pos (by omega)] at h3
        cases h3
def headG (last : Option HeadD) : Nat := match last with | some h => h.gen | none => 0
def headA (last : Option HeadD) : Int := match last with | some h => h.at_ | none => 0
/-- What Find answers. -/
theorem Ends.find {l : List UInt8} {last : Option HeadD} (h : Ends l last) : ∃ p : Nat, findOf l = .tuple #[.agg #[.int .u64 (headG last : Int), .int .i64 (headA last)], .int .i64 (p : Int), .bool last.isSome] ∧ p % 64 = 0 ∧ p ≤ l.length ∧ (last.isSome = true → p + 64 ≤ l.length) := by
  cases hl : last with
  | none =>
    have hn := lastIs_none (l := l) (n := l.length / 64) (h.none_ hl)
    exact ⟨0, find_none hn, rfl, Nat.zero_le _, fun e => by cases e⟩
  | some hd =>
    obtain ⟨h1, h2, i, hi, hb, ho⟩ := h.some_ hd hl
    obtain ⟨_, g1, g2⟩ := HeadD.right_spec.1 h1
    have hat : hd.at_ = ((hd.at_.toNat : Nat) : Int) := by omega
    have hri : (HeadD.mk hd.gen ((hd.at_.toNat : Nat) : Int)).right = true := by rw [← hat]; exact h1
    have hs := lastIs_some (l := l) hi (by rw [hb]; exact isOf_block h2 hri) ho
    refine ⟨i * 64, ?_, by omega, by omega, fun _ => by omega⟩
    rw [find_some hs, hb, genOf_block h2, atOf_block (by omega), ← hat]
    rfl
end Go.Dav

namespace Go.Proofs.Ythpdcbklaapngaa
set_option linter.unusedVariables false
set_option linter.unusedSimpArgs false
open Go.RowKit Go.Dav
attribute [local go_sem] Gives ite_val ite_val_true

theorem Try_eqHead1 (x y : Int) (w : World) : (binOp .eql 30 (.agg #[.int .u64 x, .int .i64 y]) (.agg #[.int .u64 x, .int .i64 y])).run Try.prog w = .ok (.bool true) w := by
  go_simp

set_option maxRecDepth 100000 in
set_option maxHeartbeats 8000000 in
theorem Try_finds (F : FileD) (fa la : Option Addr) (fl fc ll lc n : Nat) (last : Option HeadD) (w : World) (S : Nat → Prop) (hF : FileS w S fa fl fc la ll lc F) (hS : ∀ b, S b → b < w.heap.size) (hc : Dav.Calm F n) (hn : n ≤ 500000) (he : Dav.Ends F.all last) :
    Calls Try.prog 7 #[.agg #[.slice fa fl fc, .slice la ll lc, .int .i64 F.fuse, .int .i64 F.fault, .bool F.off], .agg #[.int .u64 (headG last : Int), .int .i64 (headA last)], .bool last.isSome] w fun e w' => e = .returned (.bool true) ∧ Below w.heap.size w w' := by
  have hr := hc.right (by omega)
  obtain ⟨p, hfind, hp64, hpl, hps⟩ := he.find
  rw [F.all_length] at hpl hps
  have hmx := (FileD.right_spec.1 hr).2.2.2.2
  have hsaid : F.said = F.all := by unfold FileD.said; rw [if_pos hr]
  obtain ⟨G, hG⟩ : ∃ G, headG last = G := ⟨_, rfl⟩
  obtain ⟨A, hA⟩ : ∃ A, headA last = A := ⟨_, rfl⟩
  obtain ⟨b, hb⟩ : ∃ b, last.isSome = b := ⟨_, rfl⟩
  rw [hG, hA, hb] at hfind ⊢
  rw [hb] at hps
  obtain ⟨W0, hW0⟩ : ∃ W0, (w.alloc (.cells [.slice fa fl fc, .slice la ll lc, .int .i64 F.fuse, .int .i64 F.fault, .bool F.off].toArray 27)).alloc (.cells #[.int .u64 (G : Int), .int .i64 A] 30) = W0 := ⟨_, rfl⟩
  have bel0 : Below w.heap.size w W0 := by rw [← hW0]; exact (by repeat (first | (with_reducible exact Below.refl _ _) | (with_reducible exact Below.refl _ _) | (with_reducible refine Below.setCell ?_ (by first | omega | (simp; done) | (simp; omega)) _) | (with_reducible refine Below.alloc ?_ (by first | omega | (simp; done) | (simp; omega)) _) | (with_reducible refine Below.drew ?_) | (with_reducible refine below_drewN ?_ _)))
  have HB1 := Lib.hid (show Blk W0 w.heap.size [.slice fa fl fc, .slice la ll lc, .int .i64 F.fuse, .int .i64 F.fault, .bool F.off] 27 by rw [← hW0]; exact (Blk.new w [.slice fa fl fc, .slice la ll lc, .int .i64 F.fuse, .int .i64 F.fault, .bool F.off] _).alloc _)
  have HB2 := Lib.hid (show Blk W0 (w.heap.size + 1) [.int .u64 (G : Int), .int .i64 A] 30 by rw [← hW0]; exact Blk.new' _ _ _ (by simp))
  have BEL0 := Lib.hid bel0
  have HF := Lib.hid (hF.ext bel0)
  have HW0 := Lib.hid hW0
  have HS := Lib.hid hS
  have HR := Lib.hid hr
  have HFI := Lib.hid hfind
  have HSD := Lib.hid hsaid
  have hmod : (p : Int) % 64 = 0 := by omega
  have htm : (p : Int).tmod 64 = (p : Int) % 64 := Int.tmod_eq_emod_of_nonneg (by omega)
  obtain ⟨m, hm⟩ : ∃ m, F.many = m := ⟨_, rfl⟩
  rw [hm] at hmx hpl hps
  have HM := Lib.hid hm
  clear hF bel0 hW0 hS hr hfind hsaid hc he hG hA hb hm
  go_enter Try.func7, Try.ntmps7
  go_wp2_with fail
  rw [HW0.out]
  have hC := Try_Find F fa la fl fc ll lc W0 _ HF.out (fun b h => by have := HS.out b h; have := BEL0.out.size; omega)
  rw [HSD.out, HFI.out] at hC
  refine hC.mono ?_; rintro e w1 ⟨rfl, hb1⟩
  have HB11 := Lib.hid (HB1.out.ext hb1)
  have HB21 := Lib.hid (HB2.out.ext hb1)
  have HF1 := Lib.hid (HF.out.ext hb1)
  have BEL1 := Lib.hid (BEL0.out.trans (hb1.mono BEL0.out.size))
  have q1 := HB11.out.cells
  have l1 := HB11.out.lt
  have q2 := HB21.out.cells
  have l2 := HB21.out.lt
  have keq := Try_eqHead1 (G : Int) A
  clear hb1 hC HB1 HB2 HF BEL0 HW0
  cases b with
  | false =>
    go_wp2
    go_ret
    exact ⟨rfl, by have h := BEL1.out; exact (by repeat (first | (with_reducible exact Below.refl _ _) | (with_reducible exact Below.refl _ _) | (with_reducible refine Below.setCell ?_ (by first | omega | (simp; done) | (simp; omega)) _) | (with_reducible refine Below.alloc ?_ (by first | omega | (simp; done) | (simp; omega)) _) | (with_reducible refine Below.drew ?_) | (with_reducible refine below_drewN ?_ _) | (with_reducible refine Below.trans ?_ (h.mono (by first | omega | (simp; done) | (simp; omega))))))⟩
  | true =>
    have hp64' := hps rfl
    have k1 : IntKind.i64.wrap ((p : Int) + 64) = (p : Int) + 64 := IntWalk.i64_in _ (by omega)
    have k2 : (p : Int) + 64 ≤ (m : Int) := by omega
    go_wp2_with fail
    obtain ⟨W2, hW2⟩ : ∃ W2, w1.alloc (.cells #[.int .u64 (G : Int), .int .i64 A] 30) = W2 := ⟨_, rfl⟩
    have hb2 : Below w1.heap.size w1 W2 := by rw [← hW2]; exact (by repeat (first | (with_reducible exact Below.refl _ _) | (with_reducible exact Below.refl _ _) | (with_reducible refine Below.setCell ?_ (by first | omega | (simp; done) | (simp; omega)) _) | (with_reducible refine Below.alloc ?_ (by first | omega | (simp; done) | (simp; omega)) _) | (with_reducible refine Below.drew ?_) | (with_reducible refine below_drewN ?_ _)))
    rw [show _ = W2 from hW2]
    have hL := Try_Len F fa la fl fc ll lc W2 (HF1.out.ext hb2).at_
    rw [if_pos HR.out, HM.out] at hL
    refine hL.mono ?_; rintro e w3 ⟨rfl, hb3⟩
    have BEL3 := Lib.hid ((BEL1.out.trans (hb2.mono BEL1.out.size)).trans (hb3.mono (Nat.le_trans BEL1.out.size hb2.size)))
    clear hb3 hL hb2 hW2 q1 l1 q2 l2
    go_wp2
    go_ret
    exact ⟨rfl, BEL3.out⟩
end Go.Proofs.Ythpdcbklaapngaa

namespace Go.Dav
set_option linter.unusedVariables false
set_option linter.unusedSimpArgs false
open Go Go.RowKit
/-- Below the heap's end, and none of the blocks of l. -/
def Free (l : List Nat) (W : World) (b : Nat) : Prop := b < W.heap.size ∧ b ∉ l
theorem BytesS.lt_ {W : World} {S : Nat → Prop} {a : Option Addr} {len cap : Nat} {l : List UInt8} (h : BytesS W S a len cap l) : BytesS W (fun b => S b ∧ b < W.heap.size) a len cap l :=
  ⟨h.at_, fun k x hk => by
    obtain ⟨b, o, h1, h2, _⟩ := h.at_.hat k x hk
    obtain ⟨b', o', h1', h3⟩ := h.in_ k x hk
    rw [h1] at h1'; cases h1'
    exact ⟨b, o, h1, h3, h2⟩⟩
theorem LooseS.lt_ {W : World} {S : Nat → Prop} {a : Option Addr} {len cap : Nat} {L : List (List UInt8)} (h : LooseS W S a len cap L) : LooseS W (fun b => S b ∧ b < W.heap.size) a len cap L :=
  ⟨h.hlen, h.hcap, h.hmax, h.hfew, fun k p hk => by
    obtain ⟨b, o, pa, pl, pc, h1, h2, h3, h4, h5⟩ := h.hat k p hk
    exact ⟨b, o, pa, pl, pc, h1, h2, ⟨h3, h2⟩, h4, h5.lt_⟩, h.hnil⟩
theorem FileS.lt_ {W : World} {S : Nat → Prop} {fa la : Option Addr} {fl fc ll lc : Nat} {F : FileD} (h : FileS W S fa fl fc la ll lc F) : FileS W (fun b => S b ∧ b < W.heap.size) fa fl fc la ll lc F :=
  ⟨h.firm.lt_, h.loose.lt_, h.fuse, h.fault⟩

/-- A file whose bytes lie in none of the blocks of l. -/
def FileIn (W : World) (l : List Nat) (fa : Option Addr) (fl fc : Nat) (la : Option Addr) (ll lc : Nat) (F : FileD) : Prop := FileS W (Free l W) fa fl fc la ll lc F
section
variable {W W' : World} {l : List Nat} {fa la : Option Addr} {fl fc ll lc : Nat} {F : FileD}
theorem FileIn.of_file (h : FileAt W fa fl fc la ll lc F) : FileIn W [] fa fl fc la ll lc F := h.s.mono fun b hb => ⟨hb, by simp⟩
theorem FileIn.ext (h : FileIn W l fa fl fc la ll lc F) (hb : Below W.heap.size W W') : FileIn W' l fa fl fc la ll lc F :=
  (FileS.ext h hb).mono fun b k => ⟨Nat.lt_of_lt_of_le k.1 hb.size, k.2⟩
theorem FileIn.alloc (h : FileIn W l fa fl fc la ll lc F) (o : Obj) : FileIn (W.alloc o) (W.heap.size :: l) fa fl fc la ll lc F := by
  refine (FileS.ext h ((Below.refl _ W).alloc (Nat.le_refl _) o)).mono fun b k => ⟨by have := k.1; simp; omega, fun hm => ?_⟩
  rcases List.mem_cons.1 hm with e | e
  · have := k.1; omega
  · exact k.2 e
theorem FileIn.alloc' (h : FileIn W l fa fl fc la ll lc F) (o : Obj) : FileIn (W.alloc o) l fa fl fc la ll lc F := h.ext ((Below.refl _ W).alloc (Nat.le_refl _) o)
theorem FileIn.only {p : Nat} (h : FileIn W l fa fl fc la ll lc F) (k : Only p W W') (hp : p ∈ l) : FileIn W' l fa fl fc la ll lc F :=
  (FileS.same h k.size fun b hb hlt => k.block b hlt fun e => hb.2 (e ▸ hp)).mono fun b hb => ⟨Nat.lt_of_lt_of_le hb.1 k.size, hb.2⟩
theorem FileIn.less {l' : List Nat} (h : FileIn W l fa fl fc la ll lc F) (hs : ∀ x ∈ l', x ∈ l) : FileIn W l' fa fl fc la ll lc F := FileS.mono h fun b hb => ⟨hb.1, fun hm => hb.2 (hs b hm)⟩
/-- What an operation on it hands back. -/
theorem FileIn.of_or {w0 : World} (h : FileS W (Or (Free l w0) w0) fa fl fc la ll lc F) (hl : ∀ x ∈ l, x < w0.heap.size) : FileIn W l fa fl fc la ll lc F :=
  h.lt_.mono fun b hb => ⟨hb.2, fun hm => by
    rcases hb.1 with k | k
    · exact k.2 hm
    · have := hl b hm; omega⟩
theorem FileIn.none_ (W : World) (l : List Nat) : FileIn W l none 0 0 none 0 0 FileD.none := ⟨BytesS.nil_, LooseS.nil_, by unfold I64' FileD.none; simp, by unfold I64' FileD.none; simp⟩
theorem Free.lt {b : Nat} (h : Free l W b) : b < W.heap.size := h.1
end
theorem Blk.five {W : World} {p : Nat} {x0 x1 x2 x3 x4 : Value} {t : TypeId} (h : Blk W p [x0, x1, x2, x3, x4] t) (y0 y1 y2 y3 y4 : Value) :
    Blk (((((W.setCell ⟨p, 0, none⟩ y0).setCell ⟨p, 1, none⟩ y1).setCell ⟨p, 2, none⟩ y2).setCell ⟨p, 3, none⟩ y3).setCell ⟨p, 4, none⟩ y4) p [y0, y1, y2, y3, y4] t := ((((h.set 0 y0).set 1 y1).set 2 y2).set 3 y3).set 4 y4
theorem Only.five (W : World) (p : Nat) (y0 y1 y2 y3 y4 : Value) : Only p W (((((W.setCell ⟨p, 0, none⟩ y0).setCell ⟨p, 1, none⟩ y1).setCell ⟨p, 2, none⟩ y2).setCell ⟨p, 3, none⟩ y3).setCell ⟨p, 4, none⟩ y4) :=
  (((((Only.refl p W).set 0 y0).set 1 y1).set 2 y2).set 3 y3).set 4 y4
/-- Bytes laid out in a block of their own. -/
theorem bytes_blk {W : World} {p n : Nat} {x : List UInt8} {t : TypeId} (h : Blk W p (u8s x) t) (hn : x.length = n) (hm : n ≤ 140737488355328) : BytesS W (fun b => b = p) (some ⟨p, 0, none⟩) n n x :=
  BytesS.of_cells ⟨by rw [u8s_len, hn], fun k v hk => ⟨p, 0, rfl, h.lt, rfl, by rw [Nat.zero_add]; exact h.cell k hk⟩⟩ (Nat.le_refl _) (by unfold maxLen; omega) hm (fun e => by cases e)
theorem bools_blk {W : World} {p n : Nat} {x : List Bool} {t : TypeId} (h : Blk W p (x.map Value.bool) t) (hn : x.length = n) (hm : n ≤ 140737488355328) : BoolsAt W (some ⟨p, 0, none⟩) n n x :=
  ⟨hn, Nat.le_refl _, hm, fun k b hk => ⟨p, 0, rfl, h.lt, by rw [Nat.zero_add]; exact h.cell k (by simp [hk])⟩⟩
end Go.Dav

namespace Go.Dav
set_option linter.unusedVariables false
set_option linter.unusedSimpArgs false
open Go Go.RowKit
/-- A step, and where its slice lies. -/
structure StepV where
  bytes : List UInt8
  hd : HeadD
  ba : Option Addr
  bl : Nat
  bc : Nat
theorem BytesAt.take {W : World} {a : Option Addr} {len cap n : Nat} {l : List UInt8} (h : BytesAt W a len cap l) (hn : n ≤ len) : BytesAt W a n cap (l.take n) := by
  refine ⟨by rw [List.length_take, h.hlen]; omega, Nat.le_trans hn h.hcap, h.hmax, Nat.le_trans hn h.hfew, fun k x hk => ?_, h.hnil⟩
  rw [List.getElem?_take] at hk
  split at hk
  · exact h.hat k x hk
  · cases hk
def StepV.cells (d : StepV) : List Value := [.slice d.ba d.bl d.bc, .int .u64 (d.hd.gen : Int), .int .i64 d.hd.at_]
/-- Steps, laid out one behind the other. -/
def StepsAt (W : World) (a : Option Addr) (l : List StepV) : Prop :=
  ∀ k d, l[k]? = some d → ∃ b o, a = some ⟨b, o, none⟩ ∧ b < W.heap.size ∧ (∀ j v, d.cells[j]? = some v → W.cell? ⟨b, o + k * 3 + j, none⟩ = some v) ∧ BytesAt W d.ba d.bl d.bc d.bytes ∧ d.hd.Fits
theorem StepsAt.ext {W W' : World} {a : Option Addr} {l : List StepV} (h : StepsAt W a l) (hb : Below W.heap.size W W') : StepsAt W' a l := fun k d hk => by
  obtain ⟨b, o, h1, h2, h3, h4, h5⟩ := h k d hk
  exact ⟨b, o, h1, Nat.lt_of_lt_of_le h2 hb.size, fun j v hj => by rw [hb.cell (p := ⟨b, o + k * 3 + j, none⟩) h2]; exact h3 j v hj, h4.ext hb, h5⟩
/-- A file, a place, an error. -/
def FileTup3 (w : World) (S : Nat → Prop) (F : FileD) (pl : Nat) (err : Int) (v : Value) (W : World) : Prop :=
  ∃ fa fl fc la ll lc, v = .tuple #[.agg #[.slice fa fl fc, .slice la ll lc, .int .i64 F.fuse, .int .i64 F.fault, .bool F.off], .int .i64 (pl : Int), .int .i64 err] ∧ FileS W (Or S w) fa fl fc la ll lc F
theorem FileTup3.later {w : World} {S : Nat → Prop} {F : FileD} {pl : Nat} {err : Int} : ∀ v W W', FileTup3 w S F pl err v W → Below W.heap.size W W' → FileTup3 w S F pl err v W' :=
  fun _ _ _ ⟨fa, fl, fc, la, ll, lc, h1, h2⟩ hb => ⟨fa, fl, fc, la, ll, lc, h1, h2.ext hb⟩
theorem headG_lt {last : Option HeadD} {l : List UInt8} (h : Ends l last) : headG last < 18446744073709551616 := by
  unfold headG
  cases hl : last with
  | none => decide
  | some hd => exact (h.some_ hd hl).2.1
end Go.Dav
namespace Go.Proofs.Ythpdcbklaapngaa
set_option linter.unusedVariables false
set_option linter.unusedSimpArgs false
open Go.RowKit Go.Dav
attribute [local go_sem] Gives ite_val ite_val_true

def TryStepRel (w : World) (p2 p3 n : Nat) (th ix : Value) (wr : World) : Prop :=
  ∃ (k : Nat) (F : FileD) (last : Option HeadD) (fa la : Option Addr) (fl fc ll lc : Nat), k ≤ n ∧ ix = .int .i64 k ∧ th = .bool last.isSome ∧ Blk wr p2 [.slice fa fl fc, .slice la ll lc, .int .i64 F.fuse, .int .i64 F.fault, .bool F.off] 27 ∧ Blk wr p3 [.int .u64 (headG last : Int), .int .i64 (headA last)] 30 ∧ FileIn wr [p2, p3] fa fl fc la ll lc F ∧ Dav.Calm F (k * 700) ∧ Dav.Ends F.all last ∧ Below w.heap.size w wr

set_option maxRecDepth 100000 in
set_option maxHeartbeats 16000000 in
theorem Try_steps (sa : Option Addr) (sl sc : Nat) (L : List StepV) (w : World) (hL : StepsAt w sa L) (hLl : L.length = sl) (hsc : sl ≤ sc) (hsl : sl ≤ 140737488355328) :
    Calls Try.prog 6 #[.slice sa sl sc] w fun e w' => ∃ (F : FileD) (last : Option HeadD) (fa la : Option Addr) (fl fc ll lc : Nat), e = .returned (.tuple #[.agg #[.slice fa fl fc, .slice la ll lc, .int .i64 F.synced.fuse, .int .i64 F.synced.fault, .bool F.synced.off], .agg #[.int .u64 (headG last : Int), .int .i64 (headA last)], .bool last.isSome, .bool true]) ∧ FileS w' (fun b => b < w'.heap.size) fa fl fc la ll lc F.synced ∧ Dav.Calm F 21000 ∧ Dav.Ends F.all last ∧ Below w.heap.size w w' := by
  have HL := Lib.hid hL
  have HLL := Lib.hid hLl
  obtain ⟨n, hn⟩ : ∃ n, min sl 30 = n := ⟨_, rfl⟩
  have hn1 : n ≤ sl := by omega
  have hn2 : (n : Int) ≤ 30 := by omega
  have hn3 : (n : Int) ≤ (sc : Int) := by omega
  have hmin : (if (30 : Int) < (sl : Int) then (30 : Int) else (sl : Int)) = (n : Int) := by split <;> omega
  have HN := Lib.hid hn
  clear hL hLl hn
  have hkf0 := ((Blk.new w [.slice none 0 0, .slice none 0 0, .int .i64 0, .int .i64 0, .bool false] 27).alloc (.cells #[.int .u64 0, .int .i64 0] 30))
  have hkh0 := Blk.new' (w.alloc (.cells #[.slice none 0 0, .slice none 0 0, .int .i64 0, .int .i64 0, .bool false] 27)) [.int .u64 0, .int .i64 0] 30 (p := w.heap.size + 1) (by simp)
  have hbel0 : Below w.heap.size w ((w.alloc (.cells #[.slice none 0 0, .slice none 0 0, .int .i64 0, .int .i64 0, .bool false] 27)).alloc (.cells #[.int .u64 0, .int .i64 0] 30)) := (by repeat (first | (with_reducible exact Below.refl _ _) | (with_reducible exact Below.refl _ _) | (with_reducible refine Below.setCell ?_ (by first | omega | (simp; done) | (simp; omega)) _) | (with_reducible refine Below.alloc ?_ (by first | omega | (simp; done) | (simp; omega)) _) | (with_reducible refine Below.drew ?_) | (with_reducible refine below_drewN ?_ _)))
  obtain ⟨W0, hW0⟩ : ∃ W0, (w.alloc (.cells #[.slice none 0 0, .slice none 0 0, .int .i64 0, .int .i64 0, .bool false] 27)).alloc (.cells #[.int .u64 0, .int .i64 0] 30) = W0 := ⟨_, rfl⟩
  rw [hW0] at hkf0 hkh0 hbel0
  have HKF0 := Lib.hid hkf0
  have HKH0 := Lib.hid hkh0
  have BEL0 := Lib.hid hbel0
  have HW0 := Lib.hid hW0
  clear hkf0 hkh0 hbel0 hW0
  go_enter Try.func6, Try.ntmps6
  go_wp2_with fail
  rw [HW0.out]
  refine (Try_New W0).mono ?_; rintro e w1 ⟨rfl, hb1⟩
  have HKF1 := Lib.hid (HKF0.out.ext hb1)
  have HKH1 := Lib.hid (HKH0.out.ext hb1)
  have BEL1 := Lib.hid (BEL0.out.trans (hb1.mono BEL0.out.size))
  have q2 := HKF1.out.cells
  have m2 := HKF1.out.marks
  have l2 := HKF1.out.lt
  have q3 := HKH1.out.cells
  have l3 := HKH1.out.lt
  clear hb1 HKF0 HKH0 BEL0 HW0
  go_wp2_with fail
  obtain ⟨W2, hW2⟩ : ∃ W2, (((((w1.setCell ⟨w.heap.size, 0, none⟩ (.slice none 0 0)).setCell ⟨w.heap.size, 1, none⟩ (.slice none 0 0)).setCell ⟨w.heap.size, 2, none⟩ (.int .i64 (-1))).setCell ⟨w.heap.size, 3, none⟩ (.int .i64 (-1))).setCell ⟨w.heap.size, 4, none⟩ (.bool false)) = W2 := ⟨_, rfl⟩
  have o5 : Only w.heap.size w1 W2 := by rw [← hW2]; exact (by repeat (first | (with_reducible exact Only.refl _ _) | (with_reducible refine Only.set ?_ _ _) | (with_reducible refine Only.alloc ?_ _) | (with_reducible refine Only.drew ?_)))
  have HKF2 := Lib.hid (show Blk W2 w.heap.size [.slice none 0 0, .slice none 0 0, .int .i64 (-1), .int .i64 (-1), .bool false] 27 by rw [← hW2]; exact HKF1.out.five _ _ _ _ _)
  have HKH2 := Lib.hid (HKH1.out.only o5 (by omega))
  have BEL2 := Lib.hid (below_only BEL1.out o5 BEL1.out.size (Nat.le_refl _))
  rw [hW2]
  clear hW2 o5 q2 m2 l2 q3 l3 HKF1 HKH1 BEL1 hmin hn3
  obtain ⟨p2, hp2⟩ : ∃ p2, w.heap.size = p2 := ⟨_, rfl⟩
  obtain ⟨p3, hp3⟩ : ∃ p3, w.heap.size + 1 = p3 := ⟨_, rfl⟩
  have HP2 := Lib.hid hp2
  have HP3 := Lib.hid hp3
  have HKF3 := Lib.hid (show Blk W2 p2 [.slice none 0 0, .slice none 0 0, .int .i64 (-1), .int .i64 (-1), .bool false] 27 from hp2 ▸ HKF2.out)
  have HKH3 := Lib.hid (show Blk W2 p3 [.int .u64 0, .int .i64 0] 30 from hp3 ▸ HKH2.out)
  rw [hp3, hp2]
  clear hp2 hp3 HKF2 HKH2
  go_loopw [4, 17] (fun th ix wr => TryStepRel w p2 p3 n th ix wr) (fun _ ix _ => n - (intOf ix).toNat)
  case atStart => exact ⟨0, FileD.none, none, none, none, 0, 0, 0, 0, Nat.zero_le _, rfl, rfl, HKF3.out, HKH3.out, FileIn.none_ _ _, Dav.Calm.none_, Dav.Ends.nil_, BEL2.out⟩
  case round =>
    obtain ⟨k, F, last, fa, la, fl, fc, ll, lc, hk, rfl, rfl, hkf, hkh, hf, hc, he, hbl⟩ := hrel
    have HKF := Lib.hid hkf
    have HKH := Lib.hid hkh
    have HF := Lib.hid hf
    have HC := Lib.hid hc
    have HE := Lib.hid he
    have HBL := Lib.hid hbl
    have q2 := hkf.cells
    have l2 := hkf.lt
    have q3 := hkh.cells
    have l3 := hkh.lt
    clear hkf hkh hf hc he hbl HKF3 HKH3 BEL2
    by_cases hlt : k < n
    · obtain ⟨d, hd⟩ : ∃ d, L[k]? = some d := ⟨_, List.getElem?_eq_getElem (by have := HLL.out; omega)⟩
      obtain ⟨b, o, rfl, hb, hcs, hX, hH⟩ := HL.out k d hd
      have hd0 := hcs 0 _ rfl
      have hd1 := hcs 1 _ rfl
      have hd2 := hcs 2 _ rfl
      rw [Nat.add_zero] at hd0
      have hcw := fun j => HBL.out.cell (p := ⟨b, o + k * 3 + j, none⟩) hb
      have hc0 := (HBL.out.cell (p := ⟨b, o + k * 3, none⟩) hb).trans hd0
      have hc1 := (hcw 1).trans hd1
      have hc2 := (hcw 2).trans hd2
      have HX := Lib.hid (hX.ext HBL.out)
      have HH := Lib.hid hH
      have hkl : (k : Int) < (n : Int) := by omega
      have HLT := Lib.hid hlt
      clear hd hcs hX hH hd0 hd1 hd2 hcw hlt hk hb
      obtain ⟨W1, hW1⟩ : ∃ W1, wr.alloc (.cells #[.slice d.ba d.bl d.bc, .int .u64 (d.hd.gen : Int), .int .i64 d.hd.at_] 55) = W1 := ⟨_, rfl⟩
      have a1 : Below wr.heap.size wr W1 := by rw [← hW1]; exact (by repeat (first | (with_reducible exact Below.refl _ _) | (with_reducible exact Below.refl _ _) | (with_reducible refine Below.setCell ?_ (by first | omega | (simp; done) | (simp; omega)) _) | (with_reducible refine Below.alloc ?_ (by first | omega | (simp; done) | (simp; omega)) _) | (with_reducible refine Below.drew ?_) | (with_reducible refine below_drewN ?_ _)))
      have HKD := Lib.hid (show Blk W1 wr.heap.size [.slice d.ba d.bl d.bc, .int .u64 (d.hd.gen : Int), .int .i64 d.hd.at_] 55 by rw [← hW1]; exact Blk.new _ _ _)
      have HKF1 := Lib.hid (HKF.out.ext a1)
      have HKH1 := Lib.hid (HKH.out.ext a1)
      have HF1 := Lib.hid (HF.out.ext a1)
      have HX1 := Lib.hid (HX.out.ext a1)
      have BEL1 := Lib.hid (HBL.out.trans (a1.mono HBL.out.size))
      have HW1 := Lib.hid hW1
      have HNE := Lib.hid (show p2 ≠ p3 ∧ p2 ≠ wr.heap.size ∧ p3 ≠ wr.heap.size by have := HP2.out; have := HP3.out; have := HKF.out.lt; have := HKH.out.lt; omega)
      clear a1 hW1
      by_cases h0 : 0 < d.bl
      · have h0' : (0 : Int) < (d.bl : Int) := by omega
        go_wp2_with fail
        rw [HW1.out]
        have q2 := HKF1.out.cells
        have l2 := HKF1.out.lt
        have q7 := HKD.out.cells
        have l7 := HKD.out.lt
        obtain ⟨m, hm⟩ : ∃ m, min d.bl 300 = m := ⟨_, rfl⟩
        have hbc := HX1.out.hcap
        have hm1 : (m : Int) ≤ (d.bc : Int) := by omega
        have hmin : (if (300 : Int) < (d.bl : Int) then (300 : Int) else (d.bl : Int)) = (m : Int) := by split <;> omega
        have HXM := Lib.hid (HX1.out.take (n := m) (by omega)).s
        have hml : (d.bytes.take m).length = m := by rw [List.length_take, HX1.out.hlen]; omega
        obtain ⟨rec_, hrec⟩ : ∃ r, d.bytes.take m = r := ⟨_, rfl⟩
        rw [hrec] at HXM hml
        obtain ⟨⟨pl, hput⟩, hcalm⟩ := HC.out.fput (p := rec_) (by omega) (by omega) (by omega)
        obtain ⟨F', hF'⟩ : ∃ F', F.with (pieceOf F.all (outOf rec_)) = F' := ⟨_, rfl⟩
        have hends := HE.out.record (cs := outOf rec_) (outOf_ne _)
        rw [← FileD.with_all, hF'] at hends
        rw [hF'] at hput hcalm
        have HPUT := Lib.hid hput
        have HC' := Lib.hid hcalm
        have HE' := Lib.hid hends
        clear hbc hml hrec hput hcalm hends hm hF'
        refine' wp_region_seqF [11, 12] [.inl _, .inl _, .inl _, .inl _, .inl _, .inl _, .inl _, .inl _, .inr (FileTup3 W1 (Free [p2, p3] W1) F' pl 0), .inr (FileTup3 W1 (Free [p2, p3] W1) F' pl 0), .inr (FileV W1 (Free [p2, p3] W1) F'), .inl _, .inl _] (by kernel_rfl) (by kernel_rfl) ?main1
        case main1 =>
          refine wpParts_det (by rfl) (fun W hE hN => ?_) ?_
          · have hc := fun b o h => hE.cell (p := ⟨b, o, none⟩) h
            go_simp; refine ⟨Below.refl _ _, ?_⟩; rfl
          simp only [Act.put, List.setIfInBounds_toArray, List.set_cons_zero, List.set_cons_succ]
          refine wpParts_det (by rfl) (fun W hE hN => ?_) ?_
          · go_simp; refine ⟨Below.refl _ _, ?_⟩; rfl
          simp only [Act.put, List.setIfInBounds_toArray, List.set_cons_zero, List.set_cons_succ]
          refine wpParts_det (by rfl) (fun W hE hN => ?_) ?_
          · have hc := fun b o h => hE.cell (p := ⟨b, o, none⟩) h
            go_simp; refine ⟨Below.refl _ _, ?_⟩; rfl
          simp only [Act.put, List.setIfInBounds_toArray, List.set_cons_zero, List.set_cons_succ]
          refine wpParts_det (by rfl) (fun W hE hN => ?_) ?_
          · go_simp; refine ⟨Below.refl _ _, ?_⟩; rfl
          simp only [Act.put, List.setIfInBounds_toArray, List.set_cons_zero, List.set_cons_succ]
          refine wpParts_det (by rfl) (fun W hE hN => ?_) ?_
          · have hc := fun b o h => hE.cell (p := ⟨b, o, none⟩) h
            go_simp; refine ⟨Below.refl _ _, ?_⟩; rfl
          simp only [Act.put, List.setIfInBounds_toArray, List.set_cons_zero, List.set_cons_succ]
          refine wpParts_det (by rfl) (fun W hE hN => ?_) ?_
          · go_simp; refine ⟨Below.refl _ _, ?_⟩; rfl
          simp only [Act.put, List.setIfInBounds_toArray, List.set_cons_zero, List.set_cons_succ]
          refine wpParts_det (by rfl) (fun W hE hN => ?_) ?_
          · go_simp; refine ⟨Below.refl _ _, ?_⟩; rfl
          simp only [Act.put, List.setIfInBounds_toArray, List.set_cons_zero, List.set_cons_succ]
          refine wpParts_det (by rfl) (fun W hE hN => ?_) ?_
          · go_simp; refine ⟨Below.refl _ _, ?_⟩; rfl
          simp only [Act.put, List.setIfInBounds_toArray, List.set_cons_zero, List.set_cons_succ]
          refine wpParts_any rfl (FileTup3.later) (by rfl) (fun W hE hN => ?_) (fun u8 => ?_)
          · go_simp; refine ⟨Below.refl _ _, ?_⟩; have hA := Try_fPut F fa la d.ba fl fc ll lc m d.bc rec_ W (Free [p2, p3] W1) _ (FileS.ext HF1.out hE) (fun b h => Nat.lt_of_lt_of_le h.1 hE.size) (HXM.out.ext hE); rw [HPUT.out] at hA; refine hA.mono ?_; rintro e w' ⟨ga, gl, gc, ma, ml, mc, rfl, hR, hb⟩; exact ⟨_, rfl, hb, ga, gl, gc, ma, ml, mc, rfl, hR.mono fun b h => h.imp id fun h => Nat.le_trans hE.size h⟩
          simp only [Act.put, List.setIfInBounds_toArray, List.set_cons_zero, List.set_cons_succ]
          refine wpParts_any rfl (FileTup3.later) (by rfl) (fun W hE hN => ?_) (fun u9 => ?_)
          · simp [near, Oper.looksAt, Op.operands] at hN; go_simp; exact Below.refl _ _
          simp only [Act.put, List.setIfInBounds_toArray, List.set_cons_zero, List.set_cons_succ]
          refine wpParts_any rfl (FileV.later) (by rfl) (fun W hE hN => ?_) (fun u10 => ?_)
          · simp [near, Oper.looksAt, Op.operands] at hN; obtain ⟨ga, gl, gc, ma, ml, mc, rfl, hR⟩ := hN; go_simp; exact ⟨Below.refl _ _, ga, gl, gc, ma, ml, mc, rfl, hR⟩
          simp only [Act.put, List.setIfInBounds_toArray, List.set_cons_zero, List.set_cons_succ]
          refine wpParts_det (by rfl) (fun W hE hN => ?_) ?_
          · simp [near, Oper.looksAt, Op.operands] at hN; obtain ⟨ga, gl, gc, ma, ml, mc, rfl, hR⟩ := hN; go_simp; refine ⟨Below.refl _ _, ?_⟩; rfl
          simp only [Act.put, List.setIfInBounds_toArray, List.set_cons_zero, List.set_cons_succ]
          refine wpParts_det (by rfl) (fun W hE hN => ?_) ?_
          · simp [near, Oper.looksAt, Op.operands] at hN; obtain ⟨ga, gl, gc, ma, ml, mc, rfl, hR⟩ := hN; go_simp; refine ⟨Below.refl _ _, ?_⟩; rfl
          simp only [Act.put, List.setIfInBounds_toArray, List.set_cons_zero, List.set_cons_succ]
          refine wpParts_end fun W2 hE2 hG2 => ?_
          have hcW2 := fun b o h => hE2.cell (p := ⟨b, o, none⟩) h
          have hfW2 := fun b o h => hE2.frozen (p := ⟨b, o, none⟩) h
          obtain ⟨⟨ga, gl, gc, ma, ml, mc, rfl, hR⟩, _⟩ := hG2
          have HR := Lib.hid (FileIn.of_or hR (by intro x hx; simp at hx; rcases hx with h | h; (rw [h]; exact HKF1.out.lt); (rw [h]; exact HKH1.out.lt)))
          have HKF2 := Lib.hid (HKF1.out.ext hE2)
          have HKH2 := Lib.hid (HKH1.out.ext hE2)
          have BEL2 := Lib.hid (BEL1.out.trans (hE2.mono BEL1.out.size))
          clear hR hE2 hcW2 hfW2 q2 l2 q7 l7 q3 l3
          have q2 := HKF2.out.cells
          have m2 := HKF2.out.marks
          have l2 := HKF2.out.lt
          go_wp2_with fail
          refine noPanic_normal ?_
          go_wp2_with fail
          obtain ⟨V, hV⟩ : ∃ V, (((((W2.setCell ⟨p2, 0, none⟩ (.slice ga gl gc)).setCell ⟨p2, 1, none⟩ (.slice ma ml mc)).setCell ⟨p2, 2, none⟩ (.int .i64 F'.fuse)).setCell ⟨p2, 3, none⟩ (.int .i64 F'.fault)).setCell ⟨p2, 4, none⟩ (.bool F'.off)) = V := ⟨_, rfl⟩
          have o5 : Only p2 W2 V := by rw [← hV]; exact (by repeat (first | (with_reducible exact Only.refl _ _) | (with_reducible refine Only.set ?_ _ _) | (with_reducible refine Only.alloc ?_ _) | (with_reducible refine Only.drew ?_)))
          have KF := Lib.hid (show Blk V p2 [.slice ga gl gc, .slice ma ml mc, .int .i64 F'.fuse, .int .i64 F'.fault, .bool F'.off] 27 by rw [← hV]; exact HKF2.out.five _ _ _ _ _)
          have KH := Lib.hid (HKH2.out.only o5 (by have := HP2.out; have := HP3.out; omega))
          have KR := Lib.hid (HR.out.only o5 (by simp))
          have KB := Lib.hid (below_only BEL2.out o5 BEL2.out.size (by have := HP2.out; omega))
          rw [hV]
          go_roundw
          case rel => exact ⟨k + 1, F', last, ga, ma, gl, gc, ml, mc, HLT.out, by go_num, rfl, KF.out, KH.out, KR.out, (HC'.out).mono (by omega), HE'.out, KB.out⟩
          case measure => have := HLT.out; simp [intOf]; omega
      · have h0' : ¬ (0 : Int) < (d.bl : Int) := by omega
        go_wp2_with fail
        rw [HW1.out]
        refine (Try_hCheck d.hd W1).mono ?_; rintro e w2 ⟨rfl, hb2⟩
        have HKD2 := Lib.hid (HKD.out.ext hb2)
        have HKF2 := Lib.hid (HKF1.out.ext hb2)
        have HKH2 := Lib.hid (HKH1.out.ext hb2)
        have HF2 := Lib.hid (HF1.out.ext hb2)
        have BEL2 := Lib.hid (BEL1.out.trans (hb2.mono BEL1.out.size))
        clear hb2 HKD HKF1 HKH1 HF1 BEL1 HX1 HX HKF HKH HF HBL q2 l2 q3 l3
        have q2 := HKF2.out.cells
        have l2 := HKF2.out.lt
        have q7 := HKD2.out.cells
        have l7 := HKD2.out.lt
        have q3 := HKH2.out.cells
        have m3 := HKH2.out.marks
        have l3 := HKH2.out.lt
        cases hr : d.hd.right with
        | true =>
          have he : d.hd.err = 0 := by unfold HeadD.err; rw [if_pos hr]
          obtain ⟨hput, hcalm⟩ := HC.out.put (hd := d.hd) hr (by omega)
          obtain ⟨F', hF'⟩ : ∃ F', F.with (laidOf F.many d.hd.gen d.hd.at_.toNat) = F' := ⟨_, rfl⟩
          have hends := HE.out.header (hd := d.hd) hr HH.out.1
          rw [F.all_length, ← FileD.with_all, hF'] at hends
          rw [hF'] at hput hcalm
          have HPUT := Lib.hid hput
          have HC' := Lib.hid hcalm
          have HE' := Lib.hid hends
          rw [he]
          clear he hput hcalm hends hF' hr
          go_wp2_with fail
          have hA := Try_Put F d.hd fa la fl fc ll lc w2 (Free [p2, p3] w2) HH.out HF2.out (fun b h => h.1)
          rw [HPUT.out] at hA
          refine hA.mono ?_; rintro e w3 ⟨ga, gl, gc, ma, ml, mc, rfl, hR, hb3⟩
          have HR := Lib.hid (FileIn.of_or hR (by intro x hx; simp at hx; rcases hx with h | h; (rw [h]; exact HKF2.out.lt); (rw [h]; exact HKH2.out.lt)))
          have HKF3 := Lib.hid (HKF2.out.ext hb3)
          have HKH3 := Lib.hid (HKH2.out.ext hb3)
          have HKD3 := Lib.hid (HKD2.out.ext hb3)
          have BEL3 := Lib.hid (BEL2.out.trans (hb3.mono BEL2.out.size))
          clear hA hR hb3 q2 l2 q7 l7 q3 m3 l3 HKF2 HKH2 HKD2 BEL2 HF2
          have q2 := HKF3.out.cells
          have m2 := HKF3.out.marks
          have l2 := HKF3.out.lt
          have q7 := HKD3.out.cells
          have l7 := HKD3.out.lt
          have q3 := HKH3.out.cells
          have m3 := HKH3.out.marks
          have l3 := HKH3.out.lt
          obtain ⟨z1, z2, z3⟩ : p2 ≠ p3 ∧ p2 ≠ wr.heap.size ∧ p3 ≠ wr.heap.size := HNE.out
          have z1' := Ne.symm z1
          have z2' := Ne.symm z2
          have z3' := Ne.symm z3
          go_wp2_with fail
          obtain ⟨V, hV⟩ : ∃ V, (((((w3.setCell ⟨p2, 0, none⟩ (.slice ga gl gc)).setCell ⟨p2, 1, none⟩ (.slice ma ml mc)).setCell ⟨p2, 2, none⟩ (.int .i64 F'.fuse)).setCell ⟨p2, 3, none⟩ (.int .i64 F'.fault)).setCell ⟨p2, 4, none⟩ (.bool F'.off)) = V := ⟨_, rfl⟩
          have o5 : Only p2 w3 V := by rw [← hV]; exact (by repeat (first | (with_reducible exact Only.refl _ _) | (with_reducible refine Only.set ?_ _ _) | (with_reducible refine Only.alloc ?_ _) | (with_reducible refine Only.drew ?_)))
          have KF := Lib.hid (show Blk V p2 [.slice ga gl gc, .slice ma ml mc, .int .i64 F'.fuse, .int .i64 F'.fault, .bool F'.off] 27 by rw [← hV]; exact HKF3.out.five _ _ _ _ _)
          have KH := Lib.hid (HKH3.out.only o5 z1')
          have KR := Lib.hid (HR.out.only o5 (by simp))
          have KB := Lib.hid (below_only BEL3.out o5 BEL3.out.size (by have := HP2.out; omega))
          rw [hV]
          clear hV o5
          obtain ⟨U, hU⟩ : ∃ U, (V.setCell ⟨p3, 0, none⟩ (.int .u64 (d.hd.gen : Int))).setCell ⟨p3, 1, none⟩ (.int .i64 d.hd.at_) = U := ⟨_, rfl⟩
          have o2 : Only p3 V U := by rw [← hU]; exact (by repeat (first | (with_reducible exact Only.refl _ _) | (with_reducible refine Only.set ?_ _ _) | (with_reducible refine Only.alloc ?_ _) | (with_reducible refine Only.drew ?_)))
          have UH := Lib.hid (show Blk U p3 [.int .u64 (d.hd.gen : Int), .int .i64 d.hd.at_] 30 by rw [← hU]; exact (KH.out.set 0 _).set 1 _)
          have UF := Lib.hid (KF.out.only o2 z1)
          have UR := Lib.hid (KR.out.only o2 (by simp))
          have UB := Lib.hid (below_only KB.out o2 KB.out.size (by have := HP3.out; omega))
          rw [hU]
          go_roundw
          case rel => exact ⟨k + 1, F', some d.hd, ga, ma, gl, gc, ml, mc, HLT.out, by go_num, rfl, UF.out, UH.out, UR.out, (HC'.out).mono (by omega), HE'.out, UB.out⟩
          case measure => have := HLT.out; simp [intOf]; omega
        | false =>
          have he : d.hd.err = 220 := by unfold HeadD.err; rw [if_neg (by rw [hr]; decide)]
          rw [he]
          clear he hr
          go_wp2_with fail
          go_roundw
          case rel => exact ⟨k + 1, F, last, fa, la, fl, fc, ll, lc, HLT.out, by go_num, rfl, HKF2.out, HKH2.out, HF2.out, (HC.out).mono (by omega), HE.out, BEL2.out⟩
          case measure => have := HLT.out; simp [intOf]; omega
    · have hkl : ¬ (k : Int) < (n : Int) := by omega
      go_wp2_with fail
      obtain ⟨hsync, hcs⟩ := HC.out.sync (by omega)
      have HCS := Lib.hid (HC.out.mono (m := 21000) (by omega))
      have hA := Try_Sync F fa la fl fc ll lc wr (Free [p2, p3] wr) HF.out (fun b h => h.1)
      rw [hsync] at hA
      refine hA.mono ?_; rintro e w3 ⟨ga, gl, gc, ma, ml, mc, rfl, hR, hb3⟩
      dsimp only at hR
      have HR := Lib.hid (FileIn.of_or hR (by intro x hx; simp at hx; rcases hx with h | h; (rw [h]; exact HKF.out.lt); (rw [h]; exact HKH.out.lt)))
      have HKF3 := Lib.hid (HKF.out.ext hb3)
      have HKH3 := Lib.hid (HKH.out.ext hb3)
      have BEL3 := Lib.hid (HBL.out.trans (hb3.mono HBL.out.size))
      clear hA hR hb3 q2 l2 q3 l3 HKF HKH HF HBL hsync hcs
      have q2 := HKF3.out.cells
      have m2 := HKF3.out.marks
      have l2 := HKF3.out.lt
      go_wp2_with fail
      obtain ⟨V, hV⟩ : ∃ V, (((((w3.setCell ⟨p2, 0, none⟩ (.slice ga gl gc)).setCell ⟨p2, 1, none⟩ (.slice ma ml mc)).setCell ⟨p2, 2, none⟩ (.int .i64 F.synced.fuse)).setCell ⟨p2, 3, none⟩ (.int .i64 F.synced.fault)).setCell ⟨p2, 4, none⟩ (.bool F.synced.off)) = V := ⟨_, rfl⟩
      have o5 : Only p2 w3 V := by rw [← hV]; exact (by repeat (first | (with_reducible exact Only.refl _ _) | (with_reducible refine Only.set ?_ _ _) | (with_reducible refine Only.alloc ?_ _) | (with_reducible refine Only.drew ?_)))
      have KF := Lib.hid (show Blk V p2 [.slice ga gl gc, .slice ma ml mc, .int .i64 F.synced.fuse, .int .i64 F.synced.fault, .bool F.synced.off] 27 by rw [← hV]; exact HKF3.out.five _ _ _ _ _)
      have KH := Lib.hid (HKH3.out.only o5 (by have := HP2.out; have := HP3.out; omega))
      have KR := Lib.hid (HR.out.only o5 (by simp))
      have KB := Lib.hid (below_only BEL3.out o5 BEL3.out.size (by have := HP2.out; omega))
      rw [hV]
      clear hV o5 HKF3 HKH3 HR BEL3 q2 m2 l2
      have q2 := KF.out.cells
      have m2 := KF.out.marks
      have l2 := KF.out.lt
      have q3 := KH.out.cells
      have m3 := KH.out.marks
      have l3 := KH.out.lt
      have z1 : p2 ≠ p3 := by have := HP2.out; have := HP3.out; omega
      have z1' := Ne.symm z1
      go_region
      obtain ⟨U, hU⟩ : ∃ U, (((((((V.setCell ⟨p2, 0, none⟩ (.slice ga gl gc)).setCell ⟨p2, 1, none⟩ (.slice ma ml mc)).setCell ⟨p2, 2, none⟩ (.int .i64 F.synced.fuse)).setCell ⟨p2, 3, none⟩ (.int .i64 F.synced.fault)).setCell ⟨p2, 4, none⟩ (.bool F.synced.off)).setCell ⟨p3, 0, none⟩ (.int .u64 (headG last : Int))).setCell ⟨p3, 1, none⟩ (.int .i64 (headA last))).drew = U := ⟨_, rfl⟩
      obtain ⟨V1, hV1⟩ : ∃ V1, (((((V.setCell ⟨p2, 0, none⟩ (.slice ga gl gc)).setCell ⟨p2, 1, none⟩ (.slice ma ml mc)).setCell ⟨p2, 2, none⟩ (.int .i64 F.synced.fuse)).setCell ⟨p2, 3, none⟩ (.int .i64 F.synced.fault)).setCell ⟨p2, 4, none⟩ (.bool F.synced.off)) = V1 := ⟨_, rfl⟩
      rw [hU]
      rw [hV1] at hU
      have o5 : Only p2 V V1 := by rw [← hV1]; exact (by repeat (first | (with_reducible exact Only.refl _ _) | (with_reducible refine Only.set ?_ _ _) | (with_reducible refine Only.alloc ?_ _) | (with_reducible refine Only.drew ?_)))
      have o2 : Only p3 V1 U := by rw [← hU]; exact (by repeat (first | (with_reducible exact Only.refl _ _) | (with_reducible refine Only.set ?_ _ _) | (with_reducible refine Only.alloc ?_ _) | (with_reducible refine Only.drew ?_)))
      have F1 := Lib.hid (show Blk V1 p2 [.slice ga gl gc, .slice ma ml mc, .int .i64 F.synced.fuse, .int .i64 F.synced.fault, .bool F.synced.off] 27 by rw [← hV1]; exact KF.out.five _ _ _ _ _)
      have H1 := Lib.hid (KH.out.only o5 z1')
      have R1 := Lib.hid ((KR.out.only o5 (by simp)).only o2 (by simp))
      have B1 := Lib.hid (below_only (below_only KB.out o5 KB.out.size (by have := HP2.out; omega)) o2 (Nat.le_trans KB.out.size o5.size) (by have := HP3.out; omega))
      have F2 := (F1.out.only o2 z1).cells
      have H2 := (show Blk U p3 [.int .u64 (headG last : Int), .int .i64 (headA last)] 30 by rw [← hU]; exact ((H1.out.set 0 _).set 1 _).drew).cells
      clear hU hV1 o5 o2 F1 H1 KF KH KR KB q2 m2 l2 q3 m3 l3
      go_wp2
      refine bodyPost_ret (v := .tuple #[.agg #[.slice ga gl gc, .slice ma ml mc, .int .i64 F.synced.fuse, .int .i64 F.synced.fault, .bool F.synced.off], .agg #[.int .u64 (headG last : Int), .int .i64 (headA last)], .bool last.isSome, .bool true]) (by simp [results, Try.results6, go_sem, F2, H2]) rfl ⟨F, last, ga, ma, gl, gc, ml, mc, rfl, FileS.mono R1.out fun b h => h.1, HCS.out, HE.out, B1.out⟩
end Go.Proofs.Ythpdcbklaapngaa

namespace Go.Proofs.Ythpdcbklaapngaa
set_option linter.unusedVariables false
set_option linter.unusedSimpArgs false
open Go.ChangeShapes Go.WideShapes Go.ChangeAt Go.RowKit Go.Joins Go.Dav Go.Deep
section
variable {H : Type} {enc : TypeId × Value → H} {w : World} {base : Nat} {spare : Nat → Bool} {held : Bool}
theorem u64_wf {x : Int} (h : (Lit.int .u64 x).wf = true) : 0 ≤ x ∧ x < 18446744073709551616 := by
  have h1 : IntKind.u64.min ≤ x ∧ x ≤ IntKind.u64.max := by simpa [Lit.wf] using h
  rw [show IntKind.u64.min = 0 from rfl, show IntKind.u64.max = 18446744073709551615 from rfl] at h1
  omega
set_option maxRecDepth 100000 in
theorem Try_head_open {r : Reach} {b0 : Nat} {v : Value} {d : DataW H} {p : List MemPlace} (hv : Value.okWide Try.prog w r b0 30 v) (h : DataW.Trod enc Try.prog w base spare held 30 v d p) :
    ∃ h : HeadD, v = .agg #[.int .u64 (h.gen : Int), .int .i64 h.at_] ∧ h.Fits := by
  obtain ⟨z0, z1, u0, u1, fv, rfl, rfl, rfl, i0, i1⟩ := open_agg2 Try.underlying30 (by kernel_rfl) (by kernel_rfl) hv h
  obtain ⟨x0, f0, _, v0⟩ := DataW.trod_int Try.underlying28 i0
  obtain ⟨x1, f1, _, v1⟩ := DataW.trod_int Try.underlying3 i1
  simp only [List.cons.injEq, and_true] at f0 f1
  subst f0 f1
  obtain ⟨h1, h2⟩ := u64_wf v0
  obtain ⟨g, rfl⟩ := Int.eq_ofNat_of_zero_le h1
  exact ⟨⟨g, x1⟩, rfl, by show g < _; omega, i64_wf v1⟩
set_option maxRecDepth 100000 in
theorem Try_loss_open {r : Reach} {b0 : Nat} {v : Value} {d : DataW H} {p : List MemPlace} (hv : Value.okWide Try.prog w r b0 36 v) (h : DataW.Trod enc Try.prog w base spare held 36 v d p) (hs : ∀ n ∈ d.weights Try.prog 36, n ≤ reachBytes) :
    ∃ (c : Int) (a : Option Addr) (len cap : Nat) (L : List (List UInt8)), v = .agg #[.int .i64 c, .slice a len cap] ∧ I64' c ∧ LooseAt w a len cap L := by
  obtain ⟨z0, z1, u0, u1, fv, rfl, rfl, rfl, i0, i1⟩ := open_agg2 Try.underlying36 (by kernel_rfl) (by kernel_rfl) hv h
  obtain ⟨x0, f0, _, v0⟩ := DataW.trod_int Try.underlying3 i0
  obtain ⟨la, ll, lc, L, rfl, hl⟩ := Try_loose_open i1 (fun n hn => hs n (by
    simp only [DataW.weights, Try.underlying36, List.map_cons, List.map_nil, DataW.weightsEach, List.mem_append]
    exact .inr (.inl hn)))
  simp only [List.cons.injEq, and_true] at f0
  subst f0
  exact ⟨x0, la, ll, lc, L, rfl, i64_wf v0, hl⟩
set_option maxRecDepth 100000 in
theorem Try_step_open {n : Nat} {cs : List Value} {y : DataW H × List MemPlace} (h : DataW.trod enc Try.prog w base spare held n 55 cs = some y) (hs : ∀ n ∈ y.1.weights Try.prog 55, n ≤ reachBytes) : ∃ x : StepV, cs = x.cells ∧ BytesAt w x.ba x.bl x.bc x.bytes ∧ x.hd.Fits := by
  obtain ⟨xs, m, rfl, rfl, hcl, hlen, hF⟩ := DataW.trod_struct Try.underlying55 h
  have h3 : Try.prog.cellsOf 55 = 3 := by kernel_rfl
  have h1 : Try.prog.cellsOf 3 = 1 := by kernel_rfl
  have h2 : Try.prog.cellsOf 30 = 2 := by kernel_rfl
  have h4 : Try.prog.cellsOf 28 = 1 := by kernel_rfl
  have h5 : Try.prog.cellsOf 24 = 1 := by kernel_rfl
  rw [h3] at hcl
  match cs, hcl, xs, hlen with
  | [c0, c1, c2], _, [x0, x1], _ =>
    have t0 : DataW.trod enc Try.prog w base spare held m 24 (([c0, c1, c2].drop 0).take (Try.prog.cellsOf 24)) = some x0 := hF 0 _ rfl
    have t1 : DataW.trod enc Try.prog w base spare held m 30 (([c0, c1, c2].drop 1).take (Try.prog.cellsOf 30)) = some x1 := hF 1 _ rfl
    rw [h5] at t0
    rw [h2] at t1
    replace t0 : DataW.trod enc Try.prog w base spare held m 24 [c0] = some x0 := t0
    replace t1 : DataW.trod enc Try.prog w base spare held m 30 [c1, c2] = some x1 := t1
    obtain ⟨ba, bl, bc, bs, f0, hb⟩ := Try_bytes_open t0 (fun k hk => hs k (by
      simp only [DataW.weights, Try.underlying55, List.map_cons, List.map_nil, DataW.weightsEach, List.mem_append]
      exact .inl hk))
    obtain ⟨ys, m2, rfl, _, _, hlen2, hG⟩ := DataW.trod_struct Try.underlying30 t1
    match ys, hlen2 with
    | [y0, y1], _ =>
      have s0 : DataW.trod enc Try.prog w base spare held m2 28 (([c1, c2].drop 0).take (Try.prog.cellsOf 28)) = some y0 := hG 0 _ rfl
      have s1 : DataW.trod enc Try.prog w base spare held m2 3 (([c1, c2].drop 1).take (Try.prog.cellsOf 3)) = some y1 := hG 1 _ rfl
      rw [h4] at s0
      rw [h1] at s1
      obtain ⟨g0, e0, _, v0⟩ := DataW.trod_int Try.underlying28 s0
      obtain ⟨g1, e1, _, v1⟩ := DataW.trod_int Try.underlying3 s1
      simp only [List.drop_zero, List.drop_succ_cons, List.take_succ_cons, List.take_zero, List.cons.injEq, and_true] at e0 e1
      subst e0 e1 f0
      obtain ⟨a1, a2⟩ := u64_wf v0
      obtain ⟨g, rfl⟩ := Int.eq_ofNat_of_zero_le a1
      exact ⟨⟨bs, ⟨g, g1⟩, ba, bl, bc⟩, rfl, hb, ⟨by show g < _; omega, i64_wf v1⟩⟩

set_option maxRecDepth 100000 in
theorem Try_steps_open {r : Reach} {b0 : Nat} {v : Value} {d : DataW H} {p : List MemPlace} (hv : Value.okWide Try.prog w r b0 22 v) (h : DataW.Trod enc Try.prog w base spare held 22 v d p) (hs : ∀ n ∈ d.weights Try.prog 22, n ≤ reachBytes) :
    ∃ (a : Option Addr) (len cap : Nat) (D : List StepV), v = .slice a len cap ∧ StepsAt w a D ∧ D.length = len ∧ len ≤ cap ∧ len ≤ 140737488355328 := by
  obtain ⟨fuel, hf⟩ := h
  obtain ⟨a0, len0, cap0, rfl⟩ := okWide_slice Try.underlying22 hv
  rcases open_slice Try.underlying22 hf with ⟨hc, _⟩ | ⟨a, len, cap, m, n, D, Pl, hc, _, hl, hm, hmm, hx, hi⟩
  · simp only [Value.cells, List.cons.injEq, and_true] at hc
    exact ⟨_, _, _, [], hc, fun k d hk => by simp at hk, rfl, Nat.le_refl _, by omega⟩
  · simp only [Value.cells, List.cons.injEq, and_true] at hc
    simp only [Prod.mk.injEq] at hx
    obtain ⟨rfl, _⟩ := hx
    have hlm : len ≤ m := by rw [hmm]; split <;> omega
    have hb1 : Try.prog.bytesOf 55 = 40 := by kernel_rfl
    have h5 : Try.prog.cellsOf 55 = 3 := by kernel_rfl
    have hw := hs ((((List.range len).map D).length + ((List.range (m - len)).map fun j => D (len + j)).length) * Try.prog.bytesOf 55) (by simp [DataW.weights, Try.underlying22])
    rw [hb1] at hw
    simp only [List.length_map, List.length_range] at hw
    rw [h5] at hi
    have key : ∀ i, i < len → ∃ x : StepV, (∀ j u, x.cells[j]? = some u → w.cell? (a.add (i * 3 + j)) = some u) ∧ BytesAt w x.ba x.bl x.bc x.bytes ∧ x.hd.Fits := by
      intro i hil
      obtain ⟨cs', hcs, htr⟩ := hi i (by omega)
      obtain ⟨x, rfl, hX⟩ := Try_step_open htr (fun k hk => hs k (by
        simp only [DataW.weights, Try.underlying22, List.mem_cons, List.mem_append]
        exact .inr (.inl (weightsAll_mem (i := i) (by simp [hil]) hk))))
      refine ⟨x, fun j u hu => ?_, hX⟩
      obtain ⟨_, hcl, hci⟩ := World.cells?_some hcs
      have hj : j < 3 := by
        have h1 := (List.getElem?_eq_some_iff.1 hu).1
        have h2 : x.cells.length = 3 := rfl
        omega
      have := hci j hj
      rw [hu] at this
      rw [Addr.add_add] at this
      exact this
    obtain ⟨l, hlen, hl2⟩ := Try_listOf len key
    refine ⟨some a, len, cap, l, hc, fun k x hk => ?_, hlen, hl, by unfold reachBytes at hw; omega⟩
    obtain ⟨b, o, sp⟩ := a
    have hkl := (List.getElem?_eq_some_iff.1 hk).1
    have hcell0 := (hl2 0 _ (List.getElem?_eq_getElem (by omega : 0 < l.length))).1 0 _ rfl
    have hsp := World.cell?_spot hcell0
    have hsp : sp = none := by simpa [Addr.add] using hsp
    subst hsp
    have hbl := World.block_lt_of_cell? _ _ hcell0
    refine ⟨b, o, rfl, by simpa [Addr.add] using hbl, fun j u hu => ?_, (hl2 k x hk).2⟩
    have := (hl2 k x hk).1 j u hu
    rw [Addr.add_lit] at this
    rw [Nat.add_assoc]; exact this
end
end Go.Proofs.Ythpdcbklaapngaa

namespace Go.Dav
set_option linter.unusedVariables false
set_option linter.unusedSimpArgs false
open Go Go.RowKit
theorem FileD.synced_many (F : FileD) : F.synced.many = F.many := by rw [← F.synced.all_length, FileD.synced_all, F.all_length]
theorem FileD.with_many (F : FileD) (x : List UInt8) : (F.with x).many = F.many + x.length := by rw [← (F.with x).all_length, FileD.with_all, List.length_append, F.all_length]
end Go.Dav
namespace Go.Proofs.Ythpdcbklaapngaa
set_option linter.unusedVariables false
set_option linter.unusedSimpArgs false
open Go.RowKit Go.Dav
attribute [local go_sem] Gives ite_val ite_val_true

structure TryTornW (w : World) (p7 : Nat) (h : HeadD) (cut : Int) (ra : Option Addr) (rn rc : Nat) (last : Option HeadD) (W : World) : Prop where
  k4 : Blk W w.heap.size [.int .u64 (h.gen : Int), .int .i64 h.at_] 30
  k5 : Blk W (w.heap.size + 1) [.int .i64 cut, .slice ra rn rc] 36
  k8 : Blk W (p7 + 1) [.int .u64 (headG last : Int), .int .i64 (headA last)] 30
  bel : Below w.heap.size w W
  lt : w.heap.size + 1 < p7
theorem TryTornW.ext {w : World} {p7 : Nat} {h : HeadD} {cut : Int} {ra : Option Addr} {rn rc : Nat} {last : Option HeadD} {W W' : World} (x : TryTornW w p7 h cut ra rn rc last W) (hb : Below W.heap.size W W') : TryTornW w p7 h cut ra rn rc last W' :=
  ⟨x.k4.ext hb, x.k5.ext hb, x.k8.ext hb, x.bel.trans (hb.mono x.bel.size), x.lt⟩
theorem TryTornW.only {w : World} {p7 : Nat} {h : HeadD} {cut : Int} {ra : Option Addr} {rn rc : Nat} {last : Option HeadD} {W W' : World} (x : TryTornW w p7 h cut ra rn rc last W) (o : Only p7 W W') : TryTornW w p7 h cut ra rn rc last W' :=
  ⟨x.k4.only o (by have := x.lt; omega), x.k5.only o (by have := x.lt; omega), x.k8.only o (by omega), below_only x.bel o x.bel.size (by have := x.lt; omega), x.lt⟩
def TryTornRel (w : World) (p7 n N : Nat) (last : Option HeadD) (h : HeadD) (cut : Int) (ra : Option Addr) (rn rc : Nat) (ix : Value) (wr : World) : Prop :=
  ∃ (k : Nat) (G : FileD) (fa la : Option Addr) (fl fc ll lc : Nat), k ≤ n ∧ k ≤ 8 ∧ ix = .int .i64 k ∧ Blk wr p7 [.slice fa fl fc, .slice la ll lc, .int .i64 G.fuse, .int .i64 G.fault, .bool G.off] 27 ∧ FileIn wr [p7] fa fl fc la ll lc G ∧ Dav.Calm G (N + k * 700) ∧ Dav.Ends G.all last ∧ TryTornW w p7 h cut ra rn rc last wr

set_option maxRecDepth 100000 in
set_option maxHeartbeats 16000000 in
theorem Try_HeaderTorn (sa ra : Option Addr) (sl sc rn rc : Nat) (L : List StepV) (R : List (List UInt8)) (h : HeadD) (cut : Int) (w : World) (hL : StepsAt w sa L) (hLl : L.length = sl) (hsc : sl ≤ sc) (hsl : sl ≤ 140737488355328) (hh : h.Fits) (hR : LooseAt w ra rn rc R) (hcut : I64' cut) :
    Calls Try.prog 4 #[.slice sa sl sc, .agg #[.int .u64 (h.gen : Int), .int .i64 h.at_], .agg #[.int .i64 cut, .slice ra rn rc]] w fun e w' => e = .returned (.bool true) ∧ Below w.heap.size w w' := by
  obtain ⟨W0, hW0⟩ : ∃ W0, (w.alloc (.cells #[.int .u64 (h.gen : Int), .int .i64 h.at_] 30)).alloc (.cells #[.int .i64 cut, .slice ra rn rc] 36) = W0 := ⟨_, rfl⟩
  have bel0 : Below w.heap.size w W0 := by rw [← hW0]; exact (by repeat (first | (with_reducible exact Below.refl _ _) | (with_reducible exact Below.refl _ _) | (with_reducible refine Below.setCell ?_ (by first | omega | (simp; done) | (simp; omega)) _) | (with_reducible refine Below.alloc ?_ (by first | omega | (simp; done) | (simp; omega)) _) | (with_reducible refine Below.drew ?_) | (with_reducible refine below_drewN ?_ _)))
  have HK4 := Lib.hid (show Blk W0 w.heap.size [.int .u64 (h.gen : Int), .int .i64 h.at_] 30 by rw [← hW0]; exact (Blk.new _ _ _).alloc _)
  have HK5 := Lib.hid (show Blk W0 (w.heap.size + 1) [.int .i64 cut, .slice ra rn rc] 36 by rw [← hW0]; exact Blk.new' _ _ _ (by simp))
  have HL := Lib.hid (hL.ext bel0)
  have BEL0 := Lib.hid bel0
  have HH := Lib.hid hh
  have HW0 := Lib.hid hW0
  have hrl := hR.hlen
  have hrc := hR.hcap
  have HRL := Lib.hid hrl
  have HRW := Lib.hid hR
  clear hL hh hR hcut bel0 hW0 hrc hrl
  go_enter Try.func4, Try.ntmps4
  go_wp2_with fail
  rw [HW0.out]
  refine (Try_wakes12 W0).mono ?_; rintro e w1 ⟨rfl, hb1⟩
  have HL1 := Lib.hid (HL.out.ext hb1)
  have HK41 := Lib.hid (HK4.out.ext hb1)
  have HK51 := Lib.hid (HK5.out.ext hb1)
  have BEL1 := Lib.hid (BEL0.out.trans (hb1.mono BEL0.out.size))
  clear hb1 HL HK4 HK5 BEL0 HW0
  go_wp2_with fail
  refine (Try_steps sa sl sc L w1 HL1.out hLl hsc hsl).mono ?_; rintro e w2 ⟨F, last, fa, la, fl, fc, ll, lc, rfl, hF, hc, he, hb2⟩
  have HF := Lib.hid hF
  have HC := Lib.hid (hc.sync (by omega)).2
  have HC0 := Lib.hid hc
  have HE := Lib.hid he
  have HK42 := Lib.hid (HK41.out.ext hb2)
  have HK52 := Lib.hid (HK51.out.ext hb2)
  have BEL2 := Lib.hid (BEL1.out.trans (hb2.mono BEL1.out.size))
  clear hF hc he hb2 BEL1 HL1 HK41 HK51
  obtain ⟨V, hV⟩ : ∃ V, (w2.alloc (.cells [.slice fa fl fc, .slice la ll lc, .int .i64 F.synced.fuse, .int .i64 F.synced.fault, .bool F.synced.off].toArray 27)).alloc (.cells #[.int .u64 (headG last : Int), .int .i64 (headA last)] 30) = V := ⟨_, rfl⟩
  have hbV : Below w2.heap.size w2 V := by rw [← hV]; exact (by repeat (first | (with_reducible exact Below.refl _ _) | (with_reducible exact Below.refl _ _) | (with_reducible refine Below.setCell ?_ (by first | omega | (simp; done) | (simp; omega)) _) | (with_reducible refine Below.alloc ?_ (by first | omega | (simp; done) | (simp; omega)) _) | (with_reducible refine Below.drew ?_) | (with_reducible refine below_drewN ?_ _)))
  have HF1 := Lib.hid (show FileIn V [w2.heap.size] fa fl fc la ll lc F.synced from (FileS.ext HF.out hbV).mono fun b h => ⟨Nat.lt_of_lt_of_le h hbV.size, by simp; omega⟩)
  have KF1 := Lib.hid (show Blk V w2.heap.size [.slice fa fl fc, .slice la ll lc, .int .i64 F.synced.fuse, .int .i64 F.synced.fault, .bool F.synced.off] 27 by rw [← hV]; exact (Blk.new _ _ _).alloc _)
  have HX1 := Lib.hid (show TryTornW w w2.heap.size h cut ra rn rc last V from ⟨HK42.out.ext hbV, HK52.out.ext hbV, by rw [← hV]; exact Blk.new' _ _ _ (by simp), BEL2.out.trans (hbV.mono BEL2.out.size), HK52.out.lt⟩)
  have HV := Lib.hid hV
  have q4 := HK42.out.cells
  have l4 := HK42.out.lt
  clear hV hbV HF BEL2 HK52
  go_wp2_with fail
  rw [HV.out]
  obtain ⟨p7, hp7⟩ : ∃ p7, w2.heap.size = p7 := ⟨_, rfl⟩
  rw [hp7] at HF1 KF1 HX1 ⊢
  clear hp7 q4 l4 HV HK42
  refine (Try_hCheck h V).mono ?_; rintro e w3 ⟨rfl, hb3⟩
  have HF2 := Lib.hid (HF1.out.ext hb3)
  have KF2 := Lib.hid (KF1.out.ext hb3)
  have HX2 := Lib.hid (HX1.out.ext hb3)
  clear hb3 HF1 KF1 HX1
  cases hr : h.right with
  | false =>
    have hhe : h.err = 220 := by unfold HeadD.err; rw [if_neg (by rw [hr]; decide)]
    rw [hhe]
    clear hhe hr
    go_wp2
    go_ret
    exact ⟨rfl, HX2.out.bel⟩
  | true =>
    have hhe : h.err = 0 := by unfold HeadD.err; rw [if_pos hr]
    rw [hhe]
    have HHR := Lib.hid hr
    clear hhe hr
    have q7 := KF2.out.cells
    have l7 := KF2.out.lt
    go_wp2_with fail
    have hA := Try_Len F.synced fa la fl fc ll lc w3 (FileS.at_ HF2.out)
    obtain ⟨N0, hN0⟩ : ∃ n, F.many = n := ⟨_, rfl⟩
    rw [if_pos (HC.out.right (by omega)), FileD.synced_many, hN0] at hA
    have hN0l : N0 ≤ 21000 := by rw [← hN0]; exact HC0.out.many
    refine hA.mono ?_; rintro e w4 ⟨rfl, hb4⟩
    have HF3 := Lib.hid (HF2.out.ext hb4)
    have KF3 := Lib.hid (KF2.out.ext hb4)
    have HX3 := Lib.hid (HX2.out.ext hb4)
    clear hb4 HF2 KF2 HX2 hA q7 l7
    have q7 := KF3.out.cells
    have l7 := KF3.out.lt
    have q4 := HX3.out.k4.cells
    have l4 := HX3.out.k4.lt
    go_wp2_with fail
    obtain ⟨hput, hcalm⟩ := HC.out.put (hd := h) HHR.out (by omega)
    have hxl := laidOf_len F.synced.many h.gen h.at_.toNat
    have hpl := padOf_lt F.synced.many
    obtain ⟨x, hx⟩ : ∃ x, laidOf F.synced.many h.gen h.at_.toNat = x := ⟨_, rfl⟩
    have hends := HE.out.header (hd := h) HHR.out HH.out.1
    have htorn := fun c (hc : c < x.length) => HE.out.torn (g := h.gen) (a := h.at_.toNat) (cut := c) (by rw [F.all_length, ← FileD.synced_many, hx]; exact hc)
    rw [F.all_length, ← FileD.synced_many, hx, ← FileD.synced_all, ← FileD.with_all] at hends
    rw [F.all_length, ← FileD.synced_many, hx] at htorn
    rw [hx] at hput hcalm hxl
    have hcrash := fun c (hc : c ≤ x.length) => hcalm.crash (by omega) hc
    have hgm := F.synced.with_many x
    rw [FileD.synced_many, hN0] at hgm
    obtain ⟨G, hG⟩ : ∃ G, F.synced.with x = G := ⟨_, rfl⟩
    rw [hG] at hput hcalm hends hcrash hgm
    obtain ⟨xl, hxl2⟩ : ∃ xl, x.length = xl := ⟨_, rfl⟩
    rw [hxl2] at hxl hgm htorn hcrash
    have hx1 : 64 ≤ xl := by omega
    have hx2 : xl ≤ 128 := by omega
    have HPUT := Lib.hid hput
    have HCG := Lib.hid hcalm
    have HEG := Lib.hid hends
    have HTO := Lib.hid htorn
    have HCR := Lib.hid hcrash
    have HGM := Lib.hid hgm
    clear hput hcalm hends htorn hcrash hgm hxl hpl hx hG hxl2 hN0
    have hA := Try_Put F.synced h fa la fl fc ll lc w4 (Free [p7] w4) HH.out HF3.out (fun b h => h.1)
    rw [HPUT.out] at hA
    refine hA.mono ?_; rintro e w5 ⟨ga, gl, gc, ma, ml, mc, rfl, hR, hb5⟩
    dsimp only at hR
    have HF4 := Lib.hid (FileIn.of_or hR (by intro x hx; simp at hx; rw [hx]; exact KF3.out.lt))
    have KF4 := Lib.hid (KF3.out.ext hb5)
    have HX4 := Lib.hid (HX3.out.ext hb5)
    clear hA hR hb5 HF3 KF3 HX3 q7 l7 q4 l4 HPUT
    have q7 := KF4.out.cells
    have m7 := KF4.out.marks
    have l7 := KF4.out.lt
    have q4 := HX4.out.k4.cells
    have l4 := HX4.out.k4.lt
    have q8 := HX4.out.k8.cells
    have l8 := HX4.out.k8.lt
    obtain ⟨z1, z2⟩ : w.heap.size ≠ p7 ∧ p7 + 1 ≠ p7 := by have := HX4.out.lt; omega
    have z3 := Ne.symm z1
    go_wp2_with fail
    obtain ⟨V5, hV⟩ : ∃ V, (((((w5.setCell ⟨p7, 0, none⟩ (.slice ga gl gc)).setCell ⟨p7, 1, none⟩ (.slice ma ml mc)).setCell ⟨p7, 2, none⟩ (.int .i64 G.fuse)).setCell ⟨p7, 3, none⟩ (.int .i64 G.fault)).setCell ⟨p7, 4, none⟩ (.bool G.off)) = V := ⟨_, rfl⟩
    have o5 : Only p7 w5 V5 := by rw [← hV]; exact (by repeat (first | (with_reducible exact Only.refl _ _) | (with_reducible refine Only.set ?_ _ _) | (with_reducible refine Only.alloc ?_ _) | (with_reducible refine Only.drew ?_)))
    have KFS := Lib.hid (show Blk V5 p7 [.slice ga gl gc, .slice ma ml mc, .int .i64 G.fuse, .int .i64 G.fault, .bool G.off] 27 by rw [← hV]; exact KF4.out.five _ _ _ _ _)
    have HFS := Lib.hid (HF4.out.only o5 (by simp))
    have HXS := Lib.hid (HX4.out.only o5)
    rw [hV]
    clear hV o5 KF4 HF4 HX4 q8 l8 z1 z2 z3
    refine (Try_finds G ga ma gl gc ml mc 21128 (some h) V5 (Free [p7] V5) HFS.out (fun b h => h.1) HCG.out (by omega) HEG.out).mono ?_; rintro e w6 ⟨rfl, hb6⟩
    have HF6 := Lib.hid (HFS.out.ext hb6)
    have KF6 := Lib.hid (KFS.out.ext hb6)
    have HX6 := Lib.hid (HXS.out.ext hb6)
    clear hb6 HFS KFS HXS q7 m7 l7 q4 l4
    have q7 := KF6.out.cells
    have l7 := KF6.out.lt
    go_wp2_with fail
    have hA := Try_Len G ga ma gl gc ml mc w6 (FileS.at_ HF6.out)
    rw [if_pos (HCG.out.right (by omega)), HGM.out] at hA
    refine hA.mono ?_; rintro e w7 ⟨rfl, hb7⟩
    have HF7 := Lib.hid (HF6.out.ext hb7)
    have KF7 := Lib.hid (KF6.out.ext hb7)
    have HX7 := Lib.hid (HX6.out.ext hb7)
    clear hb7 HF6 KF6 HX6 hA q7 l7
    have q7 := KF7.out.cells
    have l7 := KF7.out.lt
    have q5 := HX7.out.k5.cells
    have l5 := HX7.out.k5.lt
    obtain ⟨cu, hcu⟩ : ∃ cu : Nat, IntKind.u64.wrap cut = (cu : Int) := ⟨(IntKind.u64.wrap cut).toNat, by rw [IntKind.wrap_u64]; omega⟩
    obtain ⟨r, hr⟩ : ∃ r, cu % xl = r := ⟨_, rfl⟩
    have hrx : r < xl := by rw [← hr]; exact Nat.mod_lt _ (by omega)
    have u2 : IntKind.i64.wrap (((N0 + xl : Nat) : Int) - (N0 : Int)) = (xl : Int) := by rw [show ((N0 + xl : Nat) : Int) - (N0 : Int) = (xl : Int) by omega]; exact IntWalk.i64_in _ (by omega)
    have u3 : IntKind.u64.wrap (xl : Int) = (xl : Int) := by rw [IntKind.wrap_u64]; omega
    have u4 : (cu : Int).tmod (xl : Int) = (r : Int) := by rw [← hr]; rfl
    have u5 : IntKind.i64.wrap (r : Int) = (r : Int) := IntWalk.i64_in _ (by omega)
    have d1 : ¬ (xl : Int) < 64 := by omega
    have d2 : ¬ xl = 0 := by omega
    go_wp2_with fail
    have u6 : wrap64 ((cu : Int) % ((N0 : Int) + (xl : Int) - (N0 : Int))) = (r : Int) := by
      rw [show (N0 : Int) + (xl : Int) - (N0 : Int) = (xl : Int) by omega, show (cu : Int) % (xl : Int) = (r : Int) by rw [← hr]; rfl]
      rw [← IntWalk.i64_left]; exact u5
    rw [u6]
    obtain ⟨hcr, hcc⟩ := HCR.out r (Nat.le_of_lt hrx)
    have hends := HTO.out r hrx
    have hall : FileD.all ⟨F.all ++ x.take r, [], -1, -1, false⟩ = F.all ++ x.take r := by simp [FileD.all]
    rw [← hall] at hends
    obtain ⟨C, hC⟩ : ∃ C, (⟨F.all ++ x.take r, [], -1, -1, false⟩ : FileD) = C := ⟨_, rfl⟩
    rw [hC] at hcr hcc hends
    have HCC := Lib.hid hcc
    have HEC := Lib.hid hends
    clear u2 u3 u4 u5 u6 d1 d2 hr hcu hcc hends hall hC
    have hA := Try_Crash G ga ma none gl gc ml mc 0 0 [] 0 (r : Int) w7 (Free [p7] w7) HF7.out ⟨rfl, Nat.le_refl _, by omega, fun k x hk => by simp at hk⟩ (fun b h => h.1) (by unfold I64'; omega) (by unfold I64'; omega)
    rw [hcr] at hA
    refine hA.mono ?_; rintro e w8 ⟨na, nl, nc, oa, ol, oc, rfl, hR, hb8⟩
    dsimp only at hR
    have HF8 := Lib.hid (FileIn.of_or hR (by intro x hx; simp at hx; rw [hx]; exact KF7.out.lt))
    have KF8 := Lib.hid (KF7.out.ext hb8)
    have HX8 := Lib.hid (HX7.out.ext hb8)
    clear hA hR hb8 HF7 KF7 HX7 q7 l7 q5 l5 hcr
    have q7 := KF8.out.cells
    have m7 := KF8.out.marks
    have l7 := KF8.out.lt
    have q4 := HX8.out.k4.cells
    have l4 := HX8.out.k4.lt
    have q8 := HX8.out.k8.cells
    have l8 := HX8.out.k8.lt
    obtain ⟨z1, z2⟩ : w.heap.size ≠ p7 ∧ p7 + 1 ≠ p7 := by have := HX8.out.lt; omega
    have z3 := Ne.symm z1
    go_wp2_with fail
    obtain ⟨V8, hV⟩ : ∃ V, (((((w8.setCell ⟨p7, 0, none⟩ (.slice na nl nc)).setCell ⟨p7, 1, none⟩ (.slice oa ol oc)).setCell ⟨p7, 2, none⟩ (.int .i64 C.fuse)).setCell ⟨p7, 3, none⟩ (.int .i64 C.fault)).setCell ⟨p7, 4, none⟩ (.bool C.off)) = V := ⟨_, rfl⟩
    have o5 : Only p7 w8 V8 := by rw [← hV]; exact (by repeat (first | (with_reducible exact Only.refl _ _) | (with_reducible refine Only.set ?_ _ _) | (with_reducible refine Only.alloc ?_ _) | (with_reducible refine Only.drew ?_)))
    have KFS := Lib.hid (show Blk V8 p7 [.slice na nl nc, .slice oa ol oc, .int .i64 C.fuse, .int .i64 C.fault, .bool C.off] 27 by rw [← hV]; exact KF8.out.five _ _ _ _ _)
    have HFS := Lib.hid (HF8.out.only o5 (by simp))
    have HXS := Lib.hid (HX8.out.only o5)
    rw [hV]
    clear hV o5 KF8 HF8 HX8 q8 l8 z1 z2 z3
    refine (Try_finds C na oa nl nc ol oc 21128 last V8 (Free [p7] V8) HFS.out (fun b h => h.1) HCC.out (by omega) HEC.out).mono ?_; rintro e w9 ⟨rfl, hb9⟩
    have HF9 := Lib.hid (HFS.out.ext hb9)
    have KF9 := Lib.hid (KFS.out.ext hb9)
    have HX9 := Lib.hid (HXS.out.ext hb9)
    clear hb9 HFS KFS HXS q7 m7 l7 q4 l4
    have q5 := HX9.out.k5.cells
    have l5 := HX9.out.k5.lt
    go_wp2_with fail
    clear q5 l5
    go_loopw [78] (fun ix wr => TryTornRel w p7 rn 21128 last h cut ra rn rc ix wr) (fun ix _ => rn - (intOf ix).toNat)
    case atStart => exact ⟨0, C, na, oa, nl, nc, ol, oc, Nat.zero_le _, by omega, rfl, KF9.out, HF9.out, HCC.out, HEC.out, HX9.out⟩
    case round =>
      obtain ⟨k, G', qa, ta, ql, qc, tl, tc, hk, hk8, rfl, hkf, hf, hc, he, hx⟩ := hrel
      have HK := Lib.hid hkf
      have HFG := Lib.hid hf
      have HCG' := Lib.hid hc
      have HEG' := Lib.hid he
      have HX := Lib.hid hx
      clear hkf hf hc he hx HF9 KF9 HX9
      by_cases hlt : k < rn
      · obtain ⟨p, hp⟩ : ∃ p, R[k]? = some p := ⟨_, List.getElem?_eq_getElem (by have := HRL.out; omega)⟩
        obtain ⟨b, o, pa, pl, pc, rfl, hb, hcell, hby⟩ := (HRW.out.ext HX.out.bel).hat k p hp
        have HP := Lib.hid hby
        have hkl : (k : Int) < (rn : Int) := by omega
        have HLT := Lib.hid hlt
        have HK8 := Lib.hid hk8
        clear hby hp hlt hk
        by_cases h8 : k = 8
        · have e8 : ((k : Int) == 8) = true := by rw [beq_iff_eq]; omega
          have q7 := HK.out.cells
          have l7 := HK.out.lt
          have q4 := HX.out.k4.cells
          have l4 := HX.out.k4.lt
          clear h8
          go_wp2_with fail
          obtain ⟨hput, hcalm⟩ := HCG'.out.put (hd := h) HHR.out (by have := HK8.out; omega)
          have hends := HEG'.out.header (hd := h) HHR.out HH.out.1
          rw [G'.all_length, ← FileD.with_all] at hends
          obtain ⟨D, hD⟩ : ∃ D, G'.with (laidOf G'.many h.gen h.at_.toNat) = D := ⟨_, rfl⟩
          rw [hD] at hput hcalm hends
          have HCD := Lib.hid (hcalm.mono (m := 30000) (by have := HK8.out; omega))
          have HED := Lib.hid hends
          have hA := Try_Put G' h qa ta ql qc tl tc wr (Free [p7] wr) HH.out HFG.out (fun b h => h.1)
          rw [hput] at hA
          clear hput hcalm hends hD
          refine hA.mono ?_; rintro e w5 ⟨ya, yl, yc, za, zl, zc, rfl, hR, hb5⟩
          dsimp only at hR
          have HF4 := Lib.hid (FileIn.of_or hR (by intro x hx; simp at hx; rw [hx]; exact HK.out.lt))
          have KF4 := Lib.hid (HK.out.ext hb5)
          have HX4 := Lib.hid (HX.out.ext hb5)
          clear hA hR hb5 q7 l7 q4 l4 HK HFG HX
          have q7 := KF4.out.cells
          have m7 := KF4.out.marks
          have l7 := KF4.out.lt
          have q4 := HX4.out.k4.cells
          have l4 := HX4.out.k4.lt
          have q8 := HX4.out.k8.cells
          have l8 := HX4.out.k8.lt
          obtain ⟨z1, z2⟩ : w.heap.size ≠ p7 ∧ p7 + 1 ≠ p7 := by have := HX4.out.lt; omega
          have z3 := Ne.symm z1
          go_wp2_with fail
          obtain ⟨V5, hV⟩ : ∃ V, (((((w5.setCell ⟨p7, 0, none⟩ (.slice ya yl yc)).setCell ⟨p7, 1, none⟩ (.slice za zl zc)).setCell ⟨p7, 2, none⟩ (.int .i64 D.fuse)).setCell ⟨p7, 3, none⟩ (.int .i64 D.fault)).setCell ⟨p7, 4, none⟩ (.bool D.off)) = V := ⟨_, rfl⟩
          have o5 : Only p7 w5 V5 := by rw [← hV]; exact (by repeat (first | (with_reducible exact Only.refl _ _) | (with_reducible refine Only.set ?_ _ _) | (with_reducible refine Only.alloc ?_ _) | (with_reducible refine Only.drew ?_)))
          have KFS := Lib.hid (show Blk V5 p7 [.slice ya yl yc, .slice za zl zc, .int .i64 D.fuse, .int .i64 D.fault, .bool D.off] 27 by rw [← hV]; exact KF4.out.five _ _ _ _ _)
          have HFS := Lib.hid (HF4.out.only o5 (by simp))
          have HXS := Lib.hid (HX4.out.only o5)
          rw [hV]
          clear hV o5 KF4 HF4 HX4 q8 l8 z1 z2 z3
          refine (Try_finds D ya za yl yc zl zc 30000 (some h) V5 (Free [p7] V5) HFS.out (fun b h => h.1) HCD.out (by omega) HED.out).mono ?_; rintro e w6 ⟨rfl, hb6⟩
          have HX6 := Lib.hid (HXS.out.ext hb6)
          clear hb6 HFS KFS HXS q7 m7 l7 q4 l4
          go_wp2
          go_ret
          exact ⟨rfl, HX6.out.bel⟩
        · have e8 : ((k : Int) == 8) = false := by rw [beq_eq_false_iff_ne]; omega
          by_cases h0 : pl = 0
          · have e0 : ((pl : Int) == 0) = true := by rw [beq_iff_eq]; omega
            have q7 := HK.out.cells
            have l7 := HK.out.lt
            have q4 := HX.out.k4.cells
            have l4 := HX.out.k4.lt
            clear h8
            go_wp2_with fail
            obtain ⟨hput, hcalm⟩ := HCG'.out.put (hd := h) HHR.out (by have := HK8.out; omega)
            have hends := HEG'.out.header (hd := h) HHR.out HH.out.1
            rw [G'.all_length, ← FileD.with_all] at hends
            obtain ⟨D, hD⟩ : ∃ D, G'.with (laidOf G'.many h.gen h.at_.toNat) = D := ⟨_, rfl⟩
            rw [hD] at hput hcalm hends
            have HCD := Lib.hid (hcalm.mono (m := 30000) (by have := HK8.out; omega))
            have HED := Lib.hid hends
            have hA := Try_Put G' h qa ta ql qc tl tc wr (Free [p7] wr) HH.out HFG.out (fun b h => h.1)
            rw [hput] at hA
            clear hput hcalm hends hD
            refine hA.mono ?_; rintro e w5 ⟨ya, yl, yc, za, zl, zc, rfl, hR, hb5⟩
            dsimp only at hR
            have HF4 := Lib.hid (FileIn.of_or hR (by intro x hx; simp at hx; rw [hx]; exact HK.out.lt))
            have KF4 := Lib.hid (HK.out.ext hb5)
            have HX4 := Lib.hid (HX.out.ext hb5)
            clear hA hR hb5 q7 l7 q4 l4 HK HFG HX
            have q7 := KF4.out.cells
            have m7 := KF4.out.marks
            have l7 := KF4.out.lt
            have q4 := HX4.out.k4.cells
            have l4 := HX4.out.k4.lt
            have q8 := HX4.out.k8.cells
            have l8 := HX4.out.k8.lt
            obtain ⟨z1, z2⟩ : w.heap.size ≠ p7 ∧ p7 + 1 ≠ p7 := by have := HX4.out.lt; omega
            have z3 := Ne.symm z1
            go_wp2_with fail
            obtain ⟨V5, hV⟩ : ∃ V, (((((w5.setCell ⟨p7, 0, none⟩ (.slice ya yl yc)).setCell ⟨p7, 1, none⟩ (.slice za zl zc)).setCell ⟨p7, 2, none⟩ (.int .i64 D.fuse)).setCell ⟨p7, 3, none⟩ (.int .i64 D.fault)).setCell ⟨p7, 4, none⟩ (.bool D.off)) = V := ⟨_, rfl⟩
            have o5 : Only p7 w5 V5 := by rw [← hV]; exact (by repeat (first | (with_reducible exact Only.refl _ _) | (with_reducible refine Only.set ?_ _ _) | (with_reducible refine Only.alloc ?_ _) | (with_reducible refine Only.drew ?_)))
            have KFS := Lib.hid (show Blk V5 p7 [.slice ya yl yc, .slice za zl zc, .int .i64 D.fuse, .int .i64 D.fault, .bool D.off] 27 by rw [← hV]; exact KF4.out.five _ _ _ _ _)
            have HFS := Lib.hid (HF4.out.only o5 (by simp))
            have HXS := Lib.hid (HX4.out.only o5)
            rw [hV]
            clear hV o5 KF4 HF4 HX4 q8 l8 z1 z2 z3
            refine (Try_finds D ya za yl yc zl zc 30000 (some h) V5 (Free [p7] V5) HFS.out (fun b h => h.1) HCD.out (by omega) HED.out).mono ?_; rintro e w6 ⟨rfl, hb6⟩
            have HX6 := Lib.hid (HXS.out.ext hb6)
            clear hb6 HFS KFS HXS q7 m7 l7 q4 l4
            go_wp2
            go_ret
            exact ⟨rfl, HX6.out.bel⟩
          · have e0 : ((pl : Int) == 0) = false := by rw [beq_eq_false_iff_ne]; omega
            have hk7 : k < 8 := by omega
            clear h8
            go_wp2_with fail
            have q7 := HK.out.cells
            have l7 := HK.out.lt
            obtain ⟨m, hm⟩ : ∃ m, min pl 300 = m := ⟨_, rfl⟩
            have hbc := HP.out.hcap
            have hm1 : (m : Int) ≤ (pc : Int) := by omega
            have hmin : (if (300 : Int) < (pl : Int) then (300 : Int) else (pl : Int)) = (m : Int) := by split <;> omega
            have HXM := Lib.hid (HP.out.take (n := m) (by omega)).s
            have hml : (p.take m).length = m := by rw [List.length_take, HP.out.hlen]; omega
            obtain ⟨rec_, hrec⟩ : ∃ r, p.take m = r := ⟨_, rfl⟩
            rw [hrec] at HXM hml
            obtain ⟨⟨pla, hput⟩, hcalm⟩ := HCG'.out.fput (p := rec_) (by omega) (by omega) (by omega)
            obtain ⟨D, hD⟩ : ∃ D, G'.with (pieceOf G'.all (outOf rec_)) = D := ⟨_, rfl⟩
            have hends := HEG'.out.record (cs := outOf rec_) (outOf_ne _)
            rw [← FileD.with_all, hD] at hends
            rw [hD] at hput hcalm
            have HPUT := Lib.hid hput
            have HCD := Lib.hid hcalm
            have HED := Lib.hid hends
            clear hbc hml hrec hput hcalm hends hm hD e8 e0
            refine' wp_region_seqF [9, 10] [.inl _, .inl _, .inl _, .inl _, .inl _, .inl _, .inr (FileTup3 wr (Free [p7] wr) D pla 0), .inr (FileTup3 wr (Free [p7] wr) D pla 0), .inr (FileV wr (Free [p7] wr) D), .inl _, .inl _] (by kernel_rfl) (by kernel_rfl) ?main1
            case main1 =>
              refine wpParts_det (by rfl) (fun W hE hN => ?_) ?_
              · have hc := fun b o h => hE.cell (p := ⟨b, o, none⟩) h
                go_simp; refine ⟨Below.refl _ _, ?_⟩; rfl
              simp only [Act.put, List.setIfInBounds_toArray, List.set_cons_zero, List.set_cons_succ]
              refine wpParts_det (by rfl) (fun W hE hN => ?_) ?_
              · go_simp; refine ⟨Below.refl _ _, ?_⟩; rfl
              simp only [Act.put, List.setIfInBounds_toArray, List.set_cons_zero, List.set_cons_succ]
              refine wpParts_det (by rfl) (fun W hE hN => ?_) ?_
              · go_simp; refine ⟨Below.refl _ _, ?_⟩; rfl
              simp only [Act.put, List.setIfInBounds_toArray, List.set_cons_zero, List.set_cons_succ]
              refine wpParts_det (by rfl) (fun W hE hN => ?_) ?_
              · go_simp; refine ⟨Below.refl _ _, ?_⟩; rfl
              simp only [Act.put, List.setIfInBounds_toArray, List.set_cons_zero, List.set_cons_succ]
              refine wpParts_det (by rfl) (fun W hE hN => ?_) ?_
              · go_simp; refine ⟨Below.refl _ _, ?_⟩; rfl
              simp only [Act.put, List.setIfInBounds_toArray, List.set_cons_zero, List.set_cons_succ]
              refine wpParts_det (by rfl) (fun W hE hN => ?_) ?_
              · go_simp; refine ⟨Below.refl _ _, ?_⟩; rfl
              simp only [Act.put, List.setIfInBounds_toArray, List.set_cons_zero, List.set_cons_succ]
              refine wpParts_any rfl (FileTup3.later) (by rfl) (fun W hE hN => ?_) (fun u6 => ?_)
              · go_simp; refine ⟨Below.refl _ _, ?_⟩; have hA := Try_fPut G' qa ta pa ql qc tl tc m pc rec_ W (Free [p7] wr) _ (FileS.ext HFG.out hE) (fun b h => Nat.lt_of_lt_of_le h.1 hE.size) (HXM.out.ext hE); rw [HPUT.out] at hA; refine hA.mono ?_; rintro e w' ⟨ga, gl, gc, ma, ml, mc, rfl, hR, hb⟩; exact ⟨_, rfl, hb, ga, gl, gc, ma, ml, mc, rfl, hR.mono fun b h => h.imp id fun h => Nat.le_trans hE.size h⟩
              simp only [Act.put, List.setIfInBounds_toArray, List.set_cons_zero, List.set_cons_succ]
              refine wpParts_any rfl (FileTup3.later) (by rfl) (fun W hE hN => ?_) (fun u7 => ?_)
              · simp [near, Oper.looksAt, Op.operands] at hN; go_simp; exact Below.refl _ _
              simp only [Act.put, List.setIfInBounds_toArray, List.set_cons_zero, List.set_cons_succ]
              refine wpParts_any rfl (FileV.later) (by rfl) (fun W hE hN => ?_) (fun u8 => ?_)
              · simp [near, Oper.looksAt, Op.operands] at hN; obtain ⟨ga, gl, gc, ma, ml, mc, rfl, hR⟩ := hN; go_simp; exact ⟨Below.refl _ _, ga, gl, gc, ma, ml, mc, rfl, hR⟩
              simp only [Act.put, List.setIfInBounds_toArray, List.set_cons_zero, List.set_cons_succ]
              refine wpParts_det (by rfl) (fun W hE hN => ?_) ?_
              · simp [near, Oper.looksAt, Op.operands] at hN; obtain ⟨ga, gl, gc, ma, ml, mc, rfl, hR⟩ := hN; go_simp; refine ⟨Below.refl _ _, ?_⟩; rfl
              simp only [Act.put, List.setIfInBounds_toArray, List.set_cons_zero, List.set_cons_succ]
              refine wpParts_det (by rfl) (fun W hE hN => ?_) ?_
              · simp [near, Oper.looksAt, Op.operands] at hN; obtain ⟨ga, gl, gc, ma, ml, mc, rfl, hR⟩ := hN; go_simp; refine ⟨Below.refl _ _, ?_⟩; rfl
              simp only [Act.put, List.setIfInBounds_toArray, List.set_cons_zero, List.set_cons_succ]
              refine wpParts_end fun W2 hE2 hG2 => ?_
              have hcW2 := fun b o h => hE2.cell (p := ⟨b, o, none⟩) h
              have hfW2 := fun b o h => hE2.frozen (p := ⟨b, o, none⟩) h
              obtain ⟨⟨ya, yl, yc, za, zl, zc, rfl, hR⟩, _⟩ := hG2
              have HF4 := Lib.hid (FileIn.of_or hR (by intro x hx; simp at hx; rw [hx]; exact HK.out.lt))
              have KF4 := Lib.hid (HK.out.ext hE2)
              have HX4 := Lib.hid (HX.out.ext hE2)
              clear hR hE2 hcW2 hfW2 q7 l7 HK HFG HX hm1 hmin HXM HP
              have q7 := KF4.out.cells
              have m7 := KF4.out.marks
              have l7 := KF4.out.lt
              have q4 := HX4.out.k4.cells
              have l4 := HX4.out.k4.lt
              have q8 := HX4.out.k8.cells
              have l8 := HX4.out.k8.lt
              obtain ⟨z1, z2⟩ : w.heap.size ≠ p7 ∧ p7 + 1 ≠ p7 := by have := HX4.out.lt; omega
              have z3 := Ne.symm z1
              go_wp2_with fail
              refine noPanic_normal ?_
              go_wp2_with fail
              obtain ⟨V5, hV⟩ : ∃ V, (((((W2.setCell ⟨p7, 0, none⟩ (.slice ya yl yc)).setCell ⟨p7, 1, none⟩ (.slice za zl zc)).setCell ⟨p7, 2, none⟩ (.int .i64 D.fuse)).setCell ⟨p7, 3, none⟩ (.int .i64 D.fault)).setCell ⟨p7, 4, none⟩ (.bool D.off)) = V := ⟨_, rfl⟩
              have o5 : Only p7 W2 V5 := by rw [← hV]; exact (by repeat (first | (with_reducible exact Only.refl _ _) | (with_reducible refine Only.set ?_ _ _) | (with_reducible refine Only.alloc ?_ _) | (with_reducible refine Only.drew ?_)))
              have KFS := Lib.hid (show Blk V5 p7 [.slice ya yl yc, .slice za zl zc, .int .i64 D.fuse, .int .i64 D.fault, .bool D.off] 27 by rw [← hV]; exact KF4.out.five _ _ _ _ _)
              have HFS := Lib.hid (HF4.out.only o5 (by simp))
              have HXS := Lib.hid (HX4.out.only o5)
              rw [hV]
              clear hV o5 KF4 HF4 HX4 q8 l8 z1 z2 z3
              refine (Try_finds D ya za yl yc zl zc 30000 last V5 (Free [p7] V5) HFS.out (fun b h => h.1) (HCD.out.mono (by omega)) (by omega) HED.out).mono ?_; rintro e w6 ⟨rfl, hb6⟩
              have HF6 := Lib.hid (HFS.out.ext hb6)
              have KF6 := Lib.hid (KFS.out.ext hb6)
              have HX6 := Lib.hid (HXS.out.ext hb6)
              clear hb6 HFS KFS HXS q7 m7 l7 q4 l4
              go_wp2_with fail
              go_roundw
              case rel => exact ⟨k + 1, D, ya, za, yl, yc, zl, zc, HLT.out, hk7, by go_num, KF6.out, HF6.out, HCD.out.mono (by omega), HED.out, HX6.out⟩
              case measure => have := HLT.out; simp [intOf]; omega
      · have hkl : ¬ (k : Int) < (rn : Int) := by omega
        have HK8 := Lib.hid hk8
        have q7 := HK.out.cells
        have l7 := HK.out.lt
        have q4 := HX.out.k4.cells
        have l4 := HX.out.k4.lt
        clear hlt hk
        go_wp2_with fail
        obtain ⟨hput, hcalm⟩ := HCG'.out.put (hd := h) HHR.out (by have := HK8.out; omega)
        have hends := HEG'.out.header (hd := h) HHR.out HH.out.1
        rw [G'.all_length, ← FileD.with_all] at hends
        obtain ⟨D, hD⟩ : ∃ D, G'.with (laidOf G'.many h.gen h.at_.toNat) = D := ⟨_, rfl⟩
        rw [hD] at hput hcalm hends
        have HCD := Lib.hid (hcalm.mono (m := 30000) (by have := HK8.out; omega))
        have HED := Lib.hid hends
        have hA := Try_Put G' h qa ta ql qc tl tc wr (Free [p7] wr) HH.out HFG.out (fun b h => h.1)
        rw [hput] at hA
        clear hput hcalm hends hD
        refine hA.mono ?_; rintro e w5 ⟨ya, yl, yc, za, zl, zc, rfl, hR, hb5⟩
        dsimp only at hR
        have HF4 := Lib.hid (FileIn.of_or hR (by intro x hx; simp at hx; rw [hx]; exact HK.out.lt))
        have KF4 := Lib.hid (HK.out.ext hb5)
        have HX4 := Lib.hid (HX.out.ext hb5)
        clear hA hR hb5 q7 l7 q4 l4 HK HFG HX
        have q7 := KF4.out.cells
        have m7 := KF4.out.marks
        have l7 := KF4.out.lt
        have q4 := HX4.out.k4.cells
        have l4 := HX4.out.k4.lt
        have q8 := HX4.out.k8.cells
        have l8 := HX4.out.k8.lt
        obtain ⟨z1, z2⟩ : w.heap.size ≠ p7 ∧ p7 + 1 ≠ p7 := by have := HX4.out.lt; omega
        have z3 := Ne.symm z1
        go_wp2_with fail
        obtain ⟨V5, hV⟩ : ∃ V, (((((w5.setCell ⟨p7, 0, none⟩ (.slice ya yl yc)).setCell ⟨p7, 1, none⟩ (.slice za zl zc)).setCell ⟨p7, 2, none⟩ (.int .i64 D.fuse)).setCell ⟨p7, 3, none⟩ (.int .i64 D.fault)).setCell ⟨p7, 4, none⟩ (.bool D.off)) = V := ⟨_, rfl⟩
        have o5 : Only p7 w5 V5 := by rw [← hV]; exact (by repeat (first | (with_reducible exact Only.refl _ _) | (with_reducible refine Only.set ?_ _ _) | (with_reducible refine Only.alloc ?_ _) | (with_reducible refine Only.drew ?_)))
        have KFS := Lib.hid (show Blk V5 p7 [.slice ya yl yc, .slice za zl zc, .int .i64 D.fuse, .int .i64 D.fault, .bool D.off] 27 by rw [← hV]; exact KF4.out.five _ _ _ _ _)
        have HFS := Lib.hid (HF4.out.only o5 (by simp))
        have HXS := Lib.hid (HX4.out.only o5)
        rw [hV]
        clear hV o5 KF4 HF4 HX4 q8 l8 z1 z2 z3
        refine (Try_finds D ya za yl yc zl zc 30000 (some h) V5 (Free [p7] V5) HFS.out (fun b h => h.1) HCD.out (by omega) HED.out).mono ?_; rintro e w6 ⟨rfl, hb6⟩
        have HX6 := Lib.hid (HXS.out.ext hb6)
        clear hb6 HFS KFS HXS q7 m7 l7 q4 l4
        go_wp2
        go_ret
        exact ⟨rfl, HX6.out.bel⟩
end Go.Proofs.Ythpdcbklaapngaa
