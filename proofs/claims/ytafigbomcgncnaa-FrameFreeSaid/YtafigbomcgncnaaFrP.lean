/-
  Layer 11, the plain law: what Put lays, Get reads; what is cut off, it does not.
-/
import Derived.Test.YtafigbomcgncnaaFrO
namespace Go.Dav
set_option linter.unusedVariables false
set_option linter.unusedSimpArgs false
open Go Go.RowKit
/-- What is laid behind so many bytes. -/
def bodyAt : Nat → List UInt8 → List UInt8
  | _, [] => []
  | n, c :: cs => if n % 64 = 0 then 0 :: c :: bodyAt (n + 2) cs else c :: bodyAt (n + 1) cs
/-- .. and where its bytes stand. -/
def placesAt : Nat → List UInt8 → List (Nat × UInt8)
  | _, [] => []
  | n, c :: cs => if n % 64 = 0 then (n + 1, c) :: placesAt (n + 2) cs else (n, c) :: placesAt (n + 1) cs
theorem bodyAt_cons (n : Nat) (c : UInt8) (cs : List UInt8) : bodyAt n (c :: cs) = if n % 64 = 0 then 0 :: c :: bodyAt (n + 2) cs else c :: bodyAt (n + 1) cs := rfl
theorem placesAt_cons (n : Nat) (c : UInt8) (cs : List UInt8) : placesAt n (c :: cs) = if n % 64 = 0 then (n + 1, c) :: placesAt (n + 2) cs else (n, c) :: placesAt (n + 1) cs := rfl
theorem layOn_body (n : Nat) : ∀ (cs b0 : List UInt8), layOn n b0 cs = b0 ++ bodyAt (n + b0.length) cs := fun cs => by
  induction cs with
  | nil => intro b0; simp [layOn, bodyAt]
  | cons c cs ih =>
    intro b0
    show layOn n (putByte n b0 c) cs = _
    rw [ih, bodyAt_cons]
    unfold putByte padByte
    by_cases h : (n + b0.length) % 64 = 0
    · rw [if_pos h, if_pos h]; simp [Nat.add_assoc]
    · rw [if_neg h, if_neg h]; simp [Nat.add_assoc]
theorem pastsL_body : ∀ (cs : List UInt8) (n : Nat), pastsL n (bodyAt n cs) = placesAt n cs := fun cs => by
  induction cs with
  | nil => intro n; rfl
  | cons c cs ih =>
    intro n
    unfold bodyAt placesAt
    by_cases h : n % 64 = 0
    · rw [if_pos h, if_pos h, pastsL, if_pos h, if_pos rfl, pastsL, if_neg (by omega), ih]
    · rw [if_neg h, if_neg h, pastsL, if_neg h, ih]
theorem placesAt_bytes : ∀ (cs : List UInt8) (n : Nat), (placesAt n cs).map (·.2) = cs := fun cs => by
  induction cs with
  | nil => intro n; rfl
  | cons c cs ih =>
    intro n
    unfold placesAt
    split <;> rw [List.map_cons, ih]
theorem placesAt_len (cs : List UInt8) (n : Nat) : (placesAt n cs).length = cs.length := by
  have h := congrArg List.length (placesAt_bytes cs n)
  rwa [List.length_map] at h
theorem placesAt_last : ∀ (cs : List UInt8) (n : Nat), cs ≠ [] → ((placesAt n cs)[cs.length - 1]?.map fun x => x.1 + 1) = some (n + (bodyAt n cs).length) := fun cs => by
  induction cs with
  | nil => intro n h; exact absurd rfl h
  | cons c cs ih =>
    intro n _
    cases cs with
    | nil => unfold placesAt bodyAt; split <;> simp [placesAt, bodyAt]
    | cons d ds =>
      have h1 := ih (n + 1) (by simp)
      have h2 := ih (n + 2) (by simp)
      rw [show (c :: d :: ds).length - 1 = (d :: ds).length - 1 + 1 by simp]
      unfold placesAt bodyAt
      by_cases h : n % 64 = 0
      · rw [if_pos h, if_pos h, List.getElem?_cons_succ, h2]
        simp only [List.length_cons]
        congr 1; omega
      · rw [if_neg h, if_neg h, List.getElem?_cons_succ, h1]
        simp only [List.length_cons]
        congr 1; omega
theorem pastsL_cut : ∀ (cs : List UInt8) (n k : Nat), k < (bodyAt n cs).length → ∃ j, j < cs.length ∧ pastsL n ((bodyAt n cs).take k) = (placesAt n cs).take j := fun cs => by
  induction cs with
  | nil => intro n k h; exact absurd h (Nat.not_lt_zero _)
  | cons c cs ih =>
    intro n k h
    by_cases h0 : n % 64 = 0
    · rw [bodyAt_cons, if_pos h0] at h ⊢
      rw [placesAt_cons, if_pos h0]
      match k, h with
      | 0, _ => exact ⟨0, by simp, by simp [pastsL]⟩
      | 1, _ => exact ⟨0, by simp, by simp [pastsL, h0]⟩
      | k + 2, h =>
        obtain ⟨j, hj, e⟩ := ih (n + 2) k (by simpa using h)
        refine ⟨j + 1, by simpa using hj, ?_⟩
        rw [List.take_succ_cons, List.take_succ_cons, List.take_succ_cons, pastsL, if_pos h0, if_pos rfl, pastsL, if_neg (by omega), e]
    · rw [bodyAt_cons, if_neg h0] at h ⊢
      rw [placesAt_cons, if_neg h0]
      match k, h with
      | 0, _ => exact ⟨0, by simp, by simp [pastsL]⟩
      | k + 1, h =>
        obtain ⟨j, hj, e⟩ := ih (n + 1) k (by simpa using h)
        refine ⟨j + 1, by simpa using hj, ?_⟩
        rw [List.take_succ_cons, List.take_succ_cons, pastsL, if_neg h0, e]
/-- Bytes behind which a record may be laid: whole blocks, or a block whose mark is 0. -/
theorem padded (A : List UInt8) : (A ++ padFor A).length % 64 = 0 ∨ ((A ++ padFor A).length % 64 ≠ 0 ∧ (A ++ padFor A)[(A ++ padFor A).length - (A ++ padFor A).length % 64]? = some 0) := by
  unfold padFor
  by_cases hm : isMarked A = true
  · rw [if_pos hm]
    left
    rw [List.length_append, List.length_replicate]; omega
  · rw [if_neg hm, List.append_nil]
    by_cases h : A.length % 64 = 0
    · exact .inl h
    · right
      refine ⟨h, ?_⟩
      unfold isMarked at hm
      rw [decide_eq_true h, Bool.true_and] at hm
      simpa using hm
theorem piece_body (A cs : List UInt8) : A ++ pieceOf A cs = (A ++ padFor A) ++ bodyAt (A ++ padFor A).length cs := by
  unfold pieceOf
  rw [layOn_body, ← List.append_assoc, List.length_append]
theorem place_body (A cs : List UInt8) (h : cs ≠ []) : placeOf A cs = (A ++ padFor A).length + if (A ++ padFor A).length % 64 = 0 then 1 else 0 := by
  cases cs with
  | nil => exact absurd rfl h
  | cons c cs =>
    show A.length + (putByte A.length (padFor A) c).length - 1 = _
    unfold putByte padByte
    rw [@List.length_append _ A]
    split <;> simp <;> omega
theorem body_zero {n : Nat} {cs : List UInt8} (h : cs ≠ []) (hn : n % 64 = 0) : (bodyAt n cs)[0]? = some 0 := by
  cases cs with
  | nil => exact absurd rfl h
  | cons c cs => unfold bodyAt; rw [if_pos hn]; rfl
theorem pastAll_part {L cs : List UInt8} (hcs : cs ≠ []) (hL : L.length % 64 = 0 ∨ (L.length % 64 ≠ 0 ∧ L[L.length - L.length % 64]? = some 0)) {n : Nat} (hn : (L.length + if L.length % 64 = 0 then 1 else 0) < n) (hn2 : n ≤ (L ++ bodyAt L.length cs).length) :
    pastAll ((L ++ bodyAt L.length cs).take n) ((L.length + if L.length % 64 = 0 then 1 else 0 : Nat) : Int) = pastsL L.length ((bodyAt L.length cs).take (n - L.length)) := by
  have hXl : ((L ++ bodyAt L.length cs).take n).length = n := by rw [List.length_take]; omega
  have hp : pasts ((L ++ bodyAt L.length cs).take n) L.length = pastsL L.length ((bodyAt L.length cs).take (n - L.length)) := by
    unfold pasts
    rw [List.drop_take, List.drop_left]
  rcases hL with h0 | ⟨h0, hm⟩
  · rw [if_pos h0] at hn ⊢
    have hX0 : ((L ++ bodyAt L.length cs).take n)[L.length]? = some 0 := by
      rw [List.getElem?_take, if_pos (by omega), List.getElem?_append_right (Nat.le_refl _), Nat.sub_self]
      exact body_zero hcs h0
    rw [pastAll_in (x0 := 0) (by omega) (by omega) (by rw [show L.length + 1 - (L.length + 1) % 64 = L.length by omega]; exact hX0), if_pos rfl, ← hp, pasts_zero hX0 h0]
  · rw [if_neg h0] at hn ⊢
    rw [Nat.add_zero] at hn ⊢
    rw [pastAll_in (x0 := 0) (by omega) h0 (by rw [List.getElem?_take, if_pos (by omega), List.getElem?_append_left (by omega)]; exact hm), if_pos rfl, hp]
theorem pastAll_laid (A cs : List UInt8) (h : cs ≠ []) : pastAll (A ++ pieceOf A cs) (placeOf A cs : Int) = placesAt (A ++ padFor A).length cs := by
  rw [piece_body, place_body A cs h]
  have hb : (bodyAt (A ++ padFor A).length cs).length > if (A ++ padFor A).length % 64 = 0 then 1 else 0 := by
    cases cs with
    | nil => exact absurd rfl h
    | cons c cs => unfold bodyAt; split <;> simp
  have hp := pastAll_part (cs := cs) h (padded A) (n := ((A ++ padFor A) ++ bodyAt (A ++ padFor A).length cs).length) (by rw [@List.length_append _ (A ++ padFor A)]; omega) (Nat.le_refl _)
  rw [List.take_length] at hp
  rw [hp, List.take_of_length_le (by rw [@List.length_append _ (A ++ padFor A)]; omega), pastsL_body]
theorem szOf_out {b : List UInt8} (h : b.length ≤ 65535) : szOf (outOf b) = b.length := by
  unfold outOf sizeOf2
  show (UInt8.ofNat (b.length / 256)).toNat * 256 + (UInt8.ofNat b.length).toNat = _
  rw [UInt8.toNat_ofNat', UInt8.toNat_ofNat']
  omega
theorem drop_out (b : List UInt8) : (outOf b).drop 6 = b := by simp [outOf, sizeOf2, crcFour]
theorem outOf_ne (b : List UInt8) : outOf b ≠ [] := fun h => by have := outOf_len b; rw [h, List.length_nil] at this; omega
theorem frameOf_laid (n : Nat) {b : List UInt8} (h1 : 1 ≤ b.length) (h2 : b.length ≤ 4096) : frameOf (placesAt n (outOf b)) = some (b, n + (bodyAt n (outOf b)).length) := by
  have hb := placesAt_bytes (outOf b) n
  have hl := placesAt_len (outOf b) n
  have ho := outOf_len b
  have hz : szOf (bytesIn (placesAt n (outOf b))) = b.length := by unfold bytesIn; rw [hb, szOf_out (by omega)]
  have hf := (frameOf_full (T := placesAt n (outOf b)) (by omega) (by rw [hz]; exact ⟨h1, h2⟩) (by rw [hz]; omega)).1
  rw [hz] at hf
  unfold bytesIn at hf
  rw [hb, drop_out, List.take_of_length_le (by omega), List.take_of_length_le (by omega)] at hf
  rw [hf rfl]
  have hlast := placesAt_last (outOf b) n (outOf_ne b)
  rw [show 5 + b.length = (outOf b).length - 1 by omega, hlast]
  rfl
theorem frameOf_cut_laid (n j : Nat) {b : List UInt8} (h2 : b.length ≤ 4096) (hj : j < (outOf b).length) : frameOf ((placesAt n (outOf b)).take j) = none := by
  have hl := placesAt_len (outOf b) n
  have ho := outOf_len b
  by_cases h7 : j < 7
  · exact frameOf_short (by rw [List.length_take]; omega)
  · refine frameOf_cut ?_
    have hz : szOf (bytesIn ((placesAt n (outOf b)).take j)) = b.length := by
      unfold bytesIn
      rw [List.map_take, placesAt_bytes]
      have h := szOf_append (l := (outOf b).take j) (by rw [List.length_take]; omega) ((outOf b).drop j)
      rw [List.take_append_drop, szOf_out (by omega)] at h
      exact h.symm
    rw [hz, List.length_take]; omega
/-- Get reads what Put laid. -/
theorem back (A : List UInt8) {b : List UInt8} (h1 : 1 ≤ b.length) (h2 : b.length ≤ 4096) : frameOf (pastAll (A ++ pieceOf A (outOf b)) (placeOf A (outOf b) : Int)) = some (b, (A ++ pieceOf A (outOf b)).length) := by
  rw [pastAll_laid A _ (outOf_ne b), frameOf_laid _ h1 h2, piece_body, @List.length_append _ (A ++ padFor A)]
/-- .. and nothing, where it is cut off. -/
theorem torn (A : List UInt8) {b : List UInt8} (h2 : b.length ≤ 4096) {n : Nat} (hn : n < (A ++ pieceOf A (outOf b)).length) : frameOf (pastAll ((A ++ pieceOf A (outOf b)).take n) (placeOf A (outOf b) : Int)) = none := by
  rw [piece_body] at hn ⊢
  rw [place_body A _ (outOf_ne b)]
  by_cases hp : (A ++ padFor A).length + (if (A ++ padFor A).length % 64 = 0 then 1 else 0) < n
  · rw [pastAll_part (outOf_ne b) (padded A) hp (Nat.le_of_lt hn)]
    rw [@List.length_append _ (A ++ padFor A)] at hn
    obtain ⟨j, hj, e⟩ := pastsL_cut (outOf b) (A ++ padFor A).length (n - (A ++ padFor A).length) (by split at hp <;> omega)
    rw [e]
    exact frameOf_cut_laid _ _ h2 hj
  · rw [pastAll_no (.inr (.inl (by rw [List.length_take]; omega)))]
    exact frameOf_short (by simp)
/-- A file of bytes that are all firm. -/
def firmF (A : List UInt8) : FileD := ⟨A, [], -1, -1, false⟩
theorem firmF_all (A : List UInt8) : (firmF A).all = A := by simp [firmF, FileD.all]
theorem firmF_many (A : List UInt8) : (firmF A).many = A.length := by simp [firmF, FileD.many]
theorem firmF_right {A : List UInt8} (h : A.length ≤ 524288) : (firmF A).right = true := FileD.right_spec.2 ⟨rfl, by simp [firmF], by simp [firmF], by simp [firmF], by rw [firmF_many]; exact h⟩
def laidF (A b : List UInt8) : FileD := ⟨A, [pieceOf A (outOf b)], -1, -1, false⟩
theorem laidF_all (A b : List UInt8) : (laidF A b).all = A ++ pieceOf A (outOf b) := by simp [laidF, FileD.all]
theorem pieceOf_ne (A b : List UInt8) : pieceOf A (outOf b) ≠ [] := fun h => by
  have h2 := layOn_body A.length (outOf b) (padFor A)
  unfold pieceOf at h
  rw [h] at h2
  have h3 := congrArg List.length h2
  have h4 : bodyAt (A.length + (padFor A).length) (outOf b) ≠ [] := by
    cases hc : outOf b with
    | nil => exact absurd hc (outOf_ne b)
    | cons c cs => unfold bodyAt; split <;> simp
  rw [List.length_append] at h3
  have h5 := List.length_pos_iff.2 h4
  simp at h3; omega
theorem laidF_right {A b : List UInt8} (hA : A.length ≤ 100000) (hb : b.length ≤ 4096) : (laidF A b).right = true := by
  have h := pieceOf_len (F := firmF A) (outOf b) (by rw [outOf_len]; omega)
  rw [firmF_all] at h
  refine FileD.right_spec.2 ⟨?_, by simp [laidF], by simp [laidF], by simp [laidF], ?_⟩
  · unfold FileD.full laidF
    have hp := pieceOf_ne A b
    cases hc : pieceOf A (outOf b) with
    | nil => exact absurd hc hp
    | cons => rfl
  · rw [← FileD.all_length, laidF_all, List.length_append]; omega
theorem laidF_put {A b : List UInt8} (hA : A.length ≤ 100000) (h1 : 1 ≤ b.length) (hb : b.length ≤ 4096) : (firmF A).fput b = (laidF A b, placeOf A (outOf b), 0) := by
  have h := pieceOf_len (F := firmF A) (outOf b) (by rw [outOf_len]; omega)
  have hr := firmF_right (A := A) (by omega)
  rw [firmF_all] at h
  have ha : (firmF A).append (pieceOf A (outOf b)) = (laidF A b, 0) := by
    unfold FileD.append
    rw [if_neg (fun h => pieceOf_ne A b h.2)]
    unfold FileD.op
    have hk : (firmF A).asked (pieceOf A (outOf b)).length = (firmF A, 0) := by
      unfold FileD.asked
      rw [if_neg (show ¬ (firmF A).off = true by simp [firmF]), if_neg (show ¬ 524288 - ((firmF A).many : Int) < ((pieceOf A (outOf b)).length : Int) by rw [firmF_many]; omega), if_neg (show ¬ (firmF A).fault = 0 by simp [firmF]), if_neg (show ¬ (firmF A).fuse = 0 by simp [firmF])]
      rfl
    rw [if_pos hr, hk, if_pos rfl]
    rfl
  unfold FileD.fput
  rw [if_pos hr, if_pos ⟨h1, hb⟩, firmF_all, ha]
  rfl
end Go.Dav
