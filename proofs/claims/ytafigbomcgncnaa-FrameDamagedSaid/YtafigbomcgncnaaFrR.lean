/-
  Layer 11, the plain law: a record of which bits are turned is none.
-/
import Derived.Test.YtafigbomcgncnaaFrQ
import Derived.Test.YtafigbomcgncnaaTurnB
namespace Go.Dav
set_option linter.unusedVariables false
set_option linter.unusedSimpArgs false
open Go Go.RowKit
theorem piece_len_pos {A : List UInt8} {n : Nat} {b : List UInt8} (h : 6 + b.length = n) : (pieceOf A (List.replicate n 0)).length = (pieceOf A (outOf b)).length := pieceOf_len_eq _ (by rw [List.length_replicate, outOf_len, h])
theorem pastAll_any (A cs : List UInt8) (h : cs ≠ []) : pastAll ((A ++ padFor A) ++ bodyAt (A ++ padFor A).length cs) (((A ++ padFor A).length + if (A ++ padFor A).length % 64 = 0 then 1 else 0 : Nat) : Int) = placesAt (A ++ padFor A).length cs := by
  have hb : (bodyAt (A ++ padFor A).length cs).length > if (A ++ padFor A).length % 64 = 0 then 1 else 0 := by
    cases cs with
    | nil => exact absurd rfl h
    | cons c cs => rw [bodyAt_cons]; split <;> simp
  have hp := pastAll_part (cs := cs) h (padded A) (n := ((A ++ padFor A) ++ bodyAt (A ++ padFor A).length cs).length) (by rw [@List.length_append _ (A ++ padFor A)]; omega) (Nat.le_refl _)
  rw [List.take_length] at hp
  rw [hp, List.take_of_length_le (by rw [@List.length_append _ (A ++ padFor A)]; omega), pastsL_body]
theorem crcFour_inj {s t : Nat} (hs : s < 4294967296) (ht : t < 4294967296) (h : crcFour s = crcFour t) : s = t := by
  unfold crcFour at h
  simp only [List.cons.injEq, and_true] at h
  obtain ⟨h0, h1, h2, h3⟩ := h
  have g0 := congrArg UInt8.toNat h0
  have g1 := congrArg UInt8.toNat h1
  have g2 := congrArg UInt8.toNat h2
  have g3 := congrArg UInt8.toNat h3
  simp only [UInt8.toNat_ofNat'] at g0 g1 g2 g3
  omega
def headOf11 (b : List UInt8) : List UInt8 := sizeOf2 b.length ++ crcFour (crcSum (sizeOf2 b.length ++ b))
theorem out_head (b : List UInt8) : outOf b = headOf11 b ++ b := by unfold outOf headOf11; rfl
theorem headOf11_len (b : List UInt8) : (headOf11 b).length = 6 := by simp [headOf11, sizeOf2, crcFour]
/-- A record, of which bits are turned, is none. -/
theorem frameOf_turned (n : Nat) {b : List UInt8} {t at_ : Nat} (h1 : 1 ≤ b.length) (h2 : b.length ≤ 4096) (ht : t ≠ 0) (ht32 : t < 2 ^ 32) (hat : at_ + 32 ≤ 8 * b.length) : frameOf (placesAt n (headOf11 b ++ turnAt b (t * 2 ^ at_))) = none := by
  obtain ⟨b', hb'⟩ : ∃ b', turnAt b (t * 2 ^ at_) = b' := ⟨_, rfl⟩
  have hbl : b'.length = b.length := by rw [← hb', turnAt_len]
  rw [hb']
  have hb := placesAt_bytes (headOf11 b ++ b') n
  have hl := placesAt_len (headOf11 b ++ b') n
  rw [List.length_append, headOf11_len, hbl] at hl
  have hz0 : szOf (headOf11 b ++ b') = b.length := by
    have h := szOf_out (b := b) (by omega)
    rw [out_head, szOf_append (by rw [headOf11_len]; omega)] at h
    rw [szOf_append (by rw [headOf11_len]; omega), h]
  have hz : szOf (bytesIn (placesAt n (headOf11 b ++ b'))) = b.length := by unfold bytesIn; rw [hb, hz0]
  have hf := (frameOf_full (T := placesAt n (headOf11 b ++ b')) (by omega) (by rw [hz]; exact ⟨h1, h2⟩) (by rw [hz]; omega)).2
  rw [hz] at hf
  unfold bytesIn at hf
  rw [hb, List.drop_left' (headOf11_len b), List.take_of_length_le (by omega), List.take_of_length_le (by rw [List.length_append, headOf11_len]; omega)] at hf
  refine hf fun he => ?_
  rw [out_head] at he
  have hh := List.append_inj_left he (by rw [headOf11_len, headOf11_len])
  unfold headOf11 at hh
  rw [hbl] at hh
  have hc := List.append_cancel_left hh
  have hs := crcFour_inj (crcSum_lt _) (crcSum_lt _) hc
  unfold crcSum at hs
  have g1 := crcOf_lt (s := 4294967295) (by omega) (sizeOf2 b.length ++ b')
  have g2 := crcOf_lt (s := 4294967295) (by omega) (sizeOf2 b.length ++ b)
  have hq : crcOf 4294967295 (sizeOf2 b.length ++ b') = crcOf 4294967295 (sizeOf2 b.length ++ b) := by omega
  rw [crcOf_append, crcOf_append, ← hb'] at hq
  exact turned_sum ht ht32 hat hq
/-- The places of a body, and what stands there. -/
theorem body_place : ∀ (cs : List UInt8) (n i p : Nat) (c : UInt8), (placesAt n cs)[i]? = some (p, c) → n ≤ p ∧ p < n + (bodyAt n cs).length ∧ (bodyAt n cs)[p - n]? = some c ∧ ∀ v, (bodyAt n cs).set (p - n) v = bodyAt n (cs.set i v) := fun cs => by
  induction cs with
  | nil => intro n i p c h; simp [placesAt] at h
  | cons d ds ih =>
    intro n i p c h
    rw [placesAt_cons] at h
    rw [bodyAt_cons]
    by_cases h0 : n % 64 = 0
    · rw [if_pos h0] at h ⊢
      cases i with
      | zero =>
        simp only [List.getElem?_cons_zero, Option.some.injEq, Prod.mk.injEq] at h
        obtain ⟨rfl, rfl⟩ := h
        refine ⟨by omega, by simp, by rw [show n + 1 - n = 1 by omega]; rfl, fun v => ?_⟩
        rw [List.set_cons_zero, bodyAt_cons, if_pos h0, show n + 1 - n = 1 by omega]; rfl
      | succ i =>
        rw [List.getElem?_cons_succ] at h
        obtain ⟨h1, h2, h3, h4⟩ := ih (n + 2) i p c h
        refine ⟨by omega, by simp only [List.length_cons]; omega, by rw [show p - n = p - (n + 2) + 1 + 1 by omega]; exact h3, fun v => ?_⟩
        rw [List.set_cons_succ, bodyAt_cons, if_pos h0, show p - n = p - (n + 2) + 1 + 1 by omega, List.set_cons_succ, List.set_cons_succ, h4]
    · rw [if_neg h0] at h ⊢
      cases i with
      | zero =>
        simp only [List.getElem?_cons_zero, Option.some.injEq, Prod.mk.injEq] at h
        obtain ⟨rfl, rfl⟩ := h
        refine ⟨by omega, by simp, by rw [show n - n = 0 by omega]; rfl, fun v => ?_⟩
        rw [List.set_cons_zero, bodyAt_cons, if_neg h0, show n - n = 0 by omega]; rfl
      | succ i =>
        rw [List.getElem?_cons_succ] at h
        obtain ⟨h1, h2, h3, h4⟩ := ih (n + 1) i p c h
        refine ⟨by omega, by simp only [List.length_cons]; omega, by rw [show p - n = p - (n + 1) + 1 by omega]; exact h3, fun v => ?_⟩
        rw [List.set_cons_succ, bodyAt_cons, if_neg h0, show p - n = p - (n + 1) + 1 by omega, List.set_cons_succ, h4]
/-- The places from one on that are no marks. -/
def plFrom : Nat → Nat → List Nat
  | 0, _ => []
  | k + 1, i => if i % 64 = 0 then plFrom k (i + 1) else i :: plFrom k (i + 1)
theorem plFrom_zero (k i : Nat) (h : i % 64 = 0) : plFrom (k + 1) i = plFrom k (i + 1) := by rw [plFrom, if_pos h]
theorem plFrom_mid (k i : Nat) (h : i % 64 ≠ 0) : plFrom (k + 1) i = i :: plFrom k (i + 1) := by rw [plFrom, if_neg h]
theorem plFrom_len : ∀ k i, (plFrom k i).length ≤ k
  | 0, _ => Nat.le_refl _
  | k + 1, i => by rw [plFrom]; have := plFrom_len k (i + 1); split <;> simp <;> omega
theorem places_pl : ∀ (cs : List UInt8) (n : Nat), (placesAt n cs).map (·.1) = plFrom (bodyAt n cs).length n := fun cs => by
  induction cs with
  | nil => intro n; rfl
  | cons c cs ih =>
    intro n
    rw [placesAt_cons, bodyAt_cons]
    by_cases h : n % 64 = 0
    · rw [if_pos h, if_pos h, List.map_cons, ih, List.length_cons, List.length_cons, plFrom_zero _ _ h, plFrom_mid _ _ (by omega)]
    · rw [if_neg h, if_neg h, List.map_cons, ih, List.length_cons, plFrom_mid _ _ h]
/-- .. from the record's place on. -/
theorem places_from (n : Nat) (cs : List UInt8) (h : cs ≠ []) : plFrom (n + (bodyAt n cs).length - (n + if n % 64 = 0 then 1 else 0)) (n + if n % 64 = 0 then 1 else 0) = (placesAt n cs).map (·.1) := by
  rw [places_pl]
  by_cases h0 : n % 64 = 0
  · rw [if_pos h0]
    cases cs with
    | nil => exact absurd rfl h
    | cons c cs =>
      rw [bodyAt_cons, if_pos h0, show n + (0 :: c :: bodyAt (n + 2) cs).length - (n + 1) = (bodyAt (n + 2) cs).length + 1 by simp only [List.length_cons]; omega, List.length_cons, plFrom_zero _ _ h0, List.length_cons]
  · rw [if_neg h0, Nat.add_zero, Nat.add_sub_cancel_left]
theorem bodyAt_len_eq : ∀ (cs ds : List UInt8) (n : Nat), cs.length = ds.length → (bodyAt n cs).length = (bodyAt n ds).length := fun cs => by
  induction cs with
  | nil => intro ds n h; cases ds with
    | nil => rfl
    | cons d ds => cases h
  | cons c cs ih => intro ds n h; cases ds with
    | nil => cases h
    | cons d ds =>
      have h' : cs.length = ds.length := by simpa using h
      rw [bodyAt_cons, bodyAt_cons]
      split <;> simp [ih ds _ h']
theorem places_fst_eq (n : Nat) {cs ds : List UInt8} (h : cs.length = ds.length) : (placesAt n cs).map (·.1) = (placesAt n ds).map (·.1) := by
  rw [places_pl, places_pl, bodyAt_len_eq cs ds n h]
/-- One bit more is turned. -/
theorem turn_step {L b : List UInt8} {x m i p : Nat} (hm : m / 8 = i) (hi : i < b.length) (hp : ((placesAt L.length (outOf b))[6 + i]?).map (·.1) = some p) :
    ∃ c, (turnAt b x)[i]? = some c ∧ (L ++ bodyAt L.length (headOf11 b ++ turnAt b x))[p]? = some c ∧ (L ++ bodyAt L.length (headOf11 b ++ turnAt b x)).set p (c ^^^ bitByte m) = L ++ bodyAt L.length (headOf11 b ++ turnAt b (x ^^^ 2 ^ m)) ∧ p < L.length + (bodyAt L.length (outOf b)).length := by
  obtain ⟨c, hc⟩ : ∃ c, (turnAt b x)[i]? = some c := ⟨_, List.getElem?_eq_getElem (by rw [turnAt_len]; exact hi)⟩
  have hlen : (headOf11 b ++ turnAt b x).length = (outOf b).length := by rw [out_head, List.length_append, List.length_append, turnAt_len]
  have hcs : (headOf11 b ++ turnAt b x)[6 + i]? = some c := by
    rw [List.getElem?_append_right (by rw [headOf11_len]; omega), headOf11_len, Nat.add_sub_cancel_left]; exact hc
  have hbytes := placesAt_bytes (headOf11 b ++ turnAt b x) L.length
  have hfst := places_fst_eq L.length hlen
  have hpl : (placesAt L.length (headOf11 b ++ turnAt b x))[6 + i]? = some (p, c) := by
    have h1 := congrArg (·[6 + i]?) hbytes
    have h2 := congrArg (·[6 + i]?) hfst
    simp only [List.getElem?_map] at h1 h2
    rw [hcs] at h1
    rw [hp] at h2
    cases hq : (placesAt L.length (headOf11 b ++ turnAt b x))[6 + i]? with
    | none => rw [hq] at h1; cases h1
    | some q =>
      rw [hq] at h1 h2
      simp only [Option.map_some, Option.some.injEq] at h1 h2
      rw [← h1, ← h2]
  obtain ⟨h1, h2, h3, h4⟩ := body_place _ _ _ _ _ hpl
  rw [bodyAt_len_eq _ (outOf b) _ hlen] at h2
  refine ⟨c, hc, ?_, ?_, h2⟩
  · rw [List.getElem?_append_right h1]; exact h3
  · rw [List.set_append_right _ _ h1, h4, List.set_append_right _ _ (by rw [headOf11_len]; omega), headOf11_len, Nat.add_sub_cancel_left]
    have hf := turnAt_flip (m := m) (c := c) (by rw [hm]; exact hc)
    rw [hm] at hf
    rw [hf]
/-- A record in a block with another mark is none. -/
theorem pastAll_mark {X : List UInt8} {k : Nat} {v : UInt8} (hv : v ≠ 0) (h64 : k % 64 ≠ 0) (hk : k < X.length) : pastAll (X.set (k - k % 64) v) (k : Int) = [] := by
  rw [pastAll_in (x0 := v) (by rw [List.length_set]; exact hk) h64 (by rw [List.getElem?_set, if_pos rfl, if_pos (by omega)]), if_neg hv]
theorem ownRow_set {W : World} {base e n g cap i : Nat} {v : Value} {xs : List Value} (h : W.ownsRow base e 1 (.slice (some ⟨g, 0, none⟩) n cap) n xs) : (W.setCell ⟨g, i, none⟩ v).ownsRow base e 1 (.slice (some ⟨g, 0, none⟩) n cap) n (xs.set i v) := by
  rcases h.2 with ⟨e1, _⟩ | ⟨g', cap', cur, e1, h2, h3, h4, h5, h6, h7⟩
  · cases e1
  · cases e1
    have hb : Blk W g cur.toList e := by unfold Blk; rw [h3]
    refine ⟨by rw [List.length_set]; exact h.1, .inr ⟨g, cap, (cur.toList.set i v).toArray, rfl, h2, hb.set i v, h4, h5, by simp [h6], ?_⟩⟩
    rw [← h7]
    simp only [List.take_set]
theorem ownRow_marks {W : World} {base e n g cap : Nat} {xs : List Value} (h : W.ownsRow base e 1 (.slice (some ⟨g, 0, none⟩) n cap) n xs) : base ≤ g ∧ g < W.heap.size ∧ ∀ i, W.frozen? ⟨g, i, none⟩ = false := by
  rcases h.2 with ⟨e1, _⟩ | ⟨g', cap', cur, e1, h2, h3, h4, h5, h6, h7⟩
  · cases e1
  · cases e1
    have hb : Blk W g cur.toList e := by unfold Blk; rw [h3]
    exact ⟨h2, hb.lt, hb.marks⟩
/-- A row of bytes that is not empty lies in a block. -/
theorem ownRow_some {W : World} {base e n : Nat} {v : Value} {xs : List Value} (h : W.ownsRow base e 1 v n xs) (hn : 0 < n) : ∃ g cap, v = .slice (some ⟨g, 0, none⟩) n cap ∧ n ≤ cap ∧ cap ≤ maxLen := by
  rcases h.2 with ⟨_, e2⟩ | ⟨g, cap, cur, e1, h2, h3, h4, h5, h6, h7⟩
  · omega
  · exact ⟨g, cap, e1, h4, h5⟩
def natsV (l : List Nat) : List Value := l.map fun x : Nat => Value.int .i64 ((x : Nat) : Int)
theorem natsV_snoc (l : List Nat) (x : Nat) : natsV (l ++ [x]) = natsV l ++ [.int .i64 (x : Int)] := by simp [natsV]
theorem natsV_get {l : List Nat} {i x : Nat} (h : l[i]? = some x) : (natsV l)[i]? = some (.int .i64 (x : Int)) := by simp [natsV, h]
theorem natsV_len (l : List Nat) : (natsV l).length = l.length := by simp [natsV]
end Go.Dav
