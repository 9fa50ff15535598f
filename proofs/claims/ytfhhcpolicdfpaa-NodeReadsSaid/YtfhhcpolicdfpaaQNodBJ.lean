/-
  Layer 14: how bytes are read, in plain, on lists; it is what Decode reads.
-/
import Derived.Test.YtfhhcpolicdfpaaNdM
namespace Go.Dav
set_option linter.unusedVariables false
set_option linter.unusedSimpArgs false
open Go Go.RowKit
def cntL : List UInt8 → Option (List UInt8 × List UInt8)
  | [] => none
  | k :: r => if k.toNat ≤ r.length then some (r.take k.toNat, r.drop k.toNat) else none
theorem cntL_cons (k : UInt8) (r : List UInt8) : cntL (k :: r) = if k.toNat ≤ r.length then some (r.take k.toNat, r.drop k.toNat) else none := rfl
def itemAt (key val r : List UInt8) : ItemD := ⟨key, val, decide (numOf (r.take 1) = 1), wrap64 (numOf ((r.drop 1).take 8) : Nat)⟩
def itemL (l : List UInt8) : Option (ItemD × List UInt8) :=
  match cntL l with
  | none => none
  | some (key, r) => match cntL r with
    | none => none
    | some (val, q) => if 9 ≤ q.length then some (itemAt key val q, q.drop 9) else none
def kidAt (key r : List UInt8) : KidD := ⟨key, (numOf (r.take 4) : Nat), ⟨(numOf ((r.drop 4).take 4) : Nat), (numOf ((r.drop 8).take 4) : Nat), wrap64 (numOf ((r.drop 12).take 8) : Nat) * 18446744073709551616 + (numOf ((r.drop 20).take 8) : Nat), wrap64 (numOf ((r.drop 28).take 8) : Nat), wrap64 (numOf ((r.drop 36).take 8) : Nat)⟩⟩
def kidL (l : List UInt8) : Option (KidD × List UInt8) :=
  match cntL l with
  | none => none
  | some (key, r) => if 44 ≤ r.length then some (kidAt key r, r.drop 44) else none
def sevIL : Nat → List ItemD → List UInt8 → Option (List ItemD)
  | 0, acc, _ => some acc
  | k + 1, acc, l => match itemL l with
    | none => none
    | some (x, r) => sevIL k (acc ++ [x]) r
def sevKL : Nat → List KidD → List UInt8 → Option (List KidD)
  | 0, acc, _ => some acc
  | k + 1, acc, l => match kidL l with
    | none => none
    | some (x, r) => sevKL k (acc ++ [x]) r
/-- What is read of bytes, before it is looked at. -/
def rawL : List UInt8 → Option NodeD
  | f :: m :: r => if m.toNat ≤ 6 then (if f.toNat = 1 then (sevIL m.toNat [] r).map (⟨true, ·, []⟩) else (sevKL m.toNat [] r).map (⟨false, [], ·⟩)) else none
  | _ => none
def readL (l : List UInt8) : Option NodeD :=
  match rawL l with
  | none => none
  | some N => if nodeOk N = true ∧ nodeBytes N = l then some N else none
theorem rawL_cons (f m : UInt8) (r : List UInt8) : rawL (f :: m :: r) = if m.toNat ≤ 6 then (if f.toNat = 1 then (sevIL m.toNat [] r).map (⟨true, ·, []⟩) else (sevKL m.toNat [] r).map (⟨false, [], ·⟩)) else none := rfl
/-- What is left is all there. -/
structure Lf (s : TkSt) (l : List UInt8) : Prop where
  ok : s.ok = true
  hl : s.l = l
  hn : s.n = l.length
theorem Lf.can {s : TkSt} {l : List UInt8} (h : Lf s l) (k : Nat) : s.can k = decide (k ≤ l.length) := by unfold TkSt.can; rw [h.ok, h.hn, Bool.true_and]
theorem Lf.next {s : TkSt} {l : List UInt8} (h : Lf s l) {k : Nat} (hk : k ≤ l.length) : Lf (s.next k) (l.drop k) := by
  unfold TkSt.next
  rw [h.can, decide_eq_true hk, if_pos rfl]
  exact ⟨rfl, by rw [h.hl], by rw [h.hn, List.length_drop]⟩
theorem Lf.bytes {s : TkSt} {l : List UInt8} (h : Lf s l) {k : Nat} (hk : k ≤ l.length) : s.bytes k = l.take k := by
  unfold TkSt.bytes; rw [h.can, decide_eq_true hk, if_pos rfl, h.hl]
theorem Lf.num {s : TkSt} {l : List UInt8} (h : Lf s l) {k : Nat} (hk : k ≤ l.length) : s.num k = numOf (l.take k) := by unfold TkSt.num; rw [h.bytes hk]
theorem Lf.not {s : TkSt} {l : List UInt8} (h : Lf s l) {k : Nat} (hk : ¬ k ≤ l.length) : (s.next k).ok = false := by
  unfold TkSt.next; rw [h.can, decide_eq_false hk]; rfl
theorem next_false {s : TkSt} (h : s.ok = false) (k : Nat) : (s.next k).ok = false := by unfold TkSt.next TkSt.can; rw [h]; rfl
theorem num_cons (k : UInt8) (r : List UInt8) : numOf ((k :: r).take 1) = k.toNat := by simp [numOf]
theorem Lf.cnt {s : TkSt} {l x r : List UInt8} (h : Lf s l) (hc : cntL l = some (x, r)) : s.cnt = x ∧ Lf s.skip r := by
  cases l with
  | nil => cases hc
  | cons k q =>
    rw [cntL_cons] at hc
    split at hc
    · rename_i hk
      cases hc
      have h1 := h.next (k := 1) (by simp)
      have hn : s.num 1 = k.toNat := by rw [h.num (by simp), num_cons]
      unfold TkSt.cnt TkSt.skip
      rw [hn]
      exact ⟨h1.bytes hk, h1.next hk⟩
    · cases hc
theorem Lf.cnt_no {s : TkSt} {l : List UInt8} (h : Lf s l) (hc : cntL l = none) : s.skip.ok = false := by
  unfold TkSt.skip
  cases l with
  | nil => exact next_false (h.not (by simp)) _
  | cons k q =>
    rw [cntL_cons] at hc
    split at hc
    · cases hc
    · rename_i hk
      have h1 := h.next (k := 1) (by simp)
      have hn : s.num 1 = k.toNat := by rw [h.num (by simp), num_cons]
      rw [hn]
      exact h1.not hk
theorem skip_false {s : TkSt} (h : s.ok = false) : s.skip.ok = false := next_false (next_false h _) _
theorem Lf.item {s : TkSt} {l r : List UInt8} {x : ItemD} (h : Lf s l) (hi : itemL l = some (x, r)) : rdItem s = x ∧ Lf (rdItemS s) r := by
  unfold itemL at hi
  split at hi
  · cases hi
  · rename_i key q hc
    obtain ⟨h1, h2⟩ := h.cnt hc
    split at hi
    · cases hi
    · rename_i val q2 hc2
      obtain ⟨h3, h4⟩ := h2.cnt hc2
      split at hi
      · rename_i h9
        cases hi
        have h5 := h4.next (k := 1) (by omega)
        have h8 : 8 ≤ (q2.drop 1).length := by rw [List.length_drop]; omega
        refine ⟨?_, ?_⟩
        · unfold rdItem itemAt
          rw [h1, h3, h4.num (by omega), h5.num h8]
        · have h6 := h5.next h8
          rw [List.drop_drop] at h6
          exact h6
      · cases hi
theorem Lf.item_no {s : TkSt} {l : List UInt8} (h : Lf s l) (hi : itemL l = none) : (rdItemS s).ok = false := by
  unfold itemL at hi
  unfold rdItemS
  split at hi
  · rename_i hc
    exact next_false (next_false (skip_false (h.cnt_no hc)) _) _
  · rename_i key q hc
    obtain ⟨h1, h2⟩ := h.cnt hc
    split at hi
    · rename_i hc2
      exact next_false (next_false (h2.cnt_no hc2) _) _
    · rename_i val q2 hc2
      obtain ⟨h3, h4⟩ := h2.cnt hc2
      split at hi
      · cases hi
      · rename_i h9
        by_cases h0 : 1 ≤ q2.length
        · exact (h4.next h0).not (by rw [List.length_drop]; omega)
        · exact next_false (h4.not h0) _
theorem Lf.kid {s : TkSt} {l r : List UInt8} {x : KidD} (h : Lf s l) (hi : kidL l = some (x, r)) : rdKid s = x ∧ Lf (rdKidS s) r := by
  unfold kidL at hi
  split at hi
  · cases hi
  · rename_i key q hc
    obtain ⟨h1, h2⟩ := h.cnt hc
    split at hi
    · rename_i h44
      cases hi
      have ln : ∀ k, (q.drop k).length = q.length - k := fun k => List.length_drop
      have a2 := h2.next (k := 4) (by omega)
      have a3 := a2.next (k := 4) (by rw [ln]; omega)
      rw [List.drop_drop] at a3
      have a4 := a3.next (k := 4) (by rw [ln]; omega)
      rw [List.drop_drop] at a4
      have a5 := a4.next (k := 8) (by rw [ln]; omega)
      rw [List.drop_drop] at a5
      have a6 := a5.next (k := 8) (by rw [ln]; omega)
      rw [List.drop_drop] at a6
      have a7 := a6.next (k := 8) (by rw [ln]; omega)
      rw [List.drop_drop] at a7
      have a8 := a7.next (k := 8) (by rw [ln]; omega)
      rw [List.drop_drop] at a8
      refine ⟨?_, a8⟩
      unfold rdKid kidAt
      unfold k7 k6 k5 k4 k3 k2
      rw [h1, h2.num (by omega), a2.num (by rw [ln]; omega), a3.num (by rw [ln]; omega), a4.num (by rw [ln]; omega), a5.num (by rw [ln]; omega), a6.num (by rw [ln]; omega), a7.num (by rw [ln]; omega)]
    · cases hi
theorem Lf.kid_no {s : TkSt} {l : List UInt8} (h : Lf s l) (hi : kidL l = none) : (rdKidS s).ok = false := by
  unfold kidL at hi
  unfold rdKidS k7 k6 k5 k4 k3 k2
  split at hi
  · rename_i hc
    exact next_false (next_false (next_false (next_false (next_false (next_false (next_false (h.cnt_no hc) _) _) _) _) _) _) _
  · rename_i key q hc
    obtain ⟨h1, h2⟩ := h.cnt hc
    split at hi
    · cases hi
    · rename_i h44
      have step : ∀ (t : TkSt) (j k : Nat), (t.ok = false ∨ (Lf t (q.drop j) ∧ j ≤ q.length)) → ((t.next k).ok = false ∨ (Lf (t.next k) (q.drop (j + k)) ∧ j + k ≤ q.length)) := fun t j k ht => by
        rcases ht with ht | ⟨ht, hj⟩
        · exact .inl (next_false ht _)
        · by_cases hk : k ≤ (q.drop j).length
          · have := ht.next hk
            rw [List.drop_drop] at this
            rw [List.length_drop] at hk
            exact .inr ⟨this, by omega⟩
          · exact .inl (ht.not hk)
      have b := step _ _ 8 (step _ _ 8 (step _ _ 8 (step _ _ 8 (step _ _ 4 (step _ _ 4 (step s.skip 0 4 (.inr ⟨by simpa using h2, by omega⟩)))))))
      rcases b with b | ⟨_, b⟩
      · exact b
      · omega
theorem sevI_link : ∀ (k : Nat) (acc : List ItemD) (s : TkSt) (l : List UInt8), Lf s l → (∀ L, sevIL k acc l = some L → (sevI k acc s).1 = L ∧ (sevI k acc s).2.2 = true) ∧ (sevIL k acc l = none → (sevI k acc s).2.2 = false)
  | 0, acc, s, l, h => by
    unfold sevIL sevI
    exact ⟨fun L e => by cases e; exact ⟨rfl, rfl⟩, fun e => by cases e⟩
  | k + 1, acc, s, l, h => by
    unfold sevIL sevI
    cases hi : itemL l with
    | none =>
      rw [h.item_no hi]
      exact ⟨fun L e => (by cases e), fun _ => rfl⟩
    | some p =>
      obtain ⟨x, r⟩ := p
      obtain ⟨h1, h2⟩ := h.item hi
      rw [h2.ok, if_pos rfl, h1]
      exact sevI_link k (acc ++ [x]) (rdItemS s) r h2
theorem sevK_link : ∀ (k : Nat) (acc : List KidD) (s : TkSt) (l : List UInt8), Lf s l → (∀ L, sevKL k acc l = some L → (sevK k acc s).1 = L ∧ (sevK k acc s).2.2 = true) ∧ (sevKL k acc l = none → (sevK k acc s).2.2 = false)
  | 0, acc, s, l, h => by
    unfold sevKL sevK
    exact ⟨fun L e => by cases e; exact ⟨rfl, rfl⟩, fun e => by cases e⟩
  | k + 1, acc, s, l, h => by
    unfold sevKL sevK
    cases hi : kidL l with
    | none =>
      rw [h.kid_no hi]
      exact ⟨fun L e => (by cases e), fun _ => rfl⟩
    | some p =>
      obtain ⟨x, r⟩ := p
      obtain ⟨h1, h2⟩ := h.kid hi
      rw [h2.ok, if_pos rfl, h1]
      exact sevK_link k (acc ++ [x]) (rdKidS s) r h2
theorem raw_link {s : TkSt} {f m : UInt8} {r : List UInt8} (h : Lf s (f :: m :: r)) (hm : m.toNat ≤ 6) : (∀ N, rawL (f :: m :: r) = some N → rawN s = (N, true)) ∧ (rawL (f :: m :: r) = none → (rawN s).2 = false) := by
  have h1 := h.next (k := 1) (by simp)
  have h2 := h1.next (k := 1) (by simp)
  have n1 : s.num 1 = f.toNat := by rw [h.num (by simp), num_cons]
  have n2 : (s.next 1).num 1 = m.toNat := by rw [h1.num (by simp)]; exact num_cons m r
  have h2' : Lf ((s.next 1).next 1) r := by simpa using h2
  rw [rawL_cons]
  unfold rawN
  rw [if_pos hm, n1, n2, Nat.min_eq_left (by omega)]
  by_cases hf : f.toNat = 1
  · rw [if_pos hf, if_pos hf]
    obtain ⟨a1, a2⟩ := sevI_link m.toNat [] _ _ h2'
    cases hs : sevIL m.toNat [] r with
    | none => exact ⟨fun N e => (by cases e), fun _ => a2 hs⟩
    | some L =>
      obtain ⟨b1, b2⟩ := a1 L hs
      exact ⟨fun N e => by cases e; rw [b1, b2], fun e => (by cases e)⟩
  · rw [if_neg hf, if_neg hf]
    obtain ⟨a1, a2⟩ := sevK_link m.toNat [] _ _ h2'
    cases hs : sevKL m.toNat [] r with
    | none => exact ⟨fun N e => (by cases e), fun _ => a2 hs⟩
    | some L =>
      obtain ⟨b1, b2⟩ := a1 L hs
      exact ⟨fun N e => by cases e; rw [b1, b2], fun e => (by cases e)⟩
/-- Decode reads what is read in plain. -/
theorem dec_read {s : TkSt} {l : List UInt8} (h : Lf s l) : (∀ N, readL l = some N → goodN s = true ∧ decN s = N ∧ nodeOk N = true) ∧ (readL l = none → goodN s = false) := by
  have hbad : (¬ ∃ f m r, l = f :: m :: r ∧ m.toNat ≤ 6) → goodN s = false := fun hn => by
    cases hg : goodN s with
    | false => rfl
    | true =>
      exfalso
      unfold goodN at hg
      simp only [Bool.and_eq_true, decide_eq_true_eq] at hg
      have h6 := (shape_few (nodeOk_check hg.2.1).1).2.2
      apply hn
      refine ⟨_, UInt8.ofNat (partsOf (rawN s).1).length, (partsOf (rawN s).1).flatMap pBytes, (by rw [← h.hl, ← hg.2.2]; rfl), ?_⟩
      rw [UInt8.toNat_ofNat']; omega
  by_cases hc : ∃ f m r, l = f :: m :: r ∧ m.toNat ≤ 6
  · obtain ⟨f, m, r, rfl, hm⟩ := hc
    obtain ⟨a1, a2⟩ := raw_link h hm
    unfold readL
    cases hr : rawL (f :: m :: r) with
    | none =>
      refine ⟨fun N e => (by cases e), fun _ => ?_⟩
      unfold goodN; rw [a2 hr]; rfl
    | some M =>
      have e := a1 M hr
      by_cases hok : nodeOk M = true ∧ nodeBytes M = f :: m :: r
      · have hg : goodN s = true := by unfold goodN; rw [e]; simp [hok, h.hl]
        simp only [if_pos hok]
        refine ⟨fun N e2 => ?_, fun e2 => (by cases e2)⟩
        cases e2
        exact ⟨hg, by unfold decN; rw [if_pos hg, e], hok.1⟩
      · simp only [if_neg hok]
        refine ⟨fun N e2 => (by cases e2), fun _ => ?_⟩
        cases hg : goodN s with
        | false => rfl
        | true =>
          exfalso
          unfold goodN at hg
          rw [e] at hg
          simp only [Bool.and_eq_true, decide_eq_true_eq] at hg
          exact hok ⟨hg.2.1, by rw [hg.2.2, h.hl]⟩
  · have hb := hbad hc
    refine ⟨fun N e => ?_, fun _ => hb⟩
    exfalso
    unfold readL at e
    have : rawL l = none := by
      match l, hc with
      | [], _ => rfl
      | [_], _ => rfl
      | f :: m :: r, hc =>
        rw [rawL_cons, if_neg fun hm => hc ⟨f, m, r, rfl, hm⟩]
    rw [this] at e
    cases e
end Go.Dav
