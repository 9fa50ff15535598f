/-
  The reference of layer 1: Points, Valid, walked.
-/
import Derived.Test.YtdebmifjfemcjaaUtB
import Derived.Lib.ConvBytes
namespace Go.Dav
set_option linter.unusedVariables false
set_option linter.unusedSimpArgs false
open Go Go.RowKit
def natsV (l : List Nat) : List Value := l.map fun x : Nat => Value.int .i64 ((x : Nat) : Int)
theorem natsV_snoc (l : List Nat) (x : Nat) : natsV (l ++ [x]) = natsV l ++ [.int .i64 (x : Int)] := by simp [natsV]
theorem natsV_len (l : List Nat) : (natsV l).length = l.length := by simp [natsV]
/-- The code points of a row of bytes, how many bytes they take, and whether it is a text. -/
def ptsGo : Nat → List UInt8 → List Nat × Nat × Bool
  | 0, _ => ([], 0, true)
  | k + 1, b => if b = [] then ([], 0, true) else if (beginOf b).2 = 0 then ([], 0, false) else
      ((beginOf b).1 :: (ptsGo k (b.drop (beginOf b).2)).1, (beginOf b).2 + (ptsGo k (b.drop (beginOf b).2)).2.1, (ptsGo k (b.drop (beginOf b).2)).2.2)
def ptsOf (b : List UInt8) : List Nat × Nat × Bool := ptsGo b.length b
/-- Is a string a text? -/
def validB (b : List UInt8) : Bool := (ptsOf b).2.2
theorem beginOk_len {b : List UInt8} {n : Nat} (h : beginOk b n = true) : n ≤ b.length := by
  unfold beginOk at h
  rw [Bool.and_eq_true, decide_eq_true_eq] at h
  exact h.1
theorem beginOf_len (b : List UInt8) : (beginOf b).2 ≤ b.length := by
  unfold beginOf
  by_cases h1 : beginOk b 1 = true
  · rw [if_pos h1]; exact beginOk_len h1
  rw [if_neg h1]
  by_cases h2 : beginOk b 2 = true
  · rw [if_pos h2]; exact beginOk_len h2
  rw [if_neg h2]
  by_cases h3 : beginOk b 3 = true
  · rw [if_pos h3]; exact beginOk_len h3
  rw [if_neg h3]
  by_cases h4 : beginOk b 4 = true
  · rw [if_pos h4]; exact beginOk_len h4
  rw [if_neg h4]; exact Nat.zero_le _
theorem ptsGo_fuel : ∀ (k : Nat) (b : List UInt8), b.length ≤ k → ptsGo k b = ptsGo b.length b
  | 0, b, h => by
    have : b = [] := List.length_eq_zero_iff.1 (by omega)
    subst this; rfl
  | k + 1, b, h => by
    cases hb : b with
    | nil => rfl
    | cons x xs =>
      rw [← hb]
      have hl : b.length = xs.length + 1 := by rw [hb]; rfl
      have hne : b ≠ [] := by rw [hb]; exact List.cons_ne_nil _ _
      rw [hl]
      unfold ptsGo
      rw [if_neg hne, if_neg hne]
      by_cases h0 : (beginOf b).2 = 0
      · rw [if_pos h0, if_pos h0]
      · rw [if_neg h0, if_neg h0]
        have e : (b.drop (beginOf b).2).length ≤ xs.length := by rw [List.length_drop]; omega
        rw [ptsGo_fuel k _ (by omega), ptsGo_fuel xs.length _ e]
theorem ptsOf_nil : ptsOf [] = ([], 0, true) := rfl
theorem ptsOf_no {b : List UInt8} (hne : b ≠ []) (h0 : (beginOf b).2 = 0) : ptsOf b = ([], 0, false) := by
  unfold ptsOf
  cases b with
  | nil => exact absurd rfl hne
  | cons x xs => show ptsGo (xs.length + 1) _ = _; unfold ptsGo; rw [if_neg hne, if_pos h0]
theorem ptsOf_go {b : List UInt8} (hne : b ≠ []) (h0 : (beginOf b).2 ≠ 0) : ptsOf b = ((beginOf b).1 :: (ptsOf (b.drop (beginOf b).2)).1, (beginOf b).2 + (ptsOf (b.drop (beginOf b).2)).2.1, (ptsOf (b.drop (beginOf b).2)).2.2) := by
  have hg : ∀ k, b.length = k + 1 → ptsOf b = ((beginOf b).1 :: (ptsGo k (b.drop (beginOf b).2)).1, (beginOf b).2 + (ptsGo k (b.drop (beginOf b).2)).2.1, (ptsGo k (b.drop (beginOf b).2)).2.2) := fun k hk => by
    unfold ptsOf
    rw [hk]
    show ptsGo (k + 1) b = _
    conv => lhs; unfold ptsGo
    rw [if_neg hne, if_neg h0]
  cases hb : b.length with
  | zero => exact absurd (List.length_eq_zero_iff.1 hb) hne
  | succ k =>
    rw [hg k hb, ptsGo_fuel k _ (by rw [List.length_drop]; omega)]
    rfl
/-- What is known of the points, at a place behind those that were read. -/
def PtsAt (b : List UInt8) (acc : List Nat) (at_ : Nat) : Prop := ptsOf b = (acc ++ (ptsOf (b.drop at_)).1, at_ + (ptsOf (b.drop at_)).2.1, (ptsOf (b.drop at_)).2.2)
theorem PtsAt.zero (b : List UInt8) : PtsAt b [] 0 := by unfold PtsAt; simp
theorem PtsAt.next {b : List UInt8} {acc : List Nat} {at_ : Nat} (h : PtsAt b acc at_) (hl : at_ < b.length) (h0 : (beginOf (b.drop at_)).2 ≠ 0) : PtsAt b (acc ++ [(beginOf (b.drop at_)).1]) (at_ + (beginOf (b.drop at_)).2) := by
  unfold PtsAt at h ⊢
  rw [ptsOf_go (fun e => by have := congrArg List.length e; rw [List.length_drop] at this; simp at this; omega) h0, List.drop_drop] at h
  rw [h]
  simp [Nat.add_assoc]
theorem PtsAt.stop {b : List UInt8} {acc : List Nat} {at_ : Nat} (h : PtsAt b acc at_) (hl : at_ < b.length) (h0 : (beginOf (b.drop at_)).2 = 0) : ptsOf b = (acc, at_, false) := by
  unfold PtsAt at h
  rw [ptsOf_no (fun e => by have := congrArg List.length e; rw [List.length_drop] at this; simp at this; omega) h0] at h
  rw [h]; simp
theorem PtsAt.done {b : List UInt8} {acc : List Nat} (h : PtsAt b acc b.length) : ptsOf b = (acc, b.length, true) := by
  unfold PtsAt at h
  rw [List.drop_length, ptsOf_nil] at h
  rw [h]; simp
/-- What Points hands back. -/
def PtsBack (t : TypeId) (w : World) (b : List UInt8) (e : Ending) (w' : World) : Prop :=
  if validB b = true then ∃ v, e = .returned (.tuple #[v, .int .i64 0, .bool true]) ∧ w'.ownsRow w.heap.size t 1 v (ptsOf b).1.length (natsV (ptsOf b).1) ∧ Below w.heap.size w w'
  else e = .returned (.tuple #[.slice none 0 0, .int .i64 ((ptsOf b).2.1 : Int), .bool false]) ∧ Below w.heap.size w w'
end Go.Dav
namespace Go.Proofs.Ytdebmifjfemcjaa
set_option linter.unusedVariables false
set_option linter.unusedSimpArgs false
open Go.RowKit Go.Dav
attribute [local go_sem] Gives ite_val ite_val_true

theorem Try_infoInt : (Try.prog.info? 3).map (fun i => (i.zero, i.size, i.bytes)) = some (some (.int .i64 0), 1, 8) := by kernel_rfl
theorem Try_elemInt : Elem1 Try.prog 40 3 8 := by
  obtain ⟨i0, hi, hz0, hz1, hz2⟩ := info_parts Try_infoInt
  exact ⟨Try.underlying40, i0, _, hi, hz0, hz1, hz2, rfl⟩

/-- The bytes of a string, in new memory. -/
theorem Try_convBytes (s : ByteArray) (w : World) (hs : s.size ≤ 140737488355328) :
    ∃ c, (convert 9 25 (.string s)).run Try.prog w = .ok (.slice (some ⟨w.heap.size, 0, none⟩) s.size c) (Lib.bytesWorld w 5 s) ∧ BytesAt (Lib.bytesWorld w 5 s) (some ⟨w.heap.size, 0, none⟩) s.size c s.data.toList ∧ Below w.heap.size w (Lib.bytesWorld w 5 s) := by
  refine ⟨_, Lib.run_convert_string_bytes w 9 25 5 s Try.underlying9 Try.underlying25 Try.underlying5, ⟨Array.length_toList, grownCap_ge _ _ _ _, grownCap_le_maxLen _ _ _ _ (by unfold maxLen; omega), hs, fun k x hk => ?_, fun e => by cases e⟩, ⟨rfl, rfl, rfl, by rw [Lib.bytesWorld_size]; omega, fun k hk => Lib.bytesWorld_at_old w _ s k hk⟩⟩
  have hkl := (List.getElem?_eq_some_iff.1 hk).1
  refine ⟨w.heap.size, 0, rfl, by rw [Lib.bytesWorld_size]; omega, ?_⟩
  rw [Nat.zero_add, Lib.bytesWorld_cell w _ s k (by rw [Array.length_toList] at hkl; exact hkl)]
  simp [List.getD, hk]

set_option maxRecDepth 8000 in
set_option maxHeartbeats 4000000 in
theorem Try_rPoints (ba : Option Addr) (bl bc : Nat) (b : List UInt8) (w : World) (hb : BytesAt w ba bl bc b) (hbl : bl ≤ 17592186044416) :
    Calls Try.prog 55 #[.slice ba bl bc] w (PtsBack 3 w b) := by
  have HB := Lib.hid hb
  have HL := Lib.hid hb.hlen
  have hcap := hb.hcap
  clear hb
  go_enter Try.func55, Try.ntmps55
  go_wp2_with fail
  go_loopw [5, 6] (fun ov ix wr => ∃ (i : Nat) (acc : List Nat), i ≤ bl ∧ acc.length ≤ i ∧ ix = .int .i64 (i : Int) ∧ PtsAt b acc i ∧ wr.ownsRow w.heap.size 3 1 ov acc.length (natsV acc) ∧ Below w.heap.size w wr) (fun _ ix _ => bl - (intOf ix).toNat)
  case atStart => exact ⟨0, [], Nat.zero_le _, Nat.le_refl _, by go_num, PtsAt.zero b, World.ownsRow_nil _ _ _ _, Below.refl _ _⟩
  case round =>
    obtain ⟨i, acc, hi, hac, rfl, hpt, hor, hbel⟩ := hrel
    have HPT := Lib.hid hpt
    have HOR := Lib.hid hor
    have HBE := Lib.hid hbel
    obtain ⟨oa, oc, rfl, _⟩ := own_cells hor
    have hsr := hbel.size
    clear hpt hor hbel
    by_cases hlt : i < bl
    · have g1 : (i : Int) < (bl : Int) := by omega
      obtain ⟨x0, hx0⟩ : ∃ x0, b[i]? = some x0 := ⟨_, List.getElem?_eq_getElem (by have := HL.out; omega)⟩
      obtain ⟨bb, bo, rfl, _, _⟩ := HB.out.hat i x0 hx0
      have g2 : (i : Int) ≤ (bl : Int) := by omega
      have g3 : (bl : Int) ≤ (bc : Int) := by omega
      have HD := Lib.hid (show BytesAt wr (some ⟨bb, bo + i, none⟩) (bl - i) (bc - i) (b.drop i) from by
        have h := HB.out.ext HBE.out
        refine ⟨by rw [List.length_drop, HL.out], by omega, by have := h.hmax; omega, by have := h.hfew; omega, fun k x hk => ?_, fun e => by cases e⟩
        rw [List.getElem?_drop] at hk
        obtain ⟨b', o', e, h1, h2⟩ := h.hat (i + k) x hk
        cases e
        exact ⟨bb, bo + i, rfl, h1, by rw [Nat.add_assoc]; exact h2⟩)
      have HLT := Lib.hid hlt
      clear hx0 hlt hi
      go_wp2_with fail
      refine (Try_rBegin (some ⟨bb, bo + i, none⟩) (bl - i) (bc - i) (b.drop i) wr HD.out (by have := HLT.out; omega)).mono ?_; rintro e w1 ⟨rfl, hb1⟩
      have hbn := beginOf_len (b.drop i)
      rw [List.length_drop, HL.out] at hbn
      obtain ⟨n, hn⟩ : ∃ n, (beginOf (b.drop i)).2 = n := ⟨_, rfl⟩
      obtain ⟨c, hc⟩ : ∃ c, (beginOf (b.drop i)).1 = c := ⟨_, rfl⟩
      rw [hn] at hbn ⊢
      rw [hc]
      have HN := Lib.hid hn
      have HC := Lib.hid hc
      have HB1 := Lib.hid (HBE.out.trans (hb1.mono HBE.out.size))
      have HO1 := Lib.hid (ownsRow_ext HOR.out hb1)
      have hs1 := hb1.size
      have hbn' : i + n ≤ bl := by have := HLT.out; omega
      clear hn hc hb1 hbn
      by_cases h0 : n = 0
      · subst h0
        have hst := HPT.out.stop (by rw [HL.out]; exact HLT.out) HN.out
        have HV := Lib.hid hst
        clear hst hbn'
        go_wp2
        refine bodyPost_ret (v := .tuple #[.slice none 0 0, .int .i64 (i : Int), .bool false]) (by simp [results, Try.results55, go_sem]) rfl ?_
        unfold PtsBack validB
        rw [HV.out]
        exact ⟨rfl, HB1.out⟩
      · have d1 : ((n : Int) == 0) = false := by rw [beq_eq_false_iff_ne]; omega
        have hnx := HPT.out.next (by rw [HL.out]; exact HLT.out) (by rw [HN.out]; exact h0)
        rw [HN.out, HC.out] at hnx
        have HNX := Lib.hid hnx
        have u1 : IntKind.i64.wrap ((i : Int) + (n : Int)) = (i : Int) + (n : Int) := IntWalk.i64_in _ (by omega)
        have HCX := Lib.hid (cells_one (S := fun b => b = w1.heap.size) (g := w1.heap.size) (v := .int .i64 (c : Int)) rfl (by simp) (Blk.new w1 [.int .i64 (c : Int)] 3 |>.cell 0 rfl))
        have hi0 := HLT.out
        clear hnx
        go_wp2_with (at_builtin; refine wpList_append_rowS rfl (.tmp 23) (.tmp 25) 40 rfl Try_elemInt w.heap.size _ acc.length (natsV acc) rfl (HO1.out.alloc _) (fun b => b = w1.heap.size) (some ⟨w1.heap.size, 0, none⟩) 1 1 [.int .i64 (c : Int)] rfl HCX.out (fun u hu => by simp at hu; subst hu; rfl) (fun h => by cases h) (by unfold maxLen; omega) (by omega) (by simp; omega) ?_; intro v7 w7 hown7 hgrow7; have HBL7 := Lib.hid (below_own (HB1.out.alloc (by omega) _) (by simp; omega) (HO1.out.alloc _) (Nat.le_refl _) hgrow7); have HO7 := Lib.hid hown7; clear HCX hown7 hgrow7)
        go_roundw
        case rel =>
          refine ⟨i + n, acc ++ [c], hbn', by rw [List.length_append]; simp; omega, by go_num, HNX.out, ?_, HBL7.out⟩
          rw [List.length_append, natsV_snoc]; exact HO7.out
        case measure => simp [intOf]; omega
    · have g1 : ¬ (i : Int) < (bl : Int) := by omega
      obtain rfl : i = bl := by omega
      have hdn := HPT.out
      rw [← HL.out] at hdn
      have HV := Lib.hid hdn.done
      clear hdn hlt hi
      go_wp2
      refine bodyPost_ret (v := .tuple #[.slice oa acc.length oc, .int .i64 0, .bool true]) (by simp [results, Try.results55, go_sem]) rfl ?_
      unfold PtsBack validB
      rw [HV.out]
      exact ⟨_, rfl, HOR.out, HBE.out⟩

theorem Try_rValid (s : ByteArray) (w : World) (hs : s.size ≤ 17592186044416) :
    Calls Try.prog 54 #[.string s] w fun e w' => e = .returned (.bool (validB s.data.toList)) ∧ Below w.heap.size w w' := by
  obtain ⟨vb, hvb⟩ : ∃ v, validB s.data.toList = v := ⟨_, rfl⟩
  rw [hvb]
  have HVB := Lib.hid hvb
  clear hvb
  obtain ⟨c, hcv, hby, hbw⟩ := Try_convBytes s w (by omega)
  have HBY := Lib.hid hby
  have HBW := Lib.hid hbw
  obtain ⟨W1, hW1⟩ : ∃ W1, Lib.bytesWorld w 5 s = W1 := ⟨_, rfl⟩
  rw [hW1] at hcv HBY HBW
  clear hby hbw hW1
  go_enter Try.func54, Try.ntmps54
  go_wp2_with fail
  refine (Try_rPoints _ s.size c s.data.toList W1 HBY.out hs).mono ?_
  intro e w2 hp
  unfold PtsBack at hp
  rw [HVB.out] at hp
  cases vb with
  | true =>
    rw [if_pos rfl] at hp
    obtain ⟨v, rfl, _, hb2⟩ := hp
    have BEL := Lib.hid (HBW.out.trans (hb2.mono HBW.out.size))
    clear hb2
    go_wp2
    go_ret
    exact ⟨rfl, BEL.out⟩
  | false =>
    rw [if_neg (by decide)] at hp
    obtain ⟨rfl, hb2⟩ := hp
    have BEL := Lib.hid (HBW.out.trans (hb2.mono HBW.out.size))
    clear hb2
    go_wp2
    go_ret
    exact ⟨rfl, BEL.out⟩
end Go.Proofs.Ytdebmifjfemcjaa
