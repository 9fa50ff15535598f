/-
  Layer 10, the statements: what deeds leave of a right file, in plain; FileStays, walked.
-/
import Derived.Test.YtmjmjjakhmeogaaLawFG
namespace Go.Dav
set_option linter.unusedVariables false
set_option linter.unusedSimpArgs false
open Go Go.RowKit

theorem FileD.asked_keeps (F : FileD) (more : Int) : (F.asked more).1.firm = F.firm ∧ (F.asked more).1.loose = F.loose := by
  unfold FileD.asked
  repeat' split
  all_goals exact ⟨rfl, rfl⟩
theorem FileD.asked_right {F : FileD} (h : F.right = true) (more : Int) : (F.asked more).1.right = true := by
  obtain ⟨h1, h2, h3, h4, h5⟩ := FileD.right_spec.1 h
  unfold FileD.asked
  split
  · exact h
  · split
    · exact h
    · split
      · exact FileD.right_spec.2 ⟨h1, h2, by simp, h4, h5⟩
      · split
        · refine FileD.right_spec.2 ⟨h1, by simp, ?_, by simp, h5⟩
          dsimp only; split <;> omega
        · rename_i h6 _ _ _
          refine FileD.right_spec.2 ⟨h1, ?_, ?_, fun k => absurd k h6, h5⟩
          · dsimp only; split <;> omega
          · dsimp only; split <;> omega
theorem FileD.asked_many {F : FileD} (more : Int) (h : (F.asked more).2 = 0) : more ≤ 524288 - (F.many : Int) := by
  unfold FileD.asked at h
  split at h
  · cases h
  · split at h
    · cases h
    · omega
theorem FileD.asked_err (F : FileD) (more : Int) : (F.asked more).2 = 0 ∨ (F.asked more).2 = 8 ∨ (F.asked more).2 = 9 ∨ (F.asked more).2 = 10 := by
  unfold FileD.asked
  repeat' split
  all_goals simp
theorem FileD.op_err {F : FileD} (h : F.right = true) (more : Int) (g : FileD → FileD) : (F.op more g).2 = (F.asked more).2 := by
  unfold FileD.op
  rw [if_pos h]
  split
  · rename_i h0; exact h0.symm
  · rfl
theorem FileD.does_err {F : FileD} (h : F.right = true) (X : DeedD) : (F.does X).2 ≠ 200 ∧ ((F.does X).2 = 2 → X.which < 3 ∧ X.bytes = []) := by
  have hlt := X.which_lt
  have hop : ∀ more g, (F.op more g).2 ≠ 200 ∧ (F.op more g).2 ≠ 2 := fun more g => by
    rw [FileD.op_err h]
    rcases F.asked_err more with e | e | e | e <;> rw [e] <;> decide
  have hset : ∀ g, (F.set g).2 ≠ 200 ∧ (F.set g).2 ≠ 2 := fun g => by
    unfold FileD.set; rw [if_pos h]; split <;> simp
  unfold FileD.does
  split
  · exact ⟨(hop _ _).1, fun k => absurd k (hop _ _).2⟩
  · split
    · exact ⟨(hset _).1, fun k => absurd k (hset _).2⟩
    · split
      · exact ⟨(hset _).1, fun k => absurd k (hset _).2⟩
      · split
        · rw [FileD.crash_ok h]; exact ⟨by simp, fun k => by cases k⟩
        · unfold FileD.append
          split
          · rename_i h6; exact ⟨by simp, fun _ => ⟨by omega, h6.2⟩⟩
          · exact ⟨(hop _ _).1, fun k => absurd k (hop _ _).2⟩
theorem FileD.op_right {F : FileD} (h : F.right = true) (more : Int) (g : FileD → FileD) (hg : more ≤ 524288 - (F.many : Int) → (F.asked more).1.right = true → (g (F.asked more).1).right = true) : (F.op more g).1.right = true := by
  unfold FileD.op
  rw [if_pos h]
  split
  · rename_i h0; exact hg (FileD.asked_many _ h0) (FileD.asked_right h _)
  · exact FileD.asked_right h _
theorem crashTo_firm (F : FileD) (keep : List Bool) (tear cut : Int) : ∀ k, ∃ t, (crashTo F keep tear cut k).1 = F.firm ++ t
  | 0 => ⟨[], by simp [crashTo]⟩
  | k + 1 => by
    obtain ⟨t, ht⟩ := crashTo_firm F keep tear cut k
    cases h : F.loose[k]? with
    | none => exact ⟨t, by rw [crashTo, h]; exact ht⟩
    | some p =>
      rw [crashTo_succ h]
      unfold crashStep
      split
      · exact ⟨_, by dsimp only; rw [ht, List.append_assoc, List.append_assoc]⟩
      · exact ⟨t, ht⟩
theorem FileD.does_right {F : FileD} (h : F.right = true) (X : DeedD) : (F.does X).1.right = true := by
  obtain ⟨h1, h2, h3, h4, h5⟩ := FileD.right_spec.1 h
  unfold FileD.does
  split
  · refine FileD.op_right h _ _ fun hm hr => ?_
    obtain ⟨a1, a2, a3, a4, a5⟩ := FileD.right_spec.1 hr
    refine FileD.right_spec.2 ⟨rfl, a2, a3, a4, ?_⟩
    have := FileD.all_length (F.asked 0).1
    unfold FileD.many at a5 ⊢
    simp only [List.map_nil, List.sum_nil]
    unfold FileD.many at this
    omega
  · split
    · unfold FileD.light FileD.set
      rw [if_pos h]
      split
      · exact h
      · rename_i ho; exact FileD.right_spec.2 ⟨h1, by dsimp only; omega, h3, fun k => absurd k ho, h5⟩
    · split
      · unfold FileD.refuse FileD.set
        rw [if_pos h]
        split
        · exact h
        · exact FileD.right_spec.2 ⟨h1, h2, by dsimp only; omega, h4, h5⟩
      · split
        · unfold FileD.crash
          rw [if_pos h]
          have hl := crashTo_len F X.keep X.tear X.n F.loose.length
          rw [sumTo_all] at hl
          refine FileD.right_spec.2 ⟨rfl, by simp, by simp, by simp, ?_⟩
          unfold FileD.many at h5 ⊢
          simp only [List.map_nil, List.sum_nil]
          omega
        · unfold FileD.append
          split
          · exact h
          · rename_i hne
            refine FileD.op_right h _ _ fun hm hr => ?_
            obtain ⟨a1, a2, a3, a4, a5⟩ := FileD.right_spec.1 hr
            have hs := FileD.asked_keeps F (X.bytes.length : Int)
            refine FileD.right_spec.2 ⟨?_, a2, a3, a4, ?_⟩
            · unfold FileD.full at a1 ⊢
              rw [List.all_append, a1]
              have : X.bytes ≠ [] := fun e => hne ⟨h, e⟩
              cases hb : X.bytes with
              | nil => exact absurd hb this
              | cons => rfl
            · unfold FileD.many at hm ⊢
              simp only [List.map_append, List.map_cons, List.map_nil, List.sum_append, List.sum_cons, List.sum_nil]
              rw [hs.1, hs.2]
              omega
theorem FileD.op_firm {F : FileD} (more : Int) (g : FileD → FileD) (hg : ∃ t, (g (F.asked more).1).firm = F.firm ++ t) : ∃ t, (F.op more g).1.firm = F.firm ++ t := by
  unfold FileD.op
  split
  · split
    · exact hg
    · exact ⟨[], by rw [(FileD.asked_keeps F more).1, List.append_nil]⟩
  · exact ⟨[], by simp⟩
theorem FileD.does_firm (F : FileD) (X : DeedD) : ∃ t, (F.does X).1.firm = F.firm ++ t := by
  unfold FileD.does
  split
  · exact FileD.op_firm _ _ ⟨F.loose.flatten, by show (F.asked 0).1.all = _; unfold FileD.all; rw [(FileD.asked_keeps F 0).1, (FileD.asked_keeps F 0).2]⟩
  · split
    · unfold FileD.light FileD.set; split
      · split <;> exact ⟨[], by simp⟩
      · exact ⟨[], by simp⟩
    · split
      · unfold FileD.refuse FileD.set; split
        · split <;> exact ⟨[], by simp⟩
        · exact ⟨[], by simp⟩
      · split
        · unfold FileD.crash; split
          · exact crashTo_firm F _ _ _ _
          · exact ⟨[], by simp⟩
        · unfold FileD.append
          split
          · exact ⟨[], by simp⟩
          · exact FileD.op_firm _ _ ⟨[], by rw [List.append_nil]; exact (FileD.asked_keeps F _).1⟩
theorem BytesAt.head {W : World} {a : Option Addr} {n c m : Nat} {l : List UInt8} (h : BytesAt W a n c l) (hm : m ≤ n) : BytesAt W a m c (l.take m) := by
  have h2 := h.hlen
  have h3 := h.hcap
  have h5 := h.hfew
  refine ⟨by rw [List.length_take]; omega, by omega, h.hmax, by omega, fun k x hk => ?_, h.hnil⟩
  rw [List.getElem?_take] at hk
  split at hk
  · exact h.hat k x hk
  · cases hk
end Go.Dav
namespace Go.Proofs.Ytmjmjjakhmeogaa
set_option linter.unusedVariables false
set_option linter.unusedSimpArgs false
open Go.RowKit Go.Dav
attribute [local go_sem] Gives ite_val ite_val_true

set_option maxRecDepth 8000 in
theorem Try_HasPrefix (a b : Option Addr) (al ac bl bc : Nat) (y t : List UInt8) (w : World) (hx : BytesAt w a al ac (y ++ t)) (hy : BytesAt w b bl bc y) :
    Calls Try.prog 33 #[.slice a al ac, .slice b bl bc] w fun e w' => e = .returned (.bool true) ∧ Below w.heap.size w w' := by
  have e1 := hx.hlen
  have e2 := hy.hlen
  have e3 := hx.hcap
  have e4 := hx.hfew
  rw [List.length_append] at e1
  have g1 : (bl : Int) ≤ (al : Int) := by omega
  have g2 : (bl : Int) ≤ (ac : Int) := by omega
  have g3 : bl ≤ ac := by omega
  have g4 : bl ≤ al := by omega
  have hh := hx.head (m := bl) g4
  rw [List.take_left' (by omega : y.length = bl)] at hh
  have hA := Try_bytesEqual a b bl ac bl bc y y w hh hy
  rw [decide_eq_true (show y = y from rfl)] at hA
  have HA := Lib.hid hA
  clear hA hh e1 e2 hx hy
  go_enter Try.func33, Try.ntmps33
  go_wp2_with fail
  refine HA.out.mono ?_; rintro e w1 ⟨rfl, hb⟩
  go_wp2
  go_ret
  exact ⟨rfl, hb⟩
end Go.Proofs.Ytmjmjjakhmeogaa
