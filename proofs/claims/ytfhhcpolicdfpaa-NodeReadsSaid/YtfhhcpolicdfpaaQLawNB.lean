/-
  The law of layer 14, in plain: no bytes that lie ahead of an encoding's end, and none behind it, are an encoding.
-/
import Derived.Test.YtfhhcpolicdfpaaNdM
import Derived.Test.YtfhhcpolicdfpaaNdI
namespace Go.Dav
set_option linter.unusedVariables false
set_option linter.unusedSimpArgs false
open Go Go.RowKit
theorem num_4_lt (s : TkSt) : s.num 4 < 4294967296 := numOf_4_le _ (by unfold TkSt.bytes; split <;> simp <;> omega)
theorem num_8_lt (s : TkSt) : s.num 8 < 18446744073709551616 := numOf_8_le _ (by unfold TkSt.bytes; split <;> simp <;> omega)
theorem wrap64_in (x : Int) : I64' (wrap64 x) := by unfold I64'; rw [wrap64_def]; omega
theorem rdItem_fine (s : TkSt) : I64' (rdItem s).n := wrap64_in _
theorem rdKid_fine (s : TkSt) : kidFine (rdKid s) := by
  have h4 := fun s => num_4_lt s
  have a1 := h4 s.skip
  have a2 := h4 (k2 s)
  have a3 := h4 (k3 s)
  have a5 := num_8_lt (k5 s)
  have hw := wrap64_in ((k4 s).num 8 : Nat)
  have hl := wrap64_in ((k6 s).num 8 : Nat)
  have hm := wrap64_in ((k7 s).num 8 : Nat)
  refine ⟨?_, ⟨?_, ?_, hl, hm⟩, ?_⟩
  · show I64' ((s.skip.num 4 : Nat) : Int); unfold I64'; omega
  · show I64 (((k2 s).num 4 : Nat) : Int); unfold I64; omega
  · show I64 (((k3 s).num 4 : Nat) : Int); unfold I64; omega
  · unfold Red.canon rdKid
    dsimp only
    rw [pair_hi hw (by omega) (by omega), pair_lo (by omega) (by omega)]
theorem sevI_fine : ∀ (k : Nat) (acc : List ItemD) (s : TkSt), (∀ x ∈ acc, I64' x.n) → ∀ x ∈ (sevI k acc s).1, I64' x.n
  | 0, _, _, h => h
  | k + 1, acc, s, h => by
    unfold sevI
    split
    · exact sevI_fine k _ _ fun x hx => by
        rcases List.mem_append.1 hx with hx | hx
        · exact h x hx
        · simp at hx; subst hx; exact rdItem_fine s
    · exact h
theorem sevK_fine : ∀ (k : Nat) (acc : List KidD) (s : TkSt), (∀ x ∈ acc, kidFine x) → ∀ x ∈ (sevK k acc s).1, kidFine x
  | 0, _, _, h => h
  | k + 1, acc, s, h => by
    unfold sevK
    split
    · exact sevK_fine k _ _ fun x hx => by
        rcases List.mem_append.1 hx with hx | hx
        · exact h x hx
        · simp at hx; subst hx; exact rdKid_fine s
    · exact h
theorem raw_fine (s : TkSt) : nodeFine (rawN s).1 := by
  unfold rawN
  split
  · exact ⟨sevI_fine _ _ _ (fun x hx => by simp at hx), fun x hx => by simp at hx⟩
  · exact ⟨fun x hx => by simp at hx, sevK_fine _ _ _ (fun x hx => by simp at hx)⟩
/-- Two encodings, one ahead of the other: they are the same. -/
theorem bytes_ahead {M N : NodeD} {r : List UInt8} (hM : nodeOk M = true) (fM : nodeFine M) (hN : nodeOk N = true) (fN : nodeFine N) (h : nodeBytes N = nodeBytes M ++ r) : r = [] := by
  have h1 : rawN ⟨none, (nodeBytes N).length, 0, nodeBytes N, true⟩ = (N, true) := raw_bytes (r := []) ⟨rfl, by simp, by simp⟩ hN fN
  have h2 : rawN ⟨none, (nodeBytes N).length, 0, nodeBytes N, true⟩ = (M, true) := raw_bytes (r := r) ⟨rfl, h, by simp [h]⟩ hM fM
  rw [h1] at h2
  obtain rfl := (Prod.mk.inj h2).1
  have := congrArg List.length h
  simpa using this
theorem good_of {s : TkSt} (h : goodN s = true) : ∃ M, nodeOk M = true ∧ nodeFine M ∧ nodeBytes M = s.l := by
  unfold goodN at h
  simp only [Bool.and_eq_true, decide_eq_true_eq] at h
  exact ⟨_, h.2.1, raw_fine s, h.2.2⟩
theorem cut_bad {N : NodeD} {s : TkSt} {r : List UInt8} (hok : nodeOk N = true) (hf : nodeFine N) (h : nodeBytes N = s.l ++ r) (hr : r ≠ []) : decE s = 240 := by
  unfold decE
  cases hg : goodN s with
  | false => rfl
  | true =>
    obtain ⟨M, h1, h2, h3⟩ := good_of hg
    rw [← h3] at h
    exact absurd (bytes_ahead h1 h2 hok hf h) hr
theorem long_bad {N : NodeD} {s : TkSt} {r : List UInt8} (hok : nodeOk N = true) (hf : nodeFine N) (h : s.l = nodeBytes N ++ r) (hr : r ≠ []) : decE s = 240 := by
  unfold decE
  cases hg : goodN s with
  | false => rfl
  | true =>
    obtain ⟨M, h1, h2, h3⟩ := good_of hg
    rw [← h3] at h
    exact absurd (bytes_ahead hok hf h1 h2 h) hr
theorem bytes_few {N : NodeD} (hok : nodeOk N = true) : (nodeBytes N).length ≤ 1388 := by
  obtain ⟨h1, _, _, h4⟩ := nodeOk_check hok
  have h6 := (shape_few h1).2.2
  have := parts_len_le h4
  unfold nodeBytes
  simp only [List.length_append, List.length_cons, List.length_nil]
  omega
theorem samePs_self : ∀ (l : List PartD), (∀ x ∈ l, sameP x x = true) → samePs l l = true
  | [], _ => rfl
  | x :: l, h => by
    unfold samePs
    rw [h x (by simp), samePs_self l fun y hy => h y (by simp [hy])]; rfl
theorem sameN_self {N : NodeD} (hok : nodeOk N = true) : sameN N N = true := by
  unfold sameN
  rw [hok, samePs_self _ fun x _ => by cases x <;> simp [sameP, sameItem, sameKid, sameRed]]
  simp
end Go.Dav
