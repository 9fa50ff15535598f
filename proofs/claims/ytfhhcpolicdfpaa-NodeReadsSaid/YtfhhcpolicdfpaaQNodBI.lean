/-
  The reference of layer 14: cut, counted, number, walked.
-/
import Derived.Test.YtfhhcpolicdfpaaNdL
import Derived.Test.YtfhhcpolicdfpaaNdN
namespace Go.Dav
set_option linter.unusedVariables false
set_option linter.unusedSimpArgs false
open Go Go.RowKit
/-- What is left lies there. -/
structure RsAt (W : World) (S : Nat → Prop) (s : TkSt) : Prop where
  ok : s.ok = true
  hB : BytesS W S s.a s.n s.c s.l
  hf : plainA s.a
theorem RsAt.ext {W W' : World} {S : Nat → Prop} {s : TkSt} (h : RsAt W S s) (hb : Below W.heap.size W W') : RsAt W' S s := ⟨h.ok, h.hB.ext hb, h.hf⟩
theorem RsAt.can {W : World} {S : Nat → Prop} {s : TkSt} (h : RsAt W S s) {k : Nat} (hk : k ≤ s.n) : s.can k = true := by unfold TkSt.can; rw [h.ok, Bool.true_and]; simpa using hk
theorem RsAt.cannot {W : World} {S : Nat → Prop} {s : TkSt} (h : RsAt W S s) {k : Nat} (hk : ¬ k ≤ s.n) : s.can k = false := by unfold TkSt.can; rw [h.ok, Bool.true_and]; simpa using hk
theorem RsAt.next_eq {W : World} {S : Nat → Prop} {s : TkSt} (h : RsAt W S s) {k : Nat} (hk : k ≤ s.n) : s.next k = ⟨advA s.a s.c k, s.n - k, s.c - k, s.l.drop k, true⟩ := by unfold TkSt.next; rw [h.can hk, if_pos rfl]
theorem RsAt.next {W : World} {S : Nat → Prop} {s : TkSt} (h : RsAt W S s) {k : Nat} (hk : k ≤ s.n) : RsAt W S (s.next k) := by
  rw [h.next_eq hk]; exact ⟨rfl, h.hB.drop hk, h.hf.adv _ _⟩
theorem RsAt.not {W : World} {S : Nat → Prop} {s : TkSt} (h : RsAt W S s) {k : Nat} (hk : ¬ k ≤ s.n) : (s.next k).ok = false := by unfold TkSt.next; rw [h.cannot hk]; rfl
theorem next_not {s : TkSt} (h : s.ok = false) (k : Nat) : (s.next k).ok = false := by unfold TkSt.next TkSt.can; rw [h]; rfl
theorem RsAt.bytes {W : World} {S : Nat → Prop} {s : TkSt} (h : RsAt W S s) {k : Nat} (hk : k ≤ s.n) : s.bytes k = s.l.take k := by unfold TkSt.bytes; rw [h.can hk, if_pos rfl]
theorem advA_add {a : Option Addr} (h : plainA a) {c k : Nat} (hne : c ≠ k) : advA a c k = a.map fun x => x.add k := by
  unfold advA
  rw [if_neg hne]
  rcases h with rfl | ⟨b, o, rfl⟩
  · rfl
  · simp [Addr.add_lit]
theorem numOf_one (x : UInt8) : numOf [x] = x.toNat := by simp [numOf]
theorem numOf_take {l : List UInt8} {k : Nat} {x : UInt8} (h : l[k]? = some x) : numOf (l.take (k + 1)) = numOf (l.take k) * 256 + x.toNat := by
  rw [List.take_add_one, h]; exact numOf_snoc _ _
end Go.Dav
namespace Go.Proofs.Ytfhhcpolicdfpaa
set_option linter.unusedVariables false
set_option linter.unusedSimpArgs false
open Go.RowKit Go.Dav
attribute [local go_sem] Gives ite_val ite_val_true

set_option maxRecDepth 8000 in
set_option maxHeartbeats 4000000 in
theorem Try_rCut_no (s : TkSt) (k : Nat) (w : World) (hk : ¬ k ≤ s.n) (hk8 : k ≤ 1000) (hn : s.n ≤ 140737488355328) :
    Calls Try.prog 61 #[.slice s.a s.n s.c, .int .i64 (k : Int)] w fun e w' => e = .returned (.tuple #[.slice none 0 0, .slice none 0 0, .bool false]) ∧ Below w.heap.size w w' := by
  obtain ⟨a, n, c, l, ok⟩ := s
  dsimp only at *
  have g1 : (n : Int) < (k : Int) := by omega
  go_enter Try.func61, Try.ntmps61
  go_wp2
  exact bodyPost_ret (v := .tuple #[.slice none 0 0, .slice none 0 0, .bool false]) (by simp [results, Try.results61, go_sem]) rfl ⟨rfl, Below.refl _ _⟩
set_option maxRecDepth 8000 in
set_option maxHeartbeats 4000000 in
theorem Try_rCut_yes (S : Nat → Prop) (s : TkSt) (k : Nat) (w : World) (h : RsAt w S s) (hk : k ≤ s.n) (hk8 : k ≤ 1000) :
    Calls Try.prog 61 #[.slice s.a s.n s.c, .int .i64 (k : Int)] w fun e w' => e = .returned (.tuple #[.slice s.a k s.c, .slice (advA s.a s.c k) (s.n - k) (s.c - k), .bool true]) ∧ Below w.heap.size w w' := by
  have hcap := h.hB.at_.hcap
  have hfew := h.hB.at_.hfew
  have hmax := h.hB.at_.hmax
  unfold maxLen at hmax
  have hf := h.hf
  obtain ⟨a, n, c, l, ok⟩ := s
  dsimp only at *
  clear h
  have g1 : ¬ (n : Int) < (k : Int) := by omega
  have g2 : ¬ (k : Int) < 0 := by omega
  have g3 : (k : Int) ≤ (c : Int) := by omega
  have g4 : (k : Int) ≤ (n : Int) := by omega
  have g5 : (n : Int) ≤ (c : Int) := by omega
  by_cases hck : c = k
  · subst hck
    obtain rfl : n = c := by omega
    go_enter Try.func61, Try.ntmps61
    go_wp2_with fail
    refine' wp_region_seq [.inl _, .inl _, .inl _, .inl _, .inl _, .inl _, .inl _, .inl _, .inl _] (by kernel_rfl) (by kernel_rfl) ?main1
    case main1 =>
      refine wpParts_det (by rfl) (fun W hE hN => ?_) ?_
      · go_simp; refine ⟨Below.refl _ _, ?_⟩; rfl
      simp only [Act.put, List.setIfInBounds_toArray, List.set_cons_zero, List.set_cons_succ]
      refine wpParts_det (by rfl) (fun W hE hN => ?_) ?_
      · go_simp; refine ⟨Below.refl _ _, ?_⟩; rfl
      simp only [Act.put, List.setIfInBounds_toArray, List.set_cons_zero, List.set_cons_succ]
      refine wpParts_det (by rfl) (fun W hE hN => ?_) ?_
      · go_simp; refine ⟨Below.refl _ _, ?_⟩; rfl
      simp only [Act.put, List.setIfInBounds_toArray, List.set_cons_zero, List.set_cons_succ]
      refine wpParts_det (by rfl) (fun W hE hN => ?_) ?_
      · go_simp; refine ⟨Below.refl _ _, ?_⟩; rfl
      simp only [Act.put, List.setIfInBounds_toArray, List.set_cons_zero, List.set_cons_succ]
      refine wpParts_det (by rfl) (fun W hE hN => ?_) ?_
      · go_simp; refine ⟨Below.refl _ _, ?_⟩; rfl
      simp only [Act.put, List.setIfInBounds_toArray, List.set_cons_zero, List.set_cons_succ]
      refine wpParts_det (by rfl) (fun W hE hN => ?_) ?_
      · go_simp; refine ⟨Below.refl _ _, ?_⟩; rfl
      simp only [Act.put, List.setIfInBounds_toArray, List.set_cons_zero, List.set_cons_succ]
      refine wpParts_det (by rfl) (fun W hE hN => ?_) ?_
      · go_simp; refine ⟨Below.refl _ _, ?_⟩; rfl
      simp only [Act.put, List.setIfInBounds_toArray, List.set_cons_zero, List.set_cons_succ]
      refine wpParts_det (by rfl) (fun W hE hN => ?_) ?_
      · go_simp; refine ⟨Below.refl _ _, ?_⟩; rfl
      simp only [Act.put, List.setIfInBounds_toArray, List.set_cons_zero, List.set_cons_succ]
      refine wpParts_det (by rfl) (fun W hE hN => ?_) ?_
      · go_simp; refine ⟨Below.refl _ _, ?_⟩; rfl
      simp only [Act.put, List.setIfInBounds_toArray, List.set_cons_zero, List.set_cons_succ]
      refine wpParts_end fun W1 hE1 hG1 => ?_
      have hcW1 := fun b o h => hE1.cell (p := ⟨b, o, none⟩) h
      have hfW1 := fun b o h => hE1.frozen (p := ⟨b, o, none⟩) h
      have HE1 := Lib.hid hE1
      clear hE1 hG1 hcW1 hfW1
      go_wp2
      refine bodyPost_ret (v := .tuple #[.slice a n n, .slice a 0 0, .bool true]) (by simp [results, Try.results61, go_sem]) rfl ⟨?_, HE1.out⟩
      unfold advA
      simp
  · have hck2 : ¬ c - k = 0 := by omega
    go_enter Try.func61, Try.ntmps61
    go_wp2_with fail
    refine' wp_region_seq [.inl _, .inl _, .inl _, .inl _, .inl _, .inl _, .inl _, .inl _, .inl _] (by kernel_rfl) (by kernel_rfl) ?main2
    case main2 =>
      refine wpParts_det (by rfl) (fun W hE hN => ?_) ?_
      · go_simp; refine ⟨Below.refl _ _, ?_⟩; rfl
      simp only [Act.put, List.setIfInBounds_toArray, List.set_cons_zero, List.set_cons_succ]
      refine wpParts_det (by rfl) (fun W hE hN => ?_) ?_
      · go_simp; refine ⟨Below.refl _ _, ?_⟩; rfl
      simp only [Act.put, List.setIfInBounds_toArray, List.set_cons_zero, List.set_cons_succ]
      refine wpParts_det (by rfl) (fun W hE hN => ?_) ?_
      · go_simp; refine ⟨Below.refl _ _, ?_⟩; rfl
      simp only [Act.put, List.setIfInBounds_toArray, List.set_cons_zero, List.set_cons_succ]
      refine wpParts_det (by rfl) (fun W hE hN => ?_) ?_
      · go_simp; refine ⟨Below.refl _ _, ?_⟩; rfl
      simp only [Act.put, List.setIfInBounds_toArray, List.set_cons_zero, List.set_cons_succ]
      refine wpParts_det (by rfl) (fun W hE hN => ?_) ?_
      · go_simp; refine ⟨Below.refl _ _, ?_⟩; rfl
      simp only [Act.put, List.setIfInBounds_toArray, List.set_cons_zero, List.set_cons_succ]
      refine wpParts_det (by rfl) (fun W hE hN => ?_) ?_
      · go_simp; refine ⟨Below.refl _ _, ?_⟩; rfl
      simp only [Act.put, List.setIfInBounds_toArray, List.set_cons_zero, List.set_cons_succ]
      refine wpParts_det (by rfl) (fun W hE hN => ?_) ?_
      · go_simp; refine ⟨Below.refl _ _, ?_⟩; rfl
      simp only [Act.put, List.setIfInBounds_toArray, List.set_cons_zero, List.set_cons_succ]
      refine wpParts_det (by rfl) (fun W hE hN => ?_) ?_
      · go_simp; refine ⟨Below.refl _ _, ?_⟩; rfl
      simp only [Act.put, List.setIfInBounds_toArray, List.set_cons_zero, List.set_cons_succ]
      refine wpParts_det (by rfl) (fun W hE hN => ?_) ?_
      · go_simp; refine ⟨Below.refl _ _, ?_⟩; rfl
      simp only [Act.put, List.setIfInBounds_toArray, List.set_cons_zero, List.set_cons_succ]
      refine wpParts_end fun W1 hE1 hG1 => ?_
      have hcW1 := fun b o h => hE1.cell (p := ⟨b, o, none⟩) h
      have hfW1 := fun b o h => hE1.frozen (p := ⟨b, o, none⟩) h
      have HE1 := Lib.hid hE1
      clear hE1 hG1 hcW1 hfW1
      go_wp2
      refine bodyPost_ret (v := .tuple #[.slice a k c, .slice (a.map fun x => x.add k) (n - k) (c - k), .bool true]) (by simp [results, Try.results61, go_sem]) rfl ⟨?_, HE1.out⟩
      rw [advA_add hf hck]
/-- counted, where there is nothing. -/
theorem Try_rCounted_nil (s : TkSt) (w : World) (h : s.n = 0) :
    Calls Try.prog 60 #[.slice s.a s.n s.c] w fun e w' => e = .returned (.tuple #[.slice none 0 0, .slice none 0 0, .bool false]) ∧ Below w.heap.size w w' := by
  obtain ⟨a, n, c, l, ok⟩ := s
  dsimp only at *
  subst h
  go_enter Try.func60, Try.ntmps60
  go_wp2
  exact bodyPost_ret (v := .tuple #[.slice none 0 0, .slice none 0 0, .bool false]) (by simp [results, Try.results60, go_sem]) rfl ⟨rfl, Below.refl _ _⟩
set_option maxRecDepth 8000 in
set_option maxHeartbeats 4000000 in
/-- counted, where there is a count: what cut answers behind it. -/
theorem Try_rCounted_at (S : Nat → Prop) (s : TkSt) (w : World) (h : RsAt w S s) (hn : 1 ≤ s.n) (ra rb : Option Addr) (rn rc tn tc : Nat) (q : Bool)
    (hcut : ∀ W, Below w.heap.size w W → Calls Try.prog 61 #[.slice (advA s.a s.c 1) (s.n - 1) (s.c - 1), .int .i64 (s.num 1 : Nat)] W fun e w' => e = .returned (.tuple #[.slice ra rn rc, .slice rb tn tc, .bool q]) ∧ Below W.heap.size W w') :
    Calls Try.prog 60 #[.slice s.a s.n s.c] w fun e w' => e = .returned (.tuple #[.slice ra rn rc, .slice rb tn tc, .bool q]) ∧ Below w.heap.size w w' := by
  have hcap := h.hB.at_.hcap
  have hfew := h.hB.at_.hfew
  have hmax := h.hB.at_.hmax
  unfold maxLen at hmax
  have hf := h.hf
  obtain ⟨x, hx⟩ : ∃ x, s.l[0]? = some x := ⟨_, List.getElem?_eq_getElem (by rw [h.hB.at_.hlen]; omega)⟩
  have hnum : s.num 1 = x.toNat := by
    unfold TkSt.num
    rw [h.bytes hn, List.take_add_one, hx]; simp [numOf_one]
  rw [hnum] at hcut
  obtain ⟨b, o, e0, hb, hc0⟩ := h.hB.at_.hat 0 x hx
  obtain ⟨a, n, c, l, ok⟩ := s
  dsimp only at *
  subst e0
  rw [Nat.add_zero] at hc0
  clear h hx hnum
  have g1 : (1 : Int) ≤ (n : Int) := by omega
  have g2 : (n : Int) ≤ (c : Int) := by omega
  have g3 : ((n : Int) == 0) = false := by simp; omega
  have g4 : (0 : Int) < (n : Int) := by omega
  have g5 : 0 < n := by omega
  have HC := Lib.hid hcut
  have HW := Lib.hid (show IntKind.i64.wrap (x.toNat : Int) = (x.toNat : Int) by have := x.toNat_lt; rw [i64_wrap_def]; omega)
  clear hcut
  by_cases hc1 : c = 1
  · subst hc1
    obtain rfl : n = 1 := by omega
    --K1
    have ha : advA (some ⟨b, o, none⟩) 1 1 = some ⟨b, o, none⟩ := by unfold advA; simp
    rw [ha] at HC
    clear ha
    go_enter Try.func60, Try.ntmps60
    go_wp2_with fail
    refine' wp_region_seq [.inl _, .inl _, .inl _, .inl _, .inl _, .inl _, .inl _, .inl _, .inl _, .inl _, .inl _, .inl _, .inl _] (by kernel_rfl) (by kernel_rfl) ?main3
    case main3 =>
      refine wpParts_det (by rfl) (fun W hE hN => ?_) ?_
      · go_simp; refine ⟨Below.refl _ _, ?_⟩; rfl
      simp only [Act.put, List.setIfInBounds_toArray, List.set_cons_zero, List.set_cons_succ]
      refine wpParts_det (by rfl) (fun W hE hN => ?_) ?_
      · go_simp; refine ⟨Below.refl _ _, ?_⟩; rfl
      simp only [Act.put, List.setIfInBounds_toArray, List.set_cons_zero, List.set_cons_succ]
      refine wpParts_det (by rfl) (fun W hE hN => ?_) ?_
      · go_simp; refine ⟨Below.refl _ _, ?_⟩; rfl
      simp only [Act.put, List.setIfInBounds_toArray, List.set_cons_zero, List.set_cons_succ]
      refine wpParts_det (by rfl) (fun W hE hN => ?_) ?_
      · go_simp; refine ⟨Below.refl _ _, ?_⟩; rfl
      simp only [Act.put, List.setIfInBounds_toArray, List.set_cons_zero, List.set_cons_succ]
      refine wpParts_det (by rfl) (fun W hE hN => ?_) ?_
      · have hc := fun b o h => hE.cell (p := ⟨b, o, none⟩) h
        go_simp; refine ⟨Below.refl _ _, ?_⟩; rfl
      simp only [Act.put, List.setIfInBounds_toArray, List.set_cons_zero, List.set_cons_succ]
      refine wpParts_det (by rfl) (fun W hE hN => ?_) ?_
      · go_simp; refine ⟨Below.refl _ _, ?_⟩; rw [HW.out]
      simp only [Act.put, List.setIfInBounds_toArray, List.set_cons_zero, List.set_cons_succ]
      refine wpParts_det (by rfl) (fun W hE hN => ?_) ?_
      · go_simp; refine ⟨Below.refl _ _, ?_⟩; refine (HC.out W hE).mono ?_; rintro e w' ⟨rfl, hb⟩; refine ⟨?_, hb⟩; rfl
      simp only [Act.put, List.setIfInBounds_toArray, List.set_cons_zero, List.set_cons_succ]
      refine wpParts_det (by rfl) (fun W hE hN => ?_) ?_
      · go_simp; refine ⟨Below.refl _ _, ?_⟩; rfl
      simp only [Act.put, List.setIfInBounds_toArray, List.set_cons_zero, List.set_cons_succ]
      refine wpParts_det (by rfl) (fun W hE hN => ?_) ?_
      · go_simp; refine ⟨Below.refl _ _, ?_⟩; rfl
      simp only [Act.put, List.setIfInBounds_toArray, List.set_cons_zero, List.set_cons_succ]
      refine wpParts_det (by rfl) (fun W hE hN => ?_) ?_
      · go_simp; refine ⟨Below.refl _ _, ?_⟩; rfl
      simp only [Act.put, List.setIfInBounds_toArray, List.set_cons_zero, List.set_cons_succ]
      refine wpParts_det (by rfl) (fun W hE hN => ?_) ?_
      · go_simp; refine ⟨Below.refl _ _, ?_⟩; rfl
      simp only [Act.put, List.setIfInBounds_toArray, List.set_cons_zero, List.set_cons_succ]
      refine wpParts_det (by rfl) (fun W hE hN => ?_) ?_
      · go_simp; refine ⟨Below.refl _ _, ?_⟩; rfl
      simp only [Act.put, List.setIfInBounds_toArray, List.set_cons_zero, List.set_cons_succ]
      refine wpParts_det (by rfl) (fun W hE hN => ?_) ?_
      · go_simp; refine ⟨Below.refl _ _, ?_⟩; rfl
      simp only [Act.put, List.setIfInBounds_toArray, List.set_cons_zero, List.set_cons_succ]
      refine wpParts_end fun W1 hE1 hG1 => ?_
      have hcW1 := fun b o h => hE1.cell (p := ⟨b, o, none⟩) h
      have hfW1 := fun b o h => hE1.frozen (p := ⟨b, o, none⟩) h
      have HE1 := Lib.hid hE1
      clear hE1 hG1 hcW1 hfW1
      go_wp2
      exact bodyPost_ret (v := .tuple #[.slice ra rn rc, .slice rb tn tc, .bool q]) (by simp [results, Try.results60, go_sem]) rfl ⟨rfl, HE1.out⟩
  · --K2
    have ha : advA (some ⟨b, o, none⟩) c 1 = some ⟨b, o + 1, none⟩ := by unfold advA; rw [if_neg hc1]; rfl
    rw [ha] at HC
    clear ha
    have hc2 : ¬ c - 1 = 0 := by omega
    go_enter Try.func60, Try.ntmps60
    go_wp2_with fail
    refine' wp_region_seq [.inl _, .inl _, .inl _, .inl _, .inl _, .inl _, .inl _, .inl _, .inl _, .inl _, .inl _, .inl _, .inl _] (by kernel_rfl) (by kernel_rfl) ?main4
    case main4 =>
      refine wpParts_det (by rfl) (fun W hE hN => ?_) ?_
      · go_simp; refine ⟨Below.refl _ _, ?_⟩; rfl
      simp only [Act.put, List.setIfInBounds_toArray, List.set_cons_zero, List.set_cons_succ]
      refine wpParts_det (by rfl) (fun W hE hN => ?_) ?_
      · go_simp; refine ⟨Below.refl _ _, ?_⟩; rfl
      simp only [Act.put, List.setIfInBounds_toArray, List.set_cons_zero, List.set_cons_succ]
      refine wpParts_det (by rfl) (fun W hE hN => ?_) ?_
      · go_simp; refine ⟨Below.refl _ _, ?_⟩; rfl
      simp only [Act.put, List.setIfInBounds_toArray, List.set_cons_zero, List.set_cons_succ]
      refine wpParts_det (by rfl) (fun W hE hN => ?_) ?_
      · go_simp; refine ⟨Below.refl _ _, ?_⟩; rfl
      simp only [Act.put, List.setIfInBounds_toArray, List.set_cons_zero, List.set_cons_succ]
      refine wpParts_det (by rfl) (fun W hE hN => ?_) ?_
      · have hc := fun b o h => hE.cell (p := ⟨b, o, none⟩) h
        go_simp; refine ⟨Below.refl _ _, ?_⟩; rfl
      simp only [Act.put, List.setIfInBounds_toArray, List.set_cons_zero, List.set_cons_succ]
      refine wpParts_det (by rfl) (fun W hE hN => ?_) ?_
      · go_simp; refine ⟨Below.refl _ _, ?_⟩; rw [HW.out]
      simp only [Act.put, List.setIfInBounds_toArray, List.set_cons_zero, List.set_cons_succ]
      refine wpParts_det (by rfl) (fun W hE hN => ?_) ?_
      · go_simp; refine ⟨Below.refl _ _, ?_⟩; refine (HC.out W hE).mono ?_; rintro e w' ⟨rfl, hb⟩; refine ⟨?_, hb⟩; rfl
      simp only [Act.put, List.setIfInBounds_toArray, List.set_cons_zero, List.set_cons_succ]
      refine wpParts_det (by rfl) (fun W hE hN => ?_) ?_
      · go_simp; refine ⟨Below.refl _ _, ?_⟩; rfl
      simp only [Act.put, List.setIfInBounds_toArray, List.set_cons_zero, List.set_cons_succ]
      refine wpParts_det (by rfl) (fun W hE hN => ?_) ?_
      · go_simp; refine ⟨Below.refl _ _, ?_⟩; rfl
      simp only [Act.put, List.setIfInBounds_toArray, List.set_cons_zero, List.set_cons_succ]
      refine wpParts_det (by rfl) (fun W hE hN => ?_) ?_
      · go_simp; refine ⟨Below.refl _ _, ?_⟩; rfl
      simp only [Act.put, List.setIfInBounds_toArray, List.set_cons_zero, List.set_cons_succ]
      refine wpParts_det (by rfl) (fun W hE hN => ?_) ?_
      · go_simp; refine ⟨Below.refl _ _, ?_⟩; rfl
      simp only [Act.put, List.setIfInBounds_toArray, List.set_cons_zero, List.set_cons_succ]
      refine wpParts_det (by rfl) (fun W hE hN => ?_) ?_
      · go_simp; refine ⟨Below.refl _ _, ?_⟩; rfl
      simp only [Act.put, List.setIfInBounds_toArray, List.set_cons_zero, List.set_cons_succ]
      refine wpParts_det (by rfl) (fun W hE hN => ?_) ?_
      · go_simp; refine ⟨Below.refl _ _, ?_⟩; rfl
      simp only [Act.put, List.setIfInBounds_toArray, List.set_cons_zero, List.set_cons_succ]
      refine wpParts_end fun W1 hE1 hG1 => ?_
      have hcW1 := fun b o h => hE1.cell (p := ⟨b, o, none⟩) h
      have hfW1 := fun b o h => hE1.frozen (p := ⟨b, o, none⟩) h
      have HE1 := Lib.hid hE1
      clear hE1 hG1 hcW1 hfW1
      go_wp2
      exact bodyPost_ret (v := .tuple #[.slice ra rn rc, .slice rb tn tc, .bool q]) (by simp [results, Try.results60, go_sem]) rfl ⟨rfl, HE1.out⟩
end Go.Proofs.Ytfhhcpolicdfpaa
