/-
  Layer 13: Tell and Name at every kind, walked.
-/
import Derived.Test.YtdebmifjfemcjaaMonVd
namespace Go.Dav
set_option linter.unusedVariables false
set_option linter.unusedSimpArgs false
open Go Go.RowKit
def noV : Value := .agg #[.int .i64 0, .int .i64 0, .string ⟨#[]⟩, .slice none 0 0, .slice none 0 0]
/-- Is the sum asked for, and too great? -/
def overB (k : Int) (r : Red) : Bool := (decide (k = 2) || decide (k = 5)) && !fitsB r.s
/-- What Tell hands back. -/
def TellBack (k : Int) (r : Red) (e : Ending) (w' : World) : Prop :=
  if r.ok = false then e = .returned (.tuple #[noV, .int .i64 230])
  else if k < 1 ∨ 5 < k then e = .returned (.tuple #[noV, .int .i64 2])
  else if overB k r = true then e = .returned (.tuple #[noV, .int .i64 5])
  else ToldTo 2 (tellV k.toNat r) (.int .i64 0) e w'
/-- A tuple of a value and an error, told. -/
def ToldV (d : Nat) (x : ValN d) (err : Value) (v : Value) (W : World) : Prop := ∃ u, v = .tuple #[u, err] ∧ ValAt W d u x
theorem ToldV.later {d : Nat} {x : ValN d} {err : Value} : ∀ v W W', ToldV d x err v W → Below W.heap.size W W' → ToldV d x err v W' := fun _ _ _ ⟨u, h1, h2⟩ hb => ⟨u, h1, ValAt.ext hb d h2⟩
def ValV (d : Nat) (x : ValN d) (v : Value) (W : World) : Prop := ValAt W d v x
theorem ValV.later {d : Nat} {x : ValN d} : ∀ v W W', ValV d x v W → Below W.heap.size W W' → ValV d x v W' := fun _ _ _ h hb => ValAt.ext hb d h
end Go.Dav
namespace Go.Proofs.Ytdebmifjfemcjaa
set_option linter.unusedVariables false
set_option linter.unusedSimpArgs false
open Go.RowKit Go.Dav
attribute [local go_sem] Gives ite_val ite_val_true

set_option maxRecDepth 8000 in
set_option maxHeartbeats 4000000 in
theorem Try_Tell_no (k : Int) (r : Red) (w : World) (hl : I64 r.l) (hm : I64 r.m) (h : r.ok = false ∨ k < 1 ∨ 5 < k) :
    Calls Try.prog 17 #[.int .i64 k, .agg #[.int .i64 r.c, .int .i64 r.n, .int .i64 (hi r.s), .int .u64 (lo r.s), .int .i64 r.l, .int .i64 r.m]] w fun e w' =>
      e = .returned (.tuple #[.agg #[.int .i64 0, .int .i64 0, .string ⟨#[]⟩, .slice none 0 0, .slice none 0 0], .int .i64 (if r.ok = false then 230 else 2)]) ∧ Below w.heap.size w w' := by
  have HCK := Lib.hid (fun W => Try_mCheck r W hl hm)
  cases hok : r.ok with
  | false =>
    have er : redE r.ok = 230 := by rw [hok]; rfl
    rw [if_pos rfl]
    have HER := Lib.hid er
    clear hok er h
    go_enter Try.func17, Try.ntmps17
    go_wp2_with fail
    refine (HCK.out _).mono ?_; rintro e w1 ⟨rfl, hb1⟩; obtain ⟨hc1, hf1, hs1⟩ := after hb1
    simp at hs1
    have lt_w1_0_0 : w.heap.size < w1.heap.size := by omega
    have lt_w1_0_1 : w.heap.size < w1.heap.size + 1 := by omega
    have lt_w1_1_0 : w.heap.size + 1 < w1.heap.size := by omega
    have lt_w1_1_1 : w.heap.size + 1 < w1.heap.size + 1 := by omega
    rw [HER.out]
    go_wp2
    refine bodyPost_ret (v := .tuple #[.agg #[.int .i64 0, .int .i64 0, .string ⟨#[]⟩, .slice none 0 0, .slice none 0 0], .int .i64 230]) (by simp [results, Try.results17, go_sem, *]) rfl ⟨rfl, ?_⟩
    exact (by repeat (first | (with_reducible exact Below.refl _ _) | (with_reducible exact Below.refl _ _) | (with_reducible refine Below.setCell ?_ (by first | omega | (simp; done) | (simp; omega)) _) | (with_reducible refine Below.alloc ?_ (by first | omega | (simp; done) | (simp; omega)) _) | (with_reducible refine Below.drew ?_) | (with_reducible refine below_drewN ?_ _) | (with_reducible refine Below.trans ?_ (hb1.mono (by first | omega | (simp; done) | (simp; omega))))))
  | true =>
    have er : redE r.ok = 0 := by rw [hok]; rfl
    rw [if_neg (by decide)]
    have HER := Lib.hid er
    have hk : k < 1 ∨ 5 < k := by rcases h with h | h; (rw [hok] at h; cases h); exact h
    clear hok er h
    by_cases hk1 : k < 1
    · clear hk
      go_enter Try.func17, Try.ntmps17
      go_wp2_with fail
      refine (HCK.out _).mono ?_; rintro e w1 ⟨rfl, hb1⟩; obtain ⟨hc1, hf1, hs1⟩ := after hb1
      simp at hs1
      have lt_w1_0_0 : w.heap.size < w1.heap.size := by omega
      have lt_w1_0_1 : w.heap.size < w1.heap.size + 1 := by omega
      have lt_w1_1_0 : w.heap.size + 1 < w1.heap.size := by omega
      have lt_w1_1_1 : w.heap.size + 1 < w1.heap.size + 1 := by omega
      rw [HER.out]
      go_wp2
      refine bodyPost_ret (v := .tuple #[.agg #[.int .i64 0, .int .i64 0, .string ⟨#[]⟩, .slice none 0 0, .slice none 0 0], .int .i64 2]) (by simp [results, Try.results17, go_sem, *]) rfl ⟨rfl, ?_⟩
      exact (by repeat (first | (with_reducible exact Below.refl _ _) | (with_reducible exact Below.refl _ _) | (with_reducible refine Below.setCell ?_ (by first | omega | (simp; done) | (simp; omega)) _) | (with_reducible refine Below.alloc ?_ (by first | omega | (simp; done) | (simp; omega)) _) | (with_reducible refine Below.drew ?_) | (with_reducible refine below_drewN ?_ _) | (with_reducible refine Below.trans ?_ (hb1.mono (by first | omega | (simp; done) | (simp; omega))))))
    · have hk5 : 5 < k := by omega
      clear hk
      go_enter Try.func17, Try.ntmps17
      go_wp2_with fail
      refine (HCK.out _).mono ?_; rintro e w1 ⟨rfl, hb1⟩; obtain ⟨hc1, hf1, hs1⟩ := after hb1
      simp at hs1
      have lt_w1_0_0 : w.heap.size < w1.heap.size := by omega
      have lt_w1_0_1 : w.heap.size < w1.heap.size + 1 := by omega
      have lt_w1_1_0 : w.heap.size + 1 < w1.heap.size := by omega
      have lt_w1_1_1 : w.heap.size + 1 < w1.heap.size + 1 := by omega
      rw [HER.out]
      go_wp2
      refine bodyPost_ret (v := .tuple #[.agg #[.int .i64 0, .int .i64 0, .string ⟨#[]⟩, .slice none 0 0, .slice none 0 0], .int .i64 2]) (by simp [results, Try.results17, go_sem, *]) rfl ⟨rfl, ?_⟩
      exact (by repeat (first | (with_reducible exact Below.refl _ _) | (with_reducible exact Below.refl _ _) | (with_reducible refine Below.setCell ?_ (by first | omega | (simp; done) | (simp; omega)) _) | (with_reducible refine Below.alloc ?_ (by first | omega | (simp; done) | (simp; omega)) _) | (with_reducible refine Below.drew ?_) | (with_reducible refine below_drewN ?_ _) | (with_reducible refine Below.trans ?_ (hb1.mono (by first | omega | (simp; done) | (simp; omega))))))

set_option maxRecDepth 8000 in
set_option maxHeartbeats 4000000 in
theorem Try_Tell1 (r : Red) (w : World) (hok : r.ok = true) (hl : I64 r.l) (hm : I64 r.m) (hn0 : 0 ≤ r.n) :
    Calls Try.prog 17 #[.int .i64 1, .agg #[.int .i64 r.c, .int .i64 r.n, .int .i64 (hi r.s), .int .u64 (lo r.s), .int .i64 r.l, .int .i64 r.m]] w fun e w' =>
      e = .returned (.tuple #[.agg #[.int .i64 3, .int .i64 r.c, .string ⟨#[]⟩, .slice none 0 0, .slice none 0 0], .int .i64 0]) ∧ Below w.heap.size w w' := by
  have HER := Lib.hid (show redE r.ok = 0 by rw [hok]; rfl)
  have HCK := Lib.hid (fun W => Try_mCheck r W hl hm)
  have HCC := Lib.hid (fun W => Try_count r.c r.n r.s r.l r.m W)
  clear hok hn0
  go_enter Try.func17, Try.ntmps17
  go_wp2_with fail
  refine (HCK.out _).mono ?_; rintro e w1 ⟨rfl, hb1⟩; obtain ⟨hc1, hf1, hs1⟩ := after hb1
  simp at hs1
  have lt_w1_0_0 : w.heap.size < w1.heap.size := by omega
  have lt_w1_0_1 : w.heap.size < w1.heap.size + 1 := by omega
  have lt_w1_1_0 : w.heap.size + 1 < w1.heap.size := by omega
  have lt_w1_1_1 : w.heap.size + 1 < w1.heap.size + 1 := by omega
  rw [HER.out]
  go_wp2_with fail
  refine' wp_region_seq [.inr (TryKinds w1.heap.size), .inl _, .inr (CellIs 2 3 (.func (.func 46) #[] #[])), .inr (CellIs 3 3 (.func (.func 46) #[] #[])), .inl _, .inl _, .inl _, .inl _, .inl _] (by kernel_rfl) (by kernel_rfl) ?main1
  case main1 =>
    refine wpParts_any rfl (Try_kinds_later _) (by rfl) (fun W hE hN => ?_) (fun u0 => ?_)
    · go_simp; refine ⟨Below.refl _ _, (Try_kinds _).mono ?_⟩; rintro e w' ⟨v, rfl, hb, g, cap, rfl, hg, hcell⟩; exact ⟨_, rfl, hb, g, cap, rfl, Nat.le_trans hE.size hg, hcell⟩
    simp only [Act.put, List.setIfInBounds_toArray, List.set_cons_zero, List.set_cons_succ]
    refine wpParts_det (by rfl) (fun W hE hN => ?_) ?_
    · go_simp; refine ⟨Below.refl _ _, ?_⟩; rfl
    simp only [Act.put, List.setIfInBounds_toArray, List.set_cons_zero, List.set_cons_succ]
    refine wpParts_any rfl (CellIs.later) (by rfl) (fun W hE hN => ?_) (fun u2 => ?_)
    · simp [near, Oper.looksAt, Op.operands] at hN; obtain ⟨g, cap, rfl, hg, hcell⟩ := hN; go_simp; exact ⟨Below.refl _ _, g, rfl, hcell 3 _ rfl⟩
    simp only [Act.put, List.setIfInBounds_toArray, List.set_cons_zero, List.set_cons_succ]
    refine wpParts_any rfl (CellIs.later) (by rfl) (fun W hE hN => ?_) (fun u3 => ?_)
    · simp [near, Oper.looksAt, Op.operands] at hN; obtain ⟨g, rfl, hcell⟩ := hN; go_simp; exact ⟨Below.refl _ _, g, rfl, hcell⟩
    simp only [Act.put, List.setIfInBounds_toArray, List.set_cons_zero, List.set_cons_succ]
    refine wpParts_det (by rfl) (fun W hE hN => ?_) ?_
    · simp [near, Oper.looksAt, Op.operands] at hN; obtain ⟨g, rfl, hcell⟩ := hN; go_simp; refine ⟨Below.refl _ _, ?_⟩; rfl
    simp only [Act.put, List.setIfInBounds_toArray, List.set_cons_zero, List.set_cons_succ]
    refine wpParts_det (by rfl) (fun W hE hN => ?_) ?_
    · have hc := fun b o h => hE.cell (p := ⟨b, o, none⟩) h
      go_simp; refine ⟨Below.refl _ _, ?_⟩; rfl
    simp only [Act.put, List.setIfInBounds_toArray, List.set_cons_zero, List.set_cons_succ]
    refine wpParts_det (by rfl) (fun W hE hN => ?_) ?_
    · go_simp; refine ⟨Below.refl _ _, ?_⟩; refine (HCC.out _).mono ?_; rintro e w' ⟨rfl, hb⟩; refine ⟨?_, hb⟩; rfl
    simp only [Act.put, List.setIfInBounds_toArray, List.set_cons_zero, List.set_cons_succ]
    refine wpParts_det (by rfl) (fun W hE hN => ?_) ?_
    · go_simp; refine ⟨Below.refl _ _, ?_⟩; rfl
    simp only [Act.put, List.setIfInBounds_toArray, List.set_cons_zero, List.set_cons_succ]
    refine wpParts_det (by rfl) (fun W hE hN => ?_) ?_
    · go_simp; refine ⟨Below.refl _ _, ?_⟩; rfl
    simp only [Act.put, List.setIfInBounds_toArray, List.set_cons_zero, List.set_cons_succ]
    refine wpParts_end fun W2 hE2 hG2 => ?_
    have hcW2 := fun b o h => hE2.cell (p := ⟨b, o, none⟩) h
    have hfW2 := fun b o h => hE2.frozen (p := ⟨b, o, none⟩) h
    have s2 := hE2.size
    try simp at s2
    have lt_W2_0_0 : w.heap.size < W2.heap.size := by omega
    have lt_W2_0_1 : w.heap.size < W2.heap.size + 1 := by omega
    have lt_W2_1_0 : w.heap.size + 1 < W2.heap.size := by omega
    have lt_W2_1_1 : w.heap.size + 1 < W2.heap.size + 1 := by omega
    go_wp2
    refine bodyPost_ret (v := .tuple #[.agg #[.int .i64 3, .int .i64 r.c, .string ⟨#[]⟩, .slice none 0 0, .slice none 0 0], .int .i64 0]) (by simp [results, Try.results17, go_sem, *]) rfl ⟨rfl, ?_⟩
    exact (by repeat (first | (with_reducible exact Below.refl _ _) | (with_reducible exact Below.refl _ _) | (with_reducible refine Below.setCell ?_ (by first | omega | (simp; done) | (simp; omega)) _) | (with_reducible refine Below.alloc ?_ (by first | omega | (simp; done) | (simp; omega)) _) | (with_reducible refine Below.drew ?_) | (with_reducible refine below_drewN ?_ _) | (with_reducible refine Below.trans ?_ (hE2.mono (by first | omega | (simp; done) | (simp; omega)))) | (with_reducible refine Below.trans ?_ (hb1.mono (by first | omega | (simp; done) | (simp; omega))))))

set_option maxRecDepth 8000 in
set_option maxHeartbeats 4000000 in
theorem Try_Tell3 (r : Red) (w : World) (hok : r.ok = true) (hl : I64 r.l) (hm : I64 r.m) (hn0 : 0 ≤ r.n) :
    Calls Try.prog 17 #[.int .i64 3, .agg #[.int .i64 r.c, .int .i64 r.n, .int .i64 (hi r.s), .int .u64 (lo r.s), .int .i64 r.l, .int .i64 r.m]] w fun e w' =>
      e = .returned (.tuple #[.agg #[.int .i64 (TryEndB r.n r.l).1, .int .i64 (TryEndB r.n r.l).2, .string ⟨#[]⟩, .slice none 0 0, .slice none 0 0], .int .i64 0]) ∧ Below w.heap.size w w' := by
  have HER := Lib.hid (show redE r.ok = 0 by rw [hok]; rfl)
  have HCK := Lib.hid (fun W => Try_mCheck r W hl hm)
  have HCC := Lib.hid (fun W => Try_simple1 r.c r.n r.s r.l r.m W hn0)
  obtain ⟨a, ha⟩ : ∃ a, (TryEndB r.n r.l).1 = a := ⟨_, rfl⟩
  obtain ⟨b, hb⟩ : ∃ b, (TryEndB r.n r.l).2 = b := ⟨_, rfl⟩
  rw [ha, hb] at HCC ⊢
  clear hok hn0 ha hb
  go_enter Try.func17, Try.ntmps17
  go_wp2_with fail
  refine (HCK.out _).mono ?_; rintro e w1 ⟨rfl, hb1⟩; obtain ⟨hc1, hf1, hs1⟩ := after hb1
  simp at hs1
  have lt_w1_0_0 : w.heap.size < w1.heap.size := by omega
  have lt_w1_0_1 : w.heap.size < w1.heap.size + 1 := by omega
  have lt_w1_1_0 : w.heap.size + 1 < w1.heap.size := by omega
  have lt_w1_1_1 : w.heap.size + 1 < w1.heap.size + 1 := by omega
  rw [HER.out]
  go_wp2_with fail
  refine' wp_region_seq [.inr (TryKinds w1.heap.size), .inl _, .inr (CellIs 6 7 (.func (.func 48) #[] #[])), .inr (CellIs 7 7 (.func (.func 48) #[] #[])), .inl _, .inl _, .inl _, .inl _, .inl _] (by kernel_rfl) (by kernel_rfl) ?main2
  case main2 =>
    refine wpParts_any rfl (Try_kinds_later _) (by rfl) (fun W hE hN => ?_) (fun u0 => ?_)
    · go_simp; refine ⟨Below.refl _ _, (Try_kinds _).mono ?_⟩; rintro e w' ⟨v, rfl, hb, g, cap, rfl, hg, hcell⟩; exact ⟨_, rfl, hb, g, cap, rfl, Nat.le_trans hE.size hg, hcell⟩
    simp only [Act.put, List.setIfInBounds_toArray, List.set_cons_zero, List.set_cons_succ]
    refine wpParts_det (by rfl) (fun W hE hN => ?_) ?_
    · go_simp; refine ⟨Below.refl _ _, ?_⟩; rfl
    simp only [Act.put, List.setIfInBounds_toArray, List.set_cons_zero, List.set_cons_succ]
    refine wpParts_any rfl (CellIs.later) (by rfl) (fun W hE hN => ?_) (fun u2 => ?_)
    · simp [near, Oper.looksAt, Op.operands] at hN; obtain ⟨g, cap, rfl, hg, hcell⟩ := hN; go_simp; exact ⟨Below.refl _ _, g, rfl, hcell 7 _ rfl⟩
    simp only [Act.put, List.setIfInBounds_toArray, List.set_cons_zero, List.set_cons_succ]
    refine wpParts_any rfl (CellIs.later) (by rfl) (fun W hE hN => ?_) (fun u3 => ?_)
    · simp [near, Oper.looksAt, Op.operands] at hN; obtain ⟨g, rfl, hcell⟩ := hN; go_simp; exact ⟨Below.refl _ _, g, rfl, hcell⟩
    simp only [Act.put, List.setIfInBounds_toArray, List.set_cons_zero, List.set_cons_succ]
    refine wpParts_det (by rfl) (fun W hE hN => ?_) ?_
    · simp [near, Oper.looksAt, Op.operands] at hN; obtain ⟨g, rfl, hcell⟩ := hN; go_simp; refine ⟨Below.refl _ _, ?_⟩; rfl
    simp only [Act.put, List.setIfInBounds_toArray, List.set_cons_zero, List.set_cons_succ]
    refine wpParts_det (by rfl) (fun W hE hN => ?_) ?_
    · have hc := fun b o h => hE.cell (p := ⟨b, o, none⟩) h
      go_simp; refine ⟨Below.refl _ _, ?_⟩; rfl
    simp only [Act.put, List.setIfInBounds_toArray, List.set_cons_zero, List.set_cons_succ]
    refine wpParts_det (by rfl) (fun W hE hN => ?_) ?_
    · go_simp; refine ⟨Below.refl _ _, ?_⟩; refine (HCC.out _).mono ?_; rintro e w' ⟨rfl, hb⟩; refine ⟨?_, hb⟩; rfl
    simp only [Act.put, List.setIfInBounds_toArray, List.set_cons_zero, List.set_cons_succ]
    refine wpParts_det (by rfl) (fun W hE hN => ?_) ?_
    · go_simp; refine ⟨Below.refl _ _, ?_⟩; rfl
    simp only [Act.put, List.setIfInBounds_toArray, List.set_cons_zero, List.set_cons_succ]
    refine wpParts_det (by rfl) (fun W hE hN => ?_) ?_
    · go_simp; refine ⟨Below.refl _ _, ?_⟩; rfl
    simp only [Act.put, List.setIfInBounds_toArray, List.set_cons_zero, List.set_cons_succ]
    refine wpParts_end fun W2 hE2 hG2 => ?_
    have hcW2 := fun b o h => hE2.cell (p := ⟨b, o, none⟩) h
    have hfW2 := fun b o h => hE2.frozen (p := ⟨b, o, none⟩) h
    have s2 := hE2.size
    try simp at s2
    have lt_W2_0_0 : w.heap.size < W2.heap.size := by omega
    have lt_W2_0_1 : w.heap.size < W2.heap.size + 1 := by omega
    have lt_W2_1_0 : w.heap.size + 1 < W2.heap.size := by omega
    have lt_W2_1_1 : w.heap.size + 1 < W2.heap.size + 1 := by omega
    go_wp2
    refine bodyPost_ret (v := .tuple #[.agg #[.int .i64 a, .int .i64 b, .string ⟨#[]⟩, .slice none 0 0, .slice none 0 0], .int .i64 0]) (by simp [results, Try.results17, go_sem, *]) rfl ⟨rfl, ?_⟩
    exact (by repeat (first | (with_reducible exact Below.refl _ _) | (with_reducible exact Below.refl _ _) | (with_reducible refine Below.setCell ?_ (by first | omega | (simp; done) | (simp; omega)) _) | (with_reducible refine Below.alloc ?_ (by first | omega | (simp; done) | (simp; omega)) _) | (with_reducible refine Below.drew ?_) | (with_reducible refine below_drewN ?_ _) | (with_reducible refine Below.trans ?_ (hE2.mono (by first | omega | (simp; done) | (simp; omega)))) | (with_reducible refine Below.trans ?_ (hb1.mono (by first | omega | (simp; done) | (simp; omega))))))

set_option maxRecDepth 8000 in
set_option maxHeartbeats 4000000 in
theorem Try_Tell4 (r : Red) (w : World) (hok : r.ok = true) (hl : I64 r.l) (hm : I64 r.m) (hn0 : 0 ≤ r.n) :
    Calls Try.prog 17 #[.int .i64 4, .agg #[.int .i64 r.c, .int .i64 r.n, .int .i64 (hi r.s), .int .u64 (lo r.s), .int .i64 r.l, .int .i64 r.m]] w fun e w' =>
      e = .returned (.tuple #[.agg #[.int .i64 (TryEndB r.n r.m).1, .int .i64 (TryEndB r.n r.m).2, .string ⟨#[]⟩, .slice none 0 0, .slice none 0 0], .int .i64 0]) ∧ Below w.heap.size w w' := by
  have HER := Lib.hid (show redE r.ok = 0 by rw [hok]; rfl)
  have HCK := Lib.hid (fun W => Try_mCheck r W hl hm)
  have HCC := Lib.hid (fun W => Try_simple2 r.c r.n r.s r.l r.m W hn0)
  obtain ⟨a, ha⟩ : ∃ a, (TryEndB r.n r.m).1 = a := ⟨_, rfl⟩
  obtain ⟨b, hb⟩ : ∃ b, (TryEndB r.n r.m).2 = b := ⟨_, rfl⟩
  rw [ha, hb] at HCC ⊢
  clear hok hn0 ha hb
  go_enter Try.func17, Try.ntmps17
  go_wp2_with fail
  refine (HCK.out _).mono ?_; rintro e w1 ⟨rfl, hb1⟩; obtain ⟨hc1, hf1, hs1⟩ := after hb1
  simp at hs1
  have lt_w1_0_0 : w.heap.size < w1.heap.size := by omega
  have lt_w1_0_1 : w.heap.size < w1.heap.size + 1 := by omega
  have lt_w1_1_0 : w.heap.size + 1 < w1.heap.size := by omega
  have lt_w1_1_1 : w.heap.size + 1 < w1.heap.size + 1 := by omega
  rw [HER.out]
  go_wp2_with fail
  refine' wp_region_seq [.inr (TryKinds w1.heap.size), .inl _, .inr (CellIs 8 9 (.func (.func 50) #[] #[])), .inr (CellIs 9 9 (.func (.func 50) #[] #[])), .inl _, .inl _, .inl _, .inl _, .inl _] (by kernel_rfl) (by kernel_rfl) ?main3
  case main3 =>
    refine wpParts_any rfl (Try_kinds_later _) (by rfl) (fun W hE hN => ?_) (fun u0 => ?_)
    · go_simp; refine ⟨Below.refl _ _, (Try_kinds _).mono ?_⟩; rintro e w' ⟨v, rfl, hb, g, cap, rfl, hg, hcell⟩; exact ⟨_, rfl, hb, g, cap, rfl, Nat.le_trans hE.size hg, hcell⟩
    simp only [Act.put, List.setIfInBounds_toArray, List.set_cons_zero, List.set_cons_succ]
    refine wpParts_det (by rfl) (fun W hE hN => ?_) ?_
    · go_simp; refine ⟨Below.refl _ _, ?_⟩; rfl
    simp only [Act.put, List.setIfInBounds_toArray, List.set_cons_zero, List.set_cons_succ]
    refine wpParts_any rfl (CellIs.later) (by rfl) (fun W hE hN => ?_) (fun u2 => ?_)
    · simp [near, Oper.looksAt, Op.operands] at hN; obtain ⟨g, cap, rfl, hg, hcell⟩ := hN; go_simp; exact ⟨Below.refl _ _, g, rfl, hcell 9 _ rfl⟩
    simp only [Act.put, List.setIfInBounds_toArray, List.set_cons_zero, List.set_cons_succ]
    refine wpParts_any rfl (CellIs.later) (by rfl) (fun W hE hN => ?_) (fun u3 => ?_)
    · simp [near, Oper.looksAt, Op.operands] at hN; obtain ⟨g, rfl, hcell⟩ := hN; go_simp; exact ⟨Below.refl _ _, g, rfl, hcell⟩
    simp only [Act.put, List.setIfInBounds_toArray, List.set_cons_zero, List.set_cons_succ]
    refine wpParts_det (by rfl) (fun W hE hN => ?_) ?_
    · simp [near, Oper.looksAt, Op.operands] at hN; obtain ⟨g, rfl, hcell⟩ := hN; go_simp; refine ⟨Below.refl _ _, ?_⟩; rfl
    simp only [Act.put, List.setIfInBounds_toArray, List.set_cons_zero, List.set_cons_succ]
    refine wpParts_det (by rfl) (fun W hE hN => ?_) ?_
    · have hc := fun b o h => hE.cell (p := ⟨b, o, none⟩) h
      go_simp; refine ⟨Below.refl _ _, ?_⟩; rfl
    simp only [Act.put, List.setIfInBounds_toArray, List.set_cons_zero, List.set_cons_succ]
    refine wpParts_det (by rfl) (fun W hE hN => ?_) ?_
    · go_simp; refine ⟨Below.refl _ _, ?_⟩; refine (HCC.out _).mono ?_; rintro e w' ⟨rfl, hb⟩; refine ⟨?_, hb⟩; rfl
    simp only [Act.put, List.setIfInBounds_toArray, List.set_cons_zero, List.set_cons_succ]
    refine wpParts_det (by rfl) (fun W hE hN => ?_) ?_
    · go_simp; refine ⟨Below.refl _ _, ?_⟩; rfl
    simp only [Act.put, List.setIfInBounds_toArray, List.set_cons_zero, List.set_cons_succ]
    refine wpParts_det (by rfl) (fun W hE hN => ?_) ?_
    · go_simp; refine ⟨Below.refl _ _, ?_⟩; rfl
    simp only [Act.put, List.setIfInBounds_toArray, List.set_cons_zero, List.set_cons_succ]
    refine wpParts_end fun W2 hE2 hG2 => ?_
    have hcW2 := fun b o h => hE2.cell (p := ⟨b, o, none⟩) h
    have hfW2 := fun b o h => hE2.frozen (p := ⟨b, o, none⟩) h
    have s2 := hE2.size
    try simp at s2
    have lt_W2_0_0 : w.heap.size < W2.heap.size := by omega
    have lt_W2_0_1 : w.heap.size < W2.heap.size + 1 := by omega
    have lt_W2_1_0 : w.heap.size + 1 < W2.heap.size := by omega
    have lt_W2_1_1 : w.heap.size + 1 < W2.heap.size + 1 := by omega
    go_wp2
    refine bodyPost_ret (v := .tuple #[.agg #[.int .i64 a, .int .i64 b, .string ⟨#[]⟩, .slice none 0 0, .slice none 0 0], .int .i64 0]) (by simp [results, Try.results17, go_sem, *]) rfl ⟨rfl, ?_⟩
    exact (by repeat (first | (with_reducible exact Below.refl _ _) | (with_reducible exact Below.refl _ _) | (with_reducible refine Below.setCell ?_ (by first | omega | (simp; done) | (simp; omega)) _) | (with_reducible refine Below.alloc ?_ (by first | omega | (simp; done) | (simp; omega)) _) | (with_reducible refine Below.drew ?_) | (with_reducible refine below_drewN ?_ _) | (with_reducible refine Below.trans ?_ (hE2.mono (by first | omega | (simp; done) | (simp; omega)))) | (with_reducible refine Below.trans ?_ (hb1.mono (by first | omega | (simp; done) | (simp; omega))))))
end Go.Proofs.Ytdebmifjfemcjaa
