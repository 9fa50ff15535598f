/-
  Layer 13: Tell, of the sum, walked.
-/
import Derived.Test.YtdebmifjfemcjaaMonTell
namespace Go.Proofs.Ytdebmifjfemcjaa
set_option linter.unusedVariables false
set_option linter.unusedSimpArgs false
open Go.RowKit Go.Dav
attribute [local go_sem] Gives ite_val ite_val_true

theorem Try_kinds_later (B : Nat) : ∀ v W W', TryKinds B v W → Below W.heap.size W W' → TryKinds B v W' :=
  fun _ _ _ ⟨g, cap, h1, h2, h3⟩ hb => ⟨g, cap, h1, h2, fun j u hj => by rw [hb.cell (p := ⟨g, j, none⟩) (World.block_lt_of_cell? _ _ (h3 j u hj))]; exact h3 j u hj⟩

set_option maxRecDepth 8000 in
set_option maxHeartbeats 4000000 in
theorem Try_Tell_sum_yes (r : Red) (w : World) (hok : r.ok = true) (hl : I64 r.l) (hm : I64 r.m) (hs : fitsB r.s = true) :
    Calls Try.prog 17 #[.int .i64 2, .agg #[.int .i64 r.c, .int .i64 r.n, .int .i64 (hi r.s), .int .u64 (lo r.s), .int .i64 r.l, .int .i64 r.m]] w fun e w' =>
      e = .returned (.tuple #[.agg #[.int .i64 3, .int .i64 (sg r.s), .string ⟨#[]⟩, .slice none 0 0, .slice none 0 0], .int .i64 0]) ∧ Below w.heap.size w w' := by
  have er : redE r.ok = 0 := by rw [hok]; rfl
  have Hs := Lib.hid hs; clear hs
  clear hok
  go_enter Try.func17, Try.ntmps17
  go_wp2_with fail
  refine (Try_mCheck r _ hl hm).mono ?_; rintro e w1 ⟨rfl, hb1⟩; obtain ⟨hc1, hf1, hs1⟩ := after hb1
  simp at hs1
  have lt_w1_0_0 : w.heap.size < w1.heap.size := by omega
  have lt_w1_0_1 : w.heap.size < w1.heap.size + 1 := by omega
  have lt_w1_1_0 : w.heap.size + 1 < w1.heap.size := by omega
  have lt_w1_1_1 : w.heap.size + 1 < w1.heap.size + 1 := by omega
  rw [er]
  go_wp2_with fail
  refine' wp_region_seq [.inr (TryKinds w1.heap.size), .inl _, .inr (CellIs 4 5 (.func (.func 47) #[] #[])), .inr (CellIs 5 5 (.func (.func 47) #[] #[])), .inl _, .inl _, .inl _, .inl _, .inl _] (by kernel_rfl) (by kernel_rfl) ?main1
  case main1 =>
    refine wpParts_any rfl (Try_kinds_later _) (by rfl) (fun W hE hN => ?_) (fun u0 => ?_)
    · go_simp; refine ⟨Below.refl _ _, (Try_kinds _).mono ?_⟩; rintro e w' ⟨v, rfl, hb, g, cap, rfl, hg, hcell⟩; exact ⟨_, rfl, hb, g, cap, rfl, Nat.le_trans hE.size hg, hcell⟩
    simp only [Act.put, List.setIfInBounds_toArray, List.set_cons_zero, List.set_cons_succ]
    refine wpParts_det (by rfl) (fun W hE hN => ?_) ?_
    · go_simp; refine ⟨Below.refl _ _, ?_⟩; rfl
    simp only [Act.put, List.setIfInBounds_toArray, List.set_cons_zero, List.set_cons_succ]
    refine wpParts_any rfl (CellIs.later) (by rfl) (fun W hE hN => ?_) (fun u2 => ?_)
    · simp [near, Oper.looksAt, Op.operands] at hN; obtain ⟨g, cap, rfl, hg, hcell⟩ := hN; go_simp; exact ⟨Below.refl _ _, g, rfl, hcell 5 _ rfl⟩
    simp only [Act.put, List.setIfInBounds_toArray, List.set_cons_zero, List.set_cons_succ]
    refine wpParts_any rfl (CellIs.later) (by rfl) (fun W hE hN => ?_) (fun u3 => ?_)
    · simp [near, Oper.looksAt, Op.operands] at hN; obtain ⟨g, rfl, hcell⟩ := hN; go_simp; exact ⟨Below.refl _ _, g, rfl, hcell⟩
    simp only [Act.put, List.setIfInBounds_toArray, List.set_cons_zero, List.set_cons_succ]
    refine wpParts_det (by rfl) (fun W hE hN => ?_) ?_
    · simp [near, Oper.looksAt, Op.operands] at hN; obtain ⟨g, rfl, hcell⟩ := hN; go_simp; refine ⟨Below.refl _ _, ?_⟩; rfl
    simp only [Act.put, List.setIfInBounds_toArray, List.set_cons_zero, List.set_cons_succ]
    refine wpParts_det (by rfl) (fun W hE hN => ?_) ?_
    · have hc := fun b o h => hE.cell (p := ⟨b, o, none⟩) h
      go_simp; refine ⟨Below.refl _ _, ?_⟩; rfl
    simp only [Act.put, List.setIfInBounds_toArray, List.set_cons_zero, List.set_cons_succ]
    refine wpParts_det (by rfl) (fun W hE hN => ?_) ?_
    · go_simp; refine ⟨Below.refl _ _, ?_⟩; refine (Try_sums_yes _ _ _ _ _ _ Hs.out).mono ?_; rintro e w' ⟨rfl, hb⟩; refine ⟨?_, hb⟩; rfl
    simp only [Act.put, List.setIfInBounds_toArray, List.set_cons_zero, List.set_cons_succ]
    refine wpParts_det (by rfl) (fun W hE hN => ?_) ?_
    · go_simp; refine ⟨Below.refl _ _, ?_⟩; rfl
    simp only [Act.put, List.setIfInBounds_toArray, List.set_cons_zero, List.set_cons_succ]
    refine wpParts_det (by rfl) (fun W hE hN => ?_) ?_
    · go_simp; refine ⟨Below.refl _ _, ?_⟩; rfl
    simp only [Act.put, List.setIfInBounds_toArray, List.set_cons_zero, List.set_cons_succ]
    refine wpParts_end fun W2 hE2 hG2 => ?_
    have hcW2 := fun b o h => hE2.cell (p := ⟨b, o, none⟩) h
    have hfW2 := fun b o h => hE2.frozen (p := ⟨b, o, none⟩) h
    have s2 := hE2.size
    try simp at s2
    have lt_W2_0_0 : w.heap.size < W2.heap.size := by omega
    have lt_W2_0_1 : w.heap.size < W2.heap.size + 1 := by omega
    have lt_W2_1_0 : w.heap.size + 1 < W2.heap.size := by omega
    have lt_W2_1_1 : w.heap.size + 1 < W2.heap.size + 1 := by omega
    go_wp2
    refine bodyPost_ret (v := .tuple #[.agg #[.int .i64 3, .int .i64 (sg r.s), .string ⟨#[]⟩, .slice none 0 0, .slice none 0 0], .int .i64 0]) (by simp [results, Try.results17, go_sem, *]) rfl ⟨rfl, ?_⟩
    exact (by repeat (first | (with_reducible exact Below.refl _ _) | (with_reducible exact Below.refl _ _) | (with_reducible refine Below.setCell ?_ (by first | omega | (simp; done) | (simp; omega)) _) | (with_reducible refine Below.alloc ?_ (by first | omega | (simp; done) | (simp; omega)) _) | (with_reducible refine Below.drew ?_) | (with_reducible refine below_drewN ?_ _) | (with_reducible refine Below.trans ?_ (hE2.mono (by first | omega | (simp; done) | (simp; omega)))) | (with_reducible refine Below.trans ?_ (hb1.mono (by first | omega | (simp; done) | (simp; omega))))))
set_option maxRecDepth 8000 in
set_option maxHeartbeats 4000000 in
theorem Try_Tell_sum_no (r : Red) (w : World) (hok : r.ok = true) (hl : I64 r.l) (hm : I64 r.m) (hs : fitsB r.s = false) :
    Calls Try.prog 17 #[.int .i64 2, .agg #[.int .i64 r.c, .int .i64 r.n, .int .i64 (hi r.s), .int .u64 (lo r.s), .int .i64 r.l, .int .i64 r.m]] w fun e w' =>
      e = .returned (.tuple #[.agg #[.int .i64 0, .int .i64 0, .string ⟨#[]⟩, .slice none 0 0, .slice none 0 0], .int .i64 5]) ∧ Below w.heap.size w w' := by
  have er : redE r.ok = 0 := by rw [hok]; rfl
  have Hs := Lib.hid hs; clear hs
  clear hok
  go_enter Try.func17, Try.ntmps17
  go_wp2_with fail
  refine (Try_mCheck r _ hl hm).mono ?_; rintro e w1 ⟨rfl, hb1⟩; obtain ⟨hc1, hf1, hs1⟩ := after hb1
  simp at hs1
  have lt_w1_0_0 : w.heap.size < w1.heap.size := by omega
  have lt_w1_0_1 : w.heap.size < w1.heap.size + 1 := by omega
  have lt_w1_1_0 : w.heap.size + 1 < w1.heap.size := by omega
  have lt_w1_1_1 : w.heap.size + 1 < w1.heap.size + 1 := by omega
  rw [er]
  go_wp2_with fail
  refine' wp_region_seq [.inr (TryKinds w1.heap.size), .inl _, .inr (CellIs 4 5 (.func (.func 47) #[] #[])), .inr (CellIs 5 5 (.func (.func 47) #[] #[])), .inl _, .inl _, .inl _, .inl _, .inl _] (by kernel_rfl) (by kernel_rfl) ?main2
  case main2 =>
    refine wpParts_any rfl (Try_kinds_later _) (by rfl) (fun W hE hN => ?_) (fun u0 => ?_)
    · go_simp; refine ⟨Below.refl _ _, (Try_kinds _).mono ?_⟩; rintro e w' ⟨v, rfl, hb, g, cap, rfl, hg, hcell⟩; exact ⟨_, rfl, hb, g, cap, rfl, Nat.le_trans hE.size hg, hcell⟩
    simp only [Act.put, List.setIfInBounds_toArray, List.set_cons_zero, List.set_cons_succ]
    refine wpParts_det (by rfl) (fun W hE hN => ?_) ?_
    · go_simp; refine ⟨Below.refl _ _, ?_⟩; rfl
    simp only [Act.put, List.setIfInBounds_toArray, List.set_cons_zero, List.set_cons_succ]
    refine wpParts_any rfl (CellIs.later) (by rfl) (fun W hE hN => ?_) (fun u2 => ?_)
    · simp [near, Oper.looksAt, Op.operands] at hN; obtain ⟨g, cap, rfl, hg, hcell⟩ := hN; go_simp; exact ⟨Below.refl _ _, g, rfl, hcell 5 _ rfl⟩
    simp only [Act.put, List.setIfInBounds_toArray, List.set_cons_zero, List.set_cons_succ]
    refine wpParts_any rfl (CellIs.later) (by rfl) (fun W hE hN => ?_) (fun u3 => ?_)
    · simp [near, Oper.looksAt, Op.operands] at hN; obtain ⟨g, rfl, hcell⟩ := hN; go_simp; exact ⟨Below.refl _ _, g, rfl, hcell⟩
    simp only [Act.put, List.setIfInBounds_toArray, List.set_cons_zero, List.set_cons_succ]
    refine wpParts_det (by rfl) (fun W hE hN => ?_) ?_
    · simp [near, Oper.looksAt, Op.operands] at hN; obtain ⟨g, rfl, hcell⟩ := hN; go_simp; refine ⟨Below.refl _ _, ?_⟩; rfl
    simp only [Act.put, List.setIfInBounds_toArray, List.set_cons_zero, List.set_cons_succ]
    refine wpParts_det (by rfl) (fun W hE hN => ?_) ?_
    · have hc := fun b o h => hE.cell (p := ⟨b, o, none⟩) h
      go_simp; refine ⟨Below.refl _ _, ?_⟩; rfl
    simp only [Act.put, List.setIfInBounds_toArray, List.set_cons_zero, List.set_cons_succ]
    refine wpParts_det (by rfl) (fun W hE hN => ?_) ?_
    · go_simp; refine ⟨Below.refl _ _, ?_⟩; refine (Try_sums_no _ _ _ _ _ _ Hs.out).mono ?_; rintro e w' ⟨rfl, hb⟩; refine ⟨?_, hb⟩; rfl
    simp only [Act.put, List.setIfInBounds_toArray, List.set_cons_zero, List.set_cons_succ]
    refine wpParts_det (by rfl) (fun W hE hN => ?_) ?_
    · go_simp; refine ⟨Below.refl _ _, ?_⟩; rfl
    simp only [Act.put, List.setIfInBounds_toArray, List.set_cons_zero, List.set_cons_succ]
    refine wpParts_det (by rfl) (fun W hE hN => ?_) ?_
    · go_simp; refine ⟨Below.refl _ _, ?_⟩; rfl
    simp only [Act.put, List.setIfInBounds_toArray, List.set_cons_zero, List.set_cons_succ]
    refine wpParts_end fun W2 hE2 hG2 => ?_
    have hcW2 := fun b o h => hE2.cell (p := ⟨b, o, none⟩) h
    have hfW2 := fun b o h => hE2.frozen (p := ⟨b, o, none⟩) h
    have s2 := hE2.size
    try simp at s2
    have lt_W2_0_0 : w.heap.size < W2.heap.size := by omega
    have lt_W2_0_1 : w.heap.size < W2.heap.size + 1 := by omega
    have lt_W2_1_0 : w.heap.size + 1 < W2.heap.size := by omega
    have lt_W2_1_1 : w.heap.size + 1 < W2.heap.size + 1 := by omega
    go_wp2
    refine bodyPost_ret (v := .tuple #[.agg #[.int .i64 0, .int .i64 0, .string ⟨#[]⟩, .slice none 0 0, .slice none 0 0], .int .i64 5]) (by simp [results, Try.results17, go_sem, *]) rfl ⟨rfl, ?_⟩
    exact (by repeat (first | (with_reducible exact Below.refl _ _) | (with_reducible exact Below.refl _ _) | (with_reducible refine Below.setCell ?_ (by first | omega | (simp; done) | (simp; omega)) _) | (with_reducible refine Below.alloc ?_ (by first | omega | (simp; done) | (simp; omega)) _) | (with_reducible refine Below.drew ?_) | (with_reducible refine below_drewN ?_ _) | (with_reducible refine Below.trans ?_ (hE2.mono (by first | omega | (simp; done) | (simp; omega)))) | (with_reducible refine Below.trans ?_ (hb1.mono (by first | omega | (simp; done) | (simp; omega))))))
end Go.Proofs.Ytdebmifjfemcjaa
