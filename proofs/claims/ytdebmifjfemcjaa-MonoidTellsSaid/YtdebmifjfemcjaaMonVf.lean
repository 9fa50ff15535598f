/-
  Layer 13: Tell of all, Tell, Name, walked.
-/
import Derived.Test.YtdebmifjfemcjaaMonVe
namespace Go.Dav
set_option linter.unusedVariables false
set_option linter.unusedSimpArgs false
open Go Go.RowKit
/-- A value with kids, in certain blocks. -/
def StatsIn (r : Red) (n : Nat) (v : Value) (W : World) : Prop := ∃ g cg q cq, v = .agg #[.int .i64 6, .int .i64 0, .string ⟨#[]⟩, .slice (some ⟨g, 0, none⟩) 5 cg, .slice (some ⟨q, 0, none⟩) 5 cq] ∧ n ≤ g ∧ n ≤ q ∧ ValAt W 2 v (statsV r)
theorem StatsIn.later {r : Red} {n : Nat} : ∀ v W W', StatsIn r n v W → Below W.heap.size W W' → StatsIn r n v W' := fun _ _ _ ⟨g, cg, q, cq, h1, h2, h3, h4⟩ hb => ⟨g, cg, q, cq, h1, h2, h3, ValAt.ext hb 2 h4⟩
def StatsTup (r : Red) (n : Nat) (v : Value) (W : World) : Prop := ∃ u, v = .tuple #[u, .int .i64 0] ∧ StatsIn r n u W
theorem StatsTup.later {r : Red} {n : Nat} : ∀ v W W', StatsTup r n v W → Below W.heap.size W W' → StatsTup r n v W' := fun _ _ _ ⟨u, h1, h2⟩ hb => ⟨u, h1, StatsIn.later _ _ _ h2 hb⟩
theorem leaf_keep {W W' : World} {d : Nat} {v : Value} {k n : Int} (h : ValAt W (d + 1) v (leafV d k n)) : ValAt W' (d + 1) v (leafV d k n) := by
  obtain ⟨ka, kl, kc, qa, ql, qc, hi⟩ := h
  refine ⟨ka, kl, kc, qa, ql, qc, ⟨hi.val, hi.hk, hi.hn, hi.hs, hi.hlen, hi.hcap, hi.hmax, hi.hfew, hi.hnil, fun i y hy => by simp [leafV, ValN.to] at hy, ⟨hi.keys.hlen, hi.keys.hcap, hi.keys.hmax, hi.keys.hfew, fun i y hy => by simp [leafV, ValN.to] at hy, hi.keys.hnil, hi.keys.hsz⟩⟩⟩
theorem stats_leaf {r : Red} {i : Nat} {y : ValN 1} (h : (statsV r).to.kids[i]? = some y) : ∃ k n, y = leafV 0 k n := by
  obtain ⟨k1, y1, e1, _⟩ := end_leaf 0 r.n r.m
  obtain ⟨k2, y2, e2, _⟩ := end_leaf 0 r.n r.l
  have h' : [leafV 0 3 r.c, leafV 0 k1 y1, leafV 0 k2 y2, leafV 0 3 r.n, leafV 0 3 (sg r.s)][i]? = some y := by
    rw [← e1, ← e2]; exact h
  have hi : i < 5 := by have := (List.getElem?_eq_some_iff.1 h').1; simpa using this
  rcases (by omega : i = 0 ∨ i = 1 ∨ i = 2 ∨ i = 3 ∨ i = 4) with rfl | rfl | rfl | rfl | rfl
  all_goals (cases h'; exact ⟨_, _, rfl⟩)
theorem StatsIn.keep {r : Red} {n p : Nat} {v : Value} {W W' : World} (h : StatsIn r n v W) (o : Only p W W') (hp : p < n) : StatsIn r n v W' := by
  obtain ⟨g, cg, q, cq, rfl, h2, h3, h4⟩ := h
  refine ⟨g, cg, q, cq, rfl, h2, h3, ?_⟩
  obtain ⟨ka, kl, kc, qa, ql, qc, hi⟩ := h4
  have hv := hi.val
  simp only [Value.agg.injEq, Array.mk.injEq, List.cons.injEq, Value.slice.injEq, and_true] at hv
  obtain ⟨_, _, _, ⟨rfl, rfl, rfl⟩, rfl, rfl, rfl⟩ := hv
  have hc : ∀ b i, b < W.heap.size → b ≠ p → W'.cell? ⟨b, i, none⟩ = W.cell? ⟨b, i, none⟩ := fun b i hb hne => World.cell?_of_block (o.block b hb hne)
  refine ⟨_, _, _, _, _, _, ⟨hi.val, hi.hk, hi.hn, hi.hs, hi.hlen, hi.hcap, hi.hmax, hi.hfew, hi.hnil, fun i y hy => ?_, ⟨hi.keys.hlen, hi.keys.hcap, hi.keys.hmax, hi.keys.hfew, fun i y hy => ?_, hi.keys.hnil, hi.keys.hsz⟩⟩⟩
  · obtain ⟨b, ob, u0, u1, u2, u3, u4, e, hb, c0, c1, c2, c3, c4, hR⟩ := hi.hkid i y hy
    cases e
    obtain ⟨k, m, rfl⟩ := stats_leaf hy
    have hk := fun j => hc g j hb (by omega)
    exact ⟨g, 0, u0, u1, u2, u3, u4, rfl, Nat.lt_of_lt_of_le hb o.size, (hk _).trans c0, (hk _).trans c1, (hk _).trans c2, (hk _).trans c3, (hk _).trans c4, leaf_keep hR⟩
  · obtain ⟨b, ob, e, hb, c⟩ := hi.keys.hat i y hy
    cases e
    exact ⟨q, 0, rfl, Nat.lt_of_lt_of_le hb o.size, (hc q _ hb (by omega)).trans c⟩
end Go.Dav
namespace Go.Proofs.Ytdebmifjfemcjaa
set_option linter.unusedVariables false
set_option linter.unusedSimpArgs false
open Go.RowKit Go.Dav
attribute [local go_sem] Gives ite_val ite_val_true

set_option maxRecDepth 8000 in
set_option maxHeartbeats 8000000 in
theorem Try_Tell5y (r : Red) (w : World) (hok : r.ok = true) (hc : I64 r.c) (hni : I64 r.n) (hl : I64 r.l) (hm : I64 r.m) (hn0 : 0 ≤ r.n) (hf : fitsB r.s = true) :
    Calls Try.prog 17 #[.int .i64 5, .agg #[.int .i64 r.c, .int .i64 r.n, .int .i64 (hi r.s), .int .u64 (lo r.s), .int .i64 r.l, .int .i64 r.m]] w fun e w' => ToldTo 2 (statsV r) (.int .i64 0) e w' ∧ Below w.heap.size w w' := by
  have HER := Lib.hid (show redE r.ok = 0 by rw [hok]; rfl)
  have HCK := Lib.hid (fun W => Try_mCheck r W hl hm)
  have HCC := Lib.hid (fun W => Try_stats r W hc hni hn0 true hf hl hm)
  clear hok hn0 hc hni hl hm hf
  go_enter Try.func17, Try.ntmps17
  go_wp2_with fail
  refine (HCK.out _).mono ?_; rintro e w1 ⟨rfl, hb1⟩; obtain ⟨hc1, hf1, hs1⟩ := after hb1
  simp at hs1
  have lt_w1_0_0 : w.heap.size < w1.heap.size := by omega
  have lt_w1_0_1 : w.heap.size < w1.heap.size + 1 := by omega
  have lt_w1_1_0 : w.heap.size + 1 < w1.heap.size := by omega
  have lt_w1_1_1 : w.heap.size + 1 < w1.heap.size + 1 := by omega
  rw [HER.out]
  go_wp2_with fail
  refine' wp_region_seq [.inr (TryKinds w1.heap.size), .inl _, .inr (CellIs 10 11 (.func (.func 44) #[] #[])), .inr (CellIs 11 11 (.func (.func 44) #[] #[])), .inl _, .inl _, .inr (StatsTup r w1.heap.size), .inr (StatsIn r w1.heap.size), .inl _] (by kernel_rfl) (by kernel_rfl) ?main1
  case main1 =>
    refine wpParts_any rfl (Try_kinds_later _) (by rfl) (fun W hE hN => ?_) (fun u0 => ?_)
    · go_simp; refine ⟨Below.refl _ _, (Try_kinds _).mono ?_⟩; rintro e w' ⟨v, rfl, hb, g, cap, rfl, hg, hcell⟩; exact ⟨_, rfl, hb, g, cap, rfl, Nat.le_trans hE.size hg, hcell⟩
    simp only [Act.put, List.setIfInBounds_toArray, List.set_cons_zero, List.set_cons_succ]
    refine wpParts_det (by rfl) (fun W hE hN => ?_) ?_
    · go_simp; refine ⟨Below.refl _ _, ?_⟩; rfl
    simp only [Act.put, List.setIfInBounds_toArray, List.set_cons_zero, List.set_cons_succ]
    refine wpParts_any rfl (CellIs.later) (by rfl) (fun W hE hN => ?_) (fun u2 => ?_)
    · simp [near, Oper.looksAt, Op.operands] at hN; obtain ⟨g, cap, rfl, hg, hcell⟩ := hN; go_simp; exact ⟨Below.refl _ _, g, rfl, hcell 11 _ rfl⟩
    simp only [Act.put, List.setIfInBounds_toArray, List.set_cons_zero, List.set_cons_succ]
    refine wpParts_any rfl (CellIs.later) (by rfl) (fun W hE hN => ?_) (fun u3 => ?_)
    · simp [near, Oper.looksAt, Op.operands] at hN; obtain ⟨g, rfl, hcell⟩ := hN; go_simp; exact ⟨Below.refl _ _, g, rfl, hcell⟩
    simp only [Act.put, List.setIfInBounds_toArray, List.set_cons_zero, List.set_cons_succ]
    refine wpParts_det (by rfl) (fun W hE hN => ?_) ?_
    · simp [near, Oper.looksAt, Op.operands] at hN; obtain ⟨g, rfl, hcell⟩ := hN; go_simp; refine ⟨Below.refl _ _, ?_⟩; rfl
    simp only [Act.put, List.setIfInBounds_toArray, List.set_cons_zero, List.set_cons_succ]
    refine wpParts_det (by rfl) (fun W hE hN => ?_) ?_
    · have hc := fun b o h => hE.cell (p := ⟨b, o, none⟩) h
      go_simp; refine ⟨Below.refl _ _, ?_⟩; rfl
    simp only [Act.put, List.setIfInBounds_toArray, List.set_cons_zero, List.set_cons_succ]
    refine wpParts_any rfl (StatsTup.later) (by rfl) (fun W hE hN => ?_) (fun u6 => ?_)
    · go_simp; refine ⟨Below.refl _ _, ?_⟩; refine (HCC.out _).mono ?_; rintro e w' ⟨hp, hb⟩; unfold TryStatBack at hp; rw [if_pos rfl] at hp; obtain ⟨g, cg, q, cq, rfl, hg, hq, hu⟩ := hp; exact ⟨_, rfl, hb, _, rfl, g, cg, q, cq, rfl, Nat.le_trans hE.size hg, Nat.le_trans hE.size hq, hu⟩
    simp only [Act.put, List.setIfInBounds_toArray, List.set_cons_zero, List.set_cons_succ]
    refine wpParts_any rfl (StatsIn.later) (by rfl) (fun W hE hN => ?_) (fun u7 => ?_)
    · simp [near, Oper.looksAt, Op.operands] at hN; obtain ⟨u, rfl, hu⟩ := hN; go_simp; first | exact ⟨Below.refl _ _, hu⟩ | exact Below.refl _ _
    simp only [Act.put, List.setIfInBounds_toArray, List.set_cons_zero, List.set_cons_succ]
    refine wpParts_det (by rfl) (fun W hE hN => ?_) ?_
    · simp [near, Oper.looksAt, Op.operands] at hN; obtain ⟨u, rfl, hu⟩ := hN; go_simp; refine ⟨Below.refl _ _, ?_⟩; rfl
    simp only [Act.put, List.setIfInBounds_toArray, List.set_cons_zero, List.set_cons_succ]
    refine wpParts_end fun W2 hE2 hG2 => ?_
    have hcW2 := fun b o h => hE2.cell (p := ⟨b, o, none⟩) h
    have hfW2 := fun b o h => hE2.frozen (p := ⟨b, o, none⟩) h
    obtain ⟨hu, _⟩ := hG2
    have HU := Lib.hid hu
    obtain ⟨g, cg, q, cq, rfl, _⟩ := hu
    have s2 := hE2.size
    try simp at s2
    have lt_W2_0_0 : w.heap.size < W2.heap.size := by omega
    have lt_W2_0_1 : w.heap.size < W2.heap.size + 1 := by omega
    have lt_W2_1_0 : w.heap.size + 1 < W2.heap.size := by omega
    have lt_W2_1_1 : w.heap.size + 1 < W2.heap.size + 1 := by omega
    have hbel2 : Below w.heap.size w W2 := (by repeat (first | (with_reducible exact Below.refl _ _) | (with_reducible exact Below.refl _ _) | (with_reducible refine Below.setCell ?_ (by first | omega | (simp; done) | (simp; omega)) _) | (with_reducible refine Below.alloc ?_ (by first | omega | (simp; done) | (simp; omega)) _) | (with_reducible refine Below.drew ?_) | (with_reducible refine below_drewN ?_ _) | (with_reducible refine Below.trans ?_ (hE2.mono (by first | omega | (simp; done) | (simp; omega)))) | (with_reducible refine Below.trans ?_ (hb1.mono (by first | omega | (simp; done) | (simp; omega))))))
    have HB2 := Lib.hid hbel2
    clear hbel2
    go_wp2
    have o := Only.fiveV W2 (w.heap.size + 1) (.int .i64 6) (.int .i64 0) (.string ⟨#[]⟩) (.slice (some ⟨g, 0, none⟩) 5 cg) (.slice (some ⟨q, 0, none⟩) 5 cq)
    have HV := Lib.hid (HU.out.keep o (by omega))
    have HB9 := Lib.hid (below_only HB2.out o (by omega) (by omega))
    clear o
    refine bodyPost_ret (v := .tuple #[.agg #[.int .i64 6, .int .i64 0, .string ⟨#[]⟩, .slice (some ⟨g, 0, none⟩) 5 cg, .slice (some ⟨q, 0, none⟩) 5 cq], .int .i64 0]) (by simp [results, Try.results17, go_sem, *]) rfl ⟨⟨_, rfl, ?_⟩, HB9.out⟩
    obtain ⟨_, _, _, _, _, _, _, h4⟩ := HV.out
    exact h4

set_option maxRecDepth 8000 in
set_option maxHeartbeats 8000000 in
theorem Try_Tell5n (r : Red) (w : World) (hok : r.ok = true) (hc : I64 r.c) (hni : I64 r.n) (hl : I64 r.l) (hm : I64 r.m) (hn0 : 0 ≤ r.n) (hf : fitsB r.s = false) :
    Calls Try.prog 17 #[.int .i64 5, .agg #[.int .i64 r.c, .int .i64 r.n, .int .i64 (hi r.s), .int .u64 (lo r.s), .int .i64 r.l, .int .i64 r.m]] w fun e w' => e = .returned (.tuple #[.agg #[.int .i64 0, .int .i64 0, .string ⟨#[]⟩, .slice none 0 0, .slice none 0 0], .int .i64 5]) ∧ Below w.heap.size w w' := by
  have HER := Lib.hid (show redE r.ok = 0 by rw [hok]; rfl)
  have HCK := Lib.hid (fun W => Try_mCheck r W hl hm)
  have HCC := Lib.hid (fun W => Try_stats r W hc hni hn0 false hf hl hm)
  clear hok hn0 hc hni hl hm hf
  go_enter Try.func17, Try.ntmps17
  go_wp2_with fail
  refine (HCK.out _).mono ?_; rintro e w1 ⟨rfl, hb1⟩; obtain ⟨hc1, hf1, hs1⟩ := after hb1
  simp at hs1
  have lt_w1_0_0 : w.heap.size < w1.heap.size := by omega
  have lt_w1_0_1 : w.heap.size < w1.heap.size + 1 := by omega
  have lt_w1_1_0 : w.heap.size + 1 < w1.heap.size := by omega
  have lt_w1_1_1 : w.heap.size + 1 < w1.heap.size + 1 := by omega
  rw [HER.out]
  go_wp2_with fail
  refine' wp_region_seq [.inr (TryKinds w1.heap.size), .inl _, .inr (CellIs 10 11 (.func (.func 44) #[] #[])), .inr (CellIs 11 11 (.func (.func 44) #[] #[])), .inl _, .inl _, .inl _, .inl _, .inl _] (by kernel_rfl) (by kernel_rfl) ?main2
  case main2 =>
    refine wpParts_any rfl (Try_kinds_later _) (by rfl) (fun W hE hN => ?_) (fun u0 => ?_)
    · go_simp; refine ⟨Below.refl _ _, (Try_kinds _).mono ?_⟩; rintro e w' ⟨v, rfl, hb, g, cap, rfl, hg, hcell⟩; exact ⟨_, rfl, hb, g, cap, rfl, Nat.le_trans hE.size hg, hcell⟩
    simp only [Act.put, List.setIfInBounds_toArray, List.set_cons_zero, List.set_cons_succ]
    refine wpParts_det (by rfl) (fun W hE hN => ?_) ?_
    · go_simp; refine ⟨Below.refl _ _, ?_⟩; rfl
    simp only [Act.put, List.setIfInBounds_toArray, List.set_cons_zero, List.set_cons_succ]
    refine wpParts_any rfl (CellIs.later) (by rfl) (fun W hE hN => ?_) (fun u2 => ?_)
    · simp [near, Oper.looksAt, Op.operands] at hN; obtain ⟨g, cap, rfl, hg, hcell⟩ := hN; go_simp; exact ⟨Below.refl _ _, g, rfl, hcell 11 _ rfl⟩
    simp only [Act.put, List.setIfInBounds_toArray, List.set_cons_zero, List.set_cons_succ]
    refine wpParts_any rfl (CellIs.later) (by rfl) (fun W hE hN => ?_) (fun u3 => ?_)
    · simp [near, Oper.looksAt, Op.operands] at hN; obtain ⟨g, rfl, hcell⟩ := hN; go_simp; exact ⟨Below.refl _ _, g, rfl, hcell⟩
    simp only [Act.put, List.setIfInBounds_toArray, List.set_cons_zero, List.set_cons_succ]
    refine wpParts_det (by rfl) (fun W hE hN => ?_) ?_
    · simp [near, Oper.looksAt, Op.operands] at hN; obtain ⟨g, rfl, hcell⟩ := hN; go_simp; refine ⟨Below.refl _ _, ?_⟩; rfl
    simp only [Act.put, List.setIfInBounds_toArray, List.set_cons_zero, List.set_cons_succ]
    refine wpParts_det (by rfl) (fun W hE hN => ?_) ?_
    · have hc := fun b o h => hE.cell (p := ⟨b, o, none⟩) h
      go_simp; refine ⟨Below.refl _ _, ?_⟩; rfl
    simp only [Act.put, List.setIfInBounds_toArray, List.set_cons_zero, List.set_cons_succ]
    refine wpParts_det (by rfl) (fun W hE hN => ?_) ?_
    · go_simp; refine ⟨Below.refl _ _, ?_⟩; refine (HCC.out _).mono ?_; rintro e w' ⟨hp, hb⟩; unfold TryStatBack at hp; rw [if_neg (by decide)] at hp; subst hp; refine ⟨?_, hb⟩; rfl
    simp only [Act.put, List.setIfInBounds_toArray, List.set_cons_zero, List.set_cons_succ]
    refine wpParts_det (by rfl) (fun W hE hN => ?_) ?_
    · go_simp; refine ⟨Below.refl _ _, ?_⟩; rfl
    simp only [Act.put, List.setIfInBounds_toArray, List.set_cons_zero, List.set_cons_succ]
    refine wpParts_det (by rfl) (fun W hE hN => ?_) ?_
    · go_simp; refine ⟨Below.refl _ _, ?_⟩; rfl
    simp only [Act.put, List.setIfInBounds_toArray, List.set_cons_zero, List.set_cons_succ]
    refine wpParts_end fun W2 hE2 hG2 => ?_
    have hcW2 := fun b o h => hE2.cell (p := ⟨b, o, none⟩) h
    have hfW2 := fun b o h => hE2.frozen (p := ⟨b, o, none⟩) h
    have s2 := hE2.size
    try simp at s2
    have lt_W2_0_0 : w.heap.size < W2.heap.size := by omega
    have lt_W2_0_1 : w.heap.size < W2.heap.size + 1 := by omega
    have lt_W2_1_0 : w.heap.size + 1 < W2.heap.size := by omega
    have lt_W2_1_1 : w.heap.size + 1 < W2.heap.size + 1 := by omega
    go_wp2
    refine bodyPost_ret (v := .tuple #[.agg #[.int .i64 0, .int .i64 0, .string ⟨#[]⟩, .slice none 0 0, .slice none 0 0], .int .i64 5]) (by simp [results, Try.results17, go_sem, *]) rfl ⟨rfl, ?_⟩
    exact (by repeat (first | (with_reducible exact Below.refl _ _) | (with_reducible exact Below.refl _ _) | (with_reducible refine Below.setCell ?_ (by first | omega | (simp; done) | (simp; omega)) _) | (with_reducible refine Below.alloc ?_ (by first | omega | (simp; done) | (simp; omega)) _) | (with_reducible refine Below.drew ?_) | (with_reducible refine below_drewN ?_ _) | (with_reducible refine Below.trans ?_ (hE2.mono (by first | omega | (simp; done) | (simp; omega)))) | (with_reducible refine Below.trans ?_ (hb1.mono (by first | omega | (simp; done) | (simp; omega))))))

/-- The kinds' names. -/
def TryNames : List Value := [.string ⟨#[95, 99, 111, 117, 110, 116]⟩, .string ⟨#[95, 115, 117, 109]⟩, .string ⟨#[95, 109, 105, 110]⟩, .string ⟨#[95, 109, 97, 120]⟩, .string ⟨#[95, 115, 116, 97, 116, 115]⟩]
set_option maxRecDepth 8000 in
set_option maxHeartbeats 8000000 in
theorem Try_Name_yes (k : Nat) (s : ByteArray) (w : World) (h1 : 1 ≤ k) (h5 : k ≤ 5) (hs : TryNames[k - 1]? = some (.string s)) :
    Calls Try.prog 18 #[.int .i64 (k : Int)] w fun e w' => e = .returned (.tuple #[.string s, .int .i64 0]) ∧ Below w.heap.size w w' := by
  have HKK := Lib.hid (show (TryTold ++ TryStats)[2 * k]? = some (.string s) by
    rcases (by omega : k = 1 ∨ k = 2 ∨ k = 3 ∨ k = 4 ∨ k = 5) with rfl | rfl | rfl | rfl | rfl
    all_goals (cases hs; rfl))
  have g1 : ¬ (k : Int) < 1 := by omega
  have g2 : ¬ (5 : Int) < (k : Int) := by omega
  have g3 : (k : Int) < 6 := by omega
  clear hs
  go_enter Try.func18, Try.ntmps18
  go_wp2_with fail
  refine (Try_kinds _).mono ?_; rintro e w1 ⟨v, rfl, hb1, g, cap, rfl, hg, hcell⟩
  have c0 := hcell (2 * k) _ HKK.out
  have c1 : w1.cell? ⟨g, k * 2, none⟩ = some (.string s) := by rw [Nat.mul_comm]; exact c0
  have lg := World.block_lt_of_cell? w1 _ c0
  have HB := Lib.hid hb1
  clear hcell hb1 c0
  go_wp2
  go_ret2
  exact ⟨rfl, HB.out⟩
theorem Try_Name_no (k : Int) (w : World) (h : k < 1 ∨ 5 < k) :
    Calls Try.prog 18 #[.int .i64 k] w fun e w' => e = .returned (.tuple #[.string ⟨#[]⟩, .int .i64 2]) ∧ Below w.heap.size w w' := by
  by_cases h1 : k < 1
  · clear h
    go_enter Try.func18, Try.ntmps18
    go_wp2
    go_ret2
    exact ⟨rfl, (by repeat (first | (with_reducible exact Below.refl _ _) | (with_reducible exact Below.refl _ _) | (with_reducible refine Below.setCell ?_ (by first | omega | (simp; done) | (simp; omega)) _) | (with_reducible refine Below.alloc ?_ (by first | omega | (simp; done) | (simp; omega)) _) | (with_reducible refine Below.drew ?_) | (with_reducible refine below_drewN ?_ _)))⟩
  · have h5 : 5 < k := by omega
    clear h
    go_enter Try.func18, Try.ntmps18
    go_wp2
    go_ret2
    exact ⟨rfl, (by repeat (first | (with_reducible exact Below.refl _ _) | (with_reducible exact Below.refl _ _) | (with_reducible refine Below.setCell ?_ (by first | omega | (simp; done) | (simp; omega)) _) | (with_reducible refine Below.alloc ?_ (by first | omega | (simp; done) | (simp; omega)) _) | (with_reducible refine Below.drew ?_) | (with_reducible refine below_drewN ?_ _)))⟩
theorem Try_Names (w : World) : Calls Try.prog 20 #[] w fun e w' => e = .returned (.slice (some ⟨w.heap.size, 0, none⟩) 5 5) ∧ Blk w' w.heap.size TryNames 9 ∧ Below w.heap.size w w' := by
  go_enter Try.func20, Try.ntmps20
  go_wp2
  go_ret
  exact ⟨rfl, Blk.new _ _ _, (by repeat (first | (with_reducible exact Below.refl _ _) | (with_reducible exact Below.refl _ _) | (with_reducible refine Below.setCell ?_ (by first | omega | (simp; done) | (simp; omega)) _) | (with_reducible refine Below.alloc ?_ (by first | omega | (simp; done) | (simp; omega)) _) | (with_reducible refine Below.drew ?_) | (with_reducible refine below_drewN ?_ _)))⟩
end Go.Proofs.Ytdebmifjfemcjaa
