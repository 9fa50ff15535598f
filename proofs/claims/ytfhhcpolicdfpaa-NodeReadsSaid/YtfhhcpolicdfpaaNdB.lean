/-
  The sums of layer 13, walked: of, plus, above, fits, total, with: what each returns, and that nothing that was there is written.
  Layer 13: a number so many times, and the bounds of a sum, walked.
  Layer 13: One and both, walked.
  Layer 13: the bounds of a sum, walked.
  Layer 13: Check, walked.
  The reference of layer 13, walked: Of, Add, Whole, Less, Times.
  The reference of layer 13: Right, walked.
  Layer 13: Check and the reference's Right, at every reduction.
  Layer 13: what is told of a reduction, and the names of what is told, walked.
  Layer 13: Tell, of the sum, walked.
  Layer 13: Join, walked.
  The law's own look whether the layer works at all: it does.
  A region that draws its order, in which some operations (a part of a tuple, a copy) may also come after the stores at its end.
  The law's helpers: few, all.
-/
import Derived.Test.YtfhhcpolicdfpaaProg
import Derived.Test.YtfhhcpolicdfpaaNdA
import Derived.WalkKit
import Derived.WalkSpells
import Derived.WalkLawsBesides
import Derived.Lib.Hide
import Derived.Laws.EntriesVeiled
import Derived.LoopN
import Derived.WalkMore
import Derived.Deep.MidRow
import Derived.Laws.AppendOwn
namespace Go.Proofs.Ytfhhcpolicdfpaa
set_option linter.unusedVariables false
set_option linter.unusedSimpArgs false
open Go.RowKit Go.Dav
attribute [local go_sem] Gives ite_val ite_val_true

theorem Try_of (n : Int) (w : World) (h : I64 n) :
    Calls Try.prog 64 #[.int .i64 n] w fun e w' => e = .returned (.agg #[.int .i64 (hi n), .int .u64 (lo n)]) ∧ Below w.heap.size w w' := by
  have e1 := hi_of h
  have e2 := lo_of n
  have H := Lib.hid e1; clear e1
  have H2 := Lib.hid e2; clear e2
  clear h
  go_enter Try.func64, Try.ntmps64
  go_wp2
  refine bodyPost_ret (v := .agg #[.int .i64 (hi n), .int .u64 (lo n)]) (by simp [results, Try.results64, go_sem, H.out, H2.out]) rfl ⟨rfl, ?_⟩
  exact (Below.refl _ _).alloc (Nat.le_refl _) _

theorem Try_plus (x y : Int) (w : World) :
    Calls Try.prog 68 #[.agg #[.int .i64 (hi x), .int .u64 (lo x)], .agg #[.int .i64 (hi y), .int .u64 (lo y)]] w fun e w' =>
      e = .returned (.agg #[.int .i64 (hi (x + y)), .int .u64 (lo (x + y))]) ∧ Below w.heap.size w w' := by
  have el := lo_add x y
  by_cases h : lo (x + y) < lo x
  · have e1 := hi_add_yes x y ((carry x y).1 h)
    go_enter Try.func68, Try.ntmps68
    go_wp2
    refine bodyPost_ret (v := .agg #[.int .i64 (hi (x + y)), .int .u64 (lo (x + y))]) (by simp [results, Try.results68, go_sem]) rfl ⟨rfl, ?_⟩
    exact (((Below.refl _ _).alloc (Nat.le_refl _) _).alloc (by simp) _).alloc (by simp; omega) _
  · have e1 := hi_add_no x y (fun hc => h ((carry x y).2 hc))
    go_enter Try.func68, Try.ntmps68
    go_wp2
    refine bodyPost_ret (v := .agg #[.int .i64 (hi (x + y)), .int .u64 (lo (x + y))]) (by simp [results, Try.results68, go_sem]) rfl ⟨rfl, ?_⟩
    exact (((Below.refl _ _).alloc (Nat.le_refl _) _).alloc (by simp) _).alloc (by simp; omega) _

theorem Try_above (x y : Int) (w : World) :
    Calls Try.prog 66 #[.agg #[.int .i64 (hi x), .int .u64 (lo x)], .agg #[.int .i64 (hi y), .int .u64 (lo y)]] w fun e w' =>
      e = .returned (.bool (aboveB x y)) ∧ Below w.heap.size w w' := by
  have hx := lo_bd x
  have hy := lo_bd y
  have key : aboveB x y = (decide (hi y < hi x) || (decide (hi x = hi y) && decide (lo y < lo x))) := by
    unfold aboveB sg
    rw [Bool.eq_iff_iff]; simp; omega
  rw [key]
  have H := Lib.hid hx; clear hx
  have H2 := Lib.hid hy; clear hy
  clear key H H2
  generalize hi x = a
  generalize hi y = b
  generalize lo x = c
  generalize lo y = d
  by_cases g1 : b < a
  · go_enter Try.func66, Try.ntmps66
    go_wp2
    go_ret
    exact ⟨by simp [g1], ((Below.refl _ _).alloc (Nat.le_refl _) _).alloc (by simp) _⟩
  · by_cases g2 : a = b
    · subst g2
      go_enter Try.func66, Try.ntmps66
      go_wp2
      go_ret
      exact ⟨by simp, ((Below.refl _ _).alloc (Nat.le_refl _) _).alloc (by simp) _⟩
    · have g3 : (a == b) = false := by simpa using g2
      go_enter Try.func66, Try.ntmps66
      go_wp2
      go_ret
      exact ⟨by simp [g1], ((Below.refl _ _).alloc (Nat.le_refl _) _).alloc (by simp) _⟩

theorem Try_total (c n s l m : Int) (w : World) :
    Calls Try.prog 63 #[.agg #[.int .i64 c, .int .i64 n, .int .i64 (hi s), .int .u64 (lo s), .int .i64 l, .int .i64 m]] w fun e w' =>
      e = .returned (.agg #[.int .i64 (hi s), .int .u64 (lo s)]) ∧ Below w.heap.size w w' := by
  go_enter Try.func63, Try.ntmps63
  go_wp2
  refine bodyPost_ret (v := .agg #[.int .i64 (hi s), .int .u64 (lo s)]) (by simp [results, Try.results63, go_sem]) rfl ⟨rfl, ?_⟩
  exact ((Below.refl _ _).alloc (Nat.le_refl _) _).alloc (by simp) _

theorem Try_with (c n h l0 l m s : Int) (w : World) :
    Calls Try.prog 67 #[.agg #[.int .i64 c, .int .i64 n, .int .i64 h, .int .u64 l0, .int .i64 l, .int .i64 m], .agg #[.int .i64 (hi s), .int .u64 (lo s)]] w fun e w' =>
      e = .returned (.agg #[.int .i64 c, .int .i64 n, .int .i64 (hi s), .int .u64 (lo s), .int .i64 l, .int .i64 m]) ∧ Below w.heap.size w w' := by
  go_enter Try.func67, Try.ntmps67
  go_wp2
  go_region
  go_wp2
  refine bodyPost_ret (v := .agg #[.int .i64 c, .int .i64 n, .int .i64 (hi s), .int .u64 (lo s), .int .i64 l, .int .i64 m]) (by simp [results, Try.results67, go_sem]) rfl ⟨rfl, ?_⟩
  exact ((((Below.refl _ _).alloc (Nat.le_refl _) _).alloc (by simp) _).alloc (by simp; omega) _).drew

end Go.Proofs.Ytfhhcpolicdfpaa

namespace Go.Proofs.Ytfhhcpolicdfpaa
set_option linter.unusedVariables false
set_option linter.unusedSimpArgs false
open Go.RowKit Go.Dav
attribute [local go_sem] Gives ite_val ite_val_true

/-- What the loop keeps: what is in the two sums, and what is still to be added. -/
def TryTimesRel (w : World) (n k : Int) (kv pv : Value) (wr : World) : Prop :=
  ∃ (m p : Nat) (acc base : Int), kv = .int .i64 m ∧ I64 m ∧ pv = .pointer (some ⟨p, 0, none⟩) ∧ w.heap.size + 1 < p ∧ acc + base * m = n * k ∧
    Blk wr (w.heap.size + 1) [.int .i64 (hi acc), .int .u64 (lo acc)] 110 ∧ Blk wr p [.int .i64 (hi base), .int .u64 (lo base)] 110 ∧
    Blk wr w.heap.size [.int .i64 0, .int .u64 0] 110 ∧ Below w.heap.size w wr

set_option maxRecDepth 4000 in
theorem Try_times (n k : Int) (w : World) (h1 : I64 n) (h3 : 0 ≤ k) (h4 : I64 k) :
    Calls Try.prog 75 #[.int .i64 n, .int .i64 k] w fun e w' => e = .returned (.agg #[.int .i64 (hi (n * k)), .int .u64 (lo (n * k))]) ∧ Below w.heap.size w w' := by
  obtain ⟨m0, rfl⟩ := Int.eq_ofNat_of_zero_le h3
  go_enter Try.func75, Try.ntmps75
  go_wp2_with (first | (go_at_call 64; refine (Try_of _ _ h1).mono ?_; rintro e w1 ⟨rfl, hb⟩; obtain ⟨hc, hf, hs⟩ := after hb))
  go_loopw [1, 6] (fun kv pv wr => TryTimesRel w n m0 kv pv wr) (fun kv _ _ => (intOf kv).toNat)
  case atStart =>
    refine ⟨m0, w1.heap.size, 0, n, rfl, h4, rfl, by simp at hs; omega, by omega, ?_, Blk.new _ [_, _] _, ?_, ?_⟩
    · have := ((Blk.new (w.alloc (.cells #[.int .i64 0, .int .u64 0] 110)) [.int .i64 0, .int .u64 0] 110).ext hb).alloc (.cells #[.int .i64 (hi n), .int .u64 (lo n)] 110)
      rw [hi_zero, lo_zero]
      simpa using this
    · exact (((Blk.new _ [_, _] _).alloc _).ext hb).alloc _
    · exact (ext_trans (((Below.refl _ _).alloc (Nat.le_refl _) _).alloc (by simp) _) hb).alloc (by simp at hs; omega) _
  case round =>
    obtain ⟨m, p, acc, base, rfl, hm, rfl, hp, heq, ho, hpart, hres, hbel⟩ := hrel
    have c0 := ho.cell 0 rfl
    have c1 := ho.cell 1 rfl
    have c2 := hpart.cell 0 rfl
    have c3 := hpart.cell 1 rfl
    have f0 := ho.frozen 0
    have f1 := ho.frozen 1
    have f2 := hpart.frozen 0
    have f3 := hpart.frozen 1
    have l0 := ho.lt
    have l1 := hpart.lt
    have hn1 : w.heap.size + 1 ≠ p := by omega
    have hbs := hbel.size
    have Heq := Lib.hid heq; clear heq
    by_cases hz : m = 0
    · subst hz
      have hr0 := hres.cell 0 rfl
      have hr1 := hres.cell 1 rfl
      have hrf0 := hres.frozen 0
      have hrf1 := hres.frozen 1
      go_wp2
      have e : n * m0 = acc := by have := Heq.out; simp at this; omega
      refine bodyPost_ret (v := .agg #[.int .i64 (hi acc), .int .u64 (lo acc)]) (by simp [results, Try.results75, go_sem, hr0, hr1]) rfl ⟨by rw [e], ?_⟩
      exact (hbel.setCell (p := ⟨w.heap.size, 0, none⟩) (Nat.le_refl _) _).setCell (p := ⟨w.heap.size, 1, none⟩) (Nat.le_refl _) _
    · have ha := and_one_i64 m hm
      have hm0 : (0 : Int) < (m : Int) := by omega
      have hn2 : p ≠ w.heap.size + 1 := by omega
      have eI : I64 ((m / 2 : Nat) : Int) := by unfold I64 at *; omega
      by_cases hodd : m % 2 = 1
      · have e1 : acc + base + (base + base) * ((m / 2 : Nat) : Int) = n * m0 := by
          rw [half_odd acc base m hodd]; exact Heq.out
        rw [hodd] at ha
        have Ho := Lib.hid hodd; clear hodd
        have E1 := Lib.hid e1; clear e1
        go_wp2_with fail
        refine (Try_plus _ _ _).mono ?_; rintro e w1 ⟨rfl, hb1⟩; obtain ⟨hc1, hf1, hs1⟩ := after hb1
        have lp1 := Nat.lt_of_lt_of_le l1 hs1
        have lo1 := Nat.lt_of_lt_of_le l0 hs1
        go_wp2_with fail
        refine (Try_plus _ _ _).mono ?_; rintro e w2 ⟨rfl, hb2⟩; obtain ⟨hc2, hf2, hs2⟩ := after hb2
        simp only [World.size_setCell] at hs2
        have lp2 := Nat.lt_of_lt_of_le lp1 hs2
        have lo2 := Nat.lt_of_lt_of_le lo1 hs2
        go_wp2_with fail
        go_roundw
        case rel =>
          have b0 := (((ho.ext hb1).set 0 (.int .i64 (hi (acc + base)))).set 1 (.int .u64 (lo (acc + base)))).ext hb2
          have b1 := (((hpart.ext hb1).other hn2 0 (.int .i64 (hi (acc + base)))).other hn2 1 (.int .u64 (lo (acc + base)))).ext hb2
          have b2 := (((hres.ext hb1).other (by omega) 0 (.int .i64 (hi (acc + base)))).other (by omega) 1 (.int .u64 (lo (acc + base)))).ext hb2
          have bl := (((hbel.trans (hb1.mono hbs)).setCell (p := ⟨w.heap.size + 1, 0, none⟩) (by simp) (.int .i64 (hi (acc + base)))).setCell (p := ⟨w.heap.size + 1, 1, none⟩) (by simp) (.int .u64 (lo (acc + base)))).trans (hb2.mono (by simp; omega))
          refine ⟨m / 2, w2.heap.size, acc + base, base + base, by simp, eI, rfl, by omega, E1.out, ?_, Blk.new' _ [_, _] _ (by simp), ?_, ?_⟩
          · exact ((b0.other hn1 _ _).other hn1 _ _).alloc _
          · exact ((b2.other (by omega) _ _).other (by omega) _ _).alloc _
          · exact ((bl.setCell (p := ⟨p, 0, none⟩) (by simp; omega) _).setCell (p := ⟨p, 1, none⟩) (by simp; omega) _).alloc (by simp; omega) _
        case measure => simp [intOf]; omega
      · have hev : m % 2 = 0 := by omega
        have e1 : acc + (base + base) * ((m / 2 : Nat) : Int) = n * m0 := by
          rw [half_even acc base m hev]; exact Heq.out
        rw [hev] at ha
        have E1 := Lib.hid e1; clear e1
        have Ho := Lib.hid hodd; clear hodd
        have Hev := Lib.hid hev; clear hev
        go_wp2_with fail
        refine (Try_plus _ _ _).mono ?_; rintro e w2 ⟨rfl, hb2⟩; obtain ⟨hc2, hf2, hs2⟩ := after hb2
        have lp2 := Nat.lt_of_lt_of_le l1 hs2
        have lo2 := Nat.lt_of_lt_of_le l0 hs2
        go_wp2_with fail
        go_roundw
        case rel =>
          have bl := hbel.trans (hb2.mono hbs)
          refine ⟨m / 2, w2.heap.size, acc, base + base, by simp, eI, rfl, by omega, E1.out, ?_, Blk.new' _ [_, _] _ (by simp), ?_, ?_⟩
          · exact (((ho.ext hb2).other hn1 _ _).other hn1 _ _).alloc _
          · exact (((hres.ext hb2).other (by omega) _ _).other (by omega) _ _).alloc _
          · exact ((bl.setCell (p := ⟨p, 0, none⟩) (by simp; omega) _).setCell (p := ⟨p, 1, none⟩) (by simp; omega) _).alloc (by simp; omega) _
        case measure => simp [intOf]; omega
end Go.Proofs.Ytfhhcpolicdfpaa

namespace Go.Proofs.Ytfhhcpolicdfpaa
set_option linter.unusedVariables false
set_option linter.unusedSimpArgs false
open Go.RowKit Go.Dav
attribute [local go_sem] Gives ite_val ite_val_true

theorem Try_One_no (k v : Value) (x : Int) (w : World) (hk : k.cells = #[k]) (hv : v.cells = #[v]) :
    Calls Try.prog 97 #[.agg #[k, v, .bool false, .int .i64 x]] w fun e w' =>
      e = .returned (.agg #[.int .i64 1, .int .i64 0, .int .i64 (hi 0), .int .u64 (lo 0), .int .i64 0, .int .i64 0]) ∧ Below w.heap.size w w' := by
  have Hk := Lib.hid hk; clear hk
  have Hv := Lib.hid hv; clear hv
  go_enter Try.func97, Try.ntmps97
  go_wp2
  refine bodyPost_ret (v := .agg #[.int .i64 1, .int .i64 0, .int .i64 0, .int .u64 0, .int .i64 0, .int .i64 0]) (by simp [results, Try.results97, go_sem]) rfl ⟨by rw [hi_zero, lo_zero], ?_⟩
  exact (by repeat (first | (with_reducible exact Below.refl _ _) | (with_reducible exact Below.refl _ _) | (with_reducible refine Below.setCell ?_ (by first | omega | (simp; done) | (simp; omega)) _) | (with_reducible refine Below.alloc ?_ (by first | omega | (simp; done) | (simp; omega)) _) | (with_reducible refine Below.drew ?_) | (with_reducible refine below_drewN ?_ _)))

theorem Try_One_yes (k v : Value) (x : Int) (w : World) (hx : I64 x) :
    Calls Try.prog 97 #[.agg #[k, v, .bool true, .int .i64 x]] w fun e w' =>
      e = .returned (.agg #[.int .i64 1, .int .i64 1, .int .i64 (hi x), .int .u64 (lo x), .int .i64 x, .int .i64 x]) ∧ Below w.heap.size w w' := by
  go_enter Try.func97, Try.ntmps97
  go_wp2_with fail
  refine' wp_region_seq [.inl _, .inl _, .inl _, .inl _, .inl _, .inl _, .inl _, .inl _, .inl _] (by kernel_rfl) (by kernel_rfl) ?main1
  case main1 =>
    refine wpParts_det (by rfl) (fun W hE hN => ?_) ?_
    · go_simp; refine ⟨Below.refl _ _, ?_⟩; rfl
    simp only [Act.put, List.setIfInBounds_toArray, List.set_cons_zero, List.set_cons_succ]
    refine wpParts_det (by rfl) (fun W hE hN => ?_) ?_
    · have hc := fun b o h => hE.cell (p := ⟨b, o, none⟩) h
      go_simp; refine ⟨Below.refl _ _, ?_⟩; rfl
    simp only [Act.put, List.setIfInBounds_toArray, List.set_cons_zero, List.set_cons_succ]
    refine wpParts_det (by rfl) (fun W hE hN => ?_) ?_
    · go_simp; refine ⟨Below.refl _ _, ?_⟩; rfl
    simp only [Act.put, List.setIfInBounds_toArray, List.set_cons_zero, List.set_cons_succ]
    refine wpParts_det (by rfl) (fun W hE hN => ?_) ?_
    · have hc := fun b o h => hE.cell (p := ⟨b, o, none⟩) h
      go_simp; refine ⟨Below.refl _ _, ?_⟩; rfl
    simp only [Act.put, List.setIfInBounds_toArray, List.set_cons_zero, List.set_cons_succ]
    refine wpParts_det (by rfl) (fun W hE hN => ?_) ?_
    · go_simp; refine ⟨Below.refl _ _, ?_⟩; rfl
    simp only [Act.put, List.setIfInBounds_toArray, List.set_cons_zero, List.set_cons_succ]
    refine wpParts_det (by rfl) (fun W hE hN => ?_) ?_
    · go_simp; refine ⟨Below.refl _ _, ?_⟩; rfl
    simp only [Act.put, List.setIfInBounds_toArray, List.set_cons_zero, List.set_cons_succ]
    refine wpParts_det (by rfl) (fun W hE hN => ?_) ?_
    · have hc := fun b o h => hE.cell (p := ⟨b, o, none⟩) h
      go_simp; refine ⟨Below.refl _ _, ?_⟩; rfl
    simp only [Act.put, List.setIfInBounds_toArray, List.set_cons_zero, List.set_cons_succ]
    refine wpParts_det (by rfl) (fun W hE hN => ?_) ?_
    · go_simp; refine ⟨Below.refl _ _, ?_⟩; refine (Try_of _ _ hx).mono ?_; rintro e w' ⟨rfl, hb⟩; refine ⟨?_, hb⟩; rfl
    simp only [Act.put, List.setIfInBounds_toArray, List.set_cons_zero, List.set_cons_succ]
    refine wpParts_det (by rfl) (fun W hE hN => ?_) ?_
    · go_simp; refine ⟨Below.refl _ _, ?_⟩; refine (Try_with _ _ _ _ _ _ _ _).mono ?_; rintro e w' ⟨rfl, hb⟩; refine ⟨?_, hb⟩; rfl
    simp only [Act.put, List.setIfInBounds_toArray, List.set_cons_zero, List.set_cons_succ]
    refine wpParts_end fun W1 hE1 hG1 => ?_
    have hcW1 := fun b o h => hE1.cell (p := ⟨b, o, none⟩) h
    have hfW1 := fun b o h => hE1.frozen (p := ⟨b, o, none⟩) h
    have s1 := hE1.size
    simp at s1
    have lt_W1_0_0 : w.heap.size < W1.heap.size := by omega
    have lt_W1_1_0 : w.heap.size + 1 < W1.heap.size := by omega
    go_wp2
    refine bodyPost_ret (v := .agg #[.int .i64 1, .int .i64 1, .int .i64 (hi x), .int .u64 (lo x), .int .i64 x, .int .i64 x]) (by simp [results, Try.results97, go_sem, *]) rfl ⟨rfl, ?_⟩
    exact (by repeat (first | (with_reducible exact Below.refl _ _) | (with_reducible exact Below.refl _ _) | (with_reducible refine Below.setCell ?_ (by first | omega | (simp; done) | (simp; omega)) _) | (with_reducible refine Below.alloc ?_ (by first | omega | (simp; done) | (simp; omega)) _) | (with_reducible refine Below.drew ?_) | (with_reducible refine below_drewN ?_ _) | (with_reducible refine Below.trans ?_ (hE1.mono (by first | omega | (simp; done) | (simp; omega))))))

set_option maxRecDepth 4000 in
set_option maxHeartbeats 4000000 in
theorem Try_both (c1 n1 s1 l1 m1 c2 n2 s2 l2 m2 : Int) (w : World) (h1 : 0 ≤ n1) (h2 : 0 ≤ n2) (hc : IntKind.i64.wrap (c1 + c2) = c1 + c2) (hn : IntKind.i64.wrap (n1 + n2) = n1 + n2) :
    Calls Try.prog 53 #[.agg #[.int .i64 c1, .int .i64 n1, .int .i64 (hi s1), .int .u64 (lo s1), .int .i64 l1, .int .i64 m1], .agg #[.int .i64 c2, .int .i64 n2, .int .i64 (hi s2), .int .u64 (lo s2), .int .i64 l2, .int .i64 m2]] w fun e w' =>
      e = .returned (.agg #[.int .i64 (c1 + c2), .int .i64 (bothN n1 n2), .int .i64 (hi (bothS n2 s1 s2)), .int .u64 (lo (bothS n2 s1 s2)), .int .i64 (bothL n1 n2 l1 l2), .int .i64 (bothM n1 n2 m1 m2)]) ∧ Below w.heap.size w w' := by
  by_cases hz : n2 = 0
  · subst hz
    have Hn := Lib.hid hn; clear hn
    have e1 : bothN n1 0 = n1 := rfl
    have e2 : bothS 0 s1 s2 = s1 := rfl
    have e3 : bothL n1 0 l1 l2 = l1 := rfl
    have e4 : bothM n1 0 m1 m2 = m1 := rfl
    rw [e1, e2, e3, e4]
    clear e1 e2 e3 e4
    go_enter Try.func53, Try.ntmps53
    go_wp2
    refine bodyPost_ret (v := .agg #[.int .i64 (c1 + c2), .int .i64 n1, .int .i64 (hi s1), .int .u64 (lo s1), .int .i64 l1, .int .i64 m1]) (by simp [results, Try.results53, go_sem]) rfl ⟨rfl, ?_⟩
    exact (by repeat (first | (with_reducible exact Below.refl _ _) | (with_reducible exact Below.refl _ _) | (with_reducible refine Below.setCell ?_ (by first | omega | (simp; done) | (simp; omega)) _) | (with_reducible refine Below.alloc ?_ (by first | omega | (simp; done) | (simp; omega)) _) | (with_reducible refine Below.drew ?_) | (with_reducible refine below_drewN ?_ _)))
  · have hz' : (n2 == 0) = false := by simpa using hz
    by_cases hp : 0 < n1
    · have e1 : bothN n1 n2 = n1 + n2 := if_neg hz
      have e2 : bothS n2 s1 s2 = s1 + s2 := if_neg hz
      have e3 : bothL n1 n2 l1 l2 = min l1 l2 := by unfold bothL; rw [if_neg hz, if_pos hp]
      have e4 : bothM n1 n2 m1 m2 = max m1 m2 := by unfold bothM; rw [if_neg hz, if_pos hp]
      rw [e1, e2, e3, e4]
      clear e1 e2 e3 e4
      go_enter Try.func53, Try.ntmps53
      go_wp2
      go_region
      go_wp2_with fail
      all_goals
        refine' wp_region_seq [.inl _, .inl _, .inl _, .inl _, .inl _, .inl _, .inl _] (by kernel_rfl) (by kernel_rfl) ?main2
        case main2 =>
          refine wpParts_det (by rfl) (fun W hE hN => ?_) ?_
          · have hc := fun b o h => hE.cell (p := ⟨b, o, none⟩) h
            go_simp; refine ⟨Below.refl _ _, ?_⟩; rfl
          simp only [Act.put, List.setIfInBounds_toArray, List.set_cons_zero, List.set_cons_succ]
          refine wpParts_det (by rfl) (fun W hE hN => ?_) ?_
          · have hc := fun b o h => hE.cell (p := ⟨b, o, none⟩) h
            go_simp; refine ⟨Below.refl _ _, ?_⟩; rfl
          simp only [Act.put, List.setIfInBounds_toArray, List.set_cons_zero, List.set_cons_succ]
          refine wpParts_det (by rfl) (fun W hE hN => ?_) ?_
          · go_simp; refine ⟨Below.refl _ _, ?_⟩; refine (Try_total _ _ _ _ _ _).mono ?_; rintro e w' ⟨rfl, hb⟩; refine ⟨?_, hb⟩; rfl
          simp only [Act.put, List.setIfInBounds_toArray, List.set_cons_zero, List.set_cons_succ]
          refine wpParts_det (by rfl) (fun W hE hN => ?_) ?_
          · have hc := fun b o h => hE.cell (p := ⟨b, o, none⟩) h
            go_simp; refine ⟨Below.refl _ _, ?_⟩; rfl
          simp only [Act.put, List.setIfInBounds_toArray, List.set_cons_zero, List.set_cons_succ]
          refine wpParts_det (by rfl) (fun W hE hN => ?_) ?_
          · go_simp; refine ⟨Below.refl _ _, ?_⟩; refine (Try_total _ _ _ _ _ _).mono ?_; rintro e w' ⟨rfl, hb⟩; refine ⟨?_, hb⟩; rfl
          simp only [Act.put, List.setIfInBounds_toArray, List.set_cons_zero, List.set_cons_succ]
          refine wpParts_det (by rfl) (fun W hE hN => ?_) ?_
          · go_simp; refine ⟨Below.refl _ _, ?_⟩; refine (Try_plus _ _ _).mono ?_; rintro e w' ⟨rfl, hb⟩; refine ⟨?_, hb⟩; rfl
          simp only [Act.put, List.setIfInBounds_toArray, List.set_cons_zero, List.set_cons_succ]
          refine wpParts_det (by rfl) (fun W hE hN => ?_) ?_
          · go_simp; refine ⟨Below.refl _ _, ?_⟩; refine (Try_with _ _ _ _ _ _ _ _).mono ?_; rintro e w' ⟨rfl, hb⟩; refine ⟨?_, hb⟩; rfl
          simp only [Act.put, List.setIfInBounds_toArray, List.set_cons_zero, List.set_cons_succ]
          refine wpParts_end fun W1 hE1 hG1 => ?_
          have hcW1 := fun b o h => hE1.cell (p := ⟨b, o, none⟩) h
          have hfW1 := fun b o h => hE1.frozen (p := ⟨b, o, none⟩) h
          have s1' := hE1.size
          simp at s1'
          have lt_W1_0_0 : w.heap.size < W1.heap.size := by omega
          have lt_W1_1_0 : w.heap.size + 1 < W1.heap.size := by omega
          have lt_W1_2_0 : w.heap.size + 1 + 1 < W1.heap.size := by omega
          have lt_W1_3_0 : w.heap.size + 1 + 1 + 1 < W1.heap.size := by omega
          go_wp2
          refine bodyPost_ret (v := .agg #[.int .i64 (c1 + c2), .int .i64 (n1 + n2), .int .i64 (hi (s1 + s2)), .int .u64 (lo (s1 + s2)), .int .i64 (min l1 l2), .int .i64 (max m1 m2)]) (by simp [results, Try.results53, go_sem, hcW1, lt_W1_2_0] <;> omega) rfl ⟨rfl, ?_⟩
          exact (by repeat (first | (with_reducible exact Below.refl _ _) | (with_reducible exact Below.refl _ _) | (with_reducible refine Below.setCell ?_ (by first | omega | (simp; done) | (simp; omega)) _) | (with_reducible refine Below.alloc ?_ (by first | omega | (simp; done) | (simp; omega)) _) | (with_reducible refine Below.drew ?_) | (with_reducible refine below_drewN ?_ _) | (with_reducible refine Below.trans ?_ (hE1.mono (by first | omega | (simp; done) | (simp; omega))))))
    · have e1 : bothN n1 n2 = n1 + n2 := if_neg hz
      have e2 : bothS n2 s1 s2 = s1 + s2 := if_neg hz
      have e3 : bothL n1 n2 l1 l2 = l2 := by unfold bothL; rw [if_neg hz, if_neg hp]
      have e4 : bothM n1 n2 m1 m2 = m2 := by unfold bothM; rw [if_neg hz, if_neg hp]
      rw [e1, e2, e3, e4]
      clear e1 e2 e3 e4
      go_enter Try.func53, Try.ntmps53
      all_goals
        go_wp2_with fail
        refine' wp_region_seq [.inl _, .inl _, .inl _, .inl _, .inl _, .inl _, .inl _] (by kernel_rfl) (by kernel_rfl) ?main3
        case main3 =>
          refine wpParts_det (by rfl) (fun W hE hN => ?_) ?_
          · have hc := fun b o h => hE.cell (p := ⟨b, o, none⟩) h
            go_simp; refine ⟨Below.refl _ _, ?_⟩; rfl
          simp only [Act.put, List.setIfInBounds_toArray, List.set_cons_zero, List.set_cons_succ]
          refine wpParts_det (by rfl) (fun W hE hN => ?_) ?_
          · have hc := fun b o h => hE.cell (p := ⟨b, o, none⟩) h
            go_simp; refine ⟨Below.refl _ _, ?_⟩; rfl
          simp only [Act.put, List.setIfInBounds_toArray, List.set_cons_zero, List.set_cons_succ]
          refine wpParts_det (by rfl) (fun W hE hN => ?_) ?_
          · go_simp; refine ⟨Below.refl _ _, ?_⟩; refine (Try_total _ _ _ _ _ _).mono ?_; rintro e w' ⟨rfl, hb⟩; refine ⟨?_, hb⟩; rfl
          simp only [Act.put, List.setIfInBounds_toArray, List.set_cons_zero, List.set_cons_succ]
          refine wpParts_det (by rfl) (fun W hE hN => ?_) ?_
          · have hc := fun b o h => hE.cell (p := ⟨b, o, none⟩) h
            go_simp; refine ⟨Below.refl _ _, ?_⟩; rfl
          simp only [Act.put, List.setIfInBounds_toArray, List.set_cons_zero, List.set_cons_succ]
          refine wpParts_det (by rfl) (fun W hE hN => ?_) ?_
          · go_simp; refine ⟨Below.refl _ _, ?_⟩; refine (Try_total _ _ _ _ _ _).mono ?_; rintro e w' ⟨rfl, hb⟩; refine ⟨?_, hb⟩; rfl
          simp only [Act.put, List.setIfInBounds_toArray, List.set_cons_zero, List.set_cons_succ]
          refine wpParts_det (by rfl) (fun W hE hN => ?_) ?_
          · go_simp; refine ⟨Below.refl _ _, ?_⟩; refine (Try_plus _ _ _).mono ?_; rintro e w' ⟨rfl, hb⟩; refine ⟨?_, hb⟩; rfl
          simp only [Act.put, List.setIfInBounds_toArray, List.set_cons_zero, List.set_cons_succ]
          refine wpParts_det (by rfl) (fun W hE hN => ?_) ?_
          · go_simp; refine ⟨Below.refl _ _, ?_⟩; refine (Try_with _ _ _ _ _ _ _ _).mono ?_; rintro e w' ⟨rfl, hb⟩; refine ⟨?_, hb⟩; rfl
          simp only [Act.put, List.setIfInBounds_toArray, List.set_cons_zero, List.set_cons_succ]
          refine wpParts_end fun W1 hE1 hG1 => ?_
          have hcW1 := fun b o h => hE1.cell (p := ⟨b, o, none⟩) h
          have hfW1 := fun b o h => hE1.frozen (p := ⟨b, o, none⟩) h
          have s1' := hE1.size
          simp at s1'
          have lt_W1_0_0 : w.heap.size < W1.heap.size := by omega
          have lt_W1_1_0 : w.heap.size + 1 < W1.heap.size := by omega
          have lt_W1_2_0 : w.heap.size + 1 + 1 < W1.heap.size := by omega
          have lt_W1_3_0 : w.heap.size + 1 + 1 + 1 < W1.heap.size := by omega
          go_wp2
          refine bodyPost_ret (v := .agg #[.int .i64 (c1 + c2), .int .i64 (n1 + n2), .int .i64 (hi (s1 + s2)), .int .u64 (lo (s1 + s2)), .int .i64 l2, .int .i64 m2]) (by simp [results, Try.results53, go_sem, hcW1, lt_W1_2_0]) rfl ⟨rfl, ?_⟩
          exact (by repeat (first | (with_reducible exact Below.refl _ _) | (with_reducible exact Below.refl _ _) | (with_reducible refine Below.setCell ?_ (by first | omega | (simp; done) | (simp; omega)) _) | (with_reducible refine Below.alloc ?_ (by first | omega | (simp; done) | (simp; omega)) _) | (with_reducible refine Below.drew ?_) | (with_reducible refine below_drewN ?_ _) | (with_reducible refine Below.trans ?_ (hE1.mono (by first | omega | (simp; done) | (simp; omega))))))
end Go.Proofs.Ytfhhcpolicdfpaa

namespace Go.Proofs.Ytfhhcpolicdfpaa
set_option linter.unusedVariables false
set_option linter.unusedSimpArgs false
open Go.RowKit Go.Dav
attribute [local go_sem] Gives ite_val ite_val_true

set_option maxRecDepth 4000 in
theorem Try_bounds (c n s l m : Int) (w : World) (hn : 2 ≤ n) (hn' : I64 n) (hl : I64 l) (hm : I64 m) :
    Calls Try.prog 65 #[.agg #[.int .i64 c, .int .i64 n, .int .i64 (hi s), .int .u64 (lo s), .int .i64 l, .int .i64 m]] w fun e w' =>
      e = .returned (.tuple #[.agg #[.int .i64 (hi (l + m + l * (n - 2))), .int .u64 (lo (l + m + l * (n - 2)))], .agg #[.int .i64 (hi (l + m + m * (n - 2))), .int .u64 (lo (l + m + m * (n - 2)))]]) ∧ Below w.heap.size w w' := by
  have hk : I64 (n - 2) := by unfold I64 at *; omega
  have hk0 : 0 ≤ n - 2 := by omega
  have hw : IntKind.i64.wrap (n - 2) = n - 2 := by rw [i64_wrap_def]; unfold I64 at hk; omega
  go_enter Try.func65, Try.ntmps65
  go_wp2_with fail
  refine' wp_region_seq [.inl _, .inl _, .inl _, .inl _, .inl _, .inl _, .inl _, .inr (NewBlk (w.heap.size + 1 + 1 + 1) [.int .i64 0, .int .u64 0] 110)] (by kernel_rfl) (by kernel_rfl) ?main1
  case main1 =>
    refine wpParts_det (by rfl) (fun W hE hN => ?_) ?_
    · go_simp; refine ⟨Below.refl _ _, ?_⟩; rfl
    simp only [Act.put, List.setIfInBounds_toArray, List.set_cons_zero, List.set_cons_succ]
    refine wpParts_det (by rfl) (fun W hE hN => ?_) ?_
    · have hc := fun b o h => hE.cell (p := ⟨b, o, none⟩) h
      go_simp; refine ⟨Below.refl _ _, ?_⟩; rfl
    simp only [Act.put, List.setIfInBounds_toArray, List.set_cons_zero, List.set_cons_succ]
    refine wpParts_det (by rfl) (fun W hE hN => ?_) ?_
    · go_simp; refine ⟨Below.refl _ _, ?_⟩; refine (Try_of _ _ (by assumption)).mono ?_; rintro e w' ⟨rfl, hb⟩; refine ⟨?_, hb⟩; rfl
    simp only [Act.put, List.setIfInBounds_toArray, List.set_cons_zero, List.set_cons_succ]
    refine wpParts_det (by rfl) (fun W hE hN => ?_) ?_
    · go_simp; refine ⟨Below.refl _ _, ?_⟩; rfl
    simp only [Act.put, List.setIfInBounds_toArray, List.set_cons_zero, List.set_cons_succ]
    refine wpParts_det (by rfl) (fun W hE hN => ?_) ?_
    · have hc := fun b o h => hE.cell (p := ⟨b, o, none⟩) h
      go_simp; refine ⟨Below.refl _ _, ?_⟩; rfl
    simp only [Act.put, List.setIfInBounds_toArray, List.set_cons_zero, List.set_cons_succ]
    refine wpParts_det (by rfl) (fun W hE hN => ?_) ?_
    · go_simp; refine ⟨Below.refl _ _, ?_⟩; refine (Try_of _ _ (by assumption)).mono ?_; rintro e w' ⟨rfl, hb⟩; refine ⟨?_, hb⟩; rfl
    simp only [Act.put, List.setIfInBounds_toArray, List.set_cons_zero, List.set_cons_succ]
    refine wpParts_det (by rfl) (fun W hE hN => ?_) ?_
    · go_simp; refine ⟨Below.refl _ _, ?_⟩; refine (Try_plus _ _ _).mono ?_; rintro e w' ⟨rfl, hb⟩; refine ⟨?_, hb⟩; rfl
    simp only [Act.put, List.setIfInBounds_toArray, List.set_cons_zero, List.set_cons_succ]
    refine wpParts_any rfl (NewBlk.later) (by rfl) (fun W hE hN => ?_) (fun u7 => ?_)
    · go_simp; exact newBlk_alloc (cs := [.int .i64 0, .int .u64 0]) (by have := hE.size; simp at this; omega)
    simp only [Act.put, List.setIfInBounds_toArray, List.set_cons_zero, List.set_cons_succ]
    refine wpParts_end fun W1 hE1 hG1 => ?_
    have hcW1 := fun b o h => hE1.cell (p := ⟨b, o, none⟩) h
    have hfW1 := fun b o h => hE1.frozen (p := ⟨b, o, none⟩) h
    obtain ⟨p, rfl, hp, hblk⟩ := hG1.1
    have s1 := hE1.size
    simp at s1
    have c0 := hblk.cell 0 rfl
    have c1 := hblk.cell 1 rfl
    have f0 := hblk.frozen 0
    have f1 := hblk.frozen 1
    have lp := hblk.lt
    go_wp2_with fail
    have lb : w.heap.size < W1.heap.size := by omega
    have lb1 : w.heap.size + 1 < W1.heap.size := by omega
    have lb2 : w.heap.size + 1 + 1 < W1.heap.size := by omega
    refine' wp_region_seq [.inl _, .inl _, .inl _, .inl _, .inl _, .inl _, .inl _, .inl _, .inl _, .inl _, .inl _, .inl _, .inl _, .inl _, .inl _, .inl _] (by kernel_rfl) (by kernel_rfl) ?main2
    case main2 =>
      refine wpParts_det (by rfl) (fun W hE hN => ?_) ?_
      · have hc := fun b o h => hE.cell (p := ⟨b, o, none⟩) h
        go_simp; refine ⟨Below.refl _ _, ?_⟩; rfl
      simp only [Act.put, List.setIfInBounds_toArray, List.set_cons_zero, List.set_cons_succ]
      refine wpParts_det (by rfl) (fun W hE hN => ?_) ?_
      · go_simp; refine ⟨Below.refl _ _, ?_⟩; rfl
      simp only [Act.put, List.setIfInBounds_toArray, List.set_cons_zero, List.set_cons_succ]
      refine wpParts_det (by rfl) (fun W hE hN => ?_) ?_
      · have hc := fun b o h => hE.cell (p := ⟨b, o, none⟩) h
        go_simp; refine ⟨Below.refl _ _, ?_⟩; rfl
      simp only [Act.put, List.setIfInBounds_toArray, List.set_cons_zero, List.set_cons_succ]
      refine wpParts_det (by rfl) (fun W hE hN => ?_) ?_
      · go_simp; refine ⟨Below.refl _ _, ?_⟩; rfl
      simp only [Act.put, List.setIfInBounds_toArray, List.set_cons_zero, List.set_cons_succ]
      refine wpParts_det (by rfl) (fun W hE hN => ?_) ?_
      · have hc := fun b o h => hE.cell (p := ⟨b, o, none⟩) h
        go_simp; refine ⟨Below.refl _ _, ?_⟩; rfl
      simp only [Act.put, List.setIfInBounds_toArray, List.set_cons_zero, List.set_cons_succ]
      refine wpParts_det (by rfl) (fun W hE hN => ?_) ?_
      · go_simp; refine ⟨Below.refl _ _, ?_⟩; rfl
      simp only [Act.put, List.setIfInBounds_toArray, List.set_cons_zero, List.set_cons_succ]
      refine wpParts_det (by rfl) (fun W hE hN => ?_) ?_
      · go_simp; refine ⟨Below.refl _ _, ?_⟩; refine (Try_times _ _ _ (by assumption) hk0 hk).mono ?_; rintro e w' ⟨rfl, hb⟩; refine ⟨?_, hb⟩; rfl
      simp only [Act.put, List.setIfInBounds_toArray, List.set_cons_zero, List.set_cons_succ]
      refine wpParts_det (by rfl) (fun W hE hN => ?_) ?_
      · go_simp; refine ⟨Below.refl _ _, ?_⟩; refine (Try_plus _ _ _).mono ?_; rintro e w' ⟨rfl, hb⟩; refine ⟨?_, hb⟩; rfl
      simp only [Act.put, List.setIfInBounds_toArray, List.set_cons_zero, List.set_cons_succ]
      refine wpParts_det (by rfl) (fun W hE hN => ?_) ?_
      · have hc := fun b o h => hE.cell (p := ⟨b, o, none⟩) h
        go_simp; refine ⟨Below.refl _ _, ?_⟩; rfl
      simp only [Act.put, List.setIfInBounds_toArray, List.set_cons_zero, List.set_cons_succ]
      refine wpParts_det (by rfl) (fun W hE hN => ?_) ?_
      · go_simp; refine ⟨Below.refl _ _, ?_⟩; rfl
      simp only [Act.put, List.setIfInBounds_toArray, List.set_cons_zero, List.set_cons_succ]
      refine wpParts_det (by rfl) (fun W hE hN => ?_) ?_
      · have hc := fun b o h => hE.cell (p := ⟨b, o, none⟩) h
        go_simp; refine ⟨Below.refl _ _, ?_⟩; rfl
      simp only [Act.put, List.setIfInBounds_toArray, List.set_cons_zero, List.set_cons_succ]
      refine wpParts_det (by rfl) (fun W hE hN => ?_) ?_
      · go_simp; refine ⟨Below.refl _ _, ?_⟩; rfl
      simp only [Act.put, List.setIfInBounds_toArray, List.set_cons_zero, List.set_cons_succ]
      refine wpParts_det (by rfl) (fun W hE hN => ?_) ?_
      · have hc := fun b o h => hE.cell (p := ⟨b, o, none⟩) h
        go_simp; refine ⟨Below.refl _ _, ?_⟩; rfl
      simp only [Act.put, List.setIfInBounds_toArray, List.set_cons_zero, List.set_cons_succ]
      refine wpParts_det (by rfl) (fun W hE hN => ?_) ?_
      · go_simp; refine ⟨Below.refl _ _, ?_⟩; rfl
      simp only [Act.put, List.setIfInBounds_toArray, List.set_cons_zero, List.set_cons_succ]
      refine wpParts_det (by rfl) (fun W hE hN => ?_) ?_
      · go_simp; refine ⟨Below.refl _ _, ?_⟩; refine (Try_times _ _ _ (by assumption) hk0 hk).mono ?_; rintro e w' ⟨rfl, hb⟩; refine ⟨?_, hb⟩; rfl
      simp only [Act.put, List.setIfInBounds_toArray, List.set_cons_zero, List.set_cons_succ]
      refine wpParts_det (by rfl) (fun W hE hN => ?_) ?_
      · go_simp; refine ⟨Below.refl _ _, ?_⟩; refine (Try_plus _ _ _).mono ?_; rintro e w' ⟨rfl, hb⟩; refine ⟨?_, hb⟩; rfl
      simp only [Act.put, List.setIfInBounds_toArray, List.set_cons_zero, List.set_cons_succ]
      refine wpParts_end fun W2 hE2 hG2 => ?_
      have hcW2 := fun b o h => hE2.cell (p := ⟨b, o, none⟩) h
      have hfW2 := fun b o h => hE2.frozen (p := ⟨b, o, none⟩) h
      have s2 := hE2.size
      simp at s2
      have lc : w.heap.size < W2.heap.size := by omega
      have lc1 : w.heap.size + 1 < W2.heap.size := by omega
      have lc2 : w.heap.size + 1 + 1 < W2.heap.size := by omega
      go_wp2_with fail
      refine bodyPost_ret (v := .tuple #[.agg #[.int .i64 (hi (l + m + l * (n - 2))), .int .u64 (lo (l + m + l * (n - 2)))], .agg #[.int .i64 (hi (l + m + m * (n - 2))), .int .u64 (lo (l + m + m * (n - 2)))]])
        (by simp [results, Try.results65, go_sem, *]) rfl ⟨rfl, ?_⟩
      exact (by repeat (first | (with_reducible exact Below.refl _ _) | (with_reducible exact Below.refl _ _) | (with_reducible refine Below.setCell ?_ (by first | omega | (simp; done) | (simp; omega)) _) | (with_reducible refine Below.alloc ?_ (by first | omega | (simp; done) | (simp; omega)) _) | (with_reducible refine Below.drew ?_) | (with_reducible refine below_drewN ?_ _) | (with_reducible refine Below.trans ?_ (hE2.mono (by first | omega | (simp; done) | (simp; omega)))) | (with_reducible refine Below.trans ?_ (hE1.mono (by first | omega | (simp; done) | (simp; omega))))))
end Go.Proofs.Ytfhhcpolicdfpaa

namespace Go.Proofs.Ytfhhcpolicdfpaa
set_option linter.unusedVariables false
set_option linter.unusedSimpArgs false
open Go.RowKit Go.Dav
attribute [local go_sem] Gives ite_val ite_val_true

set_option maxRecDepth 4000 in
theorem Try_Check_bad (c n s l m : Int) (w : World) (h : n < 0 ∨ c < n ∨ 1073741824 < c) :
    Calls Try.prog 52 #[.agg #[.int .i64 c, .int .i64 n, .int .i64 (hi s), .int .u64 (lo s), .int .i64 l, .int .i64 m]] w fun e w' =>
      e = .returned (.int .i64 230) ∧ Below w.heap.size w w' := by
  by_cases h1 : c < 0
  · go_enter Try.func52, Try.ntmps52
    go_wp2
    go_ret
    exact ⟨rfl, (by repeat (first | (with_reducible exact Below.refl _ _) | (with_reducible exact Below.refl _ _) | (with_reducible refine Below.setCell ?_ (by first | omega | (simp; done) | (simp; omega)) _) | (with_reducible refine Below.alloc ?_ (by first | omega | (simp; done) | (simp; omega)) _) | (with_reducible refine Below.drew ?_) | (with_reducible refine below_drewN ?_ _)))⟩
  by_cases h2 : 1073741824 < c
  · go_enter Try.func52, Try.ntmps52
    go_wp2
    go_ret
    exact ⟨rfl, (by repeat (first | (with_reducible exact Below.refl _ _) | (with_reducible exact Below.refl _ _) | (with_reducible refine Below.setCell ?_ (by first | omega | (simp; done) | (simp; omega)) _) | (with_reducible refine Below.alloc ?_ (by first | omega | (simp; done) | (simp; omega)) _) | (with_reducible refine Below.drew ?_) | (with_reducible refine below_drewN ?_ _)))⟩
  by_cases h3 : n < 0
  · go_enter Try.func52, Try.ntmps52
    go_wp2
    go_ret
    exact ⟨rfl, (by repeat (first | (with_reducible exact Below.refl _ _) | (with_reducible exact Below.refl _ _) | (with_reducible refine Below.setCell ?_ (by first | omega | (simp; done) | (simp; omega)) _) | (with_reducible refine Below.alloc ?_ (by first | omega | (simp; done) | (simp; omega)) _) | (with_reducible refine Below.drew ?_) | (with_reducible refine below_drewN ?_ _)))⟩
  have h4 : c < n := by omega
  go_enter Try.func52, Try.ntmps52
  go_wp2
  go_ret
  exact ⟨rfl, (by repeat (first | (with_reducible exact Below.refl _ _) | (with_reducible exact Below.refl _ _) | (with_reducible refine Below.setCell ?_ (by first | omega | (simp; done) | (simp; omega)) _) | (with_reducible refine Below.alloc ?_ (by first | omega | (simp; done) | (simp; omega)) _) | (with_reducible refine Below.drew ?_) | (with_reducible refine below_drewN ?_ _)))⟩

set_option maxRecDepth 4000 in
theorem Try_Check_0 (c s l m : Int) (w : World) (h1 : 0 ≤ c) (h2 : c ≤ 1073741824) :
    Calls Try.prog 52 #[.agg #[.int .i64 c, .int .i64 0, .int .i64 (hi s), .int .u64 (lo s), .int .i64 l, .int .i64 m]] w fun e w' =>
      e = .returned (.int .i64 (redE (decide (hi s = 0 ∧ lo s = 0 ∧ l = 0 ∧ m = 0)))) ∧ Below w.heap.size w w' := by
  generalize hb : decide (hi s = 0 ∧ lo s = 0 ∧ l = 0 ∧ m = 0) = b
  have Hb := Lib.hid hb; clear hb
  go_enter Try.func52, Try.ntmps52
  go_wp2
  all_goals (go_ret; refine ⟨ret_int ?_, (by repeat (first | (with_reducible exact Below.refl _ _) | (with_reducible exact Below.refl _ _) | (with_reducible refine Below.setCell ?_ (by first | omega | (simp; done) | (simp; omega)) _) | (with_reducible refine Below.alloc ?_ (by first | omega | (simp; done) | (simp; omega)) _) | (with_reducible refine Below.drew ?_) | (with_reducible refine below_drewN ?_ _)))⟩; have hb := Hb.out; cases b <;> simp_all [redE] <;> omega)

set_option maxRecDepth 4000 in
theorem Try_Check_1 (c s l m : Int) (w : World) (h1 : 1 ≤ c) (h2 : c ≤ 1073741824) (hl : I64 l) :
    Calls Try.prog 52 #[.agg #[.int .i64 c, .int .i64 1, .int .i64 (hi s), .int .u64 (lo s), .int .i64 l, .int .i64 m]] w fun e w' =>
      e = .returned (.int .i64 (redE (decide (l = m ∧ hi s = hi l ∧ lo s = lo l)))) ∧ Below w.heap.size w w' := by
  generalize hb : decide (l = m ∧ hi s = hi l ∧ lo s = lo l) = b
  have Hb := Lib.hid hb; clear hb
  by_cases hlm : l = m
  · subst hlm
    go_enter Try.func52, Try.ntmps52
    go_wp2_with fail
    refine' wp_region_seq [.inl _, .inl _, .inl _, .inl _, .inl _, .inl _, .inl _, .inl _, .inl _, .inl _, .inl _, .inl _, .inl _, .inl _] (by kernel_rfl) (by kernel_rfl) ?main1
    case main1 =>
      refine wpParts_det (by rfl) (fun W hE hN => ?_) ?_
      · go_simp; refine ⟨Below.refl _ _, ?_⟩; rfl
      simp only [Act.put, List.setIfInBounds_toArray, List.set_cons_zero, List.set_cons_succ]
      refine wpParts_det (by rfl) (fun W hE hN => ?_) ?_
      · have hc := fun b o h => hE.cell (p := ⟨b, o, none⟩) h
        go_simp; refine ⟨Below.refl _ _, ?_⟩; rfl
      simp only [Act.put, List.setIfInBounds_toArray, List.set_cons_zero, List.set_cons_succ]
      refine wpParts_det (by rfl) (fun W hE hN => ?_) ?_
      · go_simp; refine ⟨Below.refl _ _, ?_⟩; rfl
      simp only [Act.put, List.setIfInBounds_toArray, List.set_cons_zero, List.set_cons_succ]
      refine wpParts_det (by rfl) (fun W hE hN => ?_) ?_
      · have hc := fun b o h => hE.cell (p := ⟨b, o, none⟩) h
        go_simp; refine ⟨Below.refl _ _, ?_⟩; rfl
      simp only [Act.put, List.setIfInBounds_toArray, List.set_cons_zero, List.set_cons_succ]
      refine wpParts_det (by rfl) (fun W hE hN => ?_) ?_
      · go_simp; refine ⟨Below.refl _ _, ?_⟩; rfl
      simp only [Act.put, List.setIfInBounds_toArray, List.set_cons_zero, List.set_cons_succ]
      refine wpParts_det (by rfl) (fun W hE hN => ?_) ?_
      · go_simp; refine ⟨Below.refl _ _, ?_⟩; rfl
      simp only [Act.put, List.setIfInBounds_toArray, List.set_cons_zero, List.set_cons_succ]
      refine wpParts_det (by rfl) (fun W hE hN => ?_) ?_
      · have hc := fun b o h => hE.cell (p := ⟨b, o, none⟩) h
        go_simp; refine ⟨Below.refl _ _, ?_⟩; rfl
      simp only [Act.put, List.setIfInBounds_toArray, List.set_cons_zero, List.set_cons_succ]
      refine wpParts_det (by rfl) (fun W hE hN => ?_) ?_
      · go_simp; refine ⟨Below.refl _ _, ?_⟩; refine (Try_total _ _ _ _ _ _).mono ?_; rintro e w' ⟨rfl, hb⟩; refine ⟨?_, hb⟩; rfl
      simp only [Act.put, List.setIfInBounds_toArray, List.set_cons_zero, List.set_cons_succ]
      refine wpParts_det (by rfl) (fun W hE hN => ?_) ?_
      · go_simp; refine ⟨Below.refl _ _, ?_⟩; rfl
      simp only [Act.put, List.setIfInBounds_toArray, List.set_cons_zero, List.set_cons_succ]
      refine wpParts_det (by rfl) (fun W hE hN => ?_) ?_
      · have hc := fun b o h => hE.cell (p := ⟨b, o, none⟩) h
        go_simp; refine ⟨Below.refl _ _, ?_⟩; rfl
      simp only [Act.put, List.setIfInBounds_toArray, List.set_cons_zero, List.set_cons_succ]
      refine wpParts_det (by rfl) (fun W hE hN => ?_) ?_
      · go_simp; refine ⟨Below.refl _ _, ?_⟩; refine (Try_of _ _ hl).mono ?_; rintro e w' ⟨rfl, hb⟩; refine ⟨?_, hb⟩; rfl
      simp only [Act.put, List.setIfInBounds_toArray, List.set_cons_zero, List.set_cons_succ]
      refine wpParts_det (by rfl) (fun W hE hN => ?_) ?_
      · go_simp; refine ⟨Below.refl _ _, ?_⟩; rfl
      simp only [Act.put, List.setIfInBounds_toArray, List.set_cons_zero, List.set_cons_succ]
      refine wpParts_det (by rfl) (fun W hE hN => ?_) ?_
      · go_simp; refine ⟨Below.refl _ _, ?_⟩; rfl
      simp only [Act.put, List.setIfInBounds_toArray, List.set_cons_zero, List.set_cons_succ]
      refine wpParts_det (by rfl) (fun W hE hN => ?_) ?_
      · go_simp; refine ⟨Below.refl _ _, ?_⟩; rfl
      simp only [Act.put, List.setIfInBounds_toArray, List.set_cons_zero, List.set_cons_succ]
      refine wpParts_end fun W1 hE1 hG1 => ?_
      have hcW1 := fun b o h => hE1.cell (p := ⟨b, o, none⟩) h
      have hfW1 := fun b o h => hE1.frozen (p := ⟨b, o, none⟩) h
      go_wp2
      all_goals (go_ret; refine ⟨ret_int ?_, (by repeat (first | (with_reducible exact Below.refl _ _) | (with_reducible exact Below.refl _ _) | (with_reducible refine Below.setCell ?_ (by first | omega | (simp; done) | (simp; omega)) _) | (with_reducible refine Below.alloc ?_ (by first | omega | (simp; done) | (simp; omega)) _) | (with_reducible refine Below.drew ?_) | (with_reducible refine below_drewN ?_ _) | (with_reducible refine Below.trans ?_ (hE1.mono (by first | omega | (simp; done) | (simp; omega))))))⟩; have hb := Hb.out; cases b <;> simp_all [redE] <;> omega)
  · have hlm' : (l == m) = false := by simpa using hlm
    have hd : decide (l = m) = false := by simpa using hlm
    go_enter Try.func52, Try.ntmps52
    go_wp2_with fail
    refine' wp_region_seq [.inl _, .inl _, .inl _, .inl _, .inl _, .inl _, .inl undef, .inl undef, .inl undef, .inl undef, .inl undef, .inl undef, .inl _, .inl _] (by kernel_rfl) (by kernel_rfl) ?main2
    case main2 =>
      refine wpParts_det (by rfl) (fun W hE hN => ?_) ?_
      · go_simp; refine ⟨Below.refl _ _, ?_⟩; rfl
      simp only [Act.put, List.setIfInBounds_toArray, List.set_cons_zero, List.set_cons_succ]
      refine wpParts_det (by rfl) (fun W hE hN => ?_) ?_
      · have hc := fun b o h => hE.cell (p := ⟨b, o, none⟩) h
        go_simp; refine ⟨Below.refl _ _, ?_⟩; rfl
      simp only [Act.put, List.setIfInBounds_toArray, List.set_cons_zero, List.set_cons_succ]
      refine wpParts_det (by rfl) (fun W hE hN => ?_) ?_
      · go_simp; refine ⟨Below.refl _ _, ?_⟩; rfl
      simp only [Act.put, List.setIfInBounds_toArray, List.set_cons_zero, List.set_cons_succ]
      refine wpParts_det (by rfl) (fun W hE hN => ?_) ?_
      · have hc := fun b o h => hE.cell (p := ⟨b, o, none⟩) h
        go_simp; refine ⟨Below.refl _ _, ?_⟩; rfl
      simp only [Act.put, List.setIfInBounds_toArray, List.set_cons_zero, List.set_cons_succ]
      refine wpParts_det (by rfl) (fun W hE hN => ?_) ?_
      · go_simp; refine ⟨Below.refl _ _, ?_⟩; rfl
      simp only [Act.put, List.setIfInBounds_toArray, List.set_cons_zero, List.set_cons_succ]
      refine wpParts_det (by rfl) (fun W hE hN => ?_) ?_
      · go_simp; refine ⟨Below.refl _ _, ?_⟩; rfl
      simp only [Act.put, List.setIfInBounds_toArray, List.set_cons_zero, List.set_cons_succ]
      refine wpParts_skip ?_ ?_
      · rfl
      simp only [Act.put, List.setIfInBounds_toArray, List.set_cons_zero, List.set_cons_succ]
      refine wpParts_skip ?_ ?_
      · rfl
      simp only [Act.put, List.setIfInBounds_toArray, List.set_cons_zero, List.set_cons_succ]
      refine wpParts_skip ?_ ?_
      · rfl
      simp only [Act.put, List.setIfInBounds_toArray, List.set_cons_zero, List.set_cons_succ]
      refine wpParts_skip ?_ ?_
      · rfl
      simp only [Act.put, List.setIfInBounds_toArray, List.set_cons_zero, List.set_cons_succ]
      refine wpParts_skip ?_ ?_
      · rfl
      simp only [Act.put, List.setIfInBounds_toArray, List.set_cons_zero, List.set_cons_succ]
      refine wpParts_skip ?_ ?_
      · rfl
      simp only [Act.put, List.setIfInBounds_toArray, List.set_cons_zero, List.set_cons_succ]
      refine wpParts_det (by rfl) (fun W hE hN => ?_) ?_
      · go_simp; refine ⟨Below.refl _ _, ?_⟩; rfl
      simp only [Act.put, List.setIfInBounds_toArray, List.set_cons_zero, List.set_cons_succ]
      refine wpParts_det (by rfl) (fun W hE hN => ?_) ?_
      · go_simp; refine ⟨Below.refl _ _, ?_⟩; rfl
      simp only [Act.put, List.setIfInBounds_toArray, List.set_cons_zero, List.set_cons_succ]
      refine wpParts_end fun W1 hE1 hG1 => ?_
      have hcW1 := fun b o h => hE1.cell (p := ⟨b, o, none⟩) h
      have hfW1 := fun b o h => hE1.frozen (p := ⟨b, o, none⟩) h
      go_wp2
      all_goals (go_ret; refine ⟨ret_int ?_, (by repeat (first | (with_reducible exact Below.refl _ _) | (with_reducible exact Below.refl _ _) | (with_reducible refine Below.setCell ?_ (by first | omega | (simp; done) | (simp; omega)) _) | (with_reducible refine Below.alloc ?_ (by first | omega | (simp; done) | (simp; omega)) _) | (with_reducible refine Below.drew ?_) | (with_reducible refine below_drewN ?_ _) | (with_reducible refine Below.trans ?_ (hE1.mono (by first | omega | (simp; done) | (simp; omega))))))⟩; have hb := Hb.out; cases b <;> simp_all [redE] <;> omega)

set_option maxRecDepth 4000 in
theorem Try_Check_2 (c n s l m : Int) (w : World) (h0 : 2 ≤ n) (h1 : n ≤ c) (h2 : c ≤ 1073741824) (hl : I64 l) (hm : I64 m) :
    Calls Try.prog 52 #[.agg #[.int .i64 c, .int .i64 n, .int .i64 (hi s), .int .u64 (lo s), .int .i64 l, .int .i64 m]] w fun e w' =>
      e = .returned (.int .i64 (redE (decide (l ≤ m) && (!aboveB (l + m + l * (n - 2)) s && !aboveB s (l + m + m * (n - 2)))))) ∧ Below w.heap.size w w' := by
  generalize hb : (decide (l ≤ m) && (!aboveB (l + m + l * (n - 2)) s && !aboveB s (l + m + m * (n - 2)))) = b
  have Hb := Lib.hid hb; clear hb
  have hn' : I64 n := by unfold I64; omega
  by_cases hlm : l ≤ m
  · go_enter Try.func52, Try.ntmps52
    go_wp2_with fail
    refine (Try_bounds _ _ _ _ _ _ h0 hn' hl hm).mono ?_; rintro e w1 ⟨rfl, hb1⟩; obtain ⟨hc1, hf1, hs1⟩ := after hb1
    simp at hs1
    have lt_w1_0_0 : w.heap.size < w1.heap.size := by omega
    have lt_w1_0_1 : w.heap.size < w1.heap.size + 1 := by omega
    have lt_w1_0_2 : w.heap.size < w1.heap.size + 1 + 1 := by omega
    generalize g1 : l + m + l * (n - 2) = x at *
    generalize g2 : l + m + m * (n - 2) = y at *
    clear g1 g2
    by_cases ha : aboveB x s = true
    · go_wp2_with fail
      refine' wp_region_seq [.inl _, .inl _, .inl _, .inl _, .inl _, .inl _, .inl _, .inl _, .inl _, .inl _, .inl _, .inl _, .inl _, .inl undef, .inl undef, .inl undef, .inl undef, .inl undef, .inl _, .inl _] (by kernel_rfl) (by kernel_rfl) ?main3
      case main3 =>
        refine wpParts_det (by rfl) (fun W hE hN => ?_) ?_
        · go_simp; refine ⟨Below.refl _ _, ?_⟩; rfl
        simp only [Act.put, List.setIfInBounds_toArray, List.set_cons_zero, List.set_cons_succ]
        refine wpParts_det (by rfl) (fun W hE hN => ?_) ?_
        · have hc := fun b o h => hE.cell (p := ⟨b, o, none⟩) h
          go_simp; refine ⟨Below.refl _ _, ?_⟩; rfl
        simp only [Act.put, List.setIfInBounds_toArray, List.set_cons_zero, List.set_cons_succ]
        refine wpParts_det (by rfl) (fun W hE hN => ?_) ?_
        · go_simp; refine ⟨Below.refl _ _, ?_⟩; rfl
        simp only [Act.put, List.setIfInBounds_toArray, List.set_cons_zero, List.set_cons_succ]
        refine wpParts_det (by rfl) (fun W hE hN => ?_) ?_
        · have hc := fun b o h => hE.cell (p := ⟨b, o, none⟩) h
          go_simp; refine ⟨Below.refl _ _, ?_⟩; rfl
        simp only [Act.put, List.setIfInBounds_toArray, List.set_cons_zero, List.set_cons_succ]
        refine wpParts_det (by rfl) (fun W hE hN => ?_) ?_
        · go_simp; refine ⟨Below.refl _ _, ?_⟩; rfl
        simp only [Act.put, List.setIfInBounds_toArray, List.set_cons_zero, List.set_cons_succ]
        refine wpParts_det (by rfl) (fun W hE hN => ?_) ?_
        · go_simp; refine ⟨Below.refl _ _, ?_⟩; rfl
        simp only [Act.put, List.setIfInBounds_toArray, List.set_cons_zero, List.set_cons_succ]
        refine wpParts_det (by rfl) (fun W hE hN => ?_) ?_
        · have hc := fun b o h => hE.cell (p := ⟨b, o, none⟩) h
          go_simp; refine ⟨Below.refl _ _, ?_⟩; rfl
        simp only [Act.put, List.setIfInBounds_toArray, List.set_cons_zero, List.set_cons_succ]
        refine wpParts_det (by rfl) (fun W hE hN => ?_) ?_
        · have hc := fun b o h => hE.cell (p := ⟨b, o, none⟩) h
          go_simp; refine ⟨Below.refl _ _, ?_⟩; rfl
        simp only [Act.put, List.setIfInBounds_toArray, List.set_cons_zero, List.set_cons_succ]
        refine wpParts_det (by rfl) (fun W hE hN => ?_) ?_
        · go_simp; refine ⟨Below.refl _ _, ?_⟩; refine (Try_total _ _ _ _ _ _).mono ?_; rintro e w' ⟨rfl, hb⟩; refine ⟨?_, hb⟩; rfl
        simp only [Act.put, List.setIfInBounds_toArray, List.set_cons_zero, List.set_cons_succ]
        refine wpParts_det (by rfl) (fun W hE hN => ?_) ?_
        · go_simp; refine ⟨Below.refl _ _, ?_⟩; refine (Try_above _ _ _).mono ?_; rintro e w' ⟨rfl, hb⟩; refine ⟨?_, hb⟩; rfl
        simp only [Act.put, List.setIfInBounds_toArray, List.set_cons_zero, List.set_cons_succ]
        refine wpParts_det (by rfl) (fun W hE hN => ?_) ?_
        · go_simp; refine ⟨Below.refl _ _, ?_⟩; rfl
        simp only [Act.put, List.setIfInBounds_toArray, List.set_cons_zero, List.set_cons_succ]
        refine wpParts_det (by rfl) (fun W hE hN => ?_) ?_
        · go_simp; refine ⟨Below.refl _ _, ?_⟩; rfl
        simp only [Act.put, List.setIfInBounds_toArray, List.set_cons_zero, List.set_cons_succ]
        refine wpParts_det (by rfl) (fun W hE hN => ?_) ?_
        · go_simp; refine ⟨Below.refl _ _, ?_⟩; rfl
        simp only [Act.put, List.setIfInBounds_toArray, List.set_cons_zero, List.set_cons_succ]
        refine wpParts_skip ?_ ?_
        · rfl
        simp only [Act.put, List.setIfInBounds_toArray, List.set_cons_zero, List.set_cons_succ]
        refine wpParts_skip ?_ ?_
        · rfl
        simp only [Act.put, List.setIfInBounds_toArray, List.set_cons_zero, List.set_cons_succ]
        refine wpParts_skip ?_ ?_
        · rfl
        simp only [Act.put, List.setIfInBounds_toArray, List.set_cons_zero, List.set_cons_succ]
        refine wpParts_skip ?_ ?_
        · rfl
        simp only [Act.put, List.setIfInBounds_toArray, List.set_cons_zero, List.set_cons_succ]
        refine wpParts_skip ?_ ?_
        · rfl
        simp only [Act.put, List.setIfInBounds_toArray, List.set_cons_zero, List.set_cons_succ]
        refine wpParts_det (by rfl) (fun W hE hN => ?_) ?_
        · go_simp; refine ⟨Below.refl _ _, ?_⟩; rfl
        simp only [Act.put, List.setIfInBounds_toArray, List.set_cons_zero, List.set_cons_succ]
        refine wpParts_det (by rfl) (fun W hE hN => ?_) ?_
        · go_simp; refine ⟨Below.refl _ _, ?_⟩; rfl
        simp only [Act.put, List.setIfInBounds_toArray, List.set_cons_zero, List.set_cons_succ]
        refine wpParts_end fun W2 hE2 hG2 => ?_
        have hcW2 := fun b o h => hE2.cell (p := ⟨b, o, none⟩) h
        have hfW2 := fun b o h => hE2.frozen (p := ⟨b, o, none⟩) h
        go_wp2
        all_goals (go_ret; refine ⟨ret_int ?_, (by repeat (first | (with_reducible exact Below.refl _ _) | (with_reducible exact Below.refl _ _) | (with_reducible refine Below.setCell ?_ (by first | omega | (simp; done) | (simp; omega)) _) | (with_reducible refine Below.alloc ?_ (by first | omega | (simp; done) | (simp; omega)) _) | (with_reducible refine Below.drew ?_) | (with_reducible refine below_drewN ?_ _) | (with_reducible refine Below.trans ?_ (hE2.mono (by first | omega | (simp; done) | (simp; omega)))) | (with_reducible refine Below.trans ?_ (hb1.mono (by first | omega | (simp; done) | (simp; omega))))))⟩; have hb := Hb.out; cases b <;> simp_all [redE] <;> omega)
    · have ha' : aboveB x s = false := by simpa using ha
      clear ha
      go_wp2_with fail
      refine' wp_region_seq [.inl _, .inl _, .inl _, .inl _, .inl _, .inl _, .inl _, .inl _, .inl _, .inl _, .inl _, .inl _, .inl _, .inl _, .inl _, .inl _, .inl _, .inl _, .inl _, .inl _] (by kernel_rfl) (by kernel_rfl) ?main4
      case main4 =>
        refine wpParts_det (by rfl) (fun W hE hN => ?_) ?_
        · go_simp; refine ⟨Below.refl _ _, ?_⟩; rfl
        simp only [Act.put, List.setIfInBounds_toArray, List.set_cons_zero, List.set_cons_succ]
        refine wpParts_det (by rfl) (fun W hE hN => ?_) ?_
        · have hc := fun b o h => hE.cell (p := ⟨b, o, none⟩) h
          go_simp; refine ⟨Below.refl _ _, ?_⟩; rfl
        simp only [Act.put, List.setIfInBounds_toArray, List.set_cons_zero, List.set_cons_succ]
        refine wpParts_det (by rfl) (fun W hE hN => ?_) ?_
        · go_simp; refine ⟨Below.refl _ _, ?_⟩; rfl
        simp only [Act.put, List.setIfInBounds_toArray, List.set_cons_zero, List.set_cons_succ]
        refine wpParts_det (by rfl) (fun W hE hN => ?_) ?_
        · have hc := fun b o h => hE.cell (p := ⟨b, o, none⟩) h
          go_simp; refine ⟨Below.refl _ _, ?_⟩; rfl
        simp only [Act.put, List.setIfInBounds_toArray, List.set_cons_zero, List.set_cons_succ]
        refine wpParts_det (by rfl) (fun W hE hN => ?_) ?_
        · go_simp; refine ⟨Below.refl _ _, ?_⟩; rfl
        simp only [Act.put, List.setIfInBounds_toArray, List.set_cons_zero, List.set_cons_succ]
        refine wpParts_det (by rfl) (fun W hE hN => ?_) ?_
        · go_simp; refine ⟨Below.refl _ _, ?_⟩; rfl
        simp only [Act.put, List.setIfInBounds_toArray, List.set_cons_zero, List.set_cons_succ]
        refine wpParts_det (by rfl) (fun W hE hN => ?_) ?_
        · have hc := fun b o h => hE.cell (p := ⟨b, o, none⟩) h
          go_simp; refine ⟨Below.refl _ _, ?_⟩; rfl
        simp only [Act.put, List.setIfInBounds_toArray, List.set_cons_zero, List.set_cons_succ]
        refine wpParts_det (by rfl) (fun W hE hN => ?_) ?_
        · have hc := fun b o h => hE.cell (p := ⟨b, o, none⟩) h
          go_simp; refine ⟨Below.refl _ _, ?_⟩; rfl
        simp only [Act.put, List.setIfInBounds_toArray, List.set_cons_zero, List.set_cons_succ]
        refine wpParts_det (by rfl) (fun W hE hN => ?_) ?_
        · go_simp; refine ⟨Below.refl _ _, ?_⟩; refine (Try_total _ _ _ _ _ _).mono ?_; rintro e w' ⟨rfl, hb⟩; refine ⟨?_, hb⟩; rfl
        simp only [Act.put, List.setIfInBounds_toArray, List.set_cons_zero, List.set_cons_succ]
        refine wpParts_det (by rfl) (fun W hE hN => ?_) ?_
        · go_simp; refine ⟨Below.refl _ _, ?_⟩; refine (Try_above _ _ _).mono ?_; rintro e w' ⟨rfl, hb⟩; refine ⟨?_, hb⟩; rfl
        simp only [Act.put, List.setIfInBounds_toArray, List.set_cons_zero, List.set_cons_succ]
        refine wpParts_det (by rfl) (fun W hE hN => ?_) ?_
        · go_simp; refine ⟨Below.refl _ _, ?_⟩; rfl
        simp only [Act.put, List.setIfInBounds_toArray, List.set_cons_zero, List.set_cons_succ]
        refine wpParts_det (by rfl) (fun W hE hN => ?_) ?_
        · go_simp; refine ⟨Below.refl _ _, ?_⟩; rfl
        simp only [Act.put, List.setIfInBounds_toArray, List.set_cons_zero, List.set_cons_succ]
        refine wpParts_det (by rfl) (fun W hE hN => ?_) ?_
        · go_simp; refine ⟨Below.refl _ _, ?_⟩; rfl
        simp only [Act.put, List.setIfInBounds_toArray, List.set_cons_zero, List.set_cons_succ]
        refine wpParts_det (by rfl) (fun W hE hN => ?_) ?_
        · have hc := fun b o h => hE.cell (p := ⟨b, o, none⟩) h
          go_simp; refine ⟨Below.refl _ _, ?_⟩; rfl
        simp only [Act.put, List.setIfInBounds_toArray, List.set_cons_zero, List.set_cons_succ]
        refine wpParts_det (by rfl) (fun W hE hN => ?_) ?_
        · go_simp; refine ⟨Below.refl _ _, ?_⟩; refine (Try_total _ _ _ _ _ _).mono ?_; rintro e w' ⟨rfl, hb⟩; refine ⟨?_, hb⟩; rfl
        simp only [Act.put, List.setIfInBounds_toArray, List.set_cons_zero, List.set_cons_succ]
        refine wpParts_det (by rfl) (fun W hE hN => ?_) ?_
        · have hc := fun b o h => hE.cell (p := ⟨b, o, none⟩) h
          go_simp; refine ⟨Below.refl _ _, ?_⟩; rfl
        simp only [Act.put, List.setIfInBounds_toArray, List.set_cons_zero, List.set_cons_succ]
        refine wpParts_det (by rfl) (fun W hE hN => ?_) ?_
        · go_simp; refine ⟨Below.refl _ _, ?_⟩; refine (Try_above _ _ _).mono ?_; rintro e w' ⟨rfl, hb⟩; refine ⟨?_, hb⟩; rfl
        simp only [Act.put, List.setIfInBounds_toArray, List.set_cons_zero, List.set_cons_succ]
        refine wpParts_det (by rfl) (fun W hE hN => ?_) ?_
        · go_simp; refine ⟨Below.refl _ _, ?_⟩; rfl
        simp only [Act.put, List.setIfInBounds_toArray, List.set_cons_zero, List.set_cons_succ]
        refine wpParts_det (by rfl) (fun W hE hN => ?_) ?_
        · go_simp; refine ⟨Below.refl _ _, ?_⟩; rfl
        simp only [Act.put, List.setIfInBounds_toArray, List.set_cons_zero, List.set_cons_succ]
        refine wpParts_det (by rfl) (fun W hE hN => ?_) ?_
        · go_simp; refine ⟨Below.refl _ _, ?_⟩; rfl
        simp only [Act.put, List.setIfInBounds_toArray, List.set_cons_zero, List.set_cons_succ]
        refine wpParts_end fun W2 hE2 hG2 => ?_
        have hcW2 := fun b o h => hE2.cell (p := ⟨b, o, none⟩) h
        have hfW2 := fun b o h => hE2.frozen (p := ⟨b, o, none⟩) h
        go_wp2
        all_goals (go_ret; refine ⟨ret_int ?_, (by repeat (first | (with_reducible exact Below.refl _ _) | (with_reducible exact Below.refl _ _) | (with_reducible refine Below.setCell ?_ (by first | omega | (simp; done) | (simp; omega)) _) | (with_reducible refine Below.alloc ?_ (by first | omega | (simp; done) | (simp; omega)) _) | (with_reducible refine Below.drew ?_) | (with_reducible refine below_drewN ?_ _) | (with_reducible refine Below.trans ?_ (hE2.mono (by first | omega | (simp; done) | (simp; omega)))) | (with_reducible refine Below.trans ?_ (hb1.mono (by first | omega | (simp; done) | (simp; omega))))))⟩; have hb := Hb.out; cases b <;> simp_all [redE] <;> omega)
  · have hd : decide (l ≤ m) = false := by simpa using hlm
    go_enter Try.func52, Try.ntmps52
    go_wp2_with fail
    refine (Try_bounds _ _ _ _ _ _ h0 hn' hl hm).mono ?_; rintro e w1 ⟨rfl, hb1⟩; obtain ⟨hc1, hf1, hs1⟩ := after hb1
    simp at hs1
    have lt_w1_0_0 : w.heap.size < w1.heap.size := by omega
    have lt_w1_0_1 : w.heap.size < w1.heap.size + 1 := by omega
    have lt_w1_0_2 : w.heap.size < w1.heap.size + 1 + 1 := by omega
    generalize g1 : l + m + l * (n - 2) = x at *
    generalize g2 : l + m + m * (n - 2) = y at *
    clear g1 g2
    go_wp2_with fail
    refine' wp_region_seq [.inl _, .inl _, .inl _, .inl _, .inl _, .inl _, .inl undef, .inl undef, .inl undef, .inl undef, .inl undef, .inl _, .inl _, .inl undef, .inl undef, .inl undef, .inl undef, .inl undef, .inl _, .inl _] (by kernel_rfl) (by kernel_rfl) ?main5
    case main5 =>
      refine wpParts_det (by rfl) (fun W hE hN => ?_) ?_
      · go_simp; refine ⟨Below.refl _ _, ?_⟩; rfl
      simp only [Act.put, List.setIfInBounds_toArray, List.set_cons_zero, List.set_cons_succ]
      refine wpParts_det (by rfl) (fun W hE hN => ?_) ?_
      · have hc := fun b o h => hE.cell (p := ⟨b, o, none⟩) h
        go_simp; refine ⟨Below.refl _ _, ?_⟩; rfl
      simp only [Act.put, List.setIfInBounds_toArray, List.set_cons_zero, List.set_cons_succ]
      refine wpParts_det (by rfl) (fun W hE hN => ?_) ?_
      · go_simp; refine ⟨Below.refl _ _, ?_⟩; rfl
      simp only [Act.put, List.setIfInBounds_toArray, List.set_cons_zero, List.set_cons_succ]
      refine wpParts_det (by rfl) (fun W hE hN => ?_) ?_
      · have hc := fun b o h => hE.cell (p := ⟨b, o, none⟩) h
        go_simp; refine ⟨Below.refl _ _, ?_⟩; rfl
      simp only [Act.put, List.setIfInBounds_toArray, List.set_cons_zero, List.set_cons_succ]
      refine wpParts_det (by rfl) (fun W hE hN => ?_) ?_
      · go_simp; refine ⟨Below.refl _ _, ?_⟩; rfl
      simp only [Act.put, List.setIfInBounds_toArray, List.set_cons_zero, List.set_cons_succ]
      refine wpParts_det (by rfl) (fun W hE hN => ?_) ?_
      · go_simp; refine ⟨Below.refl _ _, ?_⟩; rfl
      simp only [Act.put, List.setIfInBounds_toArray, List.set_cons_zero, List.set_cons_succ]
      refine wpParts_skip ?_ ?_
      · rfl
      simp only [Act.put, List.setIfInBounds_toArray, List.set_cons_zero, List.set_cons_succ]
      refine wpParts_skip ?_ ?_
      · rfl
      simp only [Act.put, List.setIfInBounds_toArray, List.set_cons_zero, List.set_cons_succ]
      refine wpParts_skip ?_ ?_
      · rfl
      simp only [Act.put, List.setIfInBounds_toArray, List.set_cons_zero, List.set_cons_succ]
      refine wpParts_skip ?_ ?_
      · rfl
      simp only [Act.put, List.setIfInBounds_toArray, List.set_cons_zero, List.set_cons_succ]
      refine wpParts_skip ?_ ?_
      · rfl
      simp only [Act.put, List.setIfInBounds_toArray, List.set_cons_zero, List.set_cons_succ]
      refine wpParts_det (by rfl) (fun W hE hN => ?_) ?_
      · go_simp; refine ⟨Below.refl _ _, ?_⟩; rfl
      simp only [Act.put, List.setIfInBounds_toArray, List.set_cons_zero, List.set_cons_succ]
      refine wpParts_det (by rfl) (fun W hE hN => ?_) ?_
      · go_simp; refine ⟨Below.refl _ _, ?_⟩; rfl
      simp only [Act.put, List.setIfInBounds_toArray, List.set_cons_zero, List.set_cons_succ]
      refine wpParts_skip ?_ ?_
      · rfl
      simp only [Act.put, List.setIfInBounds_toArray, List.set_cons_zero, List.set_cons_succ]
      refine wpParts_skip ?_ ?_
      · rfl
      simp only [Act.put, List.setIfInBounds_toArray, List.set_cons_zero, List.set_cons_succ]
      refine wpParts_skip ?_ ?_
      · rfl
      simp only [Act.put, List.setIfInBounds_toArray, List.set_cons_zero, List.set_cons_succ]
      refine wpParts_skip ?_ ?_
      · rfl
      simp only [Act.put, List.setIfInBounds_toArray, List.set_cons_zero, List.set_cons_succ]
      refine wpParts_skip ?_ ?_
      · rfl
      simp only [Act.put, List.setIfInBounds_toArray, List.set_cons_zero, List.set_cons_succ]
      refine wpParts_det (by rfl) (fun W hE hN => ?_) ?_
      · go_simp; refine ⟨Below.refl _ _, ?_⟩; rfl
      simp only [Act.put, List.setIfInBounds_toArray, List.set_cons_zero, List.set_cons_succ]
      refine wpParts_det (by rfl) (fun W hE hN => ?_) ?_
      · go_simp; refine ⟨Below.refl _ _, ?_⟩; rfl
      simp only [Act.put, List.setIfInBounds_toArray, List.set_cons_zero, List.set_cons_succ]
      refine wpParts_end fun W2 hE2 hG2 => ?_
      have hcW2 := fun b o h => hE2.cell (p := ⟨b, o, none⟩) h
      have hfW2 := fun b o h => hE2.frozen (p := ⟨b, o, none⟩) h
      go_wp2
      all_goals (go_ret; refine ⟨ret_int ?_, (by repeat (first | (with_reducible exact Below.refl _ _) | (with_reducible exact Below.refl _ _) | (with_reducible refine Below.setCell ?_ (by first | omega | (simp; done) | (simp; omega)) _) | (with_reducible refine Below.alloc ?_ (by first | omega | (simp; done) | (simp; omega)) _) | (with_reducible refine Below.drew ?_) | (with_reducible refine below_drewN ?_ _) | (with_reducible refine Below.trans ?_ (hE2.mono (by first | omega | (simp; done) | (simp; omega)))) | (with_reducible refine Below.trans ?_ (hb1.mono (by first | omega | (simp; done) | (simp; omega))))))⟩; have hb := Hb.out; cases b <;> simp_all [redE] <;> omega)
end Go.Proofs.Ytfhhcpolicdfpaa

namespace Go.Proofs.Ytfhhcpolicdfpaa
set_option linter.unusedVariables false
set_option linter.unusedSimpArgs false
open Go.RowKit Go.Dav
attribute [local go_sem] Gives ite_val ite_val_true

theorem Try_rOf (n : Int) (w : World) (h : I64 n) :
    Calls Try.prog 72 #[.int .i64 n] w fun e w' => e = .returned (.agg #[.int .i64 (hi n), .int .u64 (lo n)]) ∧ Below w.heap.size w w' := by
  have e2 := lo_of n
  by_cases hn : n < 0
  · rw [hi_neg h hn]
    clear h
    have H2 := Lib.hid e2; clear e2
    go_enter Try.func72, Try.ntmps72
    go_wp2
    refine bodyPost_ret (v := .agg #[.int .i64 (-1), .int .u64 (lo n)]) (by simp [results, Try.results72, go_sem, H2.out]) rfl ⟨rfl, ?_⟩
    exact (by repeat (first | (with_reducible exact Below.refl _ _) | (with_reducible exact Below.refl _ _) | (with_reducible refine Below.setCell ?_ (by first | omega | (simp; done) | (simp; omega)) _) | (with_reducible refine Below.alloc ?_ (by first | omega | (simp; done) | (simp; omega)) _) | (with_reducible refine Below.drew ?_) | (with_reducible refine below_drewN ?_ _)))
  · rw [hi_pos h hn]
    clear h
    have H2 := Lib.hid e2; clear e2
    go_enter Try.func72, Try.ntmps72
    go_wp2
    refine bodyPost_ret (v := .agg #[.int .i64 0, .int .u64 (lo n)]) (by simp [results, Try.results72, go_sem, H2.out]) rfl ⟨rfl, ?_⟩
    exact (by repeat (first | (with_reducible exact Below.refl _ _) | (with_reducible exact Below.refl _ _) | (with_reducible refine Below.setCell ?_ (by first | omega | (simp; done) | (simp; omega)) _) | (with_reducible refine Below.alloc ?_ (by first | omega | (simp; done) | (simp; omega)) _) | (with_reducible refine Below.drew ?_) | (with_reducible refine below_drewN ?_ _)))

theorem Try_rWhole (c n s l m : Int) (w : World) :
    Calls Try.prog 71 #[.agg #[.int .i64 c, .int .i64 n, .int .i64 (hi s), .int .u64 (lo s), .int .i64 l, .int .i64 m]] w fun e w' =>
      e = .returned (.agg #[.int .i64 (hi s), .int .u64 (lo s)]) ∧ Below w.heap.size w w' := by
  go_enter Try.func71, Try.ntmps71
  go_wp2
  refine bodyPost_ret (v := .agg #[.int .i64 (hi s), .int .u64 (lo s)]) (by simp [results, Try.results71, go_sem]) rfl ⟨rfl, ?_⟩
  exact (by repeat (first | (with_reducible exact Below.refl _ _) | (with_reducible exact Below.refl _ _) | (with_reducible refine Below.setCell ?_ (by first | omega | (simp; done) | (simp; omega)) _) | (with_reducible refine Below.alloc ?_ (by first | omega | (simp; done) | (simp; omega)) _) | (with_reducible refine Below.drew ?_) | (with_reducible refine below_drewN ?_ _)))

theorem Try_rAdd (x y : Int) (w : World) :
    Calls Try.prog 70 #[.agg #[.int .i64 (hi x), .int .u64 (lo x)], .agg #[.int .i64 (hi y), .int .u64 (lo y)]] w fun e w' =>
      e = .returned (.agg #[.int .i64 (hi (x + y)), .int .u64 (lo (x + y))]) ∧ Below w.heap.size w w' := by
  have el := lo_add x y
  have en := notLo_eq x
  by_cases h : notLo x < lo y
  · have e1 := carry_yes x y h
    go_enter Try.func70, Try.ntmps70
    go_wp2
    refine bodyPost_ret (v := .agg #[.int .i64 (hi (x + y)), .int .u64 (lo (x + y))]) (by simp [results, Try.results70, go_sem]) rfl ⟨rfl, ?_⟩
    exact (by repeat (first | (with_reducible exact Below.refl _ _) | (with_reducible exact Below.refl _ _) | (with_reducible refine Below.setCell ?_ (by first | omega | (simp; done) | (simp; omega)) _) | (with_reducible refine Below.alloc ?_ (by first | omega | (simp; done) | (simp; omega)) _) | (with_reducible refine Below.drew ?_) | (with_reducible refine below_drewN ?_ _)))
  · have e1 := hi_add_no' x y h
    have e2 := wrap64_hi (x + y)
    go_enter Try.func70, Try.ntmps70
    go_wp2
    refine bodyPost_ret (v := .agg #[.int .i64 (hi (x + y)), .int .u64 (lo (x + y))]) (by simp [results, Try.results70, go_sem]) rfl ⟨rfl, ?_⟩
    exact (by repeat (first | (with_reducible exact Below.refl _ _) | (with_reducible exact Below.refl _ _) | (with_reducible refine Below.setCell ?_ (by first | omega | (simp; done) | (simp; omega)) _) | (with_reducible refine Below.alloc ?_ (by first | omega | (simp; done) | (simp; omega)) _) | (with_reducible refine Below.drew ?_) | (with_reducible refine below_drewN ?_ _)))

theorem Try_rLess (x y : Int) (w : World) :
    Calls Try.prog 74 #[.agg #[.int .i64 (hi x), .int .u64 (lo x)], .agg #[.int .i64 (hi y), .int .u64 (lo y)]] w fun e w' =>
      e = .returned (.bool (aboveB y x)) ∧ Below w.heap.size w w' := by
  rw [← less_key]
  generalize hi x = a
  generalize hi y = b
  generalize lo x = c
  generalize lo y = d
  by_cases g : a = b
  · rw [if_pos g]
    subst g
    go_enter Try.func74, Try.ntmps74
    go_wp2
    go_ret
    exact ⟨rfl, (by repeat (first | (with_reducible exact Below.refl _ _) | (with_reducible exact Below.refl _ _) | (with_reducible refine Below.setCell ?_ (by first | omega | (simp; done) | (simp; omega)) _) | (with_reducible refine Below.alloc ?_ (by first | omega | (simp; done) | (simp; omega)) _) | (with_reducible refine Below.drew ?_) | (with_reducible refine below_drewN ?_ _)))⟩
  · rw [if_neg g]
    have g3 : (a == b) = false := by simpa using g
    go_enter Try.func74, Try.ntmps74
    go_wp2
    go_ret
    exact ⟨rfl, (by repeat (first | (with_reducible exact Below.refl _ _) | (with_reducible exact Below.refl _ _) | (with_reducible refine Below.setCell ?_ (by first | omega | (simp; done) | (simp; omega)) _) | (with_reducible refine Below.alloc ?_ (by first | omega | (simp; done) | (simp; omega)) _) | (with_reducible refine Below.drew ?_) | (with_reducible refine below_drewN ?_ _)))⟩

set_option maxHeartbeats 4000000 in
theorem Try_rTimes (f : Nat) : ∀ (x k : Int) (w : World), k ≤ f → I64 x → 0 ≤ k → I64 k →
    Calls Try.prog 73 #[.int .i64 x, .int .i64 k] w fun e w' => e = .returned (.agg #[.int .i64 (hi (x * k)), .int .u64 (lo (x * k))]) ∧ Below w.heap.size w w' := by
  induction f with
  | zero =>
    intro x k w hk hx h0 _
    obtain rfl : k = 0 := by omega
    rw [Int.mul_zero, hi_zero, lo_zero]
    clear hx hk h0
    go_enter Try.func73, Try.ntmps73
    go_wp2
    refine bodyPost_ret (v := .agg #[.int .i64 0, .int .u64 0]) (by simp [results, Try.results73, go_sem]) rfl ⟨rfl, ?_⟩
    exact (by repeat (first | (with_reducible exact Below.refl _ _) | (with_reducible exact Below.refl _ _) | (with_reducible refine Below.setCell ?_ (by first | omega | (simp; done) | (simp; omega)) _) | (with_reducible refine Below.alloc ?_ (by first | omega | (simp; done) | (simp; omega)) _) | (with_reducible refine Below.drew ?_) | (with_reducible refine below_drewN ?_ _)))
  | succ f ih =>
    intro x k w hk hx h0 hk64
    by_cases hz : k = 0
    · subst hz
      rw [Int.mul_zero, hi_zero, lo_zero]
      clear hx hk h0 ih
      go_enter Try.func73, Try.ntmps73
      go_wp2
      refine bodyPost_ret (v := .agg #[.int .i64 0, .int .u64 0]) (by simp [results, Try.results73, go_sem]) rfl ⟨rfl, ?_⟩
      exact (by repeat (first | (with_reducible exact Below.refl _ _) | (with_reducible exact Below.refl _ _) | (with_reducible refine Below.setCell ?_ (by first | omega | (simp; done) | (simp; omega)) _) | (with_reducible refine Below.alloc ?_ (by first | omega | (simp; done) | (simp; omega)) _) | (with_reducible refine Below.drew ?_) | (with_reducible refine below_drewN ?_ _)))
    · have hpos : 0 < k := by omega
      have g1 : k / 2 ≤ f := by omega
      have g2 : 0 ≤ k / 2 := by omega
      have g3 : I64 (k / 2) := by unfold I64 at *; omega
      have q1 := half_div h0 hk64
      have q2 := half_mod h0
      have q3 := half_mod' (k := k)
      have IH := Lib.hid (ih x (k / 2)); clear ih
      have K1 := Lib.hid hk; clear hk
      have G1 := Lib.hid g1; clear g1
      by_cases hodd : k % 2 = 1
      · have e1 : x * (k / 2) + x * (k / 2) + x = x * k := by
          have hk2 : k = 2 * (k / 2) + 1 := by omega
          conv => rhs; rw [hk2, Int.mul_add, Int.mul_left_comm]
          omega
        have E1 := Lib.hid e1; clear e1
        have Ho := Lib.hid hodd
        have hodd' : (k % 2 == 1) = true := by simpa using hodd
        clear hodd
        go_enter Try.func73, Try.ntmps73
        go_wp2_with fail
        (with_reducible refine (IH.out _ G1.out hx g2 g3).mono ?_); rintro e w1 ⟨rfl, hb1⟩; obtain ⟨hc1, hf1, hs1⟩ := after hb1
        simp at hs1
        have lt_w1_0_0 : w.heap.size < w1.heap.size := by omega
        have lt_w1_0_1 : w.heap.size < w1.heap.size + 1 := by omega
        have lt_w1_0_2 : w.heap.size < w1.heap.size + 1 + 1 := by omega
        go_wp2_with fail
        refine (Try_rAdd _ _ _).mono ?_; rintro e w2 ⟨rfl, hb2⟩; obtain ⟨hc2, hf2, hs2⟩ := after hb2
        simp at hs2
        have lt_w2_0_0 : w.heap.size < w2.heap.size := by omega
        have lt_w2_0_1 : w.heap.size < w2.heap.size + 1 := by omega
        have lt_w2_0_2 : w.heap.size < w2.heap.size + 1 + 1 := by omega
        have lt_w2_1_0 : w1.heap.size < w2.heap.size := by omega
        have lt_w2_1_1 : w1.heap.size < w2.heap.size + 1 := by omega
        have lt_w2_1_2 : w1.heap.size < w2.heap.size + 1 + 1 := by omega
        go_wp2_with fail
        refine' wp_region_seq [.inl _, .inl _, .inl _, .inl _] (by kernel_rfl) (by kernel_rfl) ?main1
        case main1 =>
          refine wpParts_det (by rfl) (fun W hE hN => ?_) ?_
          · have hc := fun b o h => hE.cell (p := ⟨b, o, none⟩) h
            go_simp; refine ⟨Below.refl _ _, ?_⟩; rfl
          simp only [Act.put, List.setIfInBounds_toArray, List.set_cons_zero, List.set_cons_succ]
          refine wpParts_det (by rfl) (fun W hE hN => ?_) ?_
          · go_simp; refine ⟨Below.refl _ _, ?_⟩; rfl
          simp only [Act.put, List.setIfInBounds_toArray, List.set_cons_zero, List.set_cons_succ]
          refine wpParts_det (by rfl) (fun W hE hN => ?_) ?_
          · go_simp; refine ⟨Below.refl _ _, ?_⟩; refine (Try_rOf _ _ hx).mono ?_; rintro e w' ⟨rfl, hb⟩; refine ⟨?_, hb⟩; rfl
          simp only [Act.put, List.setIfInBounds_toArray, List.set_cons_zero, List.set_cons_succ]
          refine wpParts_det (by rfl) (fun W hE hN => ?_) ?_
          · go_simp; refine ⟨Below.refl _ _, ?_⟩; refine (Try_rAdd _ _ _).mono ?_; rintro e w' ⟨rfl, hb⟩; refine ⟨?_, hb⟩; rfl
          simp only [Act.put, List.setIfInBounds_toArray, List.set_cons_zero, List.set_cons_succ]
          refine wpParts_end fun W3 hE3 hG3 => ?_
          have hcW3 := fun b o h => hE3.cell (p := ⟨b, o, none⟩) h
          have hfW3 := fun b o h => hE3.frozen (p := ⟨b, o, none⟩) h
          have s3 := hE3.size
          simp at s3
          have lt_W3_0_0 : w.heap.size < W3.heap.size := by omega
          have lt_W3_0_1 : w.heap.size < W3.heap.size + 1 := by omega
          have lt_W3_0_2 : w.heap.size < W3.heap.size + 1 + 1 := by omega
          have lt_W3_1_0 : w1.heap.size < W3.heap.size := by omega
          have lt_W3_1_1 : w1.heap.size < W3.heap.size + 1 := by omega
          have lt_W3_1_2 : w1.heap.size < W3.heap.size + 1 + 1 := by omega
          have lt_W3_2_0 : w2.heap.size < W3.heap.size := by omega
          have lt_W3_2_1 : w2.heap.size < W3.heap.size + 1 := by omega
          have lt_W3_2_2 : w2.heap.size < W3.heap.size + 1 + 1 := by omega
          go_wp2_with fail
          rw [← E1.out]
          refine bodyPost_ret (v := .agg #[.int .i64 (hi (x * (k / 2) + x * (k / 2) + x)), .int .u64 (lo (x * (k / 2) + x * (k / 2) + x))]) (by simp [results, Try.results73, go_sem, *]) rfl ⟨rfl, ?_⟩
          exact (by repeat (first | (with_reducible exact Below.refl _ _) | (with_reducible exact Below.refl _ _) | (with_reducible refine Below.setCell ?_ (by first | omega | (simp; done) | (simp; omega)) _) | (with_reducible refine Below.alloc ?_ (by first | omega | (simp; done) | (simp; omega)) _) | (with_reducible refine Below.drew ?_) | (with_reducible refine below_drewN ?_ _) | (with_reducible refine Below.trans ?_ (hE3.mono (by first | omega | (simp; done) | (simp; omega)))) | (with_reducible refine Below.trans ?_ (hb2.mono (by first | omega | (simp; done) | (simp; omega)))) | (with_reducible refine Below.trans ?_ (hb1.mono (by first | omega | (simp; done) | (simp; omega))))))
      · have hev : k % 2 = 0 := by omega
        have e1 : x * (k / 2) + x * (k / 2) = x * k := by
          have hk2 : k = 2 * (k / 2) := by omega
          conv => rhs; rw [hk2, Int.mul_left_comm]
          omega
        have E1 := Lib.hid e1; clear e1
        have hodd' : (k % 2 == 1) = false := by simpa using hodd
        clear hodd hev
        go_enter Try.func73, Try.ntmps73
        go_wp2_with fail
        (with_reducible refine (IH.out _ G1.out hx g2 g3).mono ?_); rintro e w1 ⟨rfl, hb1⟩; obtain ⟨hc1, hf1, hs1⟩ := after hb1
        simp at hs1
        have lt_w1_0_0 : w.heap.size < w1.heap.size := by omega
        have lt_w1_0_1 : w.heap.size < w1.heap.size + 1 := by omega
        have lt_w1_0_2 : w.heap.size < w1.heap.size + 1 + 1 := by omega
        go_wp2_with fail
        refine (Try_rAdd _ _ _).mono ?_; rintro e w2 ⟨rfl, hb2⟩; obtain ⟨hc2, hf2, hs2⟩ := after hb2
        simp at hs2
        have lt_w2_0_0 : w.heap.size < w2.heap.size := by omega
        have lt_w2_0_1 : w.heap.size < w2.heap.size + 1 := by omega
        have lt_w2_0_2 : w.heap.size < w2.heap.size + 1 + 1 := by omega
        have lt_w2_1_0 : w1.heap.size < w2.heap.size := by omega
        have lt_w2_1_1 : w1.heap.size < w2.heap.size + 1 := by omega
        have lt_w2_1_2 : w1.heap.size < w2.heap.size + 1 + 1 := by omega
        go_wp2_with fail
        rw [← E1.out]
        refine bodyPost_ret (v := .agg #[.int .i64 (hi (x * (k / 2) + x * (k / 2))), .int .u64 (lo (x * (k / 2) + x * (k / 2)))]) (by simp [results, Try.results73, go_sem, *]) rfl ⟨rfl, ?_⟩
        exact (by repeat (first | (with_reducible exact Below.refl _ _) | (with_reducible exact Below.refl _ _) | (with_reducible refine Below.setCell ?_ (by first | omega | (simp; done) | (simp; omega)) _) | (with_reducible refine Below.alloc ?_ (by first | omega | (simp; done) | (simp; omega)) _) | (with_reducible refine Below.drew ?_) | (with_reducible refine below_drewN ?_ _) | (with_reducible refine Below.trans ?_ (hb2.mono (by first | omega | (simp; done) | (simp; omega)))) | (with_reducible refine Below.trans ?_ (hb1.mono (by first | omega | (simp; done) | (simp; omega))))))
end Go.Proofs.Ytfhhcpolicdfpaa

namespace Go.Proofs.Ytfhhcpolicdfpaa
set_option linter.unusedVariables false
set_option linter.unusedSimpArgs false
open Go.RowKit Go.Dav
attribute [local go_sem] Gives ite_val ite_val_true

set_option maxRecDepth 4000 in
theorem Try_Right_bad (c n s l m : Int) (w : World) (h : n < 0 ∨ c < n ∨ 1073741824 < c) :
    Calls Try.prog 59 #[.agg #[.int .i64 c, .int .i64 n, .int .i64 (hi s), .int .u64 (lo s), .int .i64 l, .int .i64 m]] w fun e w' =>
      e = .returned (.bool false) ∧ Below w.heap.size w w' := by
  by_cases h1 : n < 0
  · go_enter Try.func59, Try.ntmps59
    go_wp2
    go_ret
    exact ⟨rfl, (by repeat (first | (with_reducible exact Below.refl _ _) | (with_reducible exact Below.refl _ _) | (with_reducible refine Below.setCell ?_ (by first | omega | (simp; done) | (simp; omega)) _) | (with_reducible refine Below.alloc ?_ (by first | omega | (simp; done) | (simp; omega)) _) | (with_reducible refine Below.drew ?_) | (with_reducible refine below_drewN ?_ _)))⟩
  by_cases h2 : c < n
  · go_enter Try.func59, Try.ntmps59
    go_wp2
    go_ret
    exact ⟨rfl, (by repeat (first | (with_reducible exact Below.refl _ _) | (with_reducible exact Below.refl _ _) | (with_reducible refine Below.setCell ?_ (by first | omega | (simp; done) | (simp; omega)) _) | (with_reducible refine Below.alloc ?_ (by first | omega | (simp; done) | (simp; omega)) _) | (with_reducible refine Below.drew ?_) | (with_reducible refine below_drewN ?_ _)))⟩
  have h3 : 1073741824 < c := by omega
  go_enter Try.func59, Try.ntmps59
  go_wp2
  go_ret
  exact ⟨rfl, (by repeat (first | (with_reducible exact Below.refl _ _) | (with_reducible exact Below.refl _ _) | (with_reducible refine Below.setCell ?_ (by first | omega | (simp; done) | (simp; omega)) _) | (with_reducible refine Below.alloc ?_ (by first | omega | (simp; done) | (simp; omega)) _) | (with_reducible refine Below.drew ?_) | (with_reducible refine below_drewN ?_ _)))⟩

set_option maxRecDepth 4000 in
set_option maxHeartbeats 1000000 in
theorem Try_Right_0 (c s l m : Int) (w : World) (h1 : 0 ≤ c) (h2 : c ≤ 1073741824) :
    Calls Try.prog 59 #[.agg #[.int .i64 c, .int .i64 0, .int .i64 (hi s), .int .u64 (lo s), .int .i64 l, .int .i64 m]] w fun e w' =>
      e = .returned (.bool (decide (hi s = 0 ∧ lo s = 0 ∧ l = 0 ∧ m = 0))) ∧ Below w.heap.size w w' := by
  generalize hb : decide (hi s = 0 ∧ lo s = 0 ∧ l = 0 ∧ m = 0) = b
  have Hb := Lib.hid hb; clear hb
  generalize hi s = x1 at *
  generalize lo s = x2 at *
  go_enter Try.func59, Try.ntmps59
  go_wp2
  all_goals (go_ret; refine ⟨ret_bool ?_, (by repeat (first | (with_reducible exact Below.refl _ _) | (with_reducible exact Below.refl _ _) | (with_reducible refine Below.setCell ?_ (by first | omega | (simp; done) | (simp; omega)) _) | (with_reducible refine Below.alloc ?_ (by first | omega | (simp; done) | (simp; omega)) _) | (with_reducible refine Below.drew ?_) | (with_reducible refine below_drewN ?_ _)))⟩; have hb := Hb.out; cases b <;> simp_all <;> omega)

set_option maxRecDepth 4000 in
set_option maxHeartbeats 4000000 in
theorem Try_Right_1 (c s l m : Int) (w : World) (h1 : 1 ≤ c) (h2 : c ≤ 1073741824) (hl : I64 l) :
    Calls Try.prog 59 #[.agg #[.int .i64 c, .int .i64 1, .int .i64 (hi s), .int .u64 (lo s), .int .i64 l, .int .i64 m]] w fun e w' =>
      e = .returned (.bool (decide (l = m ∧ hi s = hi l ∧ lo s = lo l))) ∧ Below w.heap.size w w' := by
  generalize hb : decide (l = m ∧ hi s = hi l ∧ lo s = lo l) = b
  have Hb := Lib.hid hb; clear hb
  by_cases hlm : l = m
  · subst hlm
    go_enter Try.func59, Try.ntmps59
    go_wp2_with fail
    refine' wp_region_seq [.inl _, .inl _, .inl _, .inl _, .inl _, .inl _, .inl _, .inl _, .inl _, .inl _, .inl _, .inl _, .inl _, .inl _] (by kernel_rfl) (by kernel_rfl) ?main1
    case main1 =>
      refine wpParts_det (by rfl) (fun W hE hN => ?_) ?_
      · go_simp; refine ⟨Below.refl _ _, ?_⟩; rfl
      simp only [Act.put, List.setIfInBounds_toArray, List.set_cons_zero, List.set_cons_succ]
      refine wpParts_det (by rfl) (fun W hE hN => ?_) ?_
      · have hc := fun b o h => hE.cell (p := ⟨b, o, none⟩) h
        go_simp; refine ⟨Below.refl _ _, ?_⟩; rfl
      simp only [Act.put, List.setIfInBounds_toArray, List.set_cons_zero, List.set_cons_succ]
      refine wpParts_det (by rfl) (fun W hE hN => ?_) ?_
      · go_simp; refine ⟨Below.refl _ _, ?_⟩; rfl
      simp only [Act.put, List.setIfInBounds_toArray, List.set_cons_zero, List.set_cons_succ]
      refine wpParts_det (by rfl) (fun W hE hN => ?_) ?_
      · have hc := fun b o h => hE.cell (p := ⟨b, o, none⟩) h
        go_simp; refine ⟨Below.refl _ _, ?_⟩; rfl
      simp only [Act.put, List.setIfInBounds_toArray, List.set_cons_zero, List.set_cons_succ]
      refine wpParts_det (by rfl) (fun W hE hN => ?_) ?_
      · go_simp; refine ⟨Below.refl _ _, ?_⟩; rfl
      simp only [Act.put, List.setIfInBounds_toArray, List.set_cons_zero, List.set_cons_succ]
      refine wpParts_det (by rfl) (fun W hE hN => ?_) ?_
      · go_simp; refine ⟨Below.refl _ _, ?_⟩; rfl
      simp only [Act.put, List.setIfInBounds_toArray, List.set_cons_zero, List.set_cons_succ]
      refine wpParts_det (by rfl) (fun W hE hN => ?_) ?_
      · have hc := fun b o h => hE.cell (p := ⟨b, o, none⟩) h
        go_simp; refine ⟨Below.refl _ _, ?_⟩; rfl
      simp only [Act.put, List.setIfInBounds_toArray, List.set_cons_zero, List.set_cons_succ]
      refine wpParts_det (by rfl) (fun W hE hN => ?_) ?_
      · go_simp; refine ⟨Below.refl _ _, ?_⟩; refine (Try_rWhole _ _ _ _ _ _).mono ?_; rintro e w' ⟨rfl, hb⟩; refine ⟨?_, hb⟩; rfl
      simp only [Act.put, List.setIfInBounds_toArray, List.set_cons_zero, List.set_cons_succ]
      refine wpParts_det (by rfl) (fun W hE hN => ?_) ?_
      · go_simp; refine ⟨Below.refl _ _, ?_⟩; rfl
      simp only [Act.put, List.setIfInBounds_toArray, List.set_cons_zero, List.set_cons_succ]
      refine wpParts_det (by rfl) (fun W hE hN => ?_) ?_
      · have hc := fun b o h => hE.cell (p := ⟨b, o, none⟩) h
        go_simp; refine ⟨Below.refl _ _, ?_⟩; rfl
      simp only [Act.put, List.setIfInBounds_toArray, List.set_cons_zero, List.set_cons_succ]
      refine wpParts_det (by rfl) (fun W hE hN => ?_) ?_
      · go_simp; refine ⟨Below.refl _ _, ?_⟩; refine (Try_rOf _ _ hl).mono ?_; rintro e w' ⟨rfl, hb⟩; refine ⟨?_, hb⟩; rfl
      simp only [Act.put, List.setIfInBounds_toArray, List.set_cons_zero, List.set_cons_succ]
      refine wpParts_det (by rfl) (fun W hE hN => ?_) ?_
      · go_simp; refine ⟨Below.refl _ _, ?_⟩; rfl
      simp only [Act.put, List.setIfInBounds_toArray, List.set_cons_zero, List.set_cons_succ]
      refine wpParts_det (by rfl) (fun W hE hN => ?_) ?_
      · go_simp; refine ⟨Below.refl _ _, ?_⟩; rfl
      simp only [Act.put, List.setIfInBounds_toArray, List.set_cons_zero, List.set_cons_succ]
      refine wpParts_det (by rfl) (fun W hE hN => ?_) ?_
      · go_simp; refine ⟨Below.refl _ _, ?_⟩; rfl
      simp only [Act.put, List.setIfInBounds_toArray, List.set_cons_zero, List.set_cons_succ]
      refine wpParts_end fun W1 hE1 hG1 => ?_
      have hcW1 := fun b o h => hE1.cell (p := ⟨b, o, none⟩) h
      have hfW1 := fun b o h => hE1.frozen (p := ⟨b, o, none⟩) h
      go_wp2
      all_goals (go_ret; refine ⟨ret_bool ?_, (by repeat (first | (with_reducible exact Below.refl _ _) | (with_reducible exact Below.refl _ _) | (with_reducible refine Below.setCell ?_ (by first | omega | (simp; done) | (simp; omega)) _) | (with_reducible refine Below.alloc ?_ (by first | omega | (simp; done) | (simp; omega)) _) | (with_reducible refine Below.drew ?_) | (with_reducible refine below_drewN ?_ _) | (with_reducible refine Below.trans ?_ (hE1.mono (by first | omega | (simp; done) | (simp; omega))))))⟩; have hb := Hb.out; cases b <;> simp_all <;> omega)
  · have hlm' : (l == m) = false := by simpa using hlm
    have hd : decide (l = m) = false := by simpa using hlm
    go_enter Try.func59, Try.ntmps59
    go_wp2_with fail
    refine' wp_region_seq [.inl _, .inl _, .inl _, .inl _, .inl _, .inl _, .inl undef, .inl undef, .inl undef, .inl undef, .inl undef, .inl undef, .inl _, .inl _] (by kernel_rfl) (by kernel_rfl) ?main2
    case main2 =>
      refine wpParts_det (by rfl) (fun W hE hN => ?_) ?_
      · go_simp; refine ⟨Below.refl _ _, ?_⟩; rfl
      simp only [Act.put, List.setIfInBounds_toArray, List.set_cons_zero, List.set_cons_succ]
      refine wpParts_det (by rfl) (fun W hE hN => ?_) ?_
      · have hc := fun b o h => hE.cell (p := ⟨b, o, none⟩) h
        go_simp; refine ⟨Below.refl _ _, ?_⟩; rfl
      simp only [Act.put, List.setIfInBounds_toArray, List.set_cons_zero, List.set_cons_succ]
      refine wpParts_det (by rfl) (fun W hE hN => ?_) ?_
      · go_simp; refine ⟨Below.refl _ _, ?_⟩; rfl
      simp only [Act.put, List.setIfInBounds_toArray, List.set_cons_zero, List.set_cons_succ]
      refine wpParts_det (by rfl) (fun W hE hN => ?_) ?_
      · have hc := fun b o h => hE.cell (p := ⟨b, o, none⟩) h
        go_simp; refine ⟨Below.refl _ _, ?_⟩; rfl
      simp only [Act.put, List.setIfInBounds_toArray, List.set_cons_zero, List.set_cons_succ]
      refine wpParts_det (by rfl) (fun W hE hN => ?_) ?_
      · go_simp; refine ⟨Below.refl _ _, ?_⟩; rfl
      simp only [Act.put, List.setIfInBounds_toArray, List.set_cons_zero, List.set_cons_succ]
      refine wpParts_det (by rfl) (fun W hE hN => ?_) ?_
      · go_simp; refine ⟨Below.refl _ _, ?_⟩; rfl
      simp only [Act.put, List.setIfInBounds_toArray, List.set_cons_zero, List.set_cons_succ]
      refine wpParts_skip ?_ ?_
      · rfl
      simp only [Act.put, List.setIfInBounds_toArray, List.set_cons_zero, List.set_cons_succ]
      refine wpParts_skip ?_ ?_
      · rfl
      simp only [Act.put, List.setIfInBounds_toArray, List.set_cons_zero, List.set_cons_succ]
      refine wpParts_skip ?_ ?_
      · rfl
      simp only [Act.put, List.setIfInBounds_toArray, List.set_cons_zero, List.set_cons_succ]
      refine wpParts_skip ?_ ?_
      · rfl
      simp only [Act.put, List.setIfInBounds_toArray, List.set_cons_zero, List.set_cons_succ]
      refine wpParts_skip ?_ ?_
      · rfl
      simp only [Act.put, List.setIfInBounds_toArray, List.set_cons_zero, List.set_cons_succ]
      refine wpParts_skip ?_ ?_
      · rfl
      simp only [Act.put, List.setIfInBounds_toArray, List.set_cons_zero, List.set_cons_succ]
      refine wpParts_det (by rfl) (fun W hE hN => ?_) ?_
      · go_simp; refine ⟨Below.refl _ _, ?_⟩; rfl
      simp only [Act.put, List.setIfInBounds_toArray, List.set_cons_zero, List.set_cons_succ]
      refine wpParts_det (by rfl) (fun W hE hN => ?_) ?_
      · go_simp; refine ⟨Below.refl _ _, ?_⟩; rfl
      simp only [Act.put, List.setIfInBounds_toArray, List.set_cons_zero, List.set_cons_succ]
      refine wpParts_end fun W1 hE1 hG1 => ?_
      have hcW1 := fun b o h => hE1.cell (p := ⟨b, o, none⟩) h
      have hfW1 := fun b o h => hE1.frozen (p := ⟨b, o, none⟩) h
      go_wp2
      all_goals (go_ret; refine ⟨ret_bool ?_, (by repeat (first | (with_reducible exact Below.refl _ _) | (with_reducible exact Below.refl _ _) | (with_reducible refine Below.setCell ?_ (by first | omega | (simp; done) | (simp; omega)) _) | (with_reducible refine Below.alloc ?_ (by first | omega | (simp; done) | (simp; omega)) _) | (with_reducible refine Below.drew ?_) | (with_reducible refine below_drewN ?_ _) | (with_reducible refine Below.trans ?_ (hE1.mono (by first | omega | (simp; done) | (simp; omega))))))⟩; have hb := Hb.out; cases b <;> simp_all <;> omega)

set_option maxRecDepth 4000 in
set_option maxHeartbeats 8000000 in
theorem Try_Right_2 (c n s l m : Int) (w : World) (h0 : 2 ≤ n) (h1 : n ≤ c) (h2 : c ≤ 1073741824) (hl : I64 l) (hm : I64 m) :
    Calls Try.prog 59 #[.agg #[.int .i64 c, .int .i64 n, .int .i64 (hi s), .int .u64 (lo s), .int .i64 l, .int .i64 m]] w fun e w' =>
      e = .returned (.bool (decide (l ≤ m) && (!aboveB (l + m + l * (n - 2)) s && !aboveB s (l + m + m * (n - 2))))) ∧ Below w.heap.size w w' := by
  generalize hb : (decide (l ≤ m) && (!aboveB (l + m + l * (n - 2)) s && !aboveB s (l + m + m * (n - 2)))) = b
  have Hb := Lib.hid hb; clear hb
  have hk0 : 0 ≤ n - 2 := by omega
  have hk : I64 (n - 2) := by unfold I64; omega
  have hkf : n - 2 ≤ ((n - 2).toNat : Int) := by omega
  have HKF := Lib.hid hkf; clear hkf
  have hz1 : (n == 0) = false := by simp; omega
  have hz2 : (n == 1) = false := by simp; omega
  have hw : IntKind.i64.wrap (n - 2) = n - 2 := by rw [i64_wrap_def]; omega
  go_enter Try.func59, Try.ntmps59
  go_wp2_with fail
  refine' wp_region_seq [.inl _, .inl _, .inl _, .inl _, .inl _, .inl _, .inl _, .inr (NewBlk (w.heap.size + 1) [.int .i64 0, .int .u64 0] 122)] (by kernel_rfl) (by kernel_rfl) ?main3
  case main3 =>
    refine wpParts_det (by rfl) (fun W hE hN => ?_) ?_
    · go_simp; refine ⟨Below.refl _ _, ?_⟩; rfl
    simp only [Act.put, List.setIfInBounds_toArray, List.set_cons_zero, List.set_cons_succ]
    refine wpParts_det (by rfl) (fun W hE hN => ?_) ?_
    · have hc := fun b o h => hE.cell (p := ⟨b, o, none⟩) h
      go_simp; refine ⟨Below.refl _ _, ?_⟩; rfl
    simp only [Act.put, List.setIfInBounds_toArray, List.set_cons_zero, List.set_cons_succ]
    refine wpParts_det (by rfl) (fun W hE hN => ?_) ?_
    · go_simp; refine ⟨Below.refl _ _, ?_⟩; refine (Try_rOf _ _ (by assumption)).mono ?_; rintro e w' ⟨rfl, hb⟩; refine ⟨?_, hb⟩; rfl
    simp only [Act.put, List.setIfInBounds_toArray, List.set_cons_zero, List.set_cons_succ]
    refine wpParts_det (by rfl) (fun W hE hN => ?_) ?_
    · go_simp; refine ⟨Below.refl _ _, ?_⟩; rfl
    simp only [Act.put, List.setIfInBounds_toArray, List.set_cons_zero, List.set_cons_succ]
    refine wpParts_det (by rfl) (fun W hE hN => ?_) ?_
    · have hc := fun b o h => hE.cell (p := ⟨b, o, none⟩) h
      go_simp; refine ⟨Below.refl _ _, ?_⟩; rfl
    simp only [Act.put, List.setIfInBounds_toArray, List.set_cons_zero, List.set_cons_succ]
    refine wpParts_det (by rfl) (fun W hE hN => ?_) ?_
    · go_simp; refine ⟨Below.refl _ _, ?_⟩; refine (Try_rOf _ _ (by assumption)).mono ?_; rintro e w' ⟨rfl, hb⟩; refine ⟨?_, hb⟩; rfl
    simp only [Act.put, List.setIfInBounds_toArray, List.set_cons_zero, List.set_cons_succ]
    refine wpParts_det (by rfl) (fun W hE hN => ?_) ?_
    · go_simp; refine ⟨Below.refl _ _, ?_⟩; refine (Try_rAdd _ _ _).mono ?_; rintro e w' ⟨rfl, hb⟩; refine ⟨?_, hb⟩; rfl
    simp only [Act.put, List.setIfInBounds_toArray, List.set_cons_zero, List.set_cons_succ]
    refine wpParts_any rfl (NewBlk.later) (by rfl) (fun W hE hN => ?_) (fun u7 => ?_)
    · go_simp; exact newBlk_alloc (cs := [.int .i64 0, .int .u64 0]) (by have := hE.size; simp at this; omega)
    simp only [Act.put, List.setIfInBounds_toArray, List.set_cons_zero, List.set_cons_succ]
    refine wpParts_end fun W1 hE1 hG1 => ?_
    have hcW1 := fun b o h => hE1.cell (p := ⟨b, o, none⟩) h
    have hfW1 := fun b o h => hE1.frozen (p := ⟨b, o, none⟩) h
    obtain ⟨p, rfl, hp, hblk⟩ := hG1.1
    have s1 := hE1.size
    simp at s1
    have c0 := hblk.cell 0 rfl
    have c1 := hblk.cell 1 rfl
    have f0 := hblk.frozen 0
    have f1 := hblk.frozen 1
    have lp := hblk.lt
    have lw := Nat.lt_of_lt_of_le (Nat.lt_succ_self _) s1
    go_wp2_with fail
    refine' wp_region_seq [.inl _, .inl _, .inl _, .inl _, .inl _, .inl _, .inl _, .inl _, .inr (NewBlk W1.heap.size [.int .i64 0, .int .u64 0] 122)] (by kernel_rfl) (by kernel_rfl) ?main4
    case main4 =>
      refine wpParts_det (by rfl) (fun W hE hN => ?_) ?_
      · have hc := fun b o h => hE.cell (p := ⟨b, o, none⟩) h
        go_simp; refine ⟨Below.refl _ _, ?_⟩; rfl
      simp only [Act.put, List.setIfInBounds_toArray, List.set_cons_zero, List.set_cons_succ]
      refine wpParts_det (by rfl) (fun W hE hN => ?_) ?_
      · go_simp; refine ⟨Below.refl _ _, ?_⟩; rfl
      simp only [Act.put, List.setIfInBounds_toArray, List.set_cons_zero, List.set_cons_succ]
      refine wpParts_det (by rfl) (fun W hE hN => ?_) ?_
      · have hc := fun b o h => hE.cell (p := ⟨b, o, none⟩) h
        go_simp; refine ⟨Below.refl _ _, ?_⟩; rfl
      simp only [Act.put, List.setIfInBounds_toArray, List.set_cons_zero, List.set_cons_succ]
      refine wpParts_det (by rfl) (fun W hE hN => ?_) ?_
      · go_simp; refine ⟨Below.refl _ _, ?_⟩; rfl
      simp only [Act.put, List.setIfInBounds_toArray, List.set_cons_zero, List.set_cons_succ]
      refine wpParts_det (by rfl) (fun W hE hN => ?_) ?_
      · have hc := fun b o h => hE.cell (p := ⟨b, o, none⟩) h
        go_simp; refine ⟨Below.refl _ _, ?_⟩; rfl
      simp only [Act.put, List.setIfInBounds_toArray, List.set_cons_zero, List.set_cons_succ]
      refine wpParts_det (by rfl) (fun W hE hN => ?_) ?_
      · go_simp; refine ⟨Below.refl _ _, ?_⟩; rfl
      simp only [Act.put, List.setIfInBounds_toArray, List.set_cons_zero, List.set_cons_succ]
      refine wpParts_det (by rfl) (fun W hE hN => ?_) ?_
      · go_simp; refine ⟨Below.refl _ _, ?_⟩; refine (Try_rTimes (n - 2).toNat _ _ _ HKF.out (by assumption) hk0 hk).mono ?_; rintro e w' ⟨rfl, hb⟩; refine ⟨?_, hb⟩; rfl
      simp only [Act.put, List.setIfInBounds_toArray, List.set_cons_zero, List.set_cons_succ]
      refine wpParts_det (by rfl) (fun W hE hN => ?_) ?_
      · go_simp; refine ⟨Below.refl _ _, ?_⟩; refine (Try_rAdd _ _ _).mono ?_; rintro e w' ⟨rfl, hb⟩; refine ⟨?_, hb⟩; rfl
      simp only [Act.put, List.setIfInBounds_toArray, List.set_cons_zero, List.set_cons_succ]
      refine wpParts_any rfl (NewBlk.later) (by rfl) (fun W hE hN => ?_) (fun u8 => ?_)
      · go_simp; exact newBlk_alloc (cs := [.int .i64 0, .int .u64 0]) (by have := hE.size; simp at this; omega)
      simp only [Act.put, List.setIfInBounds_toArray, List.set_cons_zero, List.set_cons_succ]
      refine wpParts_end fun W2 hE2 hG2 => ?_
      have hcW2 := fun b o h => hE2.cell (p := ⟨b, o, none⟩) h
      have hfW2 := fun b o h => hE2.frozen (p := ⟨b, o, none⟩) h
      obtain ⟨q, rfl, hq, hblq⟩ := hG2.1
      have s2 := hE2.size
      simp at s2
      have d0 := hblq.cell 0 rfl
      have d1 := hblq.cell 1 rfl
      have g0 := hblq.frozen 0
      have g1 := hblq.frozen 1
      have lq := hblq.lt
      have lp2 := Nat.lt_of_lt_of_le lp s2
      have lw2 := Nat.lt_of_lt_of_le lw s2
      have npq : p ≠ q := by omega
      have nwq : w.heap.size ≠ q := by omega
      have npq' : q ≠ p := by omega
      go_wp2_with fail
      refine' wp_region_seq [.inl _, .inl _, .inl _, .inl _, .inl _, .inl _, .inl _, .inl _, .inr (NewBlk W2.heap.size [.int .i64 0, .int .u64 0] 122)] (by kernel_rfl) (by kernel_rfl) ?main5
      case main5 =>
        refine wpParts_det (by rfl) (fun W hE hN => ?_) ?_
        · have hc := fun b o h => hE.cell (p := ⟨b, o, none⟩) h
          go_simp; refine ⟨Below.refl _ _, ?_⟩; rfl
        simp only [Act.put, List.setIfInBounds_toArray, List.set_cons_zero, List.set_cons_succ]
        refine wpParts_det (by rfl) (fun W hE hN => ?_) ?_
        · go_simp; refine ⟨Below.refl _ _, ?_⟩; rfl
        simp only [Act.put, List.setIfInBounds_toArray, List.set_cons_zero, List.set_cons_succ]
        refine wpParts_det (by rfl) (fun W hE hN => ?_) ?_
        · have hc := fun b o h => hE.cell (p := ⟨b, o, none⟩) h
          go_simp; refine ⟨Below.refl _ _, ?_⟩; rfl
        simp only [Act.put, List.setIfInBounds_toArray, List.set_cons_zero, List.set_cons_succ]
        refine wpParts_det (by rfl) (fun W hE hN => ?_) ?_
        · go_simp; refine ⟨Below.refl _ _, ?_⟩; rfl
        simp only [Act.put, List.setIfInBounds_toArray, List.set_cons_zero, List.set_cons_succ]
        refine wpParts_det (by rfl) (fun W hE hN => ?_) ?_
        · have hc := fun b o h => hE.cell (p := ⟨b, o, none⟩) h
          go_simp; refine ⟨Below.refl _ _, ?_⟩; rfl
        simp only [Act.put, List.setIfInBounds_toArray, List.set_cons_zero, List.set_cons_succ]
        refine wpParts_det (by rfl) (fun W hE hN => ?_) ?_
        · go_simp; refine ⟨Below.refl _ _, ?_⟩; rfl
        simp only [Act.put, List.setIfInBounds_toArray, List.set_cons_zero, List.set_cons_succ]
        refine wpParts_det (by rfl) (fun W hE hN => ?_) ?_
        · go_simp; refine ⟨Below.refl _ _, ?_⟩; refine (Try_rTimes (n - 2).toNat _ _ _ HKF.out (by assumption) hk0 hk).mono ?_; rintro e w' ⟨rfl, hb⟩; refine ⟨?_, hb⟩; rfl
        simp only [Act.put, List.setIfInBounds_toArray, List.set_cons_zero, List.set_cons_succ]
        refine wpParts_det (by rfl) (fun W hE hN => ?_) ?_
        · go_simp; refine ⟨Below.refl _ _, ?_⟩; refine (Try_rAdd _ _ _).mono ?_; rintro e w' ⟨rfl, hb⟩; refine ⟨?_, hb⟩; rfl
        simp only [Act.put, List.setIfInBounds_toArray, List.set_cons_zero, List.set_cons_succ]
        refine wpParts_any rfl (NewBlk.later) (by rfl) (fun W hE hN => ?_) (fun u8 => ?_)
        · go_simp; exact newBlk_alloc (cs := [.int .i64 0, .int .u64 0]) (by have := hE.size; simp at this; omega)
        simp only [Act.put, List.setIfInBounds_toArray, List.set_cons_zero, List.set_cons_succ]
        refine wpParts_end fun W3 hE3 hG3 => ?_
        have hcW3 := fun b o h => hE3.cell (p := ⟨b, o, none⟩) h
        have hfW3 := fun b o h => hE3.frozen (p := ⟨b, o, none⟩) h
        obtain ⟨r, rfl, hr, hblr⟩ := hG3.1
        have s3 := hE3.size
        simp at s3
        have e0 := hblr.cell 0 rfl
        have e1 := hblr.cell 1 rfl
        have k0 := hblr.frozen 0
        have k1 := hblr.frozen 1
        have lr := hblr.lt
        have lp3 := Nat.lt_of_lt_of_le lp2 s3
        have lw3 := Nat.lt_of_lt_of_le lw2 s3
        have lq3 := Nat.lt_of_lt_of_le lq s3
        have npr : p ≠ r := by omega
        have nqr : q ≠ r := by omega
        have nwr : w.heap.size ≠ r := by omega
        have nrp : r ≠ p := by omega
        have nrq : r ≠ q := by omega
        go_wp2_with fail
        generalize ex : l + m + l * (n - 2) = x at *
        generalize ey : l + m + m * (n - 2) = y at *
        clear ex ey
        by_cases hlm : l ≤ m
        · by_cases ha : aboveB x s = true
          · refine' wp_region_seq [.inl _, .inl _, .inl _, .inl _, .inl _, .inl _, .inl _, .inl _, .inl _, .inl _, .inl _, .inl _, .inl _, .inl undef, .inl undef, .inl undef, .inl undef, .inl undef, .inl _, .inl _] (by kernel_rfl) (by kernel_rfl) ?main6
            case main6 =>
              refine wpParts_det (by rfl) (fun W hE hN => ?_) ?_
              · go_simp; refine ⟨Below.refl _ _, ?_⟩; rfl
              simp only [Act.put, List.setIfInBounds_toArray, List.set_cons_zero, List.set_cons_succ]
              refine wpParts_det (by rfl) (fun W hE hN => ?_) ?_
              · have hc := fun b o h => hE.cell (p := ⟨b, o, none⟩) h
                go_simp; refine ⟨Below.refl _ _, ?_⟩; rfl
              simp only [Act.put, List.setIfInBounds_toArray, List.set_cons_zero, List.set_cons_succ]
              refine wpParts_det (by rfl) (fun W hE hN => ?_) ?_
              · go_simp; refine ⟨Below.refl _ _, ?_⟩; rfl
              simp only [Act.put, List.setIfInBounds_toArray, List.set_cons_zero, List.set_cons_succ]
              refine wpParts_det (by rfl) (fun W hE hN => ?_) ?_
              · have hc := fun b o h => hE.cell (p := ⟨b, o, none⟩) h
                go_simp; refine ⟨Below.refl _ _, ?_⟩; rfl
              simp only [Act.put, List.setIfInBounds_toArray, List.set_cons_zero, List.set_cons_succ]
              refine wpParts_det (by rfl) (fun W hE hN => ?_) ?_
              · go_simp; refine ⟨Below.refl _ _, ?_⟩; rfl
              simp only [Act.put, List.setIfInBounds_toArray, List.set_cons_zero, List.set_cons_succ]
              refine wpParts_det (by rfl) (fun W hE hN => ?_) ?_
              · go_simp; refine ⟨Below.refl _ _, ?_⟩; rfl
              simp only [Act.put, List.setIfInBounds_toArray, List.set_cons_zero, List.set_cons_succ]
              refine wpParts_det (by rfl) (fun W hE hN => ?_) ?_
              · have hc := fun b o h => hE.cell (p := ⟨b, o, none⟩) h
                go_simp; refine ⟨Below.refl _ _, ?_⟩; rfl
              simp only [Act.put, List.setIfInBounds_toArray, List.set_cons_zero, List.set_cons_succ]
              refine wpParts_det (by rfl) (fun W hE hN => ?_) ?_
              · go_simp; refine ⟨Below.refl _ _, ?_⟩; refine (Try_rWhole _ _ _ _ _ _).mono ?_; rintro e w' ⟨rfl, hb⟩; refine ⟨?_, hb⟩; rfl
              simp only [Act.put, List.setIfInBounds_toArray, List.set_cons_zero, List.set_cons_succ]
              refine wpParts_det (by rfl) (fun W hE hN => ?_) ?_
              · have hc := fun b o h => hE.cell (p := ⟨b, o, none⟩) h
                go_simp; refine ⟨Below.refl _ _, ?_⟩; rfl
              simp only [Act.put, List.setIfInBounds_toArray, List.set_cons_zero, List.set_cons_succ]
              refine wpParts_det (by rfl) (fun W hE hN => ?_) ?_
              · go_simp; refine ⟨Below.refl _ _, ?_⟩; refine (Try_rLess _ _ _).mono ?_; rintro e w' ⟨rfl, hb⟩; refine ⟨?_, hb⟩; rfl
              simp only [Act.put, List.setIfInBounds_toArray, List.set_cons_zero, List.set_cons_succ]
              refine wpParts_det (by rfl) (fun W hE hN => ?_) ?_
              · go_simp; refine ⟨Below.refl _ _, ?_⟩; rfl
              simp only [Act.put, List.setIfInBounds_toArray, List.set_cons_zero, List.set_cons_succ]
              refine wpParts_det (by rfl) (fun W hE hN => ?_) ?_
              · go_simp; refine ⟨Below.refl _ _, ?_⟩; rfl
              simp only [Act.put, List.setIfInBounds_toArray, List.set_cons_zero, List.set_cons_succ]
              refine wpParts_det (by rfl) (fun W hE hN => ?_) ?_
              · go_simp; refine ⟨Below.refl _ _, ?_⟩; rfl
              simp only [Act.put, List.setIfInBounds_toArray, List.set_cons_zero, List.set_cons_succ]
              refine wpParts_skip ?_ ?_
              · rfl
              simp only [Act.put, List.setIfInBounds_toArray, List.set_cons_zero, List.set_cons_succ]
              refine wpParts_skip ?_ ?_
              · rfl
              simp only [Act.put, List.setIfInBounds_toArray, List.set_cons_zero, List.set_cons_succ]
              refine wpParts_skip ?_ ?_
              · rfl
              simp only [Act.put, List.setIfInBounds_toArray, List.set_cons_zero, List.set_cons_succ]
              refine wpParts_skip ?_ ?_
              · rfl
              simp only [Act.put, List.setIfInBounds_toArray, List.set_cons_zero, List.set_cons_succ]
              refine wpParts_skip ?_ ?_
              · rfl
              simp only [Act.put, List.setIfInBounds_toArray, List.set_cons_zero, List.set_cons_succ]
              refine wpParts_det (by rfl) (fun W hE hN => ?_) ?_
              · go_simp; refine ⟨Below.refl _ _, ?_⟩; rfl
              simp only [Act.put, List.setIfInBounds_toArray, List.set_cons_zero, List.set_cons_succ]
              refine wpParts_det (by rfl) (fun W hE hN => ?_) ?_
              · go_simp; refine ⟨Below.refl _ _, ?_⟩; rfl
              simp only [Act.put, List.setIfInBounds_toArray, List.set_cons_zero, List.set_cons_succ]
              refine wpParts_end fun W4 hE4 hG4 => ?_
              have hcW4 := fun b o h => hE4.cell (p := ⟨b, o, none⟩) h
              have hfW4 := fun b o h => hE4.frozen (p := ⟨b, o, none⟩) h
              go_wp2
              all_goals (go_ret; refine ⟨ret_bool ?_, (by repeat (first | (with_reducible exact Below.refl _ _) | (with_reducible exact Below.refl _ _) | (with_reducible refine Below.setCell ?_ (by first | omega | (simp; done) | (simp; omega)) _) | (with_reducible refine Below.alloc ?_ (by first | omega | (simp; done) | (simp; omega)) _) | (with_reducible refine Below.drew ?_) | (with_reducible refine below_drewN ?_ _) | (with_reducible refine Below.trans ?_ (hE4.mono (by first | omega | (simp; done) | (simp; omega)))) | (with_reducible refine Below.trans ?_ (hE3.mono (by first | omega | (simp; done) | (simp; omega)))) | (with_reducible refine Below.trans ?_ (hE2.mono (by first | omega | (simp; done) | (simp; omega)))) | (with_reducible refine Below.trans ?_ (hE1.mono (by first | omega | (simp; done) | (simp; omega))))))⟩; have hb := Hb.out; cases b <;> simp_all <;> omega)
          · have ha' : aboveB x s = false := by simpa using ha
            clear ha
            refine' wp_region_seq [.inl _, .inl _, .inl _, .inl _, .inl _, .inl _, .inl _, .inl _, .inl _, .inl _, .inl _, .inl _, .inl _, .inl _, .inl _, .inl _, .inl _, .inl _, .inl _, .inl _] (by kernel_rfl) (by kernel_rfl) ?main7
            case main7 =>
              refine wpParts_det (by rfl) (fun W hE hN => ?_) ?_
              · go_simp; refine ⟨Below.refl _ _, ?_⟩; rfl
              simp only [Act.put, List.setIfInBounds_toArray, List.set_cons_zero, List.set_cons_succ]
              refine wpParts_det (by rfl) (fun W hE hN => ?_) ?_
              · have hc := fun b o h => hE.cell (p := ⟨b, o, none⟩) h
                go_simp; refine ⟨Below.refl _ _, ?_⟩; rfl
              simp only [Act.put, List.setIfInBounds_toArray, List.set_cons_zero, List.set_cons_succ]
              refine wpParts_det (by rfl) (fun W hE hN => ?_) ?_
              · go_simp; refine ⟨Below.refl _ _, ?_⟩; rfl
              simp only [Act.put, List.setIfInBounds_toArray, List.set_cons_zero, List.set_cons_succ]
              refine wpParts_det (by rfl) (fun W hE hN => ?_) ?_
              · have hc := fun b o h => hE.cell (p := ⟨b, o, none⟩) h
                go_simp; refine ⟨Below.refl _ _, ?_⟩; rfl
              simp only [Act.put, List.setIfInBounds_toArray, List.set_cons_zero, List.set_cons_succ]
              refine wpParts_det (by rfl) (fun W hE hN => ?_) ?_
              · go_simp; refine ⟨Below.refl _ _, ?_⟩; rfl
              simp only [Act.put, List.setIfInBounds_toArray, List.set_cons_zero, List.set_cons_succ]
              refine wpParts_det (by rfl) (fun W hE hN => ?_) ?_
              · go_simp; refine ⟨Below.refl _ _, ?_⟩; rfl
              simp only [Act.put, List.setIfInBounds_toArray, List.set_cons_zero, List.set_cons_succ]
              refine wpParts_det (by rfl) (fun W hE hN => ?_) ?_
              · have hc := fun b o h => hE.cell (p := ⟨b, o, none⟩) h
                go_simp; refine ⟨Below.refl _ _, ?_⟩; rfl
              simp only [Act.put, List.setIfInBounds_toArray, List.set_cons_zero, List.set_cons_succ]
              refine wpParts_det (by rfl) (fun W hE hN => ?_) ?_
              · go_simp; refine ⟨Below.refl _ _, ?_⟩; refine (Try_rWhole _ _ _ _ _ _).mono ?_; rintro e w' ⟨rfl, hb⟩; refine ⟨?_, hb⟩; rfl
              simp only [Act.put, List.setIfInBounds_toArray, List.set_cons_zero, List.set_cons_succ]
              refine wpParts_det (by rfl) (fun W hE hN => ?_) ?_
              · have hc := fun b o h => hE.cell (p := ⟨b, o, none⟩) h
                go_simp; refine ⟨Below.refl _ _, ?_⟩; rfl
              simp only [Act.put, List.setIfInBounds_toArray, List.set_cons_zero, List.set_cons_succ]
              refine wpParts_det (by rfl) (fun W hE hN => ?_) ?_
              · go_simp; refine ⟨Below.refl _ _, ?_⟩; refine (Try_rLess _ _ _).mono ?_; rintro e w' ⟨rfl, hb⟩; refine ⟨?_, hb⟩; rfl
              simp only [Act.put, List.setIfInBounds_toArray, List.set_cons_zero, List.set_cons_succ]
              refine wpParts_det (by rfl) (fun W hE hN => ?_) ?_
              · go_simp; refine ⟨Below.refl _ _, ?_⟩; rfl
              simp only [Act.put, List.setIfInBounds_toArray, List.set_cons_zero, List.set_cons_succ]
              refine wpParts_det (by rfl) (fun W hE hN => ?_) ?_
              · go_simp; refine ⟨Below.refl _ _, ?_⟩; rfl
              simp only [Act.put, List.setIfInBounds_toArray, List.set_cons_zero, List.set_cons_succ]
              refine wpParts_det (by rfl) (fun W hE hN => ?_) ?_
              · go_simp; refine ⟨Below.refl _ _, ?_⟩; rfl
              simp only [Act.put, List.setIfInBounds_toArray, List.set_cons_zero, List.set_cons_succ]
              refine wpParts_det (by rfl) (fun W hE hN => ?_) ?_
              · have hc := fun b o h => hE.cell (p := ⟨b, o, none⟩) h
                go_simp; refine ⟨Below.refl _ _, ?_⟩; rfl
              simp only [Act.put, List.setIfInBounds_toArray, List.set_cons_zero, List.set_cons_succ]
              refine wpParts_det (by rfl) (fun W hE hN => ?_) ?_
              · have hc := fun b o h => hE.cell (p := ⟨b, o, none⟩) h
                go_simp; refine ⟨Below.refl _ _, ?_⟩; rfl
              simp only [Act.put, List.setIfInBounds_toArray, List.set_cons_zero, List.set_cons_succ]
              refine wpParts_det (by rfl) (fun W hE hN => ?_) ?_
              · go_simp; refine ⟨Below.refl _ _, ?_⟩; refine (Try_rWhole _ _ _ _ _ _).mono ?_; rintro e w' ⟨rfl, hb⟩; refine ⟨?_, hb⟩; rfl
              simp only [Act.put, List.setIfInBounds_toArray, List.set_cons_zero, List.set_cons_succ]
              refine wpParts_det (by rfl) (fun W hE hN => ?_) ?_
              · go_simp; refine ⟨Below.refl _ _, ?_⟩; refine (Try_rLess _ _ _).mono ?_; rintro e w' ⟨rfl, hb⟩; refine ⟨?_, hb⟩; rfl
              simp only [Act.put, List.setIfInBounds_toArray, List.set_cons_zero, List.set_cons_succ]
              refine wpParts_det (by rfl) (fun W hE hN => ?_) ?_
              · go_simp; refine ⟨Below.refl _ _, ?_⟩; rfl
              simp only [Act.put, List.setIfInBounds_toArray, List.set_cons_zero, List.set_cons_succ]
              refine wpParts_det (by rfl) (fun W hE hN => ?_) ?_
              · go_simp; refine ⟨Below.refl _ _, ?_⟩; rfl
              simp only [Act.put, List.setIfInBounds_toArray, List.set_cons_zero, List.set_cons_succ]
              refine wpParts_det (by rfl) (fun W hE hN => ?_) ?_
              · go_simp; refine ⟨Below.refl _ _, ?_⟩; rfl
              simp only [Act.put, List.setIfInBounds_toArray, List.set_cons_zero, List.set_cons_succ]
              refine wpParts_end fun W4 hE4 hG4 => ?_
              have hcW4 := fun b o h => hE4.cell (p := ⟨b, o, none⟩) h
              have hfW4 := fun b o h => hE4.frozen (p := ⟨b, o, none⟩) h
              go_wp2
              all_goals (go_ret; refine ⟨ret_bool ?_, (by repeat (first | (with_reducible exact Below.refl _ _) | (with_reducible exact Below.refl _ _) | (with_reducible refine Below.setCell ?_ (by first | omega | (simp; done) | (simp; omega)) _) | (with_reducible refine Below.alloc ?_ (by first | omega | (simp; done) | (simp; omega)) _) | (with_reducible refine Below.drew ?_) | (with_reducible refine below_drewN ?_ _) | (with_reducible refine Below.trans ?_ (hE4.mono (by first | omega | (simp; done) | (simp; omega)))) | (with_reducible refine Below.trans ?_ (hE3.mono (by first | omega | (simp; done) | (simp; omega)))) | (with_reducible refine Below.trans ?_ (hE2.mono (by first | omega | (simp; done) | (simp; omega)))) | (with_reducible refine Below.trans ?_ (hE1.mono (by first | omega | (simp; done) | (simp; omega))))))⟩; have hb := Hb.out; cases b <;> simp_all <;> omega)
        · have hd : decide (l ≤ m) = false := by simpa using hlm
          refine' wp_region_seq [.inl _, .inl _, .inl _, .inl _, .inl _, .inl _, .inl undef, .inl undef, .inl undef, .inl undef, .inl undef, .inl _, .inl _, .inl undef, .inl undef, .inl undef, .inl undef, .inl undef, .inl _, .inl _] (by kernel_rfl) (by kernel_rfl) ?main8
          case main8 =>
            refine wpParts_det (by rfl) (fun W hE hN => ?_) ?_
            · go_simp; refine ⟨Below.refl _ _, ?_⟩; rfl
            simp only [Act.put, List.setIfInBounds_toArray, List.set_cons_zero, List.set_cons_succ]
            refine wpParts_det (by rfl) (fun W hE hN => ?_) ?_
            · have hc := fun b o h => hE.cell (p := ⟨b, o, none⟩) h
              go_simp; refine ⟨Below.refl _ _, ?_⟩; rfl
            simp only [Act.put, List.setIfInBounds_toArray, List.set_cons_zero, List.set_cons_succ]
            refine wpParts_det (by rfl) (fun W hE hN => ?_) ?_
            · go_simp; refine ⟨Below.refl _ _, ?_⟩; rfl
            simp only [Act.put, List.setIfInBounds_toArray, List.set_cons_zero, List.set_cons_succ]
            refine wpParts_det (by rfl) (fun W hE hN => ?_) ?_
            · have hc := fun b o h => hE.cell (p := ⟨b, o, none⟩) h
              go_simp; refine ⟨Below.refl _ _, ?_⟩; rfl
            simp only [Act.put, List.setIfInBounds_toArray, List.set_cons_zero, List.set_cons_succ]
            refine wpParts_det (by rfl) (fun W hE hN => ?_) ?_
            · go_simp; refine ⟨Below.refl _ _, ?_⟩; rfl
            simp only [Act.put, List.setIfInBounds_toArray, List.set_cons_zero, List.set_cons_succ]
            refine wpParts_det (by rfl) (fun W hE hN => ?_) ?_
            · go_simp; refine ⟨Below.refl _ _, ?_⟩; rfl
            simp only [Act.put, List.setIfInBounds_toArray, List.set_cons_zero, List.set_cons_succ]
            refine wpParts_skip ?_ ?_
            · rfl
            simp only [Act.put, List.setIfInBounds_toArray, List.set_cons_zero, List.set_cons_succ]
            refine wpParts_skip ?_ ?_
            · rfl
            simp only [Act.put, List.setIfInBounds_toArray, List.set_cons_zero, List.set_cons_succ]
            refine wpParts_skip ?_ ?_
            · rfl
            simp only [Act.put, List.setIfInBounds_toArray, List.set_cons_zero, List.set_cons_succ]
            refine wpParts_skip ?_ ?_
            · rfl
            simp only [Act.put, List.setIfInBounds_toArray, List.set_cons_zero, List.set_cons_succ]
            refine wpParts_skip ?_ ?_
            · rfl
            simp only [Act.put, List.setIfInBounds_toArray, List.set_cons_zero, List.set_cons_succ]
            refine wpParts_det (by rfl) (fun W hE hN => ?_) ?_
            · go_simp; refine ⟨Below.refl _ _, ?_⟩; rfl
            simp only [Act.put, List.setIfInBounds_toArray, List.set_cons_zero, List.set_cons_succ]
            refine wpParts_det (by rfl) (fun W hE hN => ?_) ?_
            · go_simp; refine ⟨Below.refl _ _, ?_⟩; rfl
            simp only [Act.put, List.setIfInBounds_toArray, List.set_cons_zero, List.set_cons_succ]
            refine wpParts_skip ?_ ?_
            · rfl
            simp only [Act.put, List.setIfInBounds_toArray, List.set_cons_zero, List.set_cons_succ]
            refine wpParts_skip ?_ ?_
            · rfl
            simp only [Act.put, List.setIfInBounds_toArray, List.set_cons_zero, List.set_cons_succ]
            refine wpParts_skip ?_ ?_
            · rfl
            simp only [Act.put, List.setIfInBounds_toArray, List.set_cons_zero, List.set_cons_succ]
            refine wpParts_skip ?_ ?_
            · rfl
            simp only [Act.put, List.setIfInBounds_toArray, List.set_cons_zero, List.set_cons_succ]
            refine wpParts_skip ?_ ?_
            · rfl
            simp only [Act.put, List.setIfInBounds_toArray, List.set_cons_zero, List.set_cons_succ]
            refine wpParts_det (by rfl) (fun W hE hN => ?_) ?_
            · go_simp; refine ⟨Below.refl _ _, ?_⟩; rfl
            simp only [Act.put, List.setIfInBounds_toArray, List.set_cons_zero, List.set_cons_succ]
            refine wpParts_det (by rfl) (fun W hE hN => ?_) ?_
            · go_simp; refine ⟨Below.refl _ _, ?_⟩; rfl
            simp only [Act.put, List.setIfInBounds_toArray, List.set_cons_zero, List.set_cons_succ]
            refine wpParts_end fun W4 hE4 hG4 => ?_
            have hcW4 := fun b o h => hE4.cell (p := ⟨b, o, none⟩) h
            have hfW4 := fun b o h => hE4.frozen (p := ⟨b, o, none⟩) h
            go_wp2
            all_goals (go_ret; refine ⟨ret_bool ?_, (by repeat (first | (with_reducible exact Below.refl _ _) | (with_reducible exact Below.refl _ _) | (with_reducible refine Below.setCell ?_ (by first | omega | (simp; done) | (simp; omega)) _) | (with_reducible refine Below.alloc ?_ (by first | omega | (simp; done) | (simp; omega)) _) | (with_reducible refine Below.drew ?_) | (with_reducible refine below_drewN ?_ _) | (with_reducible refine Below.trans ?_ (hE4.mono (by first | omega | (simp; done) | (simp; omega)))) | (with_reducible refine Below.trans ?_ (hE3.mono (by first | omega | (simp; done) | (simp; omega)))) | (with_reducible refine Below.trans ?_ (hE2.mono (by first | omega | (simp; done) | (simp; omega)))) | (with_reducible refine Below.trans ?_ (hE1.mono (by first | omega | (simp; done) | (simp; omega))))))⟩; have hb := Hb.out; cases b <;> simp_all <;> omega)
end Go.Proofs.Ytfhhcpolicdfpaa

namespace Go.Proofs.Ytfhhcpolicdfpaa
set_option linter.unusedVariables false
set_option linter.unusedSimpArgs false
open Go.RowKit Go.Dav

theorem Try_mCheck (r : Red) (w : World) (hl : I64 r.l) (hm : I64 r.m) :
    Calls Try.prog 52 #[.agg #[.int .i64 r.c, .int .i64 r.n, .int .i64 (hi r.s), .int .u64 (lo r.s), .int .i64 r.l, .int .i64 r.m]] w fun e w' =>
      e = .returned (.int .i64 (redE r.ok)) ∧ Below w.heap.size w w' := by
  unfold Red.ok redB
  by_cases h : r.n < 0 ∨ r.c < r.n ∨ 1073741824 < r.c
  · rw [if_pos h]; exact Try_Check_bad _ _ _ _ _ _ h
  rw [if_neg h]
  by_cases h0 : r.n = 0
  · rw [if_pos h0, h0]; exact Try_Check_0 _ _ _ _ _ (by omega) (by omega)
  rw [if_neg h0]
  by_cases h1 : r.n = 1
  · rw [if_pos h1, h1]; exact Try_Check_1 _ _ _ _ _ (by omega) (by omega) hl
  rw [if_neg h1]
  exact Try_Check_2 _ _ _ _ _ _ (by omega) (by omega) (by omega) hl hm

theorem Try_mRight (r : Red) (w : World) (hl : I64 r.l) (hm : I64 r.m) :
    Calls Try.prog 59 #[.agg #[.int .i64 r.c, .int .i64 r.n, .int .i64 (hi r.s), .int .u64 (lo r.s), .int .i64 r.l, .int .i64 r.m]] w fun e w' =>
      e = .returned (.bool r.ok) ∧ Below w.heap.size w w' := by
  unfold Red.ok redB
  by_cases h : r.n < 0 ∨ r.c < r.n ∨ 1073741824 < r.c
  · rw [if_pos h]; exact Try_Right_bad _ _ _ _ _ _ h
  rw [if_neg h]
  by_cases h0 : r.n = 0
  · rw [if_pos h0, h0]; exact Try_Right_0 _ _ _ _ _ (by omega) (by omega)
  rw [if_neg h0]
  by_cases h1 : r.n = 1
  · rw [if_pos h1, h1]; exact Try_Right_1 _ _ _ _ _ (by omega) (by omega) hl
  rw [if_neg h1]
  exact Try_Right_2 _ _ _ _ _ _ (by omega) (by omega) (by omega) hl hm

end Go.Proofs.Ytfhhcpolicdfpaa

namespace Go.Proofs.Ytfhhcpolicdfpaa
set_option linter.unusedVariables false
set_option linter.unusedSimpArgs false
open Go.RowKit Go.Dav
attribute [local go_sem] Gives ite_val ite_val_true

/-- The kind of a name. -/
def TryKindOf (s : List UInt8) : Int × Int :=
  if ([95, 99, 111, 117, 110, 116] == s) = true then (1, 0) else if ([95, 115, 117, 109] == s) = true then (2, 0) else if ([95, 109, 105, 110] == s) = true then (3, 0)
  else if ([95, 109, 97, 120] == s) = true then (4, 0) else if ([95, 115, 116, 97, 116, 115] == s) = true then (5, 0) else (0, 4)

/-- What is told of a sum. -/
def TrySumOf (s : Int) : Int := if fitsB s then 0 else 5
end Go.Proofs.Ytfhhcpolicdfpaa

namespace Go.Proofs.Ytfhhcpolicdfpaa
set_option linter.unusedVariables false
set_option linter.unusedSimpArgs false
open Go.RowKit Go.Dav
attribute [local go_sem] Gives ite_val ite_val_true

end Go.Proofs.Ytfhhcpolicdfpaa

namespace Go.Proofs.Ytfhhcpolicdfpaa
set_option linter.unusedVariables false
set_option linter.unusedSimpArgs false
open Go.RowKit Go.Dav
attribute [local go_sem] Gives ite_val ite_val_true

/-- In block b, from offset o on, the reductions lie one behind the other. -/
def TryRedsAt (W : World) (b o : Nat) (l : List Red) : Prop :=
  ∀ k r, l[k]? = some r → ∀ j v, r.cells[j]? = some v → W.cell? ⟨b, o + k * 6 + j, none⟩ = some v

theorem Try_reds_flat : ∀ (l : List Red) (k : Nat) (r : Red), l[k]? = some r → ∀ (j : Nat) (v : Value), r.cells[j]? = some v → (l.flatMap Red.cells)[k * 6 + j]? = some v
  | [], k, r, h, _, _, _ => by simp at h
  | x :: l, 0, r, h, j, v, hj => by
    have e : x = r := by simpa using h
    subst e
    have hlt : j < x.cells.length := (List.getElem?_eq_some_iff.1 hj).1
    rw [List.flatMap_cons, Nat.zero_mul, Nat.zero_add, List.getElem?_append_left hlt]
    exact hj
  | x :: l, k + 1, r, h, j, v, hj => by
    have ih := Try_reds_flat l k r (by simpa using h) j v hj
    have hx : x.cells.length = 6 := rfl
    rw [List.flatMap_cons, List.getElem?_append_right (by rw [hx]; omega), hx, show (k + 1) * 6 + j - 6 = k * 6 + j by omega]
    exact ih

theorem Try_RedsAt_flat {W : World} {b : Nat} {l : List Red} {cs : List Value} {t : TypeId} (h : Blk W b cs t) (e : l.flatMap Red.cells = cs) : TryRedsAt W b 0 l := by
  subst e
  intro k r hk j v hj
  rw [Nat.zero_add]
  exact h.cell _ (Try_reds_flat l k r hk j v hj)

def TryJoinRel (w : World) (l : List Red) (ix ev : Value) (wr : World) : Prop :=
  ∃ k : Nat, k ≤ l.length ∧ ix = .int .i64 k ∧ ev = .int .i64 0 ∧ (∀ j r, j < k → l[j]? = some r → r.ok = true) ∧
    Blk wr w.heap.size [.int .i64 0, .int .i64 0, .int .i64 0, .int .u64 0, .int .i64 0, .int .i64 0] 47 ∧
    Blk wr (w.heap.size + 1) [.int .i64 0, .int .i64 0, .int .i64 0, .int .u64 0, .int .i64 0, .int .i64 0] 47 ∧ Below w.heap.size w wr

/-- The reduction of the first k is at hand. -/
def TryJoinRel2 (w : World) (l : List Red) (ix : Value) (wr : World) : Prop :=
  ∃ (k : Nat) (acc : Red), k ≤ l.length ∧ ix = .int .i64 k ∧ joinL Red.zero l = joinL acc (l.drop k) ∧ acc.fine ∧
    Blk wr w.heap.size [.int .i64 0, .int .i64 0, .int .i64 0, .int .u64 0, .int .i64 0, .int .i64 0] 47 ∧
    Blk wr (w.heap.size + 1) acc.cells 47 ∧ Below w.heap.size w wr

set_option maxRecDepth 4000 in
set_option maxHeartbeats 4000000 in
theorem Try_Join (b o cap : Nat) (l : List Red) (w : World) (hl : (l.length : Int) ≤ 9223372036854775807) (hb : b < w.heap.size) (hr : TryRedsAt w b o l) (hf : ∀ r ∈ l, r.fits) :
    Calls Try.prog 26 #[.slice (some ⟨b, o, none⟩) l.length cap] w fun e w' =>
      e = .returned (.tuple #[.agg (joined l).1.cells.toArray, .int .i64 (joined l).2]) ∧ Below w.heap.size w w' := by
  go_enter Try.func26, Try.ntmps26
  go_wp2_with fail
  go_step3
  go_wp2_with fail
  go_step3
  go_wp2_with fail
  go_loopw [13, 4] (fun ix ev wr => TryJoinRel w l ix ev wr) (fun ix _ _ => l.length - (intOf ix).toNat)
  case atStart =>
    refine ⟨0, Nat.zero_le _, rfl, rfl, fun j r hj => by omega, (Blk.new _ [_, _, _, _, _, _] _).alloc _, Blk.new' _ [_, _, _, _, _, _] _ (by simp), (by repeat (first | (with_reducible exact Below.refl _ _) | (with_reducible exact Below.refl _ _) | (with_reducible refine Below.setCell ?_ (by first | omega | (simp; done) | (simp; omega)) _) | (with_reducible refine Below.alloc ?_ (by first | omega | (simp; done) | (simp; omega)) _) | (with_reducible refine Below.drew ?_) | (with_reducible refine below_drewN ?_ _)))⟩
  case round =>
    obtain ⟨k, hk, rfl, rfl, hok, hres, hout, hbel⟩ := hrel
    have hbs := hbel.size
    have hbw : b < wr.heap.size := by omega
    have lr := hres.lt
    have lout := hout.lt
    by_cases hlt : k < l.length
    · obtain ⟨r, hrk⟩ : ∃ r, l[k]? = some r := ⟨_, List.getElem?_eq_getElem hlt⟩
      have hfit := hf r (List.mem_of_getElem? hrk)
      have q : ∀ j v, r.cells[j]? = some v → wr.cell? ⟨b, o + k * 6 + j, none⟩ = some v := fun j v h => by rw [hbel.cell (p := ⟨b, o + k * 6 + j, none⟩) hb]; exact hr k r hrk j v h
      have q0 := q 0 _ rfl
      rw [Nat.add_zero] at q0
      have q1 := q 1 _ rfl
      have q2 := q 2 _ rfl
      have q3 := q 3 _ rfl
      have q4 := q 4 _ rfl
      have q5 := q 5 _ rfl
      clear q
      have hkl : (k : Int) < (l.length : Int) := by omega
      have HK := Lib.hid hk; clear hk
      have HL := Lib.hid hlt; clear hlt
      have HR := Lib.hid hrk; clear hrk
      have HO := Lib.hid hok; clear hok
      have HRR := Lib.hid hr; clear hr
      have HF := Lib.hid hf; clear hf
      go_wp2_with fail
      refine (Try_mCheck r _ hfit.2.2.1 hfit.2.2.2).mono ?_; rintro e w1 ⟨rfl, hb1⟩; obtain ⟨hc1, hf1, hs1⟩ := after hb1
      simp at hs1
      have lt_w1_0_0 : w.heap.size < w1.heap.size := by omega
      have lt_w1_0_1 : w.heap.size < w1.heap.size + 1 := by omega
      have lt_w1_1_0 : w.heap.size + 1 < w1.heap.size := by omega
      have lt_w1_1_1 : w.heap.size + 1 < w1.heap.size + 1 := by omega
      have hres1 := (hres.alloc _).ext hb1
      have hout1 := (hout.alloc _).ext hb1
      have bel1 : Below w.heap.size w w1 := (by repeat (first | (with_reducible exact Below.refl _ _) | (with_reducible exact Below.refl _ _) | (with_reducible refine Below.setCell ?_ (by first | omega | (simp; done) | (simp; omega)) _) | (with_reducible refine Below.alloc ?_ (by first | omega | (simp; done) | (simp; omega)) _) | (with_reducible refine Below.drew ?_) | (with_reducible refine below_drewN ?_ _) | (with_reducible refine Below.trans ?_ (hb1.mono (by first | omega | (simp; done) | (simp; omega)))) | (with_reducible refine Below.trans ?_ (hbel.mono (by first | omega | (simp; done) | (simp; omega))))))
      by_cases hv : r.ok = true
      · have er : redE r.ok = 0 := by rw [hv]; rfl
        rw [er]
        go_wp2_with fail
        go_roundw
        case rel => 
          refine ⟨k + 1, HL.out, by go_num, rfl, fun j r' hj h => ?_, hres1, hout1, bel1⟩
          by_cases e : j = k
          · subst e; rw [HR.out] at h; cases h; exact hv
          · exact HO.out j r' (by omega) h
        case measure => have := HL.out; simp [intOf]; omega
      · have er : redE r.ok = 230 := by unfold redE; rw [if_neg hv]
        rw [er]
        clear hc1 hf1
        have r0 := hres1.cell 0 rfl
        have r1 := hres1.cell 1 rfl
        have r2 := hres1.cell 2 rfl
        have r3 := hres1.cell 3 rfl
        have r4 := hres1.cell 4 rfl
        have r5 := hres1.cell 5 rfl
        have g0 := hres1.frozen 0
        have g1 := hres1.frozen 1
        have g2 := hres1.frozen 2
        have g3 := hres1.frozen 3
        have g4 := hres1.frozen 4
        have g5 := hres1.frozen 5
        go_wp2
        rw [Exit.noGoto_ret]
        have hj : joined l = (Red.zero, 230) := by
          unfold joined
          rw [if_neg]
          intro hc
          exact hv (List.all_eq_true.1 hc r (List.mem_of_getElem? HR.out))
        refine bodyPost_ret (v := .tuple #[.agg #[.int .i64 0, .int .i64 0, .int .i64 0, .int .u64 0, .int .i64 0, .int .i64 0], .int .i64 230]) (by simp [results, Try.results26, go_sem, r0, r1, r2, r3, r4, r5]) rfl ⟨by rw [hj]; simp [Red.zero, Red.cells, hi_zero, lo_zero], ?_⟩
        exact (by repeat (first | (with_reducible exact Below.refl _ _) | (with_reducible exact Below.refl _ _) | (with_reducible refine Below.setCell ?_ (by first | omega | (simp; done) | (simp; omega)) _) | (with_reducible refine Below.alloc ?_ (by first | omega | (simp; done) | (simp; omega)) _) | (with_reducible refine Below.drew ?_) | (with_reducible refine below_drewN ?_ _) | (with_reducible refine Below.trans ?_ (bel1.mono (by first | omega | (simp; done) | (simp; omega))))))
    · have hkl : k = l.length := by omega
      subst hkl
      have hall : l.all Red.ok = true := List.all_eq_true.2 fun r hr => by
        obtain ⟨j, hj, e⟩ := List.mem_iff_getElem.1 hr
        exact hok j r hj (by rw [List.getElem?_eq_getElem hj, e])
      have HO := Lib.hid hok; clear hok
      have HA := Lib.hid hall; clear hall
      have HRR := Lib.hid hr; clear hr
      have HF := Lib.hid hf; clear hf
      clear hk hlt
      go_wp2_with fail
      go_loopw [28] (fun ix wr2 => TryJoinRel2 w l ix wr2) (fun ix _ => l.length - (intOf ix).toNat)
      case atStart =>
        refine ⟨0, Red.zero, Nat.zero_le _, rfl, rfl, Red.zero_fine, hres, ?_, hbel⟩
        have := hout
        simpa [Red.zero, Red.cells, hi_zero, lo_zero] using this
      case round =>
        obtain ⟨k, acc, hk, rfl, hacc, hfine, hres, hout, hbel⟩ := hrel
        have hbs := hbel.size
        have hbw : b < wr.heap.size := by omega
        have lr := hres.lt
        have lout := hout.lt
        have r0 := hres.cell 0 rfl
        have r1 := hres.cell 1 rfl
        have r2 := hres.cell 2 rfl
        have r3 := hres.cell 3 rfl
        have r4 := hres.cell 4 rfl
        have r5 := hres.cell 5 rfl
        have g0 := hres.frozen 0
        have g1 := hres.frozen 1
        have g2 := hres.frozen 2
        have g3 := hres.frozen 3
        have g4 := hres.frozen 4
        have g5 := hres.frozen 5
        have p0 := hout.frozen 0
        have p1 := hout.frozen 1
        have p2 := hout.frozen 2
        have p3 := hout.frozen 3
        have p4 := hout.frozen 4
        have p5 := hout.frozen 5
        have o0 := hout.cell 0 rfl
        have o1 := hout.cell 1 rfl
        have o2 := hout.cell 2 rfl
        have o3 := hout.cell 3 rfl
        have o4 := hout.cell 4 rfl
        have o5 := hout.cell 5 rfl
        by_cases hlt : k < l.length
        · obtain ⟨r, hrk⟩ : ∃ r, l[k]? = some r := ⟨_, List.getElem?_eq_getElem hlt⟩
          have hfit := HF.out r (List.mem_of_getElem? hrk)
          have hrok : r.ok = true := HO.out k r hlt hrk
          have hrf := Red.fine_of hrok
          have hdrop : l.drop k = r :: l.drop (k + 1) := by
            rw [List.getElem?_eq_getElem hlt] at hrk; cases hrk
            exact List.drop_eq_getElem_cons hlt
          have q : ∀ j v, r.cells[j]? = some v → wr.cell? ⟨b, o + k * 6 + j, none⟩ = some v := fun j v h => by rw [hbel.cell (p := ⟨b, o + k * 6 + j, none⟩) hb]; exact HRR.out k r hrk j v h
          have q0 := q 0 _ rfl
          rw [Nat.add_zero] at q0
          have q1 := q 1 _ rfl
          have q2 := q 2 _ rfl
          have q3 := q 3 _ rfl
          have q4 := q 4 _ rfl
          have q5 := q 5 _ rfl
          clear q
          have hkl : (k : Int) < (l.length : Int) := by omega
          have hsub : IntKind.i64.wrap (1073741824 - r.c) = 1073741824 - r.c := by rw [i64_wrap_def]; unfold Red.fine at hrf; omega
          have HD := Lib.hid hdrop; clear hdrop
          have HK := Lib.hid hk; clear hk
          have HL := Lib.hid hlt; clear hlt
          have HR := Lib.hid hrk; clear hrk
          have HC := Lib.hid hacc; clear hacc
          have HV := Lib.hid hrok; clear hrok
          have HS := Lib.hid hfine; clear hfine
          have HRF := Lib.hid hrf; clear hrf
          by_cases hov : 1073741824 - r.c < acc.c
          · go_wp2
            rw [Exit.noGoto_ret]
            have hj : joined l = (Red.zero, 5) := by
              unfold joined
              rw [if_pos HA.out, HC.out, HD.out, joinL, if_pos hov]
            refine bodyPost_ret (v := .tuple #[.agg #[.int .i64 0, .int .i64 0, .int .i64 0, .int .u64 0, .int .i64 0, .int .i64 0], .int .i64 5]) (by simp [results, Try.results26, go_sem, lr, r0, r1, r2, r3, r4, r5]) rfl ⟨by rw [hj]; simp [Red.zero, Red.cells, hi_zero, lo_zero], ?_⟩
            exact (by repeat (first | (with_reducible exact Below.refl _ _) | (with_reducible exact Below.refl _ _) | (with_reducible refine Below.setCell ?_ (by first | omega | (simp; done) | (simp; omega)) _) | (with_reducible refine Below.alloc ?_ (by first | omega | (simp; done) | (simp; omega)) _) | (with_reducible refine Below.drew ?_) | (with_reducible refine below_drewN ?_ _) | (with_reducible refine Below.trans ?_ (hbel.mono (by first | omega | (simp; done) | (simp; omega))))))
          · go_wp2_with fail
            (with_reducible refine (Try_both acc.c acc.n acc.s acc.l acc.m r.c r.n r.s r.l r.m _ (Red.fine_n HS.out) (Red.fine_n HRF.out) (by have h1 := HS.out; have h2 := HRF.out; unfold Red.fine at h1 h2; rw [i64_wrap_def]; omega)
              (by have h1 := HS.out; have h2 := HRF.out; unfold Red.fine at h1 h2; rw [i64_wrap_def]; omega)).mono ?_); rintro e w1 ⟨rfl, hb1⟩; obtain ⟨hc1, hf1, hs1⟩ := after hb1
            simp at hs1
            have lt_w1_0_0 : w.heap.size < w1.heap.size := by omega
            have lt_w1_0_1 : w.heap.size < w1.heap.size + 1 := by omega
            have lt_w1_1_0 : w.heap.size + 1 < w1.heap.size := by omega
            have lt_w1_1_1 : w.heap.size + 1 < w1.heap.size + 1 := by omega
            have hres1 := (hres.alloc _).ext hb1
            have hout1 := (hout.alloc _).ext hb1
            have bel1 : Below w.heap.size w w1 := (by repeat (first | (with_reducible exact Below.refl _ _) | (with_reducible exact Below.refl _ _) | (with_reducible refine Below.setCell ?_ (by first | omega | (simp; done) | (simp; omega)) _) | (with_reducible refine Below.alloc ?_ (by first | omega | (simp; done) | (simp; omega)) _) | (with_reducible refine Below.drew ?_) | (with_reducible refine below_drewN ?_ _) | (with_reducible refine Below.trans ?_ (hb1.mono (by first | omega | (simp; done) | (simp; omega)))) | (with_reducible refine Below.trans ?_ (hbel.mono (by first | omega | (simp; done) | (simp; omega))))))
            go_wp2_with fail
            go_roundw
            case rel =>
              refine ⟨k + 1, acc.both r, HL.out, by go_num, ?_, Red.both_fine HS.out HRF.out (Int.not_lt.2 hov), ?_, ?_, ?_⟩
              · rw [HC.out, HD.out, joinL, if_neg (Int.not_lt.2 hov)]
              · exact (((((hres1.other (by omega) _ _).other (by omega) _ _).other (by omega) _ _).other (by omega) _ _).other (by omega) _ _).other (by omega) _ _
              · exact (((((hout1.set 0 _).set 1 _).set 2 _).set 3 _).set 4 _).set 5 _
              · exact (by repeat (first | (with_reducible exact Below.refl _ _) | (with_reducible exact Below.refl _ _) | (with_reducible refine Below.setCell ?_ (by first | omega | (simp; done) | (simp; omega)) _) | (with_reducible refine Below.alloc ?_ (by first | omega | (simp; done) | (simp; omega)) _) | (with_reducible refine Below.drew ?_) | (with_reducible refine below_drewN ?_ _) | (with_reducible refine Below.trans ?_ (bel1.mono (by first | omega | (simp; done) | (simp; omega))))))
            case measure => have := HL.out; simp [intOf]; omega
        · have hkl : k = l.length := by omega
          subst hkl
          have hj : joined l = (acc, 0) := by
            unfold joined
            rw [if_pos HA.out, hacc, List.drop_length]
            rfl
          have HJ := Lib.hid hj; clear hj
          clear hacc hk hlt hfine
          go_wp2
          rw [Exit.noGoto_ret]
          refine bodyPost_ret (v := .tuple #[.agg #[.int .i64 acc.c, .int .i64 acc.n, .int .i64 (hi acc.s), .int .u64 (lo acc.s), .int .i64 acc.l, .int .i64 acc.m], .int .i64 0]) (by simp [results, Try.results26, go_sem, lr, r0, r1, r2, r3, r4, r5]) rfl ⟨by rw [HJ.out]; rfl, ?_⟩
          exact (by repeat (first | (with_reducible exact Below.refl _ _) | (with_reducible exact Below.refl _ _) | (with_reducible refine Below.setCell ?_ (by first | omega | (simp; done) | (simp; omega)) _) | (with_reducible refine Below.alloc ?_ (by first | omega | (simp; done) | (simp; omega)) _) | (with_reducible refine Below.drew ?_) | (with_reducible refine below_drewN ?_ _) | (with_reducible refine Below.trans ?_ (hbel.mono (by first | omega | (simp; done) | (simp; omega))))))

/-- The same, the length a number of its own. -/
theorem Try_Join' (b o n cap : Nat) (l : List Red) (w : World) (hn : l.length = n) (hl : (n : Int) ≤ 9223372036854775807) (hb : b < w.heap.size) (hr : TryRedsAt w b o l) (hf : ∀ r ∈ l, r.fits) :
    Calls Try.prog 26 #[.slice (some ⟨b, o, none⟩) n cap] w fun e w' =>
      e = .returned (.tuple #[.agg (joined l).1.cells.toArray, .int .i64 (joined l).2]) ∧ Below w.heap.size w w' := by
  subst hn
  exact Try_Join b o cap l w hl hb hr hf

theorem Try_reds_tail {W : World} {b o : Nat} {x : Red} {l : List Red} (h : TryRedsAt W b o (x :: l)) : TryRedsAt W b (o + 6) l := fun k r hk j v hj => by
  have := h (k + 1) r (by simpa using hk) j v hj
  rwa [show o + (k + 1) * 6 + j = o + 6 + k * 6 + j by omega] at this
theorem Try_reds_cells {W : World} {b : Nat} : ∀ (l : List Red) (o : Nat), TryRedsAt W b o l → ∀ (j : Nat) (u : Value), (l.flatMap Red.cells)[j]? = some u → W.cell? ⟨b, o + j, none⟩ = some u
  | [], _, _, j, u, h => by simp at h
  | x :: l, o, hr, j, u, h => by
    rw [List.flatMap_cons] at h
    have hx : x.cells.length = 6 := rfl
    by_cases hj : j < 6
    · rw [List.getElem?_append_left (by rw [hx]; exact hj)] at h
      have := hr 0 x rfl j u h
      rwa [show o + 0 * 6 + j = o + j by omega] at this
    · rw [List.getElem?_append_right (by rw [hx]; omega), hx] at h
      have := Try_reds_cells l (o + 6) (Try_reds_tail hr) (j - 6) u h
      rwa [show o + 6 + (j - 6) = o + j by omega] at this
theorem Try_reds_len (l : List Red) : (l.flatMap Red.cells).length = l.length * 6 := by
  induction l with
  | nil => rfl
  | cons x l ih => rw [List.flatMap_cons, List.length_append, ih, List.length_cons]; simp [Red.cells]; omega
theorem Try_reds_one (l : List Red) : ∀ u ∈ l.flatMap Red.cells, u.oneCell' = true := by
  intro u hu
  obtain ⟨r, _, hr⟩ := List.mem_flatMap.1 hu
  simp [Red.cells] at hr
  rcases hr with rfl | rfl | rfl | rfl | rfl | rfl <;> rfl
theorem Try_reds_take {W : World} {b o : Nat} {l : List Red} (k : Nat) (h : TryRedsAt W b o l) : TryRedsAt W b o (l.take k) := fun i r hi j v hj =>
  h i r (by rw [List.getElem?_take] at hi; split at hi <;> simp_all) j v hj
theorem Try_reds_below {W W' : World} {B b o : Nat} {l : List Red} (h : TryRedsAt W b o l) (hb : Below B W W') (hlt : b < B) : TryRedsAt W' b o l := fun i r hi j v hj => by
  rw [hb.cell (p := ⟨b, o + i * 6 + j, none⟩) hlt]; exact h i r hi j v hj
/-- What an append of reductions has made. -/
theorem Try_reds_own {W : World} {B n : Nat} {v : Value} {l : List Red} (h : W.ownsRow B 47 6 v n (l.flatMap Red.cells)) (hn : 0 < n) :
    ∃ g cap, v = .slice (some ⟨g, 0, none⟩) n cap ∧ B ≤ g ∧ g < W.heap.size ∧ n ≤ cap ∧ TryRedsAt W g 0 l := by
  rcases h.2 with ⟨_, h0⟩ | ⟨g, cap, cur, hv, hg, hh, hc, _⟩
  · omega
  · refine ⟨g, cap, hv, hg, (Array.getElem?_eq_some_iff.1 hh).1, hc, fun k r hk j u hj => ?_⟩
    have := h.cells (g := g) (by rw [hv]; rfl) _ _ (Try_reds_flat l k r hk j u hj)
    rw [Addr.add_mid] at this
    rw [Nat.add_assoc]
    exact this
theorem below_grown {w w' : World} (h : w.grownBy w' Option.none) : Below w.heap.size w w' := ⟨h.os, h.tape, h.output, h.size, fun k hk => h.block k hk (fun e => by cases e)⟩
end Go.Proofs.Ytfhhcpolicdfpaa

namespace Go.Proofs.Ytfhhcpolicdfpaa
set_option linter.unusedVariables false
set_option linter.unusedSimpArgs false
open Go.RowKit Go.Dav
attribute [local go_sem] Gives ite_val ite_val_true

end Go.Proofs.Ytfhhcpolicdfpaa

namespace Go.Dav
set_option linter.unusedVariables false
set_option linter.unusedSimpArgs false
open Go Go.RowKit

section
variable {P : Program} {ops : Array Oper}

/-- A part of a tuple, a copy: what it yields hangs on no world. -/
def plainB (o : Oper) : Bool := o.guard.isNone && match o.op with
  | .extract _ _ => true
  | .move _ => true
  | _ => false

/-- The free ones are plain, and apart from what stands behind and from one another. -/
def freeB (ops : Array Oper) (n : Nat) (F : List Nat) : Bool :=
  F.all fun i => decide (i < n) && match ops[i]? with
    | none => false
    | some oi => plainB oi && (List.range ops.size).all fun j => j == i || (decide (j < n) && !F.contains j) || match ops[j]? with
      | some oj => oj.after.any (fun e => Region.binds .any e && e.on == i) || oi.apart ops oj
      | none => true

/-- Every one that is not free is waited for, by one behind it that is not free. -/
def sinkFB (ops : Array Oper) (n : Nat) (F : List Nat) : Bool :=
  (List.range n).all fun i => F.contains i || (List.range (n + 1)).any fun j => decide (i < j) && !F.contains j && Region.waitsFor .any ops j i

def partsFB (ops : Array Oper) (n : Nat) (F : List Nat) : Bool :=
  Region.noSelect ops && tidyB ops n && backB ops n && decide (n < ops.size) && (sinkFB ops n F && Region.chainB .any ops n) && freeB ops n F &&
    Region.seqB .any ops (ops.size - n) n ((Array.range ops.size).map fun j => decide (j < n)) && !F.contains n

theorem tail_waitsF {n : Nat} {F : List Nat} {listed : Array Bool} (hs : sinkFB ops n F = true) (hc : Region.chainB .any ops n = true) (hn : n < ops.size) (hF : F.contains n = false) (inv : HeadInv .any ops n listed) :
    ∀ (d i : Nat), n - i = d → i < n → F.contains i = false → listed.getD i true = false → ∀ t, n ≤ t → t ∉ Region.ready .any ops listed := by
  intro d
  induction d using Nat.strongRecOn with
  | _ d ih =>
    intro i hd hi hfi hun t ht hr
    obtain ⟨_, ot, hot, hall⟩ := mem_ready.1 hr
    have htlt : t < ops.size := (Array.getElem?_eq_some_iff.1 hot).1
    by_cases htn : t = n
    · subst htn
      have h1 := List.all_eq_true.1 hs i (List.mem_range.2 hi)
      rw [hfi, Bool.false_or] at h1
      obtain ⟨j, hj, hj2⟩ := List.any_eq_true.1 h1
      simp only [Bool.and_eq_true, decide_eq_true_eq, Bool.not_eq_true'] at hj2
      obtain ⟨oj, hoj, e, he, hb, hon⟩ := Region.waitsFor_spec hj2.2
      have hjle : j ≤ t := by have := List.mem_range.1 hj; omega
      by_cases hjt : j = t
      · subst hjt
        have : oj = ot := Option.some.inj (hoj.symm.trans hot)
        subst this
        have h2 := hall e he hb
        rw [hon, getD_both hun] at h2
        cases h2
      · cases hl : listed.getD j false with
        | true =>
          have h2 := inv.closed j oj hoj hl e he hb
          rw [hon, getD_both hun] at h2
          cases h2
        | false =>
          have hjs : j < listed.size := by rw [inv.size]; omega
          exact ih (t - j) (by omega) j rfl (by omega) hj2.1.2 (getD_in hjs hl) t (Nat.le_refl _) hr
    · have h1 := List.all_eq_true.1 hc t (List.mem_range.2 htlt)
      simp only [Bool.or_eq_true, decide_eq_true_eq] at h1
      rcases h1 with h1 | h1
      · omega
      · obtain ⟨o', ho', e, he, hb, hon⟩ := Region.waitsFor_spec h1
        have : o' = ot := Option.some.inj (ho'.symm.trans hot)
        subst this
        have h2 := hall e he hb
        rw [hon, getD_both (inv.tail (t - 1) (by omega) (by omega))] at h2
        cases h2

/-- A plain operation yields what it yields in whatever world. -/
theorem plain_yields {o : Oper} {a : Act} {W : World} {R : Value → World → Prop} (hp : plainB o = true) (h : Gives P o a W R) :
    ∃ v, Yields P ops o v a ∧ R v W := by
  unfold plainB at hp
  simp only [Bool.and_eq_true, Option.isNone_iff_eq_none] at hp
  have hw : Region.wanted o (yielded ops a.tmps) = true := by unfold Region.wanted; rw [hp.1]
  have hop := hp.2
  cases he : o.op with
  | move x =>
    have hr : ∀ w, (execOp a.eval o).run P w = .ok (.value (a.eval x)) w := fun w => by
      simp only [execOp, he]
      rfl
    unfold Gives at h
    rw [hr] at h
    exact ⟨_, .inl ⟨hw, hr⟩, h.2⟩
  | extract x k =>
    unfold Gives at h
    cases hx : a.eval x with
    | tuple vs =>
      cases hk : vs[k]? with
      | some v =>
        have hr : ∀ w, (execOp a.eval o).run P w = .ok (.value v) w := fun w => by
          simp only [execOp, he, hx]
          simp [Instr.extract, hk, go_sem]
        rw [hr] at h
        exact ⟨_, .inl ⟨hw, hr⟩, h.2⟩
      | none =>
        exfalso
        simp only [execOp, he, hx] at h
        simp [Instr.extract, hk, go_sem] at h
    | _ =>
      exfalso
      simp only [execOp, he, hx] at h
      simp [Instr.extract, go_sem] at h
  | _ => rw [he] at hop; cases hop

/-- What an operation of the head gives, wherever its turn comes. -/
theorem mid_gives {n : Nat} {ps : Nat → Value ⊕ (Value → World → Prop)} {a0 : Act} {w0 : World} {listed : Array Bool} {vs : Nat → Value} {a : Act} {W : World}
    (hB : tidyB ops n = true) (hsel : Region.noSelect ops = true)
    (hop : ∀ vs i, i < n → stepFor P ops ps a0 w0 vs i) (inv : HeadInv .any ops n listed) (mid : Mid ops n ps a0 w0 listed vs a W)
    {i : Nat} {oi : Oper} (hr : i ∈ Region.ready .any ops listed) (hin : i < n) (hoi : ops[i]? = some oi) (hg : oi.guard = none) : Gives P oi a W (holdsOf (ps i)) := by
  obtain ⟨hun, oi', hoi', hall⟩ := mem_ready.1 hr
  obtain rfl : oi' = oi := Option.some.inj (hoi'.symm.trans hoi)
  have hunf : listed.getD i false = false := getD_both hun
  have later : ∀ j oj d, j < n → ops[j]? = some oj → oj.dst = some d → listed.getD j false = true → (d ∈ oi'.looksAt ops ∨ oi'.dst = some d) → j < i := by
    intro j oj d hj hoj hd hl hlook
    have hji : i ≠ j := fun e => by subst e; rw [hunf] at hl; cases hl
    obtain ⟨_, h1, _⟩ := tidy_spec hB hin hj hoi hoj hd (hlook.imp id fun h => ⟨h, hji⟩)
    rcases Nat.lt_trichotomy i j with h | h | h
    · obtain ⟨oj', hoj', e, he, hb, hon⟩ := Region.waitsFor_spec (h1 h)
      have := inv.closed j oj' hoj' hl e he hb
      rw [hon, hunf] at this
      cases this
    · exact absurd h hji
    · exact h
  have early : ∀ j oj d, j < i → ops[j]? = some oj → oj.dst = some d → (d ∈ oi'.looksAt ops) → listed.getD j false = true := by
    intro j oj d hj hoj hd hlook
    obtain ⟨_, _, h2⟩ := tidy_spec hB hin (by omega) hoi hoj hd (.inl hlook)
    obtain ⟨oi2, hoi2, e, he, hb, hon⟩ := Region.waitsFor_spec (h2 hj)
    have : oi2 = oi' := Option.some.inj (hoi2.symm.trans hoi)
    subst this
    have := hall e he hb
    rwa [hon] at this
  have looks : ∀ t ∈ oi'.looksAt ops, (lay ops vs a0 i).tmps[t]? = a.tmps[t]? := by
    intro t ht
    rw [lay_get, mid.slots t]
    unfold slotOf
    rw [lastW_eq (ops := ops) (t := t) (p := fun _ => true) (q := fun j => listed.getD j false) (m := i) (n := n) ?_]
    intro j
    constructor
    · rintro ⟨h1, _, h3⟩
      obtain ⟨oj, hoj, hd⟩ := Option.bind_eq_some_iff.1 h3
      exact ⟨by omega, early j oj t h1 hoj hd ht, h3⟩
    · rintro ⟨h1, h2, h3⟩
      obtain ⟨oj, hoj, hd⟩ := Option.bind_eq_some_iff.1 h3
      exact ⟨later j oj t h1 hoj hd h2 (.inl ht), rfl, h3⟩
  have hdeps : depsHold ops ps vs oi' W i := depsHold_of i fun j d hj hd hl => by
    obtain ⟨oj, hoj, hd'⟩ := Option.bind_eq_some_iff.1 hd
    exact mid.held j (by omega) (early j oj d hj hoj hd' hl)
  have hs := hop vs i hin
  unfold stepFor at hs
  simp only [hoi] at hs
  have hs := hs W mid.ext hdeps
  have hw : Region.wanted oi' (yielded ops (lay ops vs a0 i).tmps) = true := by unfold Region.wanted; rw [hg]
  rw [if_pos hw] at hs
  exact hs.of_eval (exec_congr (fun cs b => Region.noSelect_spec hsel i oi' cs b hoi) (fun t ht => (looks t ht).symm))

/-- What holds behind an operation of the head. -/
theorem mid_put {n : Nat} {ps : Nat → Value ⊕ (Value → World → Prop)} {a0 : Act} {w0 : World} {listed : Array Bool} {vs : Nat → Value} {a : Act} {W : World}
    (hB : tidyB ops n = true) (hst : ∀ j R, ps j = .inr R → ∀ v W W', R v W → Below W.heap.size W W' → R v W')
    (inv : HeadInv .any ops n listed) (mid : Mid ops n ps a0 w0 listed vs a W)
    {i : Nat} {oi : Oper} (hr : i ∈ Region.ready .any ops listed) (hin : i < n) (hoi : ops[i]? = some oi) {v : Value} {W' : World} (hb : Below W.heap.size W W') (hv : holdsOf (ps i) v W') :
    Mid ops n ps a0 w0 (listed.setIfInBounds i true) (fun j => if j = i then v else vs j) (a.put oi.dst v) W' := by
  obtain ⟨hun, oi', hoi', hall⟩ := mem_ready.1 hr
  obtain rfl : oi' = oi := Option.some.inj (hoi'.symm.trans hoi)
  have hunf : listed.getD i false = false := getD_both hun
  have hisz : i < listed.size := by rw [inv.size]; exact (Array.getElem?_eq_some_iff.1 hoi).1
  have later : ∀ j oj d, j < n → ops[j]? = some oj → oj.dst = some d → listed.getD j false = true → (d ∈ oi'.looksAt ops ∨ oi'.dst = some d) → j < i := by
    intro j oj d hj hoj hd hl hlook
    have hji : i ≠ j := fun e => by subst e; rw [hunf] at hl; cases hl
    obtain ⟨_, h1, _⟩ := tidy_spec hB hin hj hoi hoj hd (hlook.imp id fun h => ⟨h, hji⟩)
    rcases Nat.lt_trichotomy i j with h | h | h
    · obtain ⟨oj', hoj', e, he, hb, hon⟩ := Region.waitsFor_spec (h1 h)
      have := inv.closed j oj' hoj' hl e he hb
      rw [hon, hunf] at this
      cases this
    · exact absurd h hji
    · exact h
  refine ⟨ext_trans mid.ext hb, by rw [put_size, mid.size], by rw [put_defers, mid.defers], fun t => ?_, fun j hj hl => ?_⟩
  · rw [put_get, mid.size]
    unfold slotOf
    by_cases hd : oi'.dst = some t
    · simp only [hd, if_true]
      have : lastW ops (fun j => (listed.setIfInBounds i true).getD j false) t n = some i := by
        cases hc : lastW ops (fun j => (listed.setIfInBounds i true).getD j false) t n with
        | none => exact absurd ⟨by simp [hisz], by simp [hoi, hd]⟩ (lastW_none hc i hin)
        | some j =>
          obtain ⟨c1, c2, c3, c4⟩ := lastW_some hc
          obtain ⟨oj, hoj, hdj⟩ := Option.bind_eq_some_iff.1 c3
          by_cases e : j = i
          · rw [e]
          · have hlj : listed.getD j false = true := by rwa [getD_set_ne false (Ne.symm e)] at c2
            have := later j oj t c1 hoj hdj hlj (.inr hd)
            exact absurd ⟨by simp [hisz], by simp [hoi, hd]⟩ (c4 i this hin)
      rw [this]
      simp
    · simp only [hd, if_false]
      rw [mid.slots t]
      unfold slotOf
      have : lastW ops (fun j => (listed.setIfInBounds i true).getD j false) t n = lastW ops (fun j => listed.getD j false) t n := by
        refine lastW_eq fun j => ?_
        by_cases e : j = i
        · subst e; simp [hoi, hd]
        · rw [getD_set_ne false (Ne.symm e)]
      rw [this]
      cases hc : lastW ops (fun j => listed.getD j false) t n with
      | none => rfl
      | some j =>
        obtain ⟨c1, c2, c3, c4⟩ := lastW_some hc
        have e : j ≠ i := fun e => by subst e; simp [hoi, hd] at c3
        simp [e]
  · by_cases e : j = i
    · subst e; simpa using hv
    · simp only [e, if_false]
      have hl' : listed.getD j false = true := by rwa [getD_set_ne false (Ne.symm e)] at hl
      have h1 := mid.held j hj hl'
      cases hp : ps j with
      | inl u => simpa [hp, holdsOf] using h1
      | inr R => simp only [hp, holdsOf] at h1 ⊢; exact hst j R hp _ _ _ h1 hb

theorem free_spec {n : Nat} {F : List Nat} (h : freeB ops n F = true) {i : Nat} (hi : F.contains i = true) :
    i < n ∧ ∃ oi, ops[i]? = some oi ∧ plainB oi = true ∧ ∀ j oj, ops[j]? = some oj → j ≠ i → ¬ (j < n ∧ F.contains j = false) → (∀ e ∈ oj.after, Region.binds .any e = true → e.on ≠ i) → oi.apart ops oj = true := by
  have h1 := List.all_eq_true.1 h i (by simpa using hi)
  simp only [Bool.and_eq_true, decide_eq_true_eq] at h1
  obtain ⟨h1, h2⟩ := h1
  refine ⟨h1, ?_⟩
  cases ho : ops[i]? with
  | none => simp [ho] at h2
  | some oi =>
    simp only [ho, Bool.and_eq_true] at h2
    refine ⟨oi, rfl, h2.1, fun j oj hj hji hnf hno => ?_⟩
    have h3 := List.all_eq_true.1 h2.2 j (List.mem_range.2 (Array.getElem?_eq_some_iff.1 hj).1)
    simp only [hj, Bool.or_eq_true, Bool.and_eq_true, beq_iff_eq, decide_eq_true_eq, Bool.not_eq_true'] at h3
    rcases h3 with (h3 | h3) | h3 | h3
    · exact absurd h3 hji
    · exact absurd h3 hnf
    · obtain ⟨e, he, hb⟩ := Array.any_eq_true'.1 h3
      simp only [Bool.and_eq_true, beq_iff_eq] at hb
      exact absurd hb.2 (hno e he hb.1)
    · exact h3

theorem wpAny_of_midF {n : Nat} {F : List Nat} {ps : Nat → Value ⊕ (Value → World → Prop)} {a0 : Act} {w0 : World} {Q : Exit → Act → World → Prop} {l : List Oper}
    (hl : ∀ j : Nat, l[j]? = ops[n + j]?) (hll : l.length = ops.size - n)
    (hB : partsFB ops n F = true) (hst : ∀ j R, ps j = .inr R → ∀ v W W', R v W → Below W.heap.size W W' → R v W')
    (hQ : ∀ c a d v w, Q (.panic c) (Act.put a d v) w → Q (.panic c) a w)
    (hop : ∀ vs i, i < n → stepFor P ops ps a0 w0 vs i)
    (hend : ∀ vs W, Below w0.heap.size w0 W → allHold ps vs W n → wpList P ops Q l (lay ops vs a0 n) W) :
    ∀ (f : Nat) (listed : Array Bool) (vs : Nat → Value) (a : Act) (W : World), HeadInv .any ops n listed → Mid ops n ps a0 w0 listed vs a W → cnt listed n = f →
      wpAny P .any ops Q (f + (ops.size - n)) listed a W := by
  simp only [partsFB, Bool.and_eq_true, decide_eq_true_eq, Bool.not_eq_true'] at hB
  obtain ⟨⟨⟨⟨⟨⟨⟨hsel, htidy⟩, hback⟩, hn⟩, hsink, hchain⟩, hfree⟩, hseq⟩, hFn⟩ := hB
  intro f
  induction f with
  | zero =>
    intro listed vs a W inv mid hc
    have hall := cnt_zero listed n hc
    have hlisted : listed = (Array.range ops.size).map fun j => decide (j < n) := by
      apply Array.ext
      · simp [inv.size]
      · intro j h1 h2
        simp only [Array.getElem_map, Array.getElem_range]
        by_cases hj : j < n
        · have := hall j hj
          simp only [h1, Array.getD_eq_getD_getElem?, Array.getElem?_eq_getElem, Option.getD_some] at this
          simp [hj, this]
        · have := getD_both (inv.tail j (by omega) (by simpa using h2))
          simp only [h1, Array.getD_eq_getD_getElem?, Array.getElem?_eq_getElem, Option.getD_some] at this
          simp [hj, this]
    have ha : a = lay ops vs a0 n := act_ext (fun t => by
      rw [lay_get, mid.slots t]
      unfold slotOf
      rw [lastW_eq (ops := ops) (t := t) (p := fun j => listed.getD j false) (q := fun _ => true) (m := n) (n := n) ?_]
      intro j
      constructor
      · rintro ⟨h1, _, h3⟩; exact ⟨h1, rfl, h3⟩
      · rintro ⟨h1, _, h3⟩; exact ⟨h1, hall j h1, h3⟩) (by rw [mid.defers, lay_defers])
    have h := hend vs W mid.ext (allHold_of n fun j hj => mid.held j hj (hall j hj))
    rw [Nat.zero_add, ← hll]
    rw [← hlisted, ← hll] at hseq
    rw [ha]
    exact wpAny_of_seq l n listed _ W hl hseq h
  | succ f ih =>
    intro listed vs a W inv mid hc
    obtain ⟨i0, hi0, hu0, hlow⟩ := least_unlisted listed n (by omega)
    rw [show f + 1 + (ops.size - n) = (f + (ops.size - n)) + 1 by omega]
    have hr0 : i0 ∈ Region.ready .any ops listed := by
      have h1 := List.all_eq_true.1 hback i0 (List.mem_range.2 hi0)
      cases ho : ops[i0]? with
      | none => simp [ho] at h1
      | some o =>
        simp only [ho] at h1
        refine mem_ready.2 ⟨getD_in (by rw [inv.size]; omega) hu0, o, ho, fun e he hb => ?_⟩
        have h2 := Array.all_eq_true'.1 h1 e he
        simp only [hb, Bool.not_true, Bool.false_or, decide_eq_true_eq] at h2
        exact hlow e.on h2
    by_cases hex : ∃ i1, i1 < n ∧ F.contains i1 = false ∧ listed.getD i1 false = false
    · obtain ⟨i1, hi1, hf1, hu1⟩ := hex
      refine ⟨fun h => (by rw [h] at hr0; cases hr0), fun i hi => ?_⟩
      have hin : i < n := by
        rcases Nat.lt_or_ge i n with h | h
        · exact h
        · exact absurd hi (tail_waitsF hsink hchain hn hFn inv _ i1 rfl hi1 hf1 (getD_in (by rw [inv.size]; omega) hu1) i h)
      have hun := (mem_ready.1 hi).1
      refine mid_step htidy hsel hst hop inv mid hi hin fun vs' a' W' inv' mid' => ih _ vs' a' W' inv' mid' ?_
      have := cnt_set listed i (by rw [inv.size]; omega) (getD_both hun) n hin
      omega
    · have hF0 : F.contains i0 = true := by
        cases h : F.contains i0 with
        | true => rfl
        | false => exact absurd ⟨i0, hi0, h, hu0⟩ hex
      obtain ⟨_, oi, hoi, hpl, hap⟩ := free_spec hfree hF0
      have hg := mid_gives htidy hsel hop inv mid hr0 hi0 hoi (by simp only [plainB, Bool.and_eq_true, Option.isNone_iff_eq_none] at hpl; exact hpl.1)
      obtain ⟨v, hy, hv⟩ := plain_yields (ops := ops) hpl hg
      have hun := (mem_ready.1 hr0).1
      refine wpAny_first (v := v) hoi (fun j o cs b ho => Region.noSelect_spec hsel j o cs b ho) (fun c a w h => hQ c a _ _ w h) _ listed a W (fun j oj hj hji hjun hno => hap j oj hj hji (fun ⟨h1, h2⟩ => hex ⟨j, h1, h2, getD_both hjun⟩) hno) hr0 hy ?_
      refine ih _ (fun j => if j = i0 then v else vs j) _ W (inv.set hr0 hi0) (mid_put htidy hst inv mid hr0 hi0 hoi (Below.refl _ _) hv) ?_
      have := cnt_set listed i0 (by rw [inv.size]; omega) (getD_both hun) n hi0
      omega

theorem wp_region_partsF {id : Nat} {ops : List Oper} {Q : Exit → Act → World → Prop} {a : Act} {w : World} (n : Nat) (F : List Nat) (ps : Nat → Value ⊕ (Value → World → Prop)) (hm : P.follows .mixedOrders = true) (hB : partsFB ops.toArray n F = true)
    (hst : ∀ j R, ps j = .inr R → ∀ v W W', R v W → Below W.heap.size W W' → R v W')
    (hQ : ∀ c a d v w, Q (.panic c) (Act.put a d v) w → Q (.panic c) a w)
    (hop : ∀ vs i, i < n → stepFor P ops.toArray ps a w vs i)
    (hend : ∀ vs W, Below w.heap.size w W → allHold ps vs W n → wpList P ops.toArray Q (ops.drop n) (lay ops.toArray vs a n) W) : (Code.region id ops.toArray true).wp P Q a w := by
  have hn : n < ops.toArray.size := by
    simp only [partsFB, Bool.and_eq_true, decide_eq_true_eq] at hB
    exact hB.1.1.1.1.2
  have he : Below w.heap.size w { w with drawn := w.drawn + 1 } := (Below.refl _ _).drew
  have hc : ∀ m, cnt (Array.replicate ops.toArray.size false) m = m := fun m => by
    induction m with
    | zero => rfl
    | succ m ih => rw [cnt, ih, getD_replicate_false]; rfl
  refine wp_region_any hm ?_
  have := wpAny_of_midF (P := P) (ops := ops.toArray) (l := ops.drop n) (fun j => by simp [List.getElem?_drop]) (by simp) hB hst hQ hop hend n (Array.replicate ops.toArray.size false) (fun _ => undef) a { w with drawn := w.drawn + 1 }
    ⟨by simp, fun j oj _ hl => (by rw [getD_replicate_false] at hl; cases hl), fun t _ ht => getD_in (by simpa using ht) (getD_replicate_false _ _)⟩
    ⟨he, rfl, rfl, fun t => ?_, fun j _ hl => (by rw [getD_replicate_false] at hl; cases hl)⟩ (hc n)
  · rwa [show n + (ops.toArray.size - n) = ops.toArray.size by omega] at this
  · unfold slotOf
    rw [show lastW ops.toArray (fun j => (Array.replicate ops.toArray.size false).getD j false) t n = none from ?_]
    cases h : lastW ops.toArray (fun j => (Array.replicate ops.toArray.size false).getD j false) t n with
    | none => rfl
    | some j => have := (lastW_some h).2.1; rw [getD_replicate_false] at this; cases this

/-- What stands behind, where nothing panics. -/
def noPanic (Q : Exit → Act → World → Prop) : Exit → Act → World → Prop
  | .panic _ => fun _ _ => False
  | e => Q e
theorem noPanic.of {Q : Exit → Act → World → Prop} {e : Exit} {a : Act} {w : World} (h : noPanic Q e a w) : Q e a w := by
  cases e <;> first | exact h | exact h.elim
theorem noPanic_normal {Q : Exit → Act → World → Prop} {a : Act} {w : World} (h : Q .normal a w) : noPanic Q .normal a w := h

/-- **A region that draws its order**, walked in the order of the text; F lists the operations that may also come after the stores at its end. -/
theorem wp_region_seqF {id : Nat} {l : List Oper} {Q : Exit → Act → World → Prop} {a : Act} {w : World} (F : List Nat) (ps : List Piece) (hm : P.follows .mixedOrders = true) (hB : partsFB l.toArray ps.length F = true)
    (h : wpParts P l.toArray w (noPanic Q) l ps [] a) : (Code.region id l.toArray true).wp P Q a w := by
  refine Code.wp_mono (Q := noPanic Q) (fun e a w h => h.of) ?_
  have hn : ps.length ≤ l.length := by
    simp only [partsFB, Bool.and_eq_true, decide_eq_true_eq] at hB
    have := hB.1.1.1.1.2
    simp at this
    omega
  have hsel : Region.noSelect l.toArray = true := by
    simp only [partsFB, Bool.and_eq_true] at hB
    exact hB.1.1.1.1.1.1.1
  have spec := fun vs => parts_spec (P := P) (ops := l.toArray) (w := w) (Q := noPanic Q) (a := a) (qs := fun i => (ps[i]?).getD (.inl undef)) vs l ps 0 (fun j => by simp) (fun j p hj => by simp [hj]) hn h
  refine wp_region_partsF ps.length F (fun i => (ps[i]?).getD (.inl undef)) hm hB ?_ (fun _ _ _ _ _ h => h) ?_ ?_
  · intro j R hj
    by_cases hlt : j < ps.length
    · exact (spec (fun _ => undef)).2.1 j R (by omega) (by omega) hj
    · have : ps[j]? = none := by simp; omega
      simp [this] at hj
  · intro vs i hi
    unfold stepFor
    obtain ⟨o, ho, hs⟩ := (spec vs).1 i (by omega) (by omega)
    rw [ho]
    intro W hW hd
    have hs := hs W hW (near_of hd)
    have looks : ∀ t ∈ o.looksAt l.toArray, (lay l.toArray (fixed (fun i => (ps[i]?).getD (.inl undef)) vs) a i).tmps[t]? = (lay l.toArray vs a i).tmps[t]? := by
      intro t ht
      rw [lay_get, lay_get]
      unfold slotOf
      cases hc : lastW l.toArray (fun _ => true) t i with
      | none => rfl
      | some j =>
        obtain ⟨c1, _, c3, _⟩ := lastW_some hc
        simp only
        rw [fixed_eq (depsHold_get hd j t c1 c3 ht)]
    rw [wanted_congr looks] at hs
    simp only
    split
    · rename_i hw; rw [if_pos hw] at hs
      refine hs.of_eval (exec_congr (fun cs b => Region.noSelect_spec hsel i o cs b ho) (fun t ht => (looks t ht).symm))
    · rename_i hw; rw [if_neg hw] at hs; exact hs
  · intro vs W hW hall
    have := (spec vs).2.2 W hW (every_of (by simpa using hall))
    have e : lay l.toArray (fixed (fun i => (ps[i]?).getD (.inl undef)) vs) a ps.length = lay l.toArray vs a ps.length := act_ext (fun t => by
      rw [lay_get, lay_get]
      unfold slotOf
      cases hc : lastW l.toArray (fun _ => true) t ps.length with
      | none => rfl
      | some j =>
        obtain ⟨c1, _, _, _⟩ := lastW_some hc
        simp only
        rw [fixed_eq (allHold_get hall j c1)]) (by rw [lay_defers, lay_defers])
    rw [Nat.zero_add, e] at this
    exact this

end
end Go.Dav

namespace Go.Proofs.Ytfhhcpolicdfpaa
set_option linter.unusedVariables false
set_option linter.unusedSimpArgs false
open Go.RowKit Go.Dav
attribute [local go_sem] Gives ite_val ite_val_true

/-- A row: a key, a value (of which only its kind and number matter here). -/
structure TryRow where
  a1 : Option Addr
  l1 : Nat
  c1 : Nat
  a2 : Option Addr
  l2 : Nat
  c2 : Nat
  b : Bool
  x : Int
def TryRow.cells (r : TryRow) : List Value := [.slice r.a1 r.l1 r.c1, .slice r.a2 r.l2 r.c2, .bool r.b, .int .i64 r.x]
def TryRow.red (r : TryRow) : Red := rowRed r.b r.x
/-- From offset o of block b on the rows lie one behind the other. -/
def TryRowsAt (W : World) (b o : Nat) (l : List TryRow) : Prop :=
  ∀ k r, l[k]? = some r → ∀ j v, r.cells[j]? = some v → W.cell? ⟨b, o + k * 4 + j, none⟩ = some v

/-- A slice's rows: those of a slice that is not empty lie in memory that was there before B. -/
def TryRowsIn (W : World) (B : Nat) (a : Option Addr) (l : List TryRow) : Prop :=
  ∀ k r, l[k]? = some r → ∃ b o, a = some ⟨b, o, none⟩ ∧ b < B ∧ ∀ j v, r.cells[j]? = some v → W.cell? ⟨b, o + k * 4 + j, none⟩ = some v

theorem Try_rowsIn_below {W W' : World} {B B' : Nat} {a : Option Addr} {l : List TryRow} (h : TryRowsIn W B a l) (hb : Below B' W W') (hle : B ≤ B') : TryRowsIn W' B a l := fun k r hk => by
  obtain ⟨b, o, h1, h2, h3⟩ := h k r hk
  exact ⟨b, o, h1, h2, fun j v hj => by rw [hb.cell (p := ⟨b, o + k * 4 + j, none⟩) (show b < B' by omega)]; exact h3 j v hj⟩

theorem Try_rowsIn_later {W : World} {B B' : Nat} {a : Option Addr} {l : List TryRow} (h : TryRowsIn W B a l) (hle : B ≤ B') : TryRowsIn W B' a l := fun k r hk => by
  obtain ⟨b, o, h1, h2, h3⟩ := h k r hk
  exact ⟨b, o, h1, by omega, h3⟩

theorem Try_rows_below {W W' : World} {B b o : Nat} {l : List TryRow} (h : TryRowsAt W b o l) (hb : Below B W W') (hlt : b < B) : TryRowsAt W' b o l := fun i r hi j v hj => by
  rw [hb.cell (p := ⟨b, o + i * 4 + j, none⟩) hlt]; exact h i r hi j v hj

theorem Try_One' (a1 a2 : Option Addr) (l1 c1 l2 c2 : Nat) (b : Bool) (x : Int) (w : World) (hx : I64 x) :
    Calls Try.prog 97 #[.agg #[.slice a1 l1 c1, .slice a2 l2 c2, .bool b, .int .i64 x]] w fun e w' =>
      e = .returned (.agg #[.int .i64 (rowRed b x).c, .int .i64 (rowRed b x).n, .int .i64 (hi (rowRed b x).s), .int .u64 (lo (rowRed b x).s), .int .i64 (rowRed b x).l, .int .i64 (rowRed b x).m]) ∧ Below w.heap.size w w' := by
  cases b
  · exact Try_One_no _ _ x w rfl rfl
  · exact Try_One_yes _ _ x w hx

/-- A slice of two reductions, made above B. -/
def TryTwo (B : Nat) (r t : Red) (v : Value) (W : World) : Prop := ∃ g, v = .slice (some ⟨g, 0, none⟩) 2 2 ∧ B ≤ g ∧ g < W.heap.size ∧ TryRedsAt W g 0 [r, t]
theorem TryTwo.later {B : Nat} {r t : Red} : ∀ v W W', TryTwo B r t v W → Below W.heap.size W W' → TryTwo B r t v W' :=
  fun _ _ _ ⟨g, h1, h2, h3, h4⟩ hb => ⟨g, h1, h2, Nat.lt_of_lt_of_le h3 hb.size, Try_reds_below h4 hb h3⟩
theorem Try_two_new {B : Nat} {r t : Red} {W : World} (h : B ≤ W.heap.size) :
    Below W.heap.size W (W.alloc (.cells #[.int .i64 r.c, .int .i64 r.n, .int .i64 (hi r.s), .int .u64 (lo r.s), .int .i64 r.l, .int .i64 r.m, .int .i64 t.c, .int .i64 t.n, .int .i64 (hi t.s), .int .u64 (lo t.s), .int .i64 t.l, .int .i64 t.m] 47)) ∧
    TryTwo B r t (.slice (some ⟨W.heap.size, 0, none⟩) 2 2) (W.alloc (.cells #[.int .i64 r.c, .int .i64 r.n, .int .i64 (hi r.s), .int .u64 (lo r.s), .int .i64 r.l, .int .i64 r.m, .int .i64 t.c, .int .i64 t.n, .int .i64 (hi t.s), .int .u64 (lo t.s), .int .i64 t.l, .int .i64 t.m] 47)) :=
  ⟨(Below.refl _ _).alloc (Nat.le_refl _) _, _, rfl, h, by simp, Try_RedsAt_flat (Blk.new _ [_, _, _, _, _, _, _, _, _, _, _, _] _) rfl⟩

/-- What is joined after k rows. -/
def TrySum (l : List TryRow) (k : Nat) : Red := redAll ((l.take k).map TryRow.red)

theorem TrySum_good (l : List TryRow) (k : Nat) (h : ∀ r ∈ l, I64 r.x) : (TrySum l k).good :=
  redAll_good fun r hr => by
    obtain ⟨x, hx, rfl⟩ := List.mem_map.1 hr
    exact rowRed_good _ _ (h x (List.mem_of_mem_take hx))

theorem TrySum_succ (l : List TryRow) (k : Nat) (r : TryRow) (h : l[k]? = some r) : TrySum l (k + 1) = (TrySum l k).both r.red := by
  unfold TrySum redAll
  rw [List.take_add_one, h]
  simp

theorem rowRed_c (b : Bool) (x : Int) : (rowRed b x).c = 1 := by cases b <;> rfl

theorem TrySum_c (l : List TryRow) (k : Nat) (hk : k ≤ l.length) : (TrySum l k).c = k := by
  induction k with
  | zero => rfl
  | succ k ih =>
    rw [TrySum_succ l k _ (List.getElem?_eq_getElem (show k < l.length by omega))]
    simp only [Red.both, TryRow.red, rowRed_c]
    rw [ih (by omega)]
    omega

theorem two_joined {r t : Red} (hr : r.good) (ht : t.good) (hc : r.c + t.c ≤ 1073741824) : joined [r, t] = (r.both t, 0) := by
  rw [joined_good (by intro x hx; rcases List.mem_cons.1 hx with h | h; (subst h; assumption); (have h := List.mem_singleton.1 h; subst h; assumption)) (by simp only [List.map_cons, List.map_nil, List.sum_cons, List.sum_nil]; omega)]
  unfold redAll
  simp only [List.foldl_cons, List.foldl_nil, Red.zero_both hr]

theorem Red.good_fits {r : Red} (h : r.good) (hc : r.c ≤ 1073741824) : r.fits := by
  obtain ⟨a1, a2, a3, a4, a5, a6, a7, a8⟩ := h
  unfold Red.fits I64; omega

def TrymAllRel (w : World) (l : List TryRow) (b o : Nat) (ix : Value) (wr : World) : Prop :=
  ∃ k : Nat, k ≤ l.length ∧ ix = .int .i64 k ∧ Blk wr w.heap.size [.int .i64 0, .int .i64 0, .int .i64 0, .int .u64 0, .int .i64 0, .int .i64 0] 47 ∧
    Blk wr (w.heap.size + 1) (TrySum l k).cells 47 ∧ Below w.heap.size w wr

end Go.Proofs.Ytfhhcpolicdfpaa
