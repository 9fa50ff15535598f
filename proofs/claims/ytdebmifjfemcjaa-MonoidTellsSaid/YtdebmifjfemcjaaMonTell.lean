/-
  Layer 13: what is told of a reduction, and the names of what is told, walked.
-/
import Derived.Test.YtdebmifjfemcjaaMonCheck
import Derived.Test.YtdebmifjfemcjaaMonWalkE
import Derived.Laws.EntriesVeiled
import Derived.LoopN
import Derived.Handy
namespace Go.Proofs.Ytdebmifjfemcjaa
set_option linter.unusedVariables false
set_option linter.unusedSimpArgs false
open Go.RowKit Go.Dav
attribute [local go_sem] Gives ite_val ite_val_true

theorem Try_in (n : Int) (w : World) :
    Calls Try.prog 51 #[.int .i64 n] w fun e w' => e = .returned (.agg #[.int .i64 3, .int .i64 n, .string ⟨#[]⟩, .slice none 0 0, .slice none 0 0]) ∧ Below w.heap.size w w' := by
  go_enter Try.func51, Try.ntmps51
  go_wp2
  refine bodyPost_ret (v := .agg #[.int .i64 3, .int .i64 n, .string ⟨#[]⟩, .slice none 0 0, .slice none 0 0]) (by simp [results, Try.results51, go_sem]) rfl ⟨rfl, ?_⟩
  exact (by repeat (first | (with_reducible exact Below.refl _ _) | (with_reducible exact Below.refl _ _) | (with_reducible refine Below.setCell ?_ (by first | omega | (simp; done) | (simp; omega)) _) | (with_reducible refine Below.alloc ?_ (by first | omega | (simp; done) | (simp; omega)) _) | (with_reducible refine Below.drew ?_) | (with_reducible refine below_drewN ?_ _)))

/-- The table of what is told: names, and functions. -/
def TryTold : List Value := [.string ⟨#[]⟩, .nilFunc, .string ⟨#[95, 99, 111, 117, 110, 116]⟩, .func (.func 46) #[] #[], .string ⟨#[95, 115, 117, 109]⟩, .func (.func 47) #[] #[],
  .string ⟨#[95, 109, 105, 110]⟩, .func (.func 48) #[] #[], .string ⟨#[95, 109, 97, 120]⟩, .func (.func 50) #[] #[]]
def TryStats : List Value := [.string ⟨#[95, 115, 116, 97, 116, 115]⟩, .func (.func 44) #[] #[]]

set_option maxRecDepth 8000 in
set_option maxHeartbeats 2000000 in
theorem Try_simple (w : World) :
    Calls Try.prog 43 #[] w fun e w' => e = .returned (.agg TryTold.toArray) ∧ Below w.heap.size w w' := by
  go_enter Try.func43, Try.ntmps43
  go_wp2
  refine bodyPost_ret (v := .agg TryTold.toArray) (by simp [results, Try.results43, go_sem, TryTold]) rfl ⟨rfl, ?_⟩
  exact (by repeat (first | (with_reducible exact Below.refl _ _) | (with_reducible exact Below.refl _ _) | (with_reducible refine Below.setCell ?_ (by first | omega | (simp; done) | (simp; omega)) _) | (with_reducible refine Below.alloc ?_ (by first | omega | (simp; done) | (simp; omega)) _) | (with_reducible refine Below.drew ?_) | (with_reducible refine below_drewN ?_ _)))

theorem Try_info84 : (Try.prog.info? 84).map (fun i => (i.zero, i.size, i.bytes)) = some (some (.agg #[.string ⟨#[]⟩, .nilFunc]), 2, 24) := by kernel_rfl

/-- A row of cells in a new block. -/
def TryKinds (B : Nat) (v : Value) (W : World) : Prop := ∃ g cap, v = .slice (some ⟨g, 0, none⟩) 6 cap ∧ B ≤ g ∧ ∀ j u, (TryTold ++ TryStats)[j]? = some u → W.cell? ⟨g, j, none⟩ = some u

set_option maxRecDepth 8000 in
set_option maxHeartbeats 2000000 in
theorem Try_kinds (w : World) :
    Calls Try.prog 36 #[] w fun e w' => ∃ v, e = .returned v ∧ Below w.heap.size w w' ∧ TryKinds w.heap.size v w' := by
  obtain ⟨i0, hi0, hz0, hz1, hz2⟩ := info_parts Try_info84
  go_enter Try.func36, Try.ntmps36
  go_wp2_with fail
  refine (Try_simple _).mono ?_; rintro e w1 ⟨rfl, hb1⟩; obtain ⟨hc1, hf1, hs1⟩ := after hb1
  unfold TryTold
  go_wp2_with fail
  refine bodyPost_ret (v := .slice (some ⟨w1.heap.size + 1 + 1, 0, none⟩) 6 ((Question.appendCap 6 5 84).cut (w1.tape w1.drawn (Question.appendCap 6 5 84)))) (by simp [results, Try.results36, go_sem]) rfl ⟨_, rfl, ?_, ?_⟩
  · exact (by repeat (first | (with_reducible exact Below.refl _ _) | (with_reducible exact Below.refl _ _) | (with_reducible refine Below.setCell ?_ (by first | omega | (simp; done) | (simp; omega)) _) | (with_reducible refine Below.alloc ?_ (by first | omega | (simp; done) | (simp; omega)) _) | (with_reducible refine Below.drew ?_) | (with_reducible refine below_drewN ?_ _) | (with_reducible refine Below.trans ?_ (hb1.mono (by first | omega | (simp; done) | (simp; omega))))))
  · refine ⟨_, _, rfl, by omega, fun j u hj => ?_⟩
    rw [World.cell?_drew, cell_new_at _ _ _ (by simp), ← hj]
    have : j < 12 := by have := (List.getElem?_eq_some_iff.1 hj).1; simpa [TryTold, TryStats] using this
    rw [← Array.append_assoc, Array.getElem?_append_left (by simp; omega)]
    simp [TryTold, TryStats]

/-- The kind of a name. -/
def TryKindOf (s : List UInt8) : Int × Int :=
  if ([95, 99, 111, 117, 110, 116] == s) = true then (1, 0) else if ([95, 115, 117, 109] == s) = true then (2, 0) else if ([95, 109, 105, 110] == s) = true then (3, 0)
  else if ([95, 109, 97, 120] == s) = true then (4, 0) else if ([95, 115, 116, 97, 116, 115] == s) = true then (5, 0) else (0, 4)

set_option maxRecDepth 8000 in
set_option maxHeartbeats 4000000 in
theorem Try_Kind (s : ByteArray) (w : World) :
    Calls Try.prog 19 #[.string s] w fun e w' => e = .returned (.tuple #[.int .i64 (TryKindOf s.toList).1, .int .i64 (TryKindOf s.toList).2]) ∧ Below w.heap.size w w' := by
  generalize hk : TryKindOf s.toList = kk
  have HK := Lib.hid hk; clear hk
  go_enter Try.func19, Try.ntmps19
  go_wp2_with fail
  refine (Try_kinds _).mono ?_; rintro e w1 ⟨v, rfl, hb1, g, cap, rfl, hg, hcell⟩
  have s1 := hb1.size
  have c0 := hcell 0 _ rfl
  have c1 := hcell 1 _ rfl
  have c2 := hcell 2 _ rfl
  have c3 := hcell 3 _ rfl
  have c4 := hcell 4 _ rfl
  have c5 := hcell 5 _ rfl
  have c6 := hcell 6 _ rfl
  have c7 := hcell 7 _ rfl
  have c8 := hcell 8 _ rfl
  have c9 := hcell 9 _ rfl
  have c10 := hcell 10 _ rfl
  have c11 := hcell 11 _ rfl
  clear hcell
  have lg := World.block_lt_of_cell? w1 _ c0
  simp at lg
  have lt_w1_0_0 : g < w1.heap.size := by omega
  have lt_w1_0_1 : g < w1.heap.size + 1 := by omega
  have lt_w1_0_2 : g < w1.heap.size + 1 + 1 := by omega
  have lt_w1_0_3 : g < w1.heap.size + 1 + 1 + 1 := by omega
  have lt_w1_0_4 : g < w1.heap.size + 1 + 1 + 1 + 1 := by omega
  have lt_w1_0_5 : g < w1.heap.size + 1 + 1 + 1 + 1 + 1 := by omega
  have lt_w1_0_6 : g < w1.heap.size + 1 + 1 + 1 + 1 + 1 + 1 := by omega
  have lt_w1_0_7 : g < w1.heap.size + 1 + 1 + 1 + 1 + 1 + 1 + 1 := by omega
  go_wp2_with fail
  go_rounds 7
  all_goals
    have hk := HK.out
    unfold TryKindOf at hk
    simp only [*, if_true, if_false, Bool.false_eq_true] at hk
    subst hk
    go_ret2
    exact ⟨rfl, (by repeat (first | (with_reducible exact Below.refl _ _) | (with_reducible exact Below.refl _ _) | (with_reducible refine Below.setCell ?_ (by first | omega | (simp; done) | (simp; omega)) _) | (with_reducible refine Below.alloc ?_ (by first | omega | (simp; done) | (simp; omega)) _) | (with_reducible refine Below.drew ?_) | (with_reducible refine below_drewN ?_ _) | (with_reducible refine Below.trans ?_ (hb1.mono (by first | omega | (simp; done) | (simp; omega))))))⟩

/-- What is told of a sum. -/
def TrySumOf (s : Int) : Int := if fitsB s then 0 else 5
theorem Try_sums_yes (c n s l m : Int) (w : World) (h : fitsB s = true) :
    Calls Try.prog 47 #[.agg #[.int .i64 c, .int .i64 n, .int .i64 (hi s), .int .u64 (lo s), .int .i64 l, .int .i64 m]] w fun e w' =>
      e = .returned (.tuple #[.agg #[.int .i64 3, .int .i64 (sg s), .string ⟨#[]⟩, .slice none 0 0, .slice none 0 0], .int .i64 0]) ∧ Below w.heap.size w w' := by
  have hq := fits_sg h
  go_enter Try.func47, Try.ntmps47
  go_wp2_with fail
  refine (Try_total _ _ _ _ _ _).mono ?_; rintro e w1 ⟨rfl, hb1⟩; obtain ⟨hc1, hf1, hs1⟩ := after hb1
  simp at hs1
  have lt_w1_0_0 : w.heap.size < w1.heap.size := by omega
  have lt_w1_0_1 : w.heap.size < w1.heap.size + 1 := by omega
  have lt_w1_1_0 : w.heap.size + 1 < w1.heap.size := by omega
  have lt_w1_1_1 : w.heap.size + 1 < w1.heap.size + 1 := by omega
  go_wp2_with fail
  refine (Try_fits _ _).mono ?_; rintro e w2 ⟨rfl, hb2⟩; obtain ⟨hc2, hf2, hs2⟩ := after hb2
  have lt_w2_0_0 : w.heap.size < w2.heap.size := by omega
  have lt_w2_0_1 : w.heap.size < w2.heap.size + 1 := by omega
  have lt_w2_1_0 : w.heap.size + 1 < w2.heap.size := by omega
  have lt_w2_1_1 : w.heap.size + 1 < w2.heap.size + 1 := by omega
  rw [h]
  go_wp2_with fail
  refine (Try_in _ _).mono ?_; rintro e w3 ⟨rfl, hb3⟩; obtain ⟨hc3, hf3, hs3⟩ := after hb3
  have lt_w3_0_0 : w.heap.size < w3.heap.size := by omega
  have lt_w3_0_1 : w.heap.size < w3.heap.size + 1 := by omega
  have lt_w3_1_0 : w.heap.size + 1 < w3.heap.size := by omega
  have lt_w3_1_1 : w.heap.size + 1 < w3.heap.size + 1 := by omega
  go_wp2_with fail
  refine bodyPost_ret (v := .tuple #[.agg #[.int .i64 3, .int .i64 (sg s), .string ⟨#[]⟩, .slice none 0 0, .slice none 0 0], .int .i64 0]) (by simp [results, Try.results47, go_sem, *]) rfl ⟨rfl, ?_⟩
  exact (by repeat (first | (with_reducible exact Below.refl _ _) | (with_reducible exact Below.refl _ _) | (with_reducible refine Below.setCell ?_ (by first | omega | (simp; done) | (simp; omega)) _) | (with_reducible refine Below.alloc ?_ (by first | omega | (simp; done) | (simp; omega)) _) | (with_reducible refine Below.drew ?_) | (with_reducible refine below_drewN ?_ _) | (with_reducible refine Below.trans ?_ (hb3.mono (by first | omega | (simp; done) | (simp; omega)))) | (with_reducible refine Below.trans ?_ (hb2.mono (by first | omega | (simp; done) | (simp; omega)))) | (with_reducible refine Below.trans ?_ (hb1.mono (by first | omega | (simp; done) | (simp; omega))))))

theorem Try_sums_no (c n s l m : Int) (w : World) (h : fitsB s = false) :
    Calls Try.prog 47 #[.agg #[.int .i64 c, .int .i64 n, .int .i64 (hi s), .int .u64 (lo s), .int .i64 l, .int .i64 m]] w fun e w' =>
      e = .returned (.tuple #[.agg #[.int .i64 0, .int .i64 0, .string ⟨#[]⟩, .slice none 0 0, .slice none 0 0], .int .i64 5]) ∧ Below w.heap.size w w' := by
  go_enter Try.func47, Try.ntmps47
  go_wp2_with fail
  refine (Try_total _ _ _ _ _ _).mono ?_; rintro e w1 ⟨rfl, hb1⟩; obtain ⟨hc1, hf1, hs1⟩ := after hb1
  simp at hs1
  have lt_w1_0_0 : w.heap.size < w1.heap.size := by omega
  have lt_w1_0_1 : w.heap.size < w1.heap.size + 1 := by omega
  have lt_w1_1_0 : w.heap.size + 1 < w1.heap.size := by omega
  have lt_w1_1_1 : w.heap.size + 1 < w1.heap.size + 1 := by omega
  go_wp2_with fail
  refine (Try_fits _ _).mono ?_; rintro e w2 ⟨rfl, hb2⟩; obtain ⟨hc2, hf2, hs2⟩ := after hb2
  have lt_w2_0_0 : w.heap.size < w2.heap.size := by omega
  have lt_w2_0_1 : w.heap.size < w2.heap.size + 1 := by omega
  have lt_w2_1_0 : w.heap.size + 1 < w2.heap.size := by omega
  have lt_w2_1_1 : w.heap.size + 1 < w2.heap.size + 1 := by omega
  rw [h]
  go_wp2_with fail
  refine bodyPost_ret (v := .tuple #[.agg #[.int .i64 0, .int .i64 0, .string ⟨#[]⟩, .slice none 0 0, .slice none 0 0], .int .i64 5]) (by simp [results, Try.results47, go_sem, *]) rfl ⟨rfl, ?_⟩
  exact (by repeat (first | (with_reducible exact Below.refl _ _) | (with_reducible exact Below.refl _ _) | (with_reducible refine Below.setCell ?_ (by first | omega | (simp; done) | (simp; omega)) _) | (with_reducible refine Below.alloc ?_ (by first | omega | (simp; done) | (simp; omega)) _) | (with_reducible refine Below.drew ?_) | (with_reducible refine below_drewN ?_ _) | (with_reducible refine Below.trans ?_ (hb2.mono (by first | omega | (simp; done) | (simp; omega)))) | (with_reducible refine Below.trans ?_ (hb1.mono (by first | omega | (simp; done) | (simp; omega))))))

/-- One row's reduction, as the law's own function makes it. -/
theorem Try_row (x : Int) (w : World) (hx : I64 x) :
    Calls Try.prog 24 #[.int .i64 x] w fun e w' =>
      e = .returned (.agg #[.int .i64 1, .int .i64 1, .int .i64 (hi x), .int .u64 (lo x), .int .i64 x, .int .i64 x]) ∧ Below w.heap.size w w' := by
  go_enter Try.func24, Try.ntmps24
  go_wp2_with fail
  refine (Try_One_yes _ _ _ _ hx).mono ?_; rintro e w1 ⟨rfl, hb1⟩; obtain ⟨hc1, hf1, hs1⟩ := after hb1
  simp at hs1
  have lt_w1_0_0 : w.heap.size < w1.heap.size := by omega
  have lt_w1_0_1 : w.heap.size < w1.heap.size + 1 := by omega
  go_wp2_with fail
  refine bodyPost_ret (v := .agg #[.int .i64 1, .int .i64 1, .int .i64 (hi x), .int .u64 (lo x), .int .i64 x, .int .i64 x]) (by simp [results, Try.results24, go_sem, *]) rfl ⟨rfl, ?_⟩
  exact (by repeat (first | (with_reducible exact Below.refl _ _) | (with_reducible exact Below.refl _ _) | (with_reducible refine Below.setCell ?_ (by first | omega | (simp; done) | (simp; omega)) _) | (with_reducible refine Below.alloc ?_ (by first | omega | (simp; done) | (simp; omega)) _) | (with_reducible refine Below.drew ?_) | (with_reducible refine below_drewN ?_ _) | (with_reducible refine Below.trans ?_ (hb1.mono (by first | omega | (simp; done) | (simp; omega))))))
end Go.Proofs.Ytdebmifjfemcjaa
