/-
  Layer 14: two parts held against one another, walked.
  Layer 14: slices.EqualFunc over parts; Same, walked.
-/
import Derived.Test.YtfhhcpolicdfpaaNdD
import Derived.Test.YtfhhcpolicdfpaaNdE
import Derived.Test.YtfhhcpolicdfpaaNdF
namespace Go.Dav
set_option linter.unusedVariables false
set_option linter.unusedSimpArgs false
open Go Go.RowKit
def sameRed (r t : Red) : Bool := decide (r.c = t.c) && (decide (r.n = t.n) && (decide (hi r.s = hi t.s) && (decide (lo r.s = lo t.s) && (decide (r.l = t.l) && decide (r.m = t.m)))))
def sameItem (x y : ItemD) : Bool := decide (x.key = y.key) && (decide (x.value = y.value) && (decide (x.int = y.int) && decide (x.n = y.n)))
def sameKid (x y : KidD) : Bool := decide (x.key = y.key) && (decide (x.at_ = y.at_) && sameRed x.red y.red)
def sameP : PartD → PartD → Bool
  | .inl x, .inl y => sameItem x y
  | .inr x, .inr y => sameKid x y
  | _, _ => false
theorem sameP_key {x y : PartD} (h : decide (pKey x = pKey y) = false) : sameP x y = false := by
  cases x with
  | inl i =>
    cases y with
    | inl j => have h' : decide (i.key = j.key) = false := h; show sameItem i j = false; unfold sameItem; rw [h', Bool.false_and]
    | inr j => rfl
  | inr i =>
    cases y with
    | inl j => rfl
    | inr j => have h' : decide (i.key = j.key) = false := h; show sameKid i j = false; unfold sameKid; rw [h', Bool.false_and]
end Go.Dav
namespace Go.Proofs.Ytfhhcpolicdfpaa
set_option linter.unusedVariables false
set_option linter.unusedSimpArgs false
open Go.RowKit Go.Dav
attribute [local go_sem] Gives ite_val ite_val_true

theorem Try_ta_ii (u : Value) (W : World) : (Instr.typeAssert (.iface 100 u) 74 100 true).run Try.prog W = .ok (.tuple #[u, .bool true]) W := by kernel_rfl
theorem Try_ta_kk (u : Value) (W : World) : (Instr.typeAssert (.iface 101 u) 74 101 true).run Try.prog W = .ok (.tuple #[u, .bool true]) W := by kernel_rfl
theorem Try_ta_ik (u : Value) (W : World) : (Instr.typeAssert (.iface 100 u) 74 101 true).run Try.prog W = .ok (.tuple #[.agg #[.slice none 0 0, .int .i64 0, .int .i64 0, .int .i64 0, .int .i64 0, .int .u64 0, .int .i64 0, .int .i64 0], .bool false]) W := by kernel_rfl
theorem Try_ta_ki (u : Value) (W : World) : (Instr.typeAssert (.iface 101 u) 74 100 true).run Try.prog W = .ok (.tuple #[.agg #[.slice none 0 0, .slice none 0 0, .bool false, .int .i64 0], .bool false]) W := by kernel_rfl

set_option maxRecDepth 8000 in
set_option maxHeartbeats 8000000 in
theorem Try_same_key {S T : Nat → Prop} {x y : PartD} {u v : Value} {w : World} (hx : TryPartU w S u x) (hy : TryPartU w T v y) (hk : decide (pKey x = pKey y) = false) :
    Calls Try.prog 56 #[.iface (TryTy x) u, .iface (TryTy y) v] w fun e w' => e = .returned (.bool false) ∧ Below w.heap.size w w' := by
  obtain ⟨xa, xn, xc, hkx, hbx⟩ := Try_key_of hx
  obtain ⟨ya, yn, yc, hky, hby⟩ := Try_key_of hy
  have m1 := fun W => Try_meth_name x u W
  have m2 := fun W => Try_meth_name y v W
  have e1 := fun args W => Try_en_name x args W
  have e2 := fun args W => Try_en_name y args W
  have HX := Lib.hid hx
  have HY := Lib.hid hy
  have HKX := Lib.hid hkx
  have HKY := Lib.hid hky
  have HBX := Lib.hid hbx
  have HBY := Lib.hid hby
  have HK := Lib.hid hk
  clear hx hy hkx hky hbx hby hk
  go_enter Try.func56, Try.ntmps56
  go_wp2_with fail
  (with_reducible refine (Try_name HX.out HKX.out).mono ?_); rintro e w1 ⟨rfl, hb1⟩
  go_wp2_with fail
  (with_reducible refine (Try_name (HY.out.ext hb1) HKY.out).mono ?_); rintro e w2 ⟨rfl, hb2⟩
  have hb := hb1.trans (hb2.mono hb1.size)
  have heq := Try_bytesEqual xa ya xn xc yn yc _ _ w2 (HBX.out.ext hb).at_ (HBY.out.ext hb).at_
  rw [HK.out] at heq
  have HE := Lib.hid heq
  have HB := Lib.hid hb
  clear heq hb1 hb2 hb
  go_wp2_with fail
  (with_reducible refine HE.out.mono ?_); rintro e w3 ⟨rfl, hb3⟩
  go_wp2
  go_ret
  exact ⟨rfl, HB.out.trans (hb3.mono HB.out.size)⟩

set_option maxRecDepth 8000 in
set_option maxHeartbeats 8000000 in
theorem Try_same_ii {S T : Nat → Prop} {i j : ItemD} {u v : Value} {w : World} (hx : TryPartU w S u (.inl i)) (hy : TryPartU w T v (.inl j)) (hk : decide (pKey (.inl i) = pKey (.inl j)) = true) :
    Calls Try.prog 56 #[.iface 100 u, .iface 100 v] w fun e w' => e = .returned (.bool (sameItem i j)) ∧ Below w.heap.size w w' := by
  have m1 : ∀ W, (method 249 100 u "davenport/node.name").run Try.prog W = .ok (TryFName (.inl i), u) W := fun W => Try_meth_name (.inl i) u W
  have m2 : ∀ W, (method 249 100 v "davenport/node.name").run Try.prog W = .ok (TryFName (.inl j), v) W := fun W => Try_meth_name (.inl j) v W
  have e1 := fun args W => Try_en_name (.inl i) args W
  have e2 := fun args W => Try_en_name (.inl j) args W
  obtain ⟨xa, xn, xc, hkx, hbx⟩ := Try_key_of hx
  obtain ⟨ya, yn, yc, hky, hby⟩ := Try_key_of hy
  have HX := Lib.hid hx
  have HY := Lib.hid hy
  have HKX := Lib.hid hkx
  have HKY := Lib.hid hky
  have HBX := Lib.hid hbx
  have HBY := Lib.hid hby
  have HK := Lib.hid hk
  clear hkx hky hbx hby hk
  obtain ⟨ka, kl, kc, va, vl, vc, h1, _, h3, h4⟩ := hx
  obtain ⟨la, ll, lc, za, zl, zc, g1, _, g3, g4⟩ := hy
  have hta := fun W => Try_ta_ii u W
  have htb := fun W => Try_ta_ii v W
  have H3 := Lib.hid h3
  have G3 := Lib.hid g3
  subst h1 g1
  clear h3 h4 g3 g4
  obtain ⟨b1, hb1⟩ : ∃ b, decide (i.value = j.value) = b := ⟨_, rfl⟩
  have HV := Lib.hid (show sameItem i j = (b1 && (decide (i.int = j.int) && decide (i.n = j.n))) by unfold sameItem; rw [← hb1, show decide (i.key = j.key) = true from HK.out, Bool.true_and])
  have HB1 := Lib.hid hb1
  clear hb1
  go_enter Try.func56, Try.ntmps56
  go_wp2_with fail
  (with_reducible refine (Try_name HX.out HKX.out).mono ?_); rintro e w1 ⟨rfl, hb1⟩
  go_wp2_with fail
  (with_reducible refine (Try_name (HY.out.ext hb1) HKY.out).mono ?_); rintro e w2 ⟨rfl, hb2⟩
  have hb := hb1.trans (hb2.mono hb1.size)
  have heq := Try_bytesEqual xa ya xn xc yn yc _ _ w2 (HBX.out.ext hb).at_ (HBY.out.ext hb).at_
  rw [HK.out] at heq
  have HE := Lib.hid heq
  have HB := Lib.hid hb
  clear heq hb1 hb2 hb
  go_wp2_with fail
  (with_reducible refine HE.out.mono ?_); rintro e w3 ⟨rfl, hb3⟩
  have HB3 := Lib.hid (HB.out.trans (hb3.mono HB.out.size))
  clear hb3
  have q1 := ((Blk.new w3 [.slice ka kl kc, .slice va vl vc, .bool i.int, .int .i64 i.n] 100).alloc (.cells #[.slice la ll lc, .slice za zl zc, .bool j.int, .int .i64 j.n] 100))
  have q2 := (Blk.new' (w3.alloc (.cells #[.slice ka kl kc, .slice va vl vc, .bool i.int, .int .i64 i.n] 100)) [.slice la ll lc, .slice za zl zc, .bool j.int, .int .i64 j.n] 100 (p := w3.heap.size + 1) (by simp))
  have hbb : Below w3.heap.size w3 ((w3.alloc (.cells #[.slice ka kl kc, .slice va vl vc, .bool i.int, .int .i64 i.n] 100)).alloc (.cells #[.slice la ll lc, .slice za zl zc, .bool j.int, .int .i64 j.n] 100)) := (by repeat (first | (with_reducible exact Below.refl _ _) | (with_reducible exact Below.refl _ _) | (with_reducible refine Below.setCell ?_ (by first | omega | (simp; done) | (simp; omega)) _) | (with_reducible refine Below.alloc ?_ (by first | omega | (simp; done) | (simp; omega)) _) | (with_reducible refine Below.drew ?_) | (with_reducible refine below_drewN ?_ _)))
  have heq2 := Try_bytesEqual va za vl vc zl zc _ _ _ ((H3.out.ext HB3.out).ext hbb).at_ ((G3.out.ext HB3.out).ext hbb).at_
  rw [HB1.out] at heq2
  have HE2 := Lib.hid heq2
  have Q1 := Lib.hid q1
  have Q2 := Lib.hid q2
  have HBB := Lib.hid (HB3.out.trans (hbb.mono HB3.out.size))
  clear heq2 q1 q2 hbb
  go_wp2_with fail
  (with_reducible refine HE2.out.mono ?_); rintro e w4 ⟨rfl, hb4⟩
  have c1 := (Q1.out.ext hb4).cells
  have c2 := (Q2.out.ext hb4).cells
  have HB4 := Lib.hid (HBB.out.trans (hb4.mono HBB.out.size))
  clear hb4
  cases b1 with
  | false =>
    go_wp2
    go_ret
    exact ⟨ret_bool (by rw [HV.out]; rfl), HB4.out⟩
  | true =>
    obtain ⟨p, hp⟩ : ∃ p, i.int = p := ⟨_, rfl⟩
    obtain ⟨q, hq⟩ : ∃ q, j.int = q := ⟨_, rfl⟩
    rw [hp, hq] at HV
    rw [hp] at c1 ⊢
    rw [hq] at c2 ⊢
    clear hp hq
    cases p <;> cases q
    all_goals
      go_wp2
      go_ret
      exact ⟨ret_bool (by rw [HV.out]; simp <;> (rw [Bool.eq_iff_iff]; simp)), HB4.out⟩

set_option maxRecDepth 8000 in
set_option maxHeartbeats 8000000 in
theorem Try_same_kk {S T : Nat → Prop} {i j : KidD} {u v : Value} {w : World} (hx : TryPartU w S u (.inr i)) (hy : TryPartU w T v (.inr j)) (hk : decide (pKey (.inr i) = pKey (.inr j)) = true) :
    Calls Try.prog 56 #[.iface 101 u, .iface 101 v] w fun e w' => e = .returned (.bool (sameKid i j)) ∧ Below w.heap.size w w' := by
  have m1 : ∀ W, (method 249 101 u "davenport/node.name").run Try.prog W = .ok (TryFName (.inr i), u) W := fun W => Try_meth_name (.inr i) u W
  have m2 : ∀ W, (method 249 101 v "davenport/node.name").run Try.prog W = .ok (TryFName (.inr j), v) W := fun W => Try_meth_name (.inr j) v W
  have e1 := fun args W => Try_en_name (.inr i) args W
  have e2 := fun args W => Try_en_name (.inr j) args W
  obtain ⟨xa, xn, xc, hkx, hbx⟩ := Try_key_of hx
  obtain ⟨ya, yn, yc, hky, hby⟩ := Try_key_of hy
  have HX := Lib.hid hx
  have HY := Lib.hid hy
  have HKX := Lib.hid hkx
  have HKY := Lib.hid hky
  have HBX := Lib.hid hbx
  have HBY := Lib.hid hby
  have HK := Lib.hid hk
  clear hkx hky hbx hby hk
  obtain ⟨ka, kl, kc, h1, _, h3, h4⟩ := hx
  obtain ⟨la, ll, lc, g1, _, g3, g4⟩ := hy
  have hta := fun W => Try_ta_kk u W
  have htb := fun W => Try_ta_kk v W
  have htc := fun W => Try_ta_ki u W
  subst h1 g1
  clear h3 h4 g3 g4
  have HV := Lib.hid (show sameKid i j = (decide (i.at_ = j.at_) && sameRed i.red j.red) by unfold sameKid; rw [show decide (i.key = j.key) = true from HK.out, Bool.true_and])
  go_enter Try.func56, Try.ntmps56
  go_wp2_with fail
  (with_reducible refine (Try_name HX.out HKX.out).mono ?_); rintro e w1 ⟨rfl, hb1⟩
  go_wp2_with fail
  (with_reducible refine (Try_name (HY.out.ext hb1) HKY.out).mono ?_); rintro e w2 ⟨rfl, hb2⟩
  have hb := hb1.trans (hb2.mono hb1.size)
  have heq := Try_bytesEqual xa ya xn xc yn yc _ _ w2 (HBX.out.ext hb).at_ (HBY.out.ext hb).at_
  rw [HK.out] at heq
  have HE := Lib.hid heq
  have HB := Lib.hid hb
  clear heq hb1 hb2 hb
  go_wp2_with fail
  (with_reducible refine HE.out.mono ?_); rintro e w3 ⟨rfl, hb3⟩
  have HB3 := Lib.hid (HB.out.trans (hb3.mono HB.out.size))
  clear hb3
  by_cases ha : i.at_ = j.at_
  · have hab : (i.at_ == j.at_) = true := by rw [beq_iff_eq]; exact ha
    have HA := Lib.hid ha
    clear ha
    go_wp2
    go_ret
    exact ⟨ret_bool (by rw [HV.out, decide_eq_true HA.out, Bool.true_and]; rfl), HB3.out.trans (by have h := HB3.out.size; exact (by repeat (first | (with_reducible exact Below.refl _ _) | (with_reducible exact Below.refl _ _) | (with_reducible refine Below.setCell ?_ (by first | omega | (simp; done) | (simp; omega)) _) | (with_reducible refine Below.alloc ?_ (by first | omega | (simp; done) | (simp; omega)) _) | (with_reducible refine Below.drew ?_) | (with_reducible refine below_drewN ?_ _))))⟩
  · have hab : (i.at_ == j.at_) = false := by rw [beq_eq_false_iff_ne]; exact ha
    have HA := Lib.hid ha
    clear ha
    go_wp2
    go_ret
    exact ⟨ret_bool (by rw [HV.out]; simp [HA.out]), HB3.out.trans (by have h := HB3.out.size; exact (by repeat (first | (with_reducible exact Below.refl _ _) | (with_reducible exact Below.refl _ _) | (with_reducible refine Below.setCell ?_ (by first | omega | (simp; done) | (simp; omega)) _) | (with_reducible refine Below.alloc ?_ (by first | omega | (simp; done) | (simp; omega)) _) | (with_reducible refine Below.drew ?_) | (with_reducible refine below_drewN ?_ _))))⟩

set_option maxRecDepth 8000 in
set_option maxHeartbeats 8000000 in
theorem Try_same_ik {S T : Nat → Prop} {i : ItemD} {j : KidD} {u v : Value} {w : World} (hx : TryPartU w S u (.inl i)) (hy : TryPartU w T v (.inr j)) (hk : decide (pKey (.inl i) = pKey (.inr j)) = true) :
    Calls Try.prog 56 #[.iface 100 u, .iface 101 v] w fun e w' => e = .returned (.bool false) ∧ Below w.heap.size w w' := by
  have m1 : ∀ W, (method 249 100 u "davenport/node.name").run Try.prog W = .ok (TryFName (.inl i), u) W := fun W => Try_meth_name (.inl i) u W
  have m2 : ∀ W, (method 249 101 v "davenport/node.name").run Try.prog W = .ok (TryFName (.inr j), v) W := fun W => Try_meth_name (.inr j) v W
  have e1 := fun args W => Try_en_name (.inl i) args W
  have e2 := fun args W => Try_en_name (.inr j) args W
  obtain ⟨xa, xn, xc, hkx, hbx⟩ := Try_key_of hx
  obtain ⟨ya, yn, yc, hky, hby⟩ := Try_key_of hy
  have HX := Lib.hid hx
  have HY := Lib.hid hy
  have HKX := Lib.hid hkx
  have HKY := Lib.hid hky
  have HBX := Lib.hid hbx
  have HBY := Lib.hid hby
  have HK := Lib.hid hk
  clear hkx hky hbx hby hk
  obtain ⟨ka, kl, kc, va, vl, vc, h1, _, h3, h4⟩ := hx
  obtain ⟨la, ll, lc, g1, _, g3, g4⟩ := hy
  have hta := fun W => Try_ta_ii u W
  have htb := fun W => Try_ta_ki v W
  subst h1 g1
  clear h3 h4 g3 g4
  go_enter Try.func56, Try.ntmps56
  go_wp2_with fail
  (with_reducible refine (Try_name HX.out HKX.out).mono ?_); rintro e w1 ⟨rfl, hb1⟩
  go_wp2_with fail
  (with_reducible refine (Try_name (HY.out.ext hb1) HKY.out).mono ?_); rintro e w2 ⟨rfl, hb2⟩
  have hb := hb1.trans (hb2.mono hb1.size)
  have heq := Try_bytesEqual xa ya xn xc yn yc _ _ w2 (HBX.out.ext hb).at_ (HBY.out.ext hb).at_
  rw [HK.out] at heq
  have HE := Lib.hid heq
  have HB := Lib.hid hb
  clear heq hb1 hb2 hb
  go_wp2_with fail
  (with_reducible refine HE.out.mono ?_); rintro e w3 ⟨rfl, hb3⟩
  have HB3 := Lib.hid (HB.out.trans (hb3.mono HB.out.size))
  clear hb3
  go_wp2
  go_ret
  exact ⟨rfl, HB3.out.trans (by have h := HB3.out.size; exact (by repeat (first | (with_reducible exact Below.refl _ _) | (with_reducible exact Below.refl _ _) | (with_reducible refine Below.setCell ?_ (by first | omega | (simp; done) | (simp; omega)) _) | (with_reducible refine Below.alloc ?_ (by first | omega | (simp; done) | (simp; omega)) _) | (with_reducible refine Below.drew ?_) | (with_reducible refine below_drewN ?_ _))))⟩
set_option maxRecDepth 8000 in
set_option maxHeartbeats 8000000 in
theorem Try_same_ki {S T : Nat → Prop} {i : KidD} {j : ItemD} {u v : Value} {w : World} (hx : TryPartU w S u (.inr i)) (hy : TryPartU w T v (.inl j)) (hk : decide (pKey (.inr i) = pKey (.inl j)) = true) :
    Calls Try.prog 56 #[.iface 101 u, .iface 100 v] w fun e w' => e = .returned (.bool false) ∧ Below w.heap.size w w' := by
  have m1 : ∀ W, (method 249 101 u "davenport/node.name").run Try.prog W = .ok (TryFName (.inr i), u) W := fun W => Try_meth_name (.inr i) u W
  have m2 : ∀ W, (method 249 100 v "davenport/node.name").run Try.prog W = .ok (TryFName (.inl j), v) W := fun W => Try_meth_name (.inl j) v W
  have e1 := fun args W => Try_en_name (.inr i) args W
  have e2 := fun args W => Try_en_name (.inl j) args W
  obtain ⟨xa, xn, xc, hkx, hbx⟩ := Try_key_of hx
  obtain ⟨ya, yn, yc, hky, hby⟩ := Try_key_of hy
  have HX := Lib.hid hx
  have HY := Lib.hid hy
  have HKX := Lib.hid hkx
  have HKY := Lib.hid hky
  have HBX := Lib.hid hbx
  have HBY := Lib.hid hby
  have HK := Lib.hid hk
  clear hkx hky hbx hby hk
  obtain ⟨ka, kl, kc, h1, _, h3, h4⟩ := hx
  obtain ⟨la, ll, lc, va, vl, vc, g1, _, g3, g4⟩ := hy
  have hta := fun W => Try_ta_ki u W
  have htb := fun W => Try_ta_kk u W
  have htc := fun W => Try_ta_ik v W
  subst h1 g1
  clear h3 h4 g3 g4
  go_enter Try.func56, Try.ntmps56
  go_wp2_with fail
  (with_reducible refine (Try_name HX.out HKX.out).mono ?_); rintro e w1 ⟨rfl, hb1⟩
  go_wp2_with fail
  (with_reducible refine (Try_name (HY.out.ext hb1) HKY.out).mono ?_); rintro e w2 ⟨rfl, hb2⟩
  have hb := hb1.trans (hb2.mono hb1.size)
  have heq := Try_bytesEqual xa ya xn xc yn yc _ _ w2 (HBX.out.ext hb).at_ (HBY.out.ext hb).at_
  rw [HK.out] at heq
  have HE := Lib.hid heq
  have HB := Lib.hid hb
  clear heq hb1 hb2 hb
  go_wp2_with fail
  (with_reducible refine HE.out.mono ?_); rintro e w3 ⟨rfl, hb3⟩
  have HB3 := Lib.hid (HB.out.trans (hb3.mono HB.out.size))
  clear hb3
  go_wp2
  go_ret
  exact ⟨rfl, HB3.out.trans (by have h := HB3.out.size; exact (by repeat (first | (with_reducible exact Below.refl _ _) | (with_reducible exact Below.refl _ _) | (with_reducible refine Below.setCell ?_ (by first | omega | (simp; done) | (simp; omega)) _) | (with_reducible refine Below.alloc ?_ (by first | omega | (simp; done) | (simp; omega)) _) | (with_reducible refine Below.drew ?_) | (with_reducible refine below_drewN ?_ _))))⟩
theorem Try_same {S T : Nat → Prop} {x y : PartD} {u v : Value} {w : World} (hx : TryPartU w S u x) (hy : TryPartU w T v y) :
    Calls Try.prog 56 #[.iface (TryTy x) u, .iface (TryTy y) v] w fun e w' => e = .returned (.bool (sameP x y)) ∧ Below w.heap.size w w' := by
  cases hk : decide (pKey x = pKey y) with
  | false => rw [sameP_key hk]; exact Try_same_key hx hy hk
  | true =>
    cases x with
    | inl i =>
      cases y with
      | inl j => exact Try_same_ii hx hy hk
      | inr j => exact Try_same_ik hx hy hk
    | inr i =>
      cases y with
      | inl j => exact Try_same_ki hx hy hk
      | inr j => exact Try_same_kk hx hy hk
end Go.Proofs.Ytfhhcpolicdfpaa

namespace Go.Dav
set_option linter.unusedVariables false
set_option linter.unusedSimpArgs false
open Go Go.RowKit
def samePs : List PartD → List PartD → Bool
  | [], [] => true
  | x :: l, y :: m => sameP x y && samePs l m
  | _, _ => false
theorem samePs_len : ∀ {l m : List PartD}, l.length ≠ m.length → samePs l m = false
  | [], [], h => absurd rfl h
  | [], _ :: _, _ => rfl
  | _ :: _, [], _ => rfl
  | x :: l, y :: m, h => by
    have := samePs_len (l := l) (m := m) (by simpa using h)
    unfold samePs; rw [this, Bool.and_false]
theorem samePs_drop {l m : List PartD} {k : Nat} {x y : PartD} (hx : l[k]? = some x) (hy : m[k]? = some y) : samePs (l.drop k) (m.drop k) = (sameP x y && samePs (l.drop (k + 1)) (m.drop (k + 1))) := by
  obtain ⟨h1, h2⟩ := List.getElem?_eq_some_iff.1 hx
  obtain ⟨h3, h4⟩ := List.getElem?_eq_some_iff.1 hy
  rw [List.drop_eq_getElem_cons h1, List.drop_eq_getElem_cons h3, h2, h4]
  rfl
/-- What Same answers. -/
def sameN (a b : NodeD) : Bool := nodeOk a && (nodeOk b && (decide (a.leaf = b.leaf) && samePs (partsOf a) (partsOf b)))
end Go.Dav
namespace Go.Proofs.Ytfhhcpolicdfpaa
set_option linter.unusedVariables false
set_option linter.unusedSimpArgs false
open Go.RowKit Go.Dav
attribute [local go_sem] Gives ite_val ite_val_true

def TryEqPRel (w : World) (x y : List PartD) (r : Bool) (ix : Value) (wr : World) : Prop :=
  ∃ k : Nat, k ≤ x.length ∧ ix = .int .i64 k ∧ samePs (x.drop k) (y.drop k) = r ∧ Below w.heap.size w wr

set_option maxRecDepth 8000 in
set_option maxHeartbeats 4000000 in
theorem Try_equalParts {S T S' T' : Nat → Prop} (a b : Option Addr) (al ac bl bc : Nat) (x y : List PartD) (w : World) (hx : TryPartsS w S T a al ac x) (hy : TryPartsS w S' T' b bl bc y) (h6 : al ≤ 100) (h7 : bl ≤ 100) :
    Calls Try.prog 55 #[.slice a al ac, .slice b bl bc, .func (.func 56) #[] #[]] w fun e w' => e = .returned (.bool (samePs x y)) ∧ Below w.heap.size w w' := by
  have e1 := hx.hlen
  have e2 := hy.hlen
  have g1 : (al : Int) ≤ 100 := by omega
  have g2 : (bl : Int) ≤ 100 := by omega
  obtain ⟨r, hr⟩ : ∃ r, samePs x y = r := ⟨_, rfl⟩
  rw [hr]
  have HR := Lib.hid hr
  clear hr
  have hen : ∀ args W, (callFunc 56 args).run Try.prog W = .ok (.enter 56 args) W := fun args W => by kernel_rfl
  by_cases hl : al = bl
  · subst hl
    have H1 := Lib.hid e1; clear e1
    have H2 := Lib.hid e2; clear e2
    have HX := Lib.hid hx; clear hx
    have HY := Lib.hid hy; clear hy
    go_enter Try.func55, Try.ntmps55
    go_wp2_with fail
    go_loopw [17] (fun ix wr => TryEqPRel w x y r ix wr) (fun ix _ => al - (intOf ix).toNat)
    case atStart => exact ⟨0, Nat.zero_le _, rfl, by simpa using HR.out, Below.refl _ _⟩
    case round =>
      obtain ⟨k, hk, rfl, htk, hbel⟩ := hrel
      have HT := Lib.hid htk; clear htk
      have HB := Lib.hid hbel
      by_cases hlt : k < x.length
      · obtain ⟨c, hc⟩ : ∃ c, x[k]? = some c := ⟨_, List.getElem?_eq_getElem hlt⟩
        obtain ⟨d, hd⟩ : ∃ d, y[k]? = some d := ⟨_, List.getElem?_eq_getElem (by have := H1.out; have := H2.out; omega)⟩
        obtain ⟨b1, o1, u1, rfl, hb1, _, q1, hP⟩ := (HX.out.ext hbel).hat k c hc
        obtain ⟨b2, o2, u2, rfl, hb2, _, q2, hR⟩ := (HY.out.ext hbel).hat k d hd
        have HS := Lib.hid (samePs_drop hc hd)
        have hkl : (k : Int) < (al : Int) := by have := H1.out; omega
        have HLT := Lib.hid hlt
        have HP := Lib.hid hP
        have HRR := Lib.hid hR
        clear hlt hc hd hk hP hR hbel
        go_wp2_with fail
        (with_reducible refine (Try_same HP.out HRR.out).mono ?_); rintro e w1 ⟨rfl, hb⟩
        have HB1 := Lib.hid (HB.out.trans (hb.mono HB.out.size))
        cases hcd : sameP c d with
        | true =>
          have HT2 := Lib.hid (show samePs (x.drop (k + 1)) (y.drop (k + 1)) = r by have h := HT.out; rw [HS.out, hcd, Bool.true_and] at h; exact h)
          clear hcd
          go_wp2_with fail
          go_roundw
          case rel => exact ⟨k + 1, HLT.out, by go_num, HT2.out, HB1.out⟩
          case measure => simp [intOf]; omega
        | false =>
          have HT2 := Lib.hid (show false = r by have h := HT.out; rw [HS.out, hcd, Bool.false_and] at h; exact h)
          clear hcd
          go_wp2_with fail
          go_ret
          exact ⟨ret_bool HT2.out, HB1.out⟩
      · have hkl : k = x.length := by omega
        have hk3 : ¬ ((k : Int) < (al : Int)) := by have := H1.out; omega
        have HV := Lib.hid (show true = r by
          have h := HT.out
          rw [List.drop_of_length_le (by omega), List.drop_of_length_le (by have := H1.out; have := H2.out; omega)] at h
          exact h)
        clear hkl hk hlt
        go_wp2
        go_ret
        exact ⟨ret_bool HV.out, HB.out⟩
  · have hne : ((al : Int) != (bl : Int)) = true := by simp; omega
    have HV := Lib.hid (show false = r by rw [← HR.out, samePs_len (by omega)])
    clear e1 e2 hx hy hl
    go_enter Try.func55, Try.ntmps55
    go_wp2
    go_ret
    exact ⟨ret_bool HV.out, (by repeat (first | (with_reducible exact Below.refl _ _) | (with_reducible exact Below.refl _ _) | (with_reducible refine Below.setCell ?_ (by first | omega | (simp; done) | (simp; omega)) _) | (with_reducible refine Below.alloc ?_ (by first | omega | (simp; done) | (simp; omega)) _) | (with_reducible refine Below.drew ?_) | (with_reducible refine below_drewN ?_ _)))⟩

set_option maxRecDepth 8000 in
set_option maxHeartbeats 8000000 in
theorem Try_nSame (A B : NodeD) (ia ka ja la : Option Addr) (il ic kl kc jl jc ll lc : Nat) (S T : Nat → Prop) (w : World) (hA : NodeS w S ia il ic ka kl kc A) (hB : NodeS w T ja jl jc la ll lc B) :
    Calls Try.prog 29 #[.agg #[.bool A.leaf, .slice ia il ic, .slice ka kl kc], .agg #[.bool B.leaf, .slice ja jl jc, .slice la ll lc]] w fun e w' => e = .returned (.bool (sameN A B)) ∧ Below w.heap.size w w' := by
  obtain ⟨f, hf⟩ : ∃ f, A.leaf = f := ⟨_, rfl⟩
  obtain ⟨g, hg⟩ : ∃ g, B.leaf = g := ⟨_, rfl⟩
  rw [hf, hg]
  have hb0 : Below w.heap.size w ((w.alloc (.cells #[.bool f, .slice ia il ic, .slice ka kl kc] 28)).alloc (.cells #[.bool g, .slice ja jl jc, .slice la ll lc] 28)) := (by repeat (first | (with_reducible exact Below.refl _ _) | (with_reducible exact Below.refl _ _) | (with_reducible refine Below.setCell ?_ (by first | omega | (simp; done) | (simp; omega)) _) | (with_reducible refine Below.alloc ?_ (by first | omega | (simp; done) | (simp; omega)) _) | (with_reducible refine Below.drew ?_) | (with_reducible refine below_drewN ?_ _)))
  have hA0 := hA.ext hb0
  have hB0 := hB.ext hb0
  have hq1 := (Blk.new w [.bool f, .slice ia il ic, .slice ka kl kc] 28).alloc (.cells #[.bool g, .slice ja jl jc, .slice la ll lc] 28)
  have hq2 := Blk.new' (w.alloc (.cells #[.bool f, .slice ia il ic, .slice ka kl kc] 28)) [.bool g, .slice ja jl jc, .slice la ll lc] 28 (p := w.heap.size + 1) (by simp)
  have HA := Lib.hid hA0
  have HBN := Lib.hid hB0
  have HF := Lib.hid hf
  have HG := Lib.hid hg
  have Q1 := Lib.hid hq1
  have Q2 := Lib.hid hq2
  have hc := Try_nCheck A ia ka il ic kl kc S _ hA0
  rw [hf] at hc
  have HC := Lib.hid hc
  have HB0 := Lib.hid hb0
  clear hA hB hA0 hB0 hf hg hq1 hq2 hc hb0
  go_enter Try.func29, Try.ntmps29
  go_wp2_with fail
  (with_reducible refine HC.out.mono ?_); rintro e w1 ⟨rfl, hb1⟩
  have HB1 := Lib.hid (HB0.out.trans (hb1.mono HB0.out.size))
  have P1 := Lib.hid (Q1.out.ext hb1)
  have P2 := Lib.hid (Q2.out.ext hb1)
  have HA1 := Lib.hid (HA.out.ext hb1)
  have HN1 := Lib.hid (HBN.out.ext hb1)
  have c1 := P1.out.cells
  have c2 := P2.out.cells
  clear hb1
  cases hok : nodeOk A with
  | false =>
    have e0 : nodeE A = 240 := nodeE_240 hok
    have HV := Lib.hid (show sameN A B = false by unfold sameN; rw [hok, Bool.false_and])
    clear hok
    go_wp2
    go_ret
    exact ⟨ret_bool HV.out.symm, HB1.out⟩
  | true =>
    have e0 : nodeE A = 0 := nodeE_0 hok
    have HOA := Lib.hid hok
    have hc2 := Try_nCheck B ja la jl jc ll lc T w1 HN1.out
    rw [HG.out] at hc2
    have HC2 := Lib.hid hc2
    clear hok hc2
    go_wp2_with fail
    (with_reducible refine HC2.out.mono ?_); rintro e w2 ⟨rfl, hb2⟩
    have HB2 := Lib.hid (HB1.out.trans (hb2.mono HB1.out.size))
    have R1 := Lib.hid (P1.out.ext hb2)
    have R2 := Lib.hid (P2.out.ext hb2)
    have HA2 := Lib.hid (HA1.out.ext hb2)
    have HN2 := Lib.hid (HN1.out.ext hb2)
    clear c1 c2 hb2
    have d1 := R1.out.cells
    have d2 := R2.out.cells
    cases hok : nodeOk B with
    | false =>
      have e1 : nodeE B = 240 := nodeE_240 hok
      have HV := Lib.hid (show sameN A B = false by unfold sameN; rw [hok, Bool.false_and, Bool.and_false])
      clear hok
      go_wp2
      go_ret
      exact ⟨ret_bool HV.out.symm, HB2.out⟩
    | true =>
      have e1 : nodeE B = 0 := nodeE_0 hok
      have HOB := Lib.hid hok
      clear hok
      by_cases hfg : f = g
      · subst hfg
        have HV := Lib.hid (show sameN A B = samePs (partsOf A) (partsOf B) by unfold sameN; rw [HOA.out, HOB.out, HF.out, HG.out]; simp)
        have hpa := Try_parts A ia ka il ic kl kc S w2 HA2.out (shape_few (nodeOk_check HOA.out).1).2.2
        rw [HF.out] at hpa
        have HPA := Lib.hid hpa
        have HLA := Lib.hid (shape_few (nodeOk_check HOA.out).1).2.2
        have HLB := Lib.hid (shape_few (nodeOk_check HOB.out).1).2.2
        clear hpa
        have hff : (f == f) = true := by simp
        have hfn : (f != f) = false := by simp
        cases f
        all_goals
          go_wp2_with fail
          (with_reducible refine HPA.out.mono ?_); rintro e w3 ⟨pa, pn, pc, rfl, hPS, hb3⟩
          have HB3 := Lib.hid (HB2.out.trans (hb3.mono HB2.out.size))
          have U1 := Lib.hid (R1.out.ext hb3)
          have U2 := Lib.hid (R2.out.ext hb3)
          have HPS := Lib.hid hPS
          have hpb := Try_parts B ja la jl jc ll lc T w3 (HN2.out.ext hb3) HLB.out
          rw [HG.out] at hpb
          have HPB := Lib.hid hpb
          clear d1 d2 hb3 hPS hpb
          have f1 := U1.out.cells
          have f2 := U2.out.cells
          have l1 := U1.out.lt
          have l2 := U2.out.lt
          go_wp2_with fail
          (with_reducible refine HPB.out.mono ?_); rintro e w4 ⟨ra, rn, rc, rfl, hRS, hb4⟩
          have HB4 := Lib.hid (HB3.out.trans (hb4.mono HB3.out.size))
          have heq := Try_equalParts pa ra pn pc rn rc _ _ w4 (HPS.out.ext hb4) hRS (by have := HPS.out.hlen; have := HLA.out; omega) (by have := hRS.hlen; have := HLB.out; omega)
          have HE := Lib.hid heq
          clear f1 f2 hb4 hRS heq
          go_wp2_with fail
          (with_reducible refine HE.out.mono ?_); rintro e w5 ⟨rfl, hb5⟩
          have HB5 := Lib.hid (HB4.out.trans (hb5.mono HB4.out.size))
          clear hb5
          go_wp2
          go_ret
          exact ⟨ret_bool HV.out.symm, HB5.out⟩
      · have HV := Lib.hid (show sameN A B = false by unfold sameN; rw [HF.out, HG.out, decide_eq_false hfg]; simp)
        cases f <;> cases g
        all_goals first
          | exact absurd rfl hfg
          | (clear hfg; go_wp2; go_ret; exact ⟨ret_bool HV.out.symm, HB2.out⟩)
end Go.Proofs.Ytfhhcpolicdfpaa
