/-
  The law of layer 4: told, walked.
-/
import Derived.Test.YtmcmknndhppljaaDoorQRgC
import Derived.Test.YtmcmknndhppljaaDoorVbM
namespace Go.Dav
set_option linter.unusedVariables false
set_option linter.unusedSimpArgs false
open Go Go.RowKit
theorem ToldFst.toP {d : Nat} {r : Option (ValN d)} {v : Value} {W : World} (h : ToldFst d r v W) : ToldP (r.map (AnyV.mk d)) v W := by
  cases r with
  | none => exact h
  | some y => exact h
theorem ToldP.ext {r : Option AnyV} {v : Value} {W W' : World} (h : ToldP r v W) (hb : Below W.heap.size W W') : ToldP r v W' := by
  cases r with
  | none => exact h
  | some z => exact ValAt.ext hb _ h
end Go.Dav
namespace Go.Proofs.YtmcmknndhppljaaDoor
set_option linter.unusedVariables false
set_option linter.unusedSimpArgs false
open Go.RowKit Go.Dav
attribute [local go_sem] Gives ite_val ite_val_true

set_option maxRecDepth 8000 in
set_option maxHeartbeats 8000000 in
theorem Tryd_told (r : Option AnyV) (g : Bool) (hg : r.isSome = g) (a : Value) (k2 n2 : Int) (s2 : ByteArray) (b1 b2 : Option Addr) (m1 d1 m2 d2 : Nat) (w0 w : World) (ha : ToldP r a w0) (hb : ∀ z, r = some z → ToldP r (.agg #[.int .i64 k2, .int .i64 n2, .string s2, .slice b1 m1 d1, .slice b2 m2 d2]) w0) (hr : ∀ z, r = some z → rightV z.d z.x = true) (hw0 : Below w0.heap.size w0 w) :
    Calls Tryd.prog 25 #[a, .bool g, .agg #[.int .i64 k2, .int .i64 n2, .string s2, .slice b1 m1 d1, .slice b2 m2 d2], .bool g] w fun e w' => e = .returned (.bool true) ∧ Below w.heap.size w w' := by
  obtain ⟨k1, n1, s1, a1, l1, c1, a2, l2, c2, rfl⟩ := ha.agg
  have b0 : Below w.heap.size w ((w.alloc (.cells #[.int .i64 k1, .int .i64 n1, .string s1, .slice a1 l1 c1, .slice a2 l2 c2] 39)).alloc (.cells #[.int .i64 k2, .int .i64 n2, .string s2, .slice b1 m1 d1, .slice b2 m2 d2] 39)) := (by repeat (first | (with_reducible exact Below.refl _ _) | (with_reducible exact Below.refl _ _) | (with_reducible refine Below.setCell ?_ (by first | omega | (simp; done) | (simp; omega)) _) | (with_reducible refine Below.alloc ?_ (by first | omega | (simp; done) | (simp; omega)) _) | (with_reducible refine Below.drew ?_) | (with_reducible refine below_drewN ?_ _)))
  cases r with
  | none =>
    obtain rfl : g = false := hg.symm
    have e0 : (.agg #[.int .i64 k1, .int .i64 n1, .string s1, .slice a1 l1 c1, .slice a2 l2 c2] : Value) = .agg #[.int .i64 0, .int .i64 0, .string ⟨#[]⟩, .slice none 0 0, .slice none 0 0] := ha
    have HZ : ∀ W : World, Calls Tryd.prog 21 #[.agg #[.int .i64 k1, .int .i64 n1, .string s1, .slice a1 l1 c1, .slice a2 l2 c2]] W fun e w' => e = .returned (.bool true) ∧ Below W.heap.size W w' := fun W => by
      rw [e0]
      obtain ⟨_, _, _, _, _, _, h⟩ := leaf_at W 0 (show I64' 0 by constructor <;> simp) (show I64' 0 by constructor <;> simp)
      have q := Tryd_rZero _ _ _ _ _ _ _ _ _ W h
      rw [show zeroF (leafV 0 0 0).to = true from by decide +kernel] at q
      exact q
    have HZ := Lib.hid HZ
    have B0 := Lib.hid b0
    clear ha hb hr hw0 b0 e0 hg
    go_enter Tryd.func25, Tryd.ntmps25
    go_wp2_with fail
    refine (HZ.out _).mono ?_; rintro e w1 ⟨rfl, hb1⟩
    have B1 := Lib.hid (B0.out.trans (hb1.mono B0.out.size))
    clear hb1
    go_wp2
    go_ret
    exact ⟨rfl, B1.out⟩
  | some z =>
    obtain rfl : g = true := hg.symm
    have h1 : ValAt w0 z.d _ z.x := ha
    have h2 : ValAt w0 z.d _ z.x := hb z rfl
    have hb0 := hw0.trans (b0.mono hw0.size)
    have hc := Tryd_rSame z.d z.d z.x z.x _ _ _ (ValAt.ext hb0 _ h1) (ValAt.ext hb0 _ h2)
    rw [sameV_self, hr z rfl] at hc
    have HC := Lib.hid hc
    have B0 := Lib.hid b0
    clear ha hb hr hw0 b0 h1 h2 hb0 hc hg
    go_enter Tryd.func25, Tryd.ntmps25
    go_wp2_with fail
    refine HC.out.mono ?_; rintro e w1 ⟨rfl, hb1⟩
    have B1 := Lib.hid (B0.out.trans (hb1.mono B0.out.size))
    clear hb1
    go_wp2
    go_ret
    exact ⟨rfl, B1.out⟩
end Go.Proofs.YtmcmknndhppljaaDoor
