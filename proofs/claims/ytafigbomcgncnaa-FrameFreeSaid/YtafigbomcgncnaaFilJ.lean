/-
  Layer 10: set, Light, Refuse, New, walked.
-/
import Derived.Test.YtafigbomcgncnaaFilI
namespace Go.Proofs.Ytafigbomcgncnaa
set_option linter.unusedVariables false
set_option linter.unusedSimpArgs false
open Go.RowKit Go.Dav
attribute [local go_sem] Gives ite_val ite_val_true

theorem Try_New (w : World) : Calls Try.prog 28 #[] w fun e w' => e = .returned (.agg #[.slice none 0 0, .slice none 0 0, .int .i64 (-1), .int .i64 (-1), .bool false]) ∧ Below w.heap.size w w' := by
  go_enter Try.func28, Try.ntmps28
  go_wp2
  refine bodyPost_ret (v := .agg #[.slice none 0 0, .slice none 0 0, .int .i64 (-1), .int .i64 (-1), .bool false]) (by simp [results, Try.results28, go_sem]) rfl ⟨rfl, (by repeat (first | (with_reducible exact Below.refl _ _) | (with_reducible exact Below.refl _ _) | (with_reducible refine Below.setCell ?_ (by first | omega | (simp; done) | (simp; omega)) _) | (with_reducible refine Below.alloc ?_ (by first | omega | (simp; done) | (simp; omega)) _) | (with_reducible refine Below.drew ?_) | (with_reducible refine below_drewN ?_ _)))⟩

theorem none_at {W : World} {S : Nat → Prop} : FileS W S none 0 0 none 0 0 FileD.none := ⟨BytesS.nil_, LooseS.nil_, by unfold I64' FileD.none; simp, by unfold I64' FileD.none; simp⟩

theorem max_i64 {n : Int} (h : I64' n) : I64' (max n (-1)) := by unfold I64' at *; omega

theorem file_through {w W W' : World} {S : Nat → Prop} {fa la : Option Addr} {fl fc ll lc p : Nat} {F : FileD} (h : FileS w S fa fl fc la ll lc F) (hS : ∀ b, S b → b < w.heap.size) (hb : Below w.heap.size w W) (hp : w.heap.size ≤ p) (ho : Only p W W') : FileS W' (Or S W) fa fl fc la ll lc F :=
  ((h.ext hb).same ho.size fun b h1 h2 => ho.block b h2 (by have := hS b h1; omega)).mono fun b h => Or.inl h

end Go.Proofs.Ytafigbomcgncnaa
