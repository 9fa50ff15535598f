/-
  Layer 4 in plain: what keys lead to: one path and then another.
-/
import Derived.Test.YtmcmknndhppljaaDoorVbM
import Derived.Test.YtmcmknndhppljaaDoorQAppK
namespace Go.Dav
set_option linter.unusedVariables false
set_option linter.unusedSimpArgs false
open Go Go.RowKit
theorem pathV_append : ∀ (d : Nat) (x : ValN d) (a b : List ByteArray), pathV d x (a ++ b) = match pathV d x a with
    | none => none
    | some z => pathV z.d z.x b
  | d, x, [], b => by rw [pathV_nil]; rfl
  | 0, _, _ :: _, _ => rfl
  | d + 1, x, k :: ks, b => by
    rw [List.cons_append, pathV_cons, pathV_cons]
    cases getV d x k with
    | none => rfl
    | some y => exact pathV_append d y ks b
theorem getV_kid {d : Nat} {x : ValN (d + 1)} {k : ByteArray} {y : ValN d} (h : getV d x k = some y) : x.to.kind = 6 ∧ rightV (d + 1) x = true ∧ ∃ i : Nat, x.to.kids[i]? = some y := by
  unfold getV at h
  split at h
  · rename_i hc
    exact ⟨hc.1, hc.2.1, _, h⟩
  · cases h
theorem pathV_right : ∀ (d : Nat) (x : ValN d) (ks : List ByteArray) (z : AnyV), rightV d x = true → pathV d x ks = some z → rightV z.d z.x = true ∧ depthV z.d z.x + ks.length ≤ depthV d x
  | d, x, [], z, hr, h => by
    rw [pathV_nil] at h
    cases h
    exact ⟨hr, Nat.le_refl _⟩
  | 0, _, _ :: _, _, _, h => by cases h
  | d + 1, x, k :: ks, z, hr, h => by
    rw [pathV_cons] at h
    cases hg : getV d x k with
    | none => rw [hg] at h; cases h
    | some y =>
      rw [hg] at h
      obtain ⟨h6, _, i, hi⟩ := getV_kid hg
      obtain ⟨h1, h2⟩ := pathV_right d y ks z (right_kid hr hi) h
      refine ⟨h1, ?_⟩
      have := kid_max (depthV d) hi
      rw [show depthV (d + 1) x = if x.to.kind < 5 then 0 else (x.to.kids.map (depthV d)).foldr max 0 + 1 from rfl, if_neg (by omega), List.length_cons]
      omega
def ToldP (r : Option AnyV) (v : Value) (W : World) : Prop := match r with
  | none => v = .agg zeroL.toArray
  | some z => ValAt W z.d v z.x
theorem ToldS.parts {r : Option AnyV} {u : Value} {W : World} (h : ToldS r u W) : ∃ a, u = .tuple #[a, .bool r.isSome] ∧ ToldP r a W := by
  cases r with
  | none => exact ⟨_, h, rfl⟩
  | some y => obtain ⟨u, h1, h2⟩ := h; exact ⟨u, h1, h2⟩
theorem ToldP.agg {r : Option AnyV} {u : Value} {W : World} (h : ToldP r u W) : ∃ k n s a1 l1 c1 a2 l2 c2, u = .agg #[.int .i64 k, .int .i64 n, .string s, .slice a1 l1 c1, .slice a2 l2 c2] := by
  cases r with
  | none => exact ⟨_, _, _, _, _, _, _, _, _, h⟩
  | some y => exact ValAt.agg h
/-- A row of keys. -/
def StrsV (l : List ByteArray) (v : Value) (W : World) : Prop := ∃ a n c, v = .slice a n c ∧ StrsAt W a n c l
theorem StrsV.later {l : List ByteArray} : ∀ v W W', StrsV l v W → Below W.heap.size W W' → StrsV l v W' := fun _ _ _ ⟨a, n, c, h1, h2⟩ hb => ⟨a, n, c, h1, h2.ext hb⟩
end Go.Dav
namespace Go.Proofs.YtmcmknndhppljaaDoor
set_option linter.unusedVariables false
set_option linter.unusedSimpArgs false
open Go.RowKit Go.Dav
theorem Tryd_infoStr : (Tryd.prog.info? 9).map (fun i => (i.zero, i.size, i.bytes)) = some (some (.string ⟨#[]⟩), 1, 16) := by kernel_rfl
theorem Tryd_elemStr : Elem1 Tryd.prog 37 9 16 := by
  obtain ⟨i0, hi, hz0, hz1, hz2⟩ := info_parts Tryd_infoStr
  exact ⟨Tryd.underlying37, i0, _, hi, hz0, hz1, hz2, rfl⟩
end Go.Proofs.YtmcmknndhppljaaDoor
