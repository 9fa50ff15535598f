/-
  append(s, make([]T, k)...): k zeros onto a row of the call's own, and onto a slice that is full.
  A slice that is full, or a row of the call's own: append of zeros and of bytes; the walk of a drawn region operation by operation.
  Layer 11: a record as it goes out: in plain, and the program's out, walked.
  Layer 11: a byte that is laid behind a mark: in plain, and the program's put, walked.
  Layer 10: set, Light, Refuse, New, walked.
  Layer 10: Append, walked.
  Layer 10: the reference's Asked, Append, Sync, walked.
  Layer 10: 'runs', which tells a file's bytes run by run: its value, and the contract of what it hands back.
  Layer 10: the reference's Append and Sync, walked.
  Layer 10: the reference's Sync, walked.
  Layer 10: Sync, walked: the program's.
  Layer 10: Same, walked.
-/
import Derived.Test.YthpdcbklaapngaaHeaderTornB
import Derived.Lib.AppendZerosOnto
import Derived.Test.YthpdcbklaapngaaHeaderTornA
import Derived.RegionTactic
import Derived.Deep.AppendLies
import Derived.Deep.RegionLaw
import Derived.Deep.QuietTactic
import Derived.BigQuiet
import Derived.Deep.DeepCutAuto
import Derived.RangeFuncNested
import Derived.RangeFuncBound
import Derived.RangeFuncCalls
import Derived.RangeFuncLeaves
import Derived.RangeFuncBox
import Derived.Shelf.Abstract
import Derived.Shelf.RegionOpen
import Derived.WalkKit
import Derived.OwnWalkIn
import Derived.TacticsInMore
import Derived.LoopNIn
import Derived.LoopIn
namespace Go.Dav
set_option linter.unusedVariables false
set_option linter.unusedSimpArgs false
open Go Go.RowKit

theorem zeroCells_one (z0 : Value) (k : Nat) : Builtin.zeroCells #[z0] k = (List.replicate k z0).toArray := by
  apply Array.ext
  · simp [Builtin.zeroCells]
  · intro i h1 h2
    simp [Builtin.zeroCells] at h1 ⊢
    rw [Nat.mod_one]; rfl

section
variable {P : Program} {w : World}

theorem run_append_zeros_nothing (t tn ty e : TypeId) (i : TypeInfo) (kq kn : IntKind) (ht : P.underlying t = some (.slice e)) (htn : P.underlying tn = some (.int kn)) (hi : P.info? e = some i)
    (base : Option Addr) (sLen sCap : Nat) (hc : sLen ≤ sCap) : (Builtin.append_ #[t, tn] ty #[.slice base sLen sCap, .int kq 0]).run P w = .ok (.slice base sLen sCap) w := by
  have hw : IntKind.i64.wrap (0 : Int) = 0 := by rw [IntKind.wrap_i64]; omega
  cases base <;> simp [Builtin.append_, run_underlying ht, run_underlying htn, sizeOf, typeInfo, hi, asInt, asIntOf, hw, hc, storeCells]

theorem run_append_zeros_room (t tn ty e : TypeId) (i : TypeInfo) (z z0 : Value) (kq kn : IntKind) (ht : P.underlying t = some (.slice e)) (htn : P.underlying tn = some (.int kn)) (hi : P.info? e = some i) (hz : i.zero = some z) (hs : i.size = 1) (hzc : z.cells = #[z0]) (h1 : z0.oneCell' = true)
    (g sLen sCap : Nat) (cur : Array Value) (hg : w.heap[g]? = some (.cells cur e (0, 0))) (k : Nat) (h0 : 0 < k) (hroom : sLen + k ≤ sCap) (hfit : sLen + k ≤ cur.size) (h63 : k ≤ 9223372036854775807) (h48 : k * i.bytes ≤ 281474976710656) :
    (Builtin.append_ #[t, tn] ty #[.slice (some ⟨g, 0, none⟩) sLen sCap, .int kq k]).run P w =
      .ok (.slice (some ⟨g, 0, none⟩) (sLen + k) sCap) (w.setRow g (cur.toList.take sLen ++ List.replicate k z0 ++ cur.toList.drop (sLen + k)).toArray) := by
  have hk : k ≠ 0 := by omega
  have hw : IntKind.i64.wrap (k : Int) = k := by rw [IntKind.wrap_i64]; omega
  have h48i : ¬ (281474976710656 < (k : Int) * (i.bytes : Int)) := by
    rw [← Int.natCast_mul]
    omega
  have hneg : ¬ ((k : Int) < 0) := by omega
  have hst := run_storeCells_at P g sLen e (List.replicate k z0) 0 cur w hg (by simpa using hfit) (fun v hv => by rw [(List.mem_replicate.1 hv).2]; exact h1)
  simp only [Nat.add_zero, List.length_replicate] at hst
  simp [Builtin.append_, run_underlying ht, run_underlying htn, sizeOf, typeInfo, zeroValue, hi, hz, hs, asInt, asIntOf, hw, hneg, hk, h48i, hroom, hzc, zeroCells_one, Addr.add_lit, hst]

/-- append of k zeros to a row of the call's own. -/
theorem run_append_zeros_own (base : Nat) (t tn ty e : TypeId) (i : TypeInfo) (z z0 : Value) (kq kn : IntKind) (ht : P.underlying t = some (.slice e)) (htn : P.underlying tn = some (.int kn)) (hi : P.info? e = some i) (hz : i.zero = some z) (hs : i.size = 1) (hb : i.bytes = 1) (hzc : z.cells = #[z0]) (h1 : z0.oneCell' = true)
    (v : Value) (n : Nat) (xs : List Value) (hown : w.ownsRow base e 1 v n xs) (k : Nat) (hm : n + k ≤ 140737488355328) (hbase : base ≤ w.heap.size) :
    ∃ v' w', (Builtin.append_ #[t, tn] ty #[v, .int kq k]).run P w = .ok v' w' ∧ w'.ownsRow base e 1 v' (n + k) (xs ++ List.replicate k z0) ∧ w.grownBy w' v.ownBlock := by
  by_cases h0 : k = 0
  · subst h0
    obtain ⟨a, cap, rfl, hc, _⟩ := own_cells hown
    exact ⟨_, w, run_append_zeros_nothing t tn ty e i kq kn ht htn hi a n cap hc, by simpa using hown, World.grownBy.refl _ _⟩
  · have hk : 0 < k := by omega
    have hlen : (xs ++ List.replicate k z0).length = (n + k) * 1 := by rw [List.length_append, hown.1, List.length_replicate]; omega
    have grown : ∀ (old : Nat), old < n + k → ∀ (row : Option Nat),
        (w.drew.alloc (.cells (xs.toArray ++ Builtin.zeroCells z.cells k ++ Builtin.zeroCells z.cells (grownCap w (n + k) old e - (n + k))) e)).ownsRow base e 1
          (.slice (some ⟨w.heap.size, 0, none⟩) (n + k) (grownCap w (n + k) old e)) (n + k) (xs ++ List.replicate k z0) ∧
        w.grownBy (w.drew.alloc (.cells (xs.toArray ++ Builtin.zeroCells z.cells k ++ Builtin.zeroCells z.cells (grownCap w (n + k) old e - (n + k))) e)) row := by
      intro old ho row
      have hge := grownCap_ge w (n + k) old e
      have hcm : grownCap w (n + k) old e ≤ maxLen := grownCap_le_maxLen w (n + k) old e (by unfold maxLen; omega)
      have hx1 := hown.1
      refine ⟨⟨hlen, .inr ⟨w.heap.size, _, _, rfl, hbase, heap_alloc_new w.drew _, hge, hcm, ?_, ?_⟩⟩, ⟨rfl, rfl, rfl, by simp, fun j hj _ => Below.heap_alloc w.drew _ j hj⟩⟩
      · rw [hzc, zeroCells_one, zeroCells_one]
        simp
        omega
      · rw [hzc, zeroCells_one, zeroCells_one]
        simp only [Array.toList_append]
        rw [← hlen]
        exact List.take_left
    have hfits : ∀ old, old < n + k → Builtin.nextslicecap (n + k) old * i.bytes ≤ 281474976710656 := fun old ho => growslice_fits (by omega) (by rw [hb]; omega)
    rcases hown.2 with ⟨rfl, rfl⟩ | ⟨g, cap, cur, rfl, hbg, hg, hnc, hcm, hcs, htake⟩
    · have hx : xs = [] := List.eq_nil_of_length_eq_zero (by simpa using hown.1)
      subst hx
      have hr := Lib.run_append_grow_zeros (P := P) w t tn ty e i z kq kn ht htn hi hz none 0 0 [] (by rw [run_firstCells_none]) k hk (by omega) (by omega) (by omega) (by rw [hb]; omega) (hfits 0 (by omega))
      have hgr := grown 0 (by omega) (Value.ownBlock (.slice none 0 0))
      exact ⟨_, _, hr, hgr.1, hgr.2⟩
    · by_cases hroom : n + k ≤ cap
      · have hr := run_append_zeros_room (P := P) (w := w) t tn ty e i z z0 kq kn ht htn hi hz hs hzc h1 g n cap cur hg k hk hroom (by omega) (by omega) (by rw [hb]; omega)
        have hcl : cur.toList.length = cap := by rw [Array.length_toList]; omega
        refine ⟨_, _, hr, ⟨hlen, .inr ⟨g, cap, _, rfl, hbg, setRow_heap w g cur _ e _ hg, hroom, hcm, ?_, ?_⟩⟩, ⟨rfl, rfl, rfl, by simp, fun j _ hj => setRow_other w g j _ (fun e => hj (by simp [Value.ownBlock, e]))⟩⟩
        · simp only [List.size_toArray, List.length_append, List.length_take, List.length_drop, List.length_replicate, hcl]
          omega
        · have ht' : cur.toList.take n = xs := by simpa using htake
          rw [ht', ← hlen]
          exact List.take_left
      · have holds : ∀ j u, xs[j]? = some u → w.cell? ((⟨g, 0, none⟩ : Addr).add j) = some u := hown.cells (g := g) rfl
        have hr := Lib.run_append_grow_zeros (P := P) w t tn ty e i z kq kn ht htn hi hz (some ⟨g, 0, none⟩) n cap xs (run_firstCells_some w.drew i.size n ⟨g, 0, none⟩ n cap xs (by rw [hs]; exact hown.1) holds) k hk (by omega) (by omega) (by omega) (by rw [hb]; omega) (hfits cap (by omega))
        have hgr := grown cap (by omega) (Value.ownBlock (.slice (some ⟨g, 0, none⟩) n cap))
        exact ⟨_, _, hr, hgr.1, hgr.2⟩

theorem full_first {W : World} {S : Nat → Prop} {a : Option Addr} {n : Nat} {xs : List Value} (hx : CellsS W S a n xs) (hnone : a = none → n = 0) : (Builtin.firstCells 1 n (.slice a n n)).run P W.drew = .ok xs.toArray W.drew := by
  cases a with
  | none =>
    have h0 : xs = [] := by
      cases xs with
      | nil => rfl
      | cons x xs => obtain ⟨b, o, h1, _⟩ := hx.at_ 0 x rfl; cases h1
    subst h0
    rw [hnone rfl]
    exact run_firstCells_none W.drew 1 0 0 0
  | some ad =>
    refine run_firstCells_some W.drew 1 n ad n n xs (by rw [hx.len]; omega) ?_
    have := hx.from_
    simpa using this

/-- append of something to a slice that is full: a row of the call's own. -/
theorem run_append_full_own {t e bytes : Nat} (E : Elem1 P t e bytes) (ty : TypeId) (base : Nat) (S : Nat → Prop) (a : Option Addr) (n : Nat) (xs : List Value) (hx : CellsS w S a n xs) (T : Nat → Prop) (ax : Option Addr) (m c : Nat) (ys : List Value) (hy : CellsS w T ax m ys)
    (h1 : ∀ u ∈ ys, u.oneCell' = true) (hnone : a = none → n = 0) (hm : 0 < m) (h63 : n + m ≤ maxLen) (hbytes : (n + m) * bytes ≤ 140737488355328) (hbase : base ≤ w.heap.size) :
    ∃ v' w', (Builtin.append_ #[t, t] ty #[.slice a n n, .slice ax m c]).run P w = .ok v' w' ∧ w'.ownsRow base e 1 v' (n + m) (xs ++ ys) ∧ Below w.heap.size w w' := by
  obtain ⟨i, z, hi, hz, hs, hb, hzs⟩ := E.row
  have hsrc : Src P i.size t (.slice ax m c) m ys w := by rw [hs]; exact hy.src h1 E.ht
  have h64 : n + m ≤ 9223372036854775807 := by simp only [maxLen] at h63; omega
  have hr := run_append_grow_src (P := P) w t t ty e i z E.ht hi hz a n n xs (by rw [hs]; exact full_first hx hnone) _ m ys hsrc (by omega) (by omega) (growslice_fits (by omega) (by rw [hb]; exact hbytes))
  have hge := grownCap_ge w (n + m) n e
  have hcm : grownCap w (n + m) n e ≤ maxLen := grownCap_le_maxLen w (n + m) n e h63
  have hl1 := hx.len
  have hl2 := hy.len
  refine ⟨_, _, hr, ⟨by rw [List.length_append, hl1, hl2]; omega, .inr ⟨w.heap.size, _, _, rfl, hbase, heap_alloc_new w.drew _, hge, hcm, ?_, ?_⟩⟩, (Below.refl _ _).drew.alloc (Nat.le_refl _) _⟩
  · simp only [Array.size_append, List.size_toArray, size_zeroCells, hzs, List.length_append]
    omega
  · have hlen : (xs ++ ys).length = (n + m) * 1 := by rw [List.length_append, hl1, hl2]; omega
    simp only [Array.toList_append]
    rw [← hlen]
    exact List.take_left

/-- append of zeros to a slice that is full. -/
theorem run_append_zeros_full (base : Nat) (t tn ty e : TypeId) (i : TypeInfo) (z z0 : Value) (kq kn : IntKind) (ht : P.underlying t = some (.slice e)) (htn : P.underlying tn = some (.int kn)) (hi : P.info? e = some i) (hz : i.zero = some z) (hs : i.size = 1) (hb : i.bytes = 1) (hzc : z.cells = #[z0])
    (S : Nat → Prop) (a : Option Addr) (n : Nat) (xs : List Value) (hx : CellsS w S a n xs) (hnone : a = none → n = 0) (k : Nat) (hk : 0 < k) (hm : n + k ≤ 140737488355328) (hbase : base ≤ w.heap.size) :
    ∃ v' w', (Builtin.append_ #[t, tn] ty #[.slice a n n, .int kq k]).run P w = .ok v' w' ∧ w'.ownsRow base e 1 v' (n + k) (xs ++ List.replicate k z0) ∧ Below w.heap.size w w' := by
  have hr := Lib.run_append_grow_zeros (P := P) w t tn ty e i z kq kn ht htn hi hz a n n xs (by rw [hs]; exact full_first hx hnone) k hk (by omega) (by omega) (by omega) (by rw [hb]; omega) (growslice_fits (by omega) (by rw [hb]; omega))
  have hge := grownCap_ge w (n + k) n e
  have hcm : grownCap w (n + k) n e ≤ maxLen := grownCap_le_maxLen w (n + k) n e (by unfold maxLen; omega)
  have hl1 := hx.len
  refine ⟨_, _, hr, ⟨by rw [List.length_append, hl1, List.length_replicate]; omega, .inr ⟨w.heap.size, _, _, rfl, hbase, heap_alloc_new w.drew _, hge, hcm, ?_, ?_⟩⟩, (Below.refl _ _).drew.alloc (Nat.le_refl _) _⟩
  · rw [hzc, zeroCells_one, zeroCells_one]
    simp
    omega
  · have hlen : (xs ++ List.replicate k z0).length = (n + k) * 1 := by rw [List.length_append, hl1, List.length_replicate]; omega
    rw [hzc, zeroCells_one, zeroCells_one]
    simp only [Array.toList_append]
    rw [← hlen]
    exact List.take_left
end
end Go.Dav

namespace Go.Dav
set_option linter.unusedVariables false
set_option linter.unusedSimpArgs false
open Go Go.RowKit

/-- What lay below n stays, and so do the blocks of another type. -/
structure Grew (n : Nat) (e : TypeId) (W W' : World) : Prop where
  os : W'.os = W.os
  tape : W'.tape = W.tape
  output : W'.output = W.output
  size : W.heap.size ≤ W'.heap.size
  block : ∀ k, k < W.heap.size → (k < n ∨ ∃ cs t fz, W.heap[k]? = some (.cells cs t fz) ∧ t ≠ e) → W'.heap[k]? = W.heap[k]?
theorem Grew.refl (n : Nat) (e : TypeId) (W : World) : Grew n e W W := ⟨rfl, rfl, rfl, Nat.le_refl _, fun _ _ _ => rfl⟩
theorem Grew.trans {n : Nat} {e : TypeId} {A B C : World} (h : Grew n e A B) (k : Grew n e B C) : Grew n e A C :=
  ⟨k.os.trans h.os, k.tape.trans h.tape, k.output.trans h.output, Nat.le_trans h.size k.size, fun j hj hc => by
    have h1 := h.block j hj hc
    refine (k.block j (Nat.lt_of_lt_of_le hj h.size) ?_).trans h1
    rcases hc with hc | ⟨cs, t, fz, h2, h3⟩
    · exact .inl hc
    · exact .inr ⟨cs, t, fz, h1.trans h2, h3⟩⟩
theorem Grew.below {n : Nat} {e : TypeId} {W W' : World} (h : Grew n e W W') (hn : n ≤ W.heap.size) : Below n W W' := ⟨h.os, h.tape, h.output, h.size, fun k hk => h.block k (by omega) (.inl hk)⟩
theorem Grew.blk {n p : Nat} {e t : TypeId} {cs : List Value} {W W' : World} (h : Grew n e W W') (hb : Blk W p cs t) (ht : t ≠ e) : Blk W' p cs t := (h.block p hb.lt (.inr ⟨_, _, _, hb, ht⟩)).trans hb
theorem Grew.of_below {n : Nat} {e : TypeId} {W W' : World} (h : Below W.heap.size W W') : Grew n e W W' := ⟨h.os, h.tape, h.output, h.size, fun k hk _ => h.block k hk⟩
theorem Grew.of_own {n N : Nat} {e : TypeId} {W W' : World} {v : Value} {xs : List Value} (hown : W.ownsRow n e 1 v N xs) (hg : W.grownBy W' v.ownBlock) : Grew n e W W' :=
  ⟨hg.os, hg.tape, hg.output, hg.size, fun k hk hc => hg.block k hk fun e' => by
    rcases hown.2 with ⟨rfl, _⟩ | ⟨g, cap, cur, rfl, hb, hgb, _⟩
    · simp [Value.ownBlock] at e'
    · obtain rfl : k = g := by simpa [Value.ownBlock] using e'
      rcases hc with hc | ⟨cs, t, fz, h2, h3⟩
      · omega
      · rw [hgb] at h2; cases h2; exact h3 rfl⟩

/-- The bytes l: a slice that is full, in the blocks of S, or a row of the call's own. -/
def FirmOf (e : TypeId) (S : Nat → Prop) (n : Nat) (v : Value) (l : List UInt8) (W : World) : Prop :=
  (∃ a, v = .slice a l.length l.length ∧ CellsS W S a l.length (u8s l) ∧ (a = none → l.length = 0)) ∨ W.ownsRow n e 1 v l.length (u8s l)
theorem FirmOf.ext {e : TypeId} {S : Nat → Prop} {n : Nat} {v : Value} {l : List UInt8} {W W' : World} (h : FirmOf e S n v l W) (hb : Below W.heap.size W W') : FirmOf e S n v l W' := by
  rcases h with ⟨a, h1, h2, h3⟩ | h
  · exact .inl ⟨a, h1, h2.ext hb, h3⟩
  · exact .inr (ownsRow_ext h hb)
theorem run_append_op {P : Program} {o : Oper} {a : Act} {W w' : World} {s x : Operand} {t tx : TypeId} {v1 v2 v' : Value} (ho : o.op = .call { callee := .builtin .append, args := #[s, x], argTypes := #[t, tx] }) (hs : a.eval s = v1) (hx : a.eval x = v2)
    (hr : (Builtin.append_ #[t, tx] o.type #[v1, v2]).run P W = .ok v' w') : (execOp a.eval o).run P W = .ok (.value v') w' := by
  unfold execOp
  simp only [ho, resolve, invoke, builtin, Sem.run_bind, Sem.run_pure, Result.andThen_ok, List.map_toArray, List.map_cons, List.map_nil, hs, hx, hr]
theorem CellsS.take {W : World} {S : Nat → Prop} {a : Option Addr} {n k : Nat} {xs : List Value} (h : CellsS W S a n xs) (hk : k ≤ n) : CellsS W S a k (xs.take k) :=
  ⟨by rw [List.length_take, h.len]; omega, fun i v hi => h.at_ i v (by rw [List.getElem?_take] at hi; split at hi <;> first | exact hi | cases hi)⟩
theorem u8s_take (l : List UInt8) (k : Nat) : (u8s l).take k = u8s (l.take k) := by simp [u8s]
theorem ownsRow_set_other {w : World} {base e size n G i : Nat} {t : TypeId} {v u : Value} {xs cs : List Value} (h : w.ownsRow base e size v n xs) (hb : Blk w G cs t) (ht : t ≠ e) : (w.setCell ⟨G, i, none⟩ u).ownsRow base e size v n xs := by
  refine ⟨h.1, ?_⟩
  rcases h.2 with h2 | ⟨g, cap, cur, h1, h2, h3, h4⟩
  · exact .inl h2
  · refine .inr ⟨g, cap, cur, h1, h2, (Below.heap_setCell w ⟨G, i, none⟩ u g (fun e' => ?_)).trans h3, h4⟩
    subst e'
    rw [show w.heap[g]? = _ from hb] at h3
    cases h3; exact ht rfl
theorem Grew.set {n G i : Nat} {e : TypeId} {W W' : World} {u : Value} (h : Grew n e W W') (hG : n ≤ G) : Below n W' (W'.setCell ⟨G, i, none⟩ u) := (Below.refl _ _).setCell (p := ⟨G, i, none⟩) hG u
theorem u8s_zeros (k : Nat) : u8s (List.replicate k 0) = List.replicate k (.int .u8 0) := by simp [u8s]

section
variable {P : Program} {W : World}
theorem firm_zeros (t tn ty e : TypeId) (i : TypeInfo) (kn : IntKind) (ht : P.underlying t = some (.slice e)) (htn : P.underlying tn = some (.int kn)) (hi : P.info? e = some i) (hz : i.zero = some (.int .u8 0)) (hs : i.size = 1) (hb : i.bytes = 1)
    (S : Nat → Prop) (n : Nat) (hn : n ≤ W.heap.size) (v : Value) (l : List UInt8) (h : FirmOf e S n v l W) (k : Nat) (hm : l.length + k ≤ 140737488355328) :
    ∃ v' w', (Builtin.append_ #[t, tn] ty #[v, .int .i64 k]).run P W = .ok v' w' ∧ FirmOf e S n v' (l ++ List.replicate k 0) w' ∧ Grew n e W w' := by
  have hl : (l ++ List.replicate k 0).length = l.length + k := by simp
  rcases h with ⟨a, rfl, h2, h3⟩ | h
  · by_cases h0 : k = 0
    · subst h0
      refine ⟨_, W, run_append_zeros_nothing t tn ty e i .i64 kn ht htn hi a _ _ (Nat.le_refl _), .inl ⟨a, by simp, by simpa using h2, by simpa using h3⟩, Grew.refl _ _ _⟩
    · obtain ⟨v', w', h4, h5, h6⟩ := run_append_zeros_full (P := P) (w := W) n t tn ty e i (.int .u8 0) (.int .u8 0) .i64 kn ht htn hi hz hs hb rfl S a _ _ h2 h3 k (by omega) hm hn
      exact ⟨v', w', h4, .inr (by rw [hl, u8s_append, u8s_zeros]; exact h5), Grew.of_below h6⟩
  · obtain ⟨v', w', h4, h5, h6⟩ := run_append_zeros_own (P := P) (w := W) n t tn ty e i (.int .u8 0) (.int .u8 0) .i64 kn ht htn hi hz hs hb rfl rfl v _ _ h k hm hn
    exact ⟨v', w', h4, .inr (by rw [hl, u8s_append, u8s_zeros]; exact h5), Grew.of_own h h6⟩
theorem firm_append {t e : TypeId} (E : Elem1 P t e 1) (ty : TypeId) (S : Nat → Prop) (n : Nat) (hn : n ≤ W.heap.size) (v : Value) (l : List UInt8) (h : FirmOf e S n v l W) (T : Nat → Prop) (ax : Option Addr) (m c : Nat) (y : List UInt8) (hy : CellsS W T ax m (u8s y)) (hax : ax ≠ none) (hm0 : 0 < m) (hm : l.length + m ≤ 140737488355328) :
    ∃ v' w', (Builtin.append_ #[t, t] ty #[v, .slice ax m c]).run P W = .ok v' w' ∧ W.heap.size ≤ w'.heap.size ∧ w'.ownsRow n e 1 v' (l ++ y).length (u8s (l ++ y)) ∧ Grew n e W w' := by
  have hl : (l ++ y).length = l.length + m := by have := hy.len; rw [u8s_len] at this; simp; omega
  rcases h with ⟨a, rfl, h2, h3⟩ | h
  · obtain ⟨v', w', h4, h5, h6⟩ := run_append_full_own (w := W) E ty n S a _ _ h2 T ax m c _ hy (u8s_one _) h3 hm0 (by unfold maxLen; omega) (by omega) hn
    exact ⟨v', w', h4, h6.size, by rw [hl, u8s_append]; exact h5, Grew.of_below h6⟩
  · obtain ⟨v', w', h4, h5, h6⟩ := run_append_rowS E ty n v _ _ h T ax m c _ hy (u8s_one _) (fun e => (hax e).elim) (by unfold maxLen; omega) (by omega) hn
    exact ⟨v', w', h4, h6.size, by rw [hl, u8s_append]; exact h5, Grew.of_own h h6⟩

variable {md : Region.Mode} {ops : Array Oper} {Q : Exit → Act → World → Prop}
/-- One operation alone may come, and yields. -/
theorem wpAny_runs {i : Nat} {o : Oper} {v : Value} {w w' : World} {a : Act} {fuel : Nat} {listed : Array Bool} (hr : Region.ready md ops listed = [i]) (ho : ops[i]? = some o) (hw : Region.wanted o (yielded ops a.tmps) = true)
    (hrun : (execOp a.eval o).run P w = .ok (.value v) w') (h : wpAny P md ops Q fuel (listed.setIfInBounds i true) (a.put o.dst v) w') : wpAny P md ops Q (fuel + 1) listed a w :=
  wpAny_all hr (by simp) fun j hj => by
    simp at hj; subst hj
    unfold wpOp
    rw [ho]
    simp only [hw, if_true]
    refine .inl ?_
    unfold Oper.wp
    rw [hrun]
    exact h
theorem wpAny_skips {i : Nat} {o : Oper} {w w' : World} {a : Act} {fuel : Nat} {listed : Array Bool} (hr : Region.ready md ops listed = [i]) (ho : ops[i]? = some o) (hw : Region.wanted o (yielded ops a.tmps) = true)
    (hrun : (execOp a.eval o).run P w = .ok .skip w') (h : wpAny P md ops Q fuel (listed.setIfInBounds i true) (a.put o.dst undef) w') : wpAny P md ops Q (fuel + 1) listed a w :=
  wpAny_all hr (by simp) fun j hj => by
    simp at hj; subst hj
    unfold wpOp
    rw [ho]
    simp only [hw, if_true]
    refine .inl ?_
    unfold Oper.wp
    rw [hrun]
    exact h
theorem wpAny_takeD {i : Nat} {oi : Oper} {v : Value} (d : Option Tmp) {fuel : Nat} {listed : Array Bool} {a : Act} {w : World} (hi : ops[i]? = some oi) (hd : oi.dst = d)
    (hs : Region.noSelect ops = true) (hf : Region.free md ops listed i = true) (hr : (Region.ready md ops listed).contains i = true)
    (hQ : ∀ c a w, Q (.panic c) (a.put oi.dst v) w → Q (.panic c) a w) (hy : Yields P ops oi v a)
    (h : wpAny P md ops Q fuel (listed.setIfInBounds i true) (a.put d v) w) : wpAny P md ops Q (fuel + 1) listed a w := by
  subst hd
  exact wpAny_take hi hs hf hr hQ hy h
theorem wpAny_runsD {i : Nat} {o : Oper} {v : Value} {w w' : World} (d : Option Tmp) {a : Act} {fuel : Nat} {listed : Array Bool} (hr : Region.ready md ops listed = [i]) (ho : ops[i]? = some o) (hd : o.dst = d) (hw : Region.wanted o (yielded ops a.tmps) = true)
    (hrun : (execOp a.eval o).run P w = .ok (.value v) w') (h : wpAny P md ops Q fuel (listed.setIfInBounds i true) (a.put d v) w') : wpAny P md ops Q (fuel + 1) listed a w := by
  subst hd
  exact wpAny_runs hr ho hw hrun h
theorem wpAny_skipsD {i : Nat} {o : Oper} {w w' : World} (d : Option Tmp) {a : Act} {fuel : Nat} {listed : Array Bool} (hr : Region.ready md ops listed = [i]) (ho : ops[i]? = some o) (hd : o.dst = d) (hw : Region.wanted o (yielded ops a.tmps) = true)
    (hrun : (execOp a.eval o).run P w = .ok .skip w') (h : wpAny P md ops Q fuel (listed.setIfInBounds i true) (a.put d undef) w') : wpAny P md ops Q (fuel + 1) listed a w := by
  subst hd
  exact wpAny_skips hr ho hw hrun h
end
end Go.Dav

namespace Go.Dav
set_option linter.unusedVariables false
set_option linter.unusedSimpArgs false
open Go Go.RowKit
def sizeOf2 (n : Nat) : List UInt8 := [UInt8.ofNat (n / 256), UInt8.ofNat n]
/-- A record as it goes out. -/
def outOf (p : List UInt8) : List UInt8 := sizeOf2 p.length ++ crcFour (crcSum (sizeOf2 p.length ++ p)) ++ p
theorem outOf_len (p : List UInt8) : (outOf p).length = 6 + p.length := by simp [outOf, sizeOf2, crcFour]; omega
theorem u8s_two (n : Nat) : u8s (sizeOf2 n) = [.int .u8 ((n : Int) / 256 % 256), .int .u8 ((n : Int) % 256)] := by simp [u8s, sizeOf2]
end Go.Dav
namespace Go.Proofs.Ythpdcbklaapngaa
set_option linter.unusedVariables false
set_option linter.unusedSimpArgs false
open Go.RowKit Go.Dav
attribute [local go_sem] Gives ite_val ite_val_true

theorem Try_make2 (n : Nat) (hn : n ≤ 1048576) (W : World) : (Instr.makeSlice 24 (.int .i64 2) (.int .i64 (6 + (n : Int)))).run Try.prog W = .ok (.slice (some ⟨W.heap.size, 0, none⟩) 2 (6 + n)) (W.alloc (.cells (List.replicate (6 + n) (Value.int .u8 0)).toArray 5)) := by
  have hinfo : (Try.prog.info? 5).map (fun i => (i.zero, i.size, i.bytes)) = some (some (.int .u8 0), 1, 1) := by kernel_rfl
  obtain ⟨i, hi, hz, hs, hb⟩ := info_parts hinfo
  have h := run_make (P := Try.prog) (w := W) 24 5 i (.int .u8 0) Try.underlying24 hi hz .i64 .i64 2 (6 + (n : Int)) (by omega) (by omega) (by rw [hb]; omega) (by omega)
  rw [hs] at h
  simp only [show (2 : Int).toNat = 2 by rfl, show (6 + (n : Int)).toNat = 6 + n by omega, Nat.mul_one] at h
  rw [h]
  have e : madeCells (Value.int .u8 0).cells (6 + n) = (List.replicate (6 + n) (Value.int .u8 0)).toArray := by
    rw [← toList_madeCells_one]; rfl
  rw [e]

set_option maxRecDepth 100000 in
set_option maxHeartbeats 8000000 in
theorem Try_out (a : Option Addr) (n c : Nat) (l : List UInt8) (w : World) (S : Nat → Prop) (hl : BytesS w S a n c l) (hn : n ≤ 1048576) :
    Calls Try.prog 23 #[.slice a n c] w fun e w' => ∃ v, e = .returned v ∧ w'.ownsRow w.heap.size 5 1 v (6 + n) (u8s (outOf l)) ∧ Below w.heap.size w w' := by
  have HL := Lib.hid hl
  have hn' : (n : Int) ≤ 1048576 := by omega
  have hwn : IntKind.i64.wrap (6 + (n : Int)) = 6 + (n : Int) := IntWalk.i64_in _ (by omega)
  obtain ⟨W0, hW0⟩ : ∃ W0, w.alloc (.cells (List.replicate (6 + n) (Value.int .u8 0)).toArray 5) = W0 := ⟨_, rfl⟩
  have hb0 : Blk W0 w.heap.size (List.replicate (6 + n) (Value.int .u8 0)) 5 := by rw [← hW0]; exact Blk.new w _ _
  have hmk : (Instr.makeSlice 24 (.int .i64 2) (.int .i64 (6 + (n : Int)))).run Try.prog w = .ok (.slice (some ⟨w.heap.size, 0, none⟩) 2 (6 + n)) W0 := by rw [Try_make2 n hn w, hW0]
  have c0 : W0.cell? ⟨w.heap.size, 0, none⟩ = some (.int .u8 0) := hb0.cell 0 (by rw [List.getElem?_replicate, if_pos (by omega)])
  have c1 : W0.cell? ⟨w.heap.size, 1, none⟩ = some (.int .u8 0) := hb0.cell 1 (by rw [List.getElem?_replicate, if_pos (by omega)])
  have m0 := hb0.marks
  have l0 := hb0.lt
  have BEL0 := Lib.hid (show Below w.heap.size w W0 by rw [← hW0]; exact (by repeat (first | (with_reducible exact Below.refl _ _) | (with_reducible exact Below.refl _ _) | (with_reducible refine Below.setCell ?_ (by first | omega | (simp; done) | (simp; omega)) _) | (with_reducible refine Below.alloc ?_ (by first | omega | (simp; done) | (simp; omega)) _) | (with_reducible refine Below.drew ?_) | (with_reducible refine below_drewN ?_ _))))
  have HB0 := Lib.hid hb0
  have HLN := Lib.hid hl.at_.hlen
  clear hl hb0 hW0
  go_enter Try.func23, Try.ntmps23
  go_wp2_with fail
  obtain ⟨W1, hW1⟩ : ∃ W1, (W0.setCell ⟨w.heap.size, 0, none⟩ (.int .u8 ((n : Int) / 256 % 256))).setCell ⟨w.heap.size, 1, none⟩ (.int .u8 ((n : Int) % 256)) = W1 := ⟨_, rfl⟩
  have o1 : Only w.heap.size W0 W1 := by rw [← hW1]; exact (by repeat (first | (with_reducible exact Only.refl _ _) | (with_reducible refine Only.set ?_ _ _) | (with_reducible refine Only.alloc ?_ _) | (with_reducible refine Only.drew ?_)))
  have hb1 : Blk W1 w.heap.size (((List.replicate (6 + n) (Value.int .u8 0)).set 0 (.int .u8 ((n : Int) / 256 % 256))).set 1 (.int .u8 ((n : Int) % 256))) 5 := by rw [← hW1]; exact (HB0.out.set 0 _).set 1 _
  have hown : W1.ownsRow w.heap.size 5 1 (.slice (some ⟨w.heap.size, 0, none⟩) 2 (6 + n)) 2 (u8s (sizeOf2 n)) := by
    refine ⟨by simp [u8s, sizeOf2], .inr ⟨_, _, _, rfl, Nat.le_refl _, hb1, by omega, by unfold maxLen; omega, by simp, ?_⟩⟩
    rw [u8s_two, show 6 + n = (4 + n) + 1 + 1 by omega]
    simp [List.replicate_succ]
  have bel1 := below_only BEL0.out o1 BEL0.out.size (Nat.le_refl _)
  have HO1 := Lib.hid hown
  have BEL1 := Lib.hid bel1
  have HL1 := Lib.hid (HL.out.ext bel1)
  rw [hW1]
  clear hW1 o1 hb1 hown bel1 c0 c1 m0 l0 HB0 BEL0 hmk
  obtain ⟨_, _, e2, hby⟩ := own_bytes HO1.out (by omega)
  cases e2
  have hA := Try_crcSum (some ⟨w.heap.size, 0, none⟩) 2 (6 + n) (sizeOf2 n) W1 hby.at_
  obtain ⟨s0, hs0⟩ : ∃ s0, crcOf 4294967295 (sizeOf2 n) = s0 := ⟨_, rfl⟩
  have hs0l : s0 < 4294967296 := by rw [← hs0]; exact crcOf_lt (by omega) _
  rw [hs0] at hA
  refine hA.mono ?_; rintro e w2 ⟨rfl, hb2⟩
  have HO2 := Lib.hid (ownsRow_ext HO1.out hb2)
  have HL2 := Lib.hid (HL1.out.ext hb2)
  have BEL2 := Lib.hid (BEL1.out.trans (hb2.mono BEL1.out.size))
  have HS0 := Lib.hid hs0
  have HS0L := Lib.hid hs0l
  clear hA hs0 hs0l hb2 hby HO1 HL1 BEL1
  go_wp2_with fail
  obtain ⟨s, hs⟩ : ∃ s, crcSum (sizeOf2 n ++ l) = s := ⟨_, rfl⟩
  have hB : Calls Try.prog 36 #[.int .u32 ((4294967295 - s0 : Nat) : Int), .slice a n c] w2 fun e w' => e = .returned (.int .u32 (s : Int)) ∧ Below w2.heap.size w2 w' := by
    have h := Try_crcMore (4294967295 - s0) a n c l (by omega) w2 HL2.out.at_
    have e1 : 4294967295 - (4294967295 - s0) = s0 := by have := HS0L.out; omega
    rw [e1] at h
    rw [← hs]
    unfold crcSum
    rw [crcOf_append, HS0.out]
    exact h
  have HB := Lib.hid hB
  have HSL := Lib.hid (show s < 4294967296 by rw [← hs]; exact crcSum_lt _)
  have HSS := Lib.hid hs
  clear hB hs
  first
    | (refine HB.out.mono ?_; rintro e w3 ⟨rfl, hb3⟩)
    | (trace_state; sorry)
  have HO3 := Lib.hid (ownsRow_ext HO2.out hb3)
  have HL3 := Lib.hid (HL2.out.ext hb3)
  have BEL3 := Lib.hid (BEL2.out.trans (hb3.mono BEL2.out.size))
  clear hb3 HO2 HL2 BEL2 HB
  go_wp2_with fail
  go_loopg [4, 25] 4 (fun g vx ix wr => ∃ k : Nat, k ≤ 4 ∧ g = 4 - k ∧ ix = .int .i64 k ∧ wr.ownsRow w.heap.size 5 1 vx (2 + k) (u8s (sizeOf2 n ++ (crcFour s).take k)) ∧ Below w.heap.size w wr)
  case atStart => exact ⟨0, by omega, rfl, rfl, by simpa using HO3.out, BEL3.out⟩
  case round =>
    obtain ⟨k, hk, rfl, rfl, ho, hbl⟩ := hrel
    obtain ⟨ra, rc, rfl, _⟩ := own_bytes ho (by omega)
    have HO := Lib.hid ho
    have HBL := Lib.hid hbl
    have hsl := HSL.out
    have HSL2 := Lib.hid hsl
    clear ho hbl hsl
    by_cases hk4 : k < 4
    · have h4 : k = 0 ∨ k = 1 ∨ k = 2 ∨ k = 3 := by omega
      rcases h4 with rfl | rfl | rfl | rfl
      ·
        have HOx := Lib.hid (ownsRow_ext HO.out ((Below.refl _ wr).alloc (Nat.le_refl _) (.cells #[.int .u8 ((s : Int) % 256)] 5)))
        have HCx := Lib.hid (cells_one (S := fun b => b = wr.heap.size) (g := wr.heap.size) (v := .int .u8 ((s : Int) % 256)) rfl (by simp) (Blk.new wr [.int .u8 ((s : Int) % 256)] 5 |>.cell 0 rfl))
        have hsx : w.heap.size ≤ (wr.alloc (.cells #[.int .u8 ((s : Int) % 256)] 5)).heap.size := by have := HBL.out.size; simp; omega
        go_wp2_with (at_builtin; refine wpList_append_rowS rfl (.tmp 28) (.tmp 34) 24 rfl Try_elemU8 w.heap.size _ (2 + 0) (u8s (sizeOf2 n ++ (crcFour s).take 0)) rfl HOx.out (fun b => b = wr.heap.size) (some ⟨wr.heap.size, 0, none⟩) 1 1 [.int .u8 ((s : Int) % 256)] rfl HCx.out (fun u hu => by simp at hu; subst hu; rfl) (fun h => by cases h) (by unfold maxLen; omega) (by omega) hsx ?_; intro v' w' hown' hgrow)
        go_wp2_with fail
        go_roundg (4 - (0 + 1))
        case measure => omega
        case rel =>
          refine ⟨0 + 1, by omega, rfl, by go_num, ?_, below_own (HBL.out.alloc HBL.out.size _) (by have := HBL.out.size; simp; omega) HOx.out (Nat.le_refl _) hgrow⟩
          have e : u8s (sizeOf2 n ++ (crcFour s).take (0 + 1)) = u8s (sizeOf2 n ++ (crcFour s).take 0) ++ [.int .u8 ((s : Int) % 256)] := by simp [u8s, crcFour]
          rw [e]
          exact hown'
      ·
        have HOx := Lib.hid (ownsRow_ext HO.out ((Below.refl _ wr).alloc (Nat.le_refl _) (.cells #[.int .u8 ((s : Int) / 256 % 256)] 5)))
        have HCx := Lib.hid (cells_one (S := fun b => b = wr.heap.size) (g := wr.heap.size) (v := .int .u8 ((s : Int) / 256 % 256)) rfl (by simp) (Blk.new wr [.int .u8 ((s : Int) / 256 % 256)] 5 |>.cell 0 rfl))
        have hsx : w.heap.size ≤ (wr.alloc (.cells #[.int .u8 ((s : Int) / 256 % 256)] 5)).heap.size := by have := HBL.out.size; simp; omega
        go_wp2_with (at_builtin; refine wpList_append_rowS rfl (.tmp 28) (.tmp 34) 24 rfl Try_elemU8 w.heap.size _ (2 + 1) (u8s (sizeOf2 n ++ (crcFour s).take 1)) rfl HOx.out (fun b => b = wr.heap.size) (some ⟨wr.heap.size, 0, none⟩) 1 1 [.int .u8 ((s : Int) / 256 % 256)] rfl HCx.out (fun u hu => by simp at hu; subst hu; rfl) (fun h => by cases h) (by unfold maxLen; omega) (by omega) hsx ?_; intro v' w' hown' hgrow)
        go_wp2_with fail
        go_roundg (4 - (1 + 1))
        case measure => omega
        case rel =>
          refine ⟨1 + 1, by omega, rfl, by go_num, ?_, below_own (HBL.out.alloc HBL.out.size _) (by have := HBL.out.size; simp; omega) HOx.out (Nat.le_refl _) hgrow⟩
          have e : u8s (sizeOf2 n ++ (crcFour s).take (1 + 1)) = u8s (sizeOf2 n ++ (crcFour s).take 1) ++ [.int .u8 ((s : Int) / 256 % 256)] := by simp [u8s, crcFour]
          rw [e]
          exact hown'
      ·
        have HOx := Lib.hid (ownsRow_ext HO.out ((Below.refl _ wr).alloc (Nat.le_refl _) (.cells #[.int .u8 ((s : Int) / 65536 % 256)] 5)))
        have HCx := Lib.hid (cells_one (S := fun b => b = wr.heap.size) (g := wr.heap.size) (v := .int .u8 ((s : Int) / 65536 % 256)) rfl (by simp) (Blk.new wr [.int .u8 ((s : Int) / 65536 % 256)] 5 |>.cell 0 rfl))
        have hsx : w.heap.size ≤ (wr.alloc (.cells #[.int .u8 ((s : Int) / 65536 % 256)] 5)).heap.size := by have := HBL.out.size; simp; omega
        go_wp2_with (at_builtin; refine wpList_append_rowS rfl (.tmp 28) (.tmp 34) 24 rfl Try_elemU8 w.heap.size _ (2 + 2) (u8s (sizeOf2 n ++ (crcFour s).take 2)) rfl HOx.out (fun b => b = wr.heap.size) (some ⟨wr.heap.size, 0, none⟩) 1 1 [.int .u8 ((s : Int) / 65536 % 256)] rfl HCx.out (fun u hu => by simp at hu; subst hu; rfl) (fun h => by cases h) (by unfold maxLen; omega) (by omega) hsx ?_; intro v' w' hown' hgrow)
        go_wp2_with fail
        go_roundg (4 - (2 + 1))
        case measure => omega
        case rel =>
          refine ⟨2 + 1, by omega, rfl, by go_num, ?_, below_own (HBL.out.alloc HBL.out.size _) (by have := HBL.out.size; simp; omega) HOx.out (Nat.le_refl _) hgrow⟩
          have e : u8s (sizeOf2 n ++ (crcFour s).take (2 + 1)) = u8s (sizeOf2 n ++ (crcFour s).take 2) ++ [.int .u8 ((s : Int) / 65536 % 256)] := by simp [u8s, crcFour]
          rw [e]
          exact hown'
      ·
        have HOx := Lib.hid (ownsRow_ext HO.out ((Below.refl _ wr).alloc (Nat.le_refl _) (.cells #[.int .u8 ((s : Int) / 16777216 % 256)] 5)))
        have HCx := Lib.hid (cells_one (S := fun b => b = wr.heap.size) (g := wr.heap.size) (v := .int .u8 ((s : Int) / 16777216 % 256)) rfl (by simp) (Blk.new wr [.int .u8 ((s : Int) / 16777216 % 256)] 5 |>.cell 0 rfl))
        have hsx : w.heap.size ≤ (wr.alloc (.cells #[.int .u8 ((s : Int) / 16777216 % 256)] 5)).heap.size := by have := HBL.out.size; simp; omega
        go_wp2_with (at_builtin; refine wpList_append_rowS rfl (.tmp 28) (.tmp 34) 24 rfl Try_elemU8 w.heap.size _ (2 + 3) (u8s (sizeOf2 n ++ (crcFour s).take 3)) rfl HOx.out (fun b => b = wr.heap.size) (some ⟨wr.heap.size, 0, none⟩) 1 1 [.int .u8 ((s : Int) / 16777216 % 256)] rfl HCx.out (fun u hu => by simp at hu; subst hu; rfl) (fun h => by cases h) (by unfold maxLen; omega) (by omega) hsx ?_; intro v' w' hown' hgrow)
        go_wp2_with fail
        go_roundg (4 - (3 + 1))
        case measure => omega
        case rel =>
          refine ⟨3 + 1, by omega, rfl, by go_num, ?_, below_own (HBL.out.alloc HBL.out.size _) (by have := HBL.out.size; simp; omega) HOx.out (Nat.le_refl _) hgrow⟩
          have e : u8s (sizeOf2 n ++ (crcFour s).take (3 + 1)) = u8s (sizeOf2 n ++ (crcFour s).take 3) ++ [.int .u8 ((s : Int) / 16777216 % 256)] := by simp [u8s, crcFour]
          rw [e]
          exact hown'
    · obtain rfl : k = 4 := by omega
      clear hk4
      have HLr := Lib.hid (HL.out.ext HBL.out)
      have HNIL := Lib.hid HL.out.at_.hnil
      have hsz := HBL.out.size
      go_wp2_with (at_builtin; refine wpList_append_rowS rfl (.tmp 37) (.tmp 38) 24 rfl Try_elemU8 w.heap.size _ (2 + 4) (u8s (sizeOf2 n ++ (crcFour s).take 4)) rfl HO.out S a n c (u8s l) rfl HLr.out.cells (u8s_one l) HNIL.out (by unfold maxLen; omega) (by omega) hsz ?_; intro v' w' hown' hgrow; have HO5 := Lib.hid hown'; have BEL5 := Lib.hid (below_own HBL.out hsz HO.out (Nat.le_refl _) hgrow); clear hown' hgrow)
      go_ret
      refine ⟨_, rfl, ?_, BEL5.out⟩
      have h := HO5.out
      have e : u8s (outOf l) = u8s (sizeOf2 n ++ (crcFour s).take 4) ++ u8s l := by
        unfold outOf
        rw [HLN.out, HSS.out, u8s_append]; rfl
      rw [e, show 6 + n = 2 + 4 + n by omega]
      exact h
end Go.Proofs.Ythpdcbklaapngaa

namespace Go.Dav
set_option linter.unusedVariables false
set_option linter.unusedSimpArgs false
open Go Go.RowKit
def padByte (n : Nat) (b : List UInt8) : List UInt8 := if (n + b.length) % 64 = 0 then b ++ [0] else b
def putByte (n : Nat) (b : List UInt8) (c : UInt8) : List UInt8 := padByte n b ++ [c]
def layOn (n : Nat) (b0 cs : List UInt8) : List UInt8 := cs.foldl (putByte n) b0
theorem layOn_snoc (n : Nat) (b0 cs : List UInt8) (c : UInt8) : layOn n b0 (cs ++ [c]) = putByte n (layOn n b0 cs) c := by simp [layOn]
theorem padByte_len (n : Nat) (b : List UInt8) : (padByte n b).length ≤ b.length + 1 := by unfold padByte; split <;> simp
theorem putByte_len (n : Nat) (b : List UInt8) (c : UInt8) : (putByte n b c).length ≤ b.length + 2 := by
  unfold putByte; have := padByte_len n b; simp; omega
theorem layOn_len (n : Nat) (b0 : List UInt8) : ∀ cs, (layOn n b0 cs).length ≤ b0.length + 2 * cs.length := by
  intro cs
  induction cs generalizing b0 with
  | nil => simp [layOn]
  | cons c cs ih =>
    have h := ih (putByte n b0 c)
    have h2 := putByte_len n b0 c
    show (layOn n (putByte n b0 c) cs).length ≤ _
    simp; omega
theorem u8s_snoc (l : List UInt8) (c : UInt8) : u8s (l ++ [c]) = u8s l ++ [.int .u8 (c.toNat : Int)] := by simp [u8s]
end Go.Dav
namespace Go.Proofs.Ythpdcbklaapngaa
set_option linter.unusedVariables false
set_option linter.unusedSimpArgs false
open Go.RowKit Go.Dav
attribute [local go_sem] Gives ite_val ite_val_true

set_option maxRecDepth 100000 in
set_option maxHeartbeats 8000000 in
theorem Try_wput (p n base B : Nat) (v : Value) (b : List UInt8) (c : UInt8) (w : World) (hp : Blk w p [v, .int .i64 (n : Int)] 82) (hv : w.ownsRow base 5 1 v b.length (u8s b)) (hbase : base ≤ w.heap.size) (hB1 : B ≤ base) (hB2 : B ≤ p) (hn : n ≤ 1048576) (hb : b.length ≤ 1048576) :
    Calls Try.prog 35 #[.pointer (some ⟨p, 0, none⟩), .int .u8 (c.toNat : Int)] w fun e w' => e = .returned (.tuple #[]) ∧ ∃ v', Blk w' p [v', .int .i64 (n : Int)] 82 ∧ w'.ownsRow base 5 1 v' (putByte n b c).length (u8s (putByte n b c)) ∧ Below B w w' := by
  have HP := Lib.hid hp
  have HO := Lib.hid hv
  have q := hp.cells
  have m := hp.marks
  have l := hp.lt
  obtain ⟨ra, rc, rfl, _⟩ := own_bytes hv (by omega)
  have k1 : IntKind.i64.wrap ((n : Int) + (b.length : Int)) = (n : Int) + (b.length : Int) := IntWalk.i64_in _ (by omega)
  have k2 : ((n : Int) + (b.length : Int)).tmod 64 = (((n + b.length) % 64 : Nat) : Int) := by rw [Int.tmod_eq_emod_of_nonneg (by omega)]; omega
  obtain ⟨i0, hi, hz0, hz1, hz2⟩ := info_parts Try_infoU8
  have HI := Lib.hid (And.intro hi (And.intro hz0 (And.intro hz1 hz2)))
  clear hp hv hi hz0 hz1 hz2
  have HBASE := Lib.hid hbase
  by_cases hm : (n + b.length) % 64 = 0
  · have k3 : ((n : Int) + (b.length : Int)) % 64 = 0 := by omega
    have HPD := Lib.hid (show padByte n b = b ++ [0] by unfold padByte; rw [if_pos hm])
    clear hm
    go_enter Try.func35, Try.ntmps35
    go_wp2_with fail
    go_quiet (fail)
    have hbd : Below w.heap.size w (w.drewN nq) := below_drewN (Below.refl _ _) _
    obtain ⟨W1, hW1⟩ : ∃ W1, w.drewN nq = W1 := ⟨_, rfl⟩
    rw [hW1] at hbd ⊢
    have HP1 := Lib.hid (HP.out.ext hbd)
    have HO1 := Lib.hid (ownsRow_ext HO.out hbd)
    have BEL1 := Lib.hid (hbd.mono (show B ≤ w.heap.size by omega))
    have HSZ1 := Lib.hid hbd.size
    clear hbd hW1 HP HO
    clear q m l
    have q := HP1.out.cells
    have l := HP1.out.lt
    have HOa := Lib.hid (ownsRow_ext HO1.out ((Below.refl _ W1).alloc (Nat.le_refl _) (.cells #[.int .u8 0] 5)))
    have HCa := Lib.hid (cells_one (S := fun x => x = W1.heap.size) (g := W1.heap.size) (v := .int .u8 0) rfl (by simp) (Blk.new W1 [.int .u8 0] 5 |>.cell 0 rfl))
    have HSa := Lib.hid (show base ≤ (W1.alloc (.cells #[.int .u8 0] 5)).heap.size by have := HBASE.out; have := HSZ1.out; simp; omega)
    go_upto_region 2 with (first | (at_builtin; refine wpList_append_rowS rfl (.tmp 23) (.tmp 24) 24 rfl Try_elemU8 base _ b.length (u8s b) rfl HOa.out (fun x => x = W1.heap.size) (some ⟨W1.heap.size, 0, none⟩) 1 1 [.int .u8 0] rfl HCa.out (fun u hu => by simp at hu; subst hu; rfl) (fun h => by cases h) (by unfold maxLen; omega) (by omega) HSa.out ?_; intro v2 w2 hown2 hgrow2; clear HSa; obtain ⟨ra2, rc2, rfl, _⟩ := own_cells hown2; have g2 := Grew.of_own HOa.out hgrow2; have hp2 := g2.blk (HP1.out.alloc _) (by decide); have q2 := hp2.cells; have m2 := hp2.marks; have l2 := hp2.lt; have HO2 := Lib.hid hown2; have HP2 := Lib.hid hp2; have HB2 := Lib.hid ((BEL1.out.alloc (by have := BEL1.out.size; omega) (.cells #[.int .u8 0] 5)).trans (below_own (Below.refl B _) (by have := BEL1.out.size; have := HBASE.out; simp; omega) HOa.out hB1 hgrow2)); have HS2 := Lib.hid g2.size; clear hown2 hgrow2 g2 hp2) | (fail))
    obtain ⟨W3, hW3⟩ : ∃ W3, w2.setCell ⟨p, 0, none⟩ (.slice ra2 (b.length + 1) rc2) = W3 := ⟨_, rfl⟩
    have HP3 := Lib.hid (show Blk W3 p [.slice ra2 (b.length + 1) rc2, .int .i64 (n : Int)] 82 by rw [← hW3]; exact HP2.out.set 0 _)
    have HO3 := Lib.hid (show W3.ownsRow base 5 1 (.slice ra2 (b.length + 1) rc2) (b ++ [0]).length (u8s (b ++ [0])) by
      have h := ownsRow_set_other (i := 0) (u := .slice ra2 (b.length + 1) rc2) HO2.out HP2.out (by decide)
      rw [hW3] at h
      rw [List.length_append, u8s_append]; exact h)
    have BEL3 := Lib.hid (show Below B w W3 by rw [← hW3]; exact HB2.out.setCell hB2 _)
    have HSZ3 := Lib.hid (show w.heap.size ≤ W3.heap.size by have h1 := HB2.out.size; rw [← hW3]; simpa using h1)
    have hbl : (b ++ [0]).length = b.length + 1 := by simp
    rw [hW3]
    clear hW3 HP1 HO1 BEL1 HSZ1 HO2 HP2 HB2 HS2 q2 m2 l2 q l HCa HOa
    rw [← hbl] at HP3 HO3 ⊢
    obtain ⟨b', hb'⟩ : ∃ b', b ++ [0] = b' := ⟨_, rfl⟩
    rw [hb'] at HO3 HP3 HPD hbl
    rw [hb']
    have hbm : b'.length ≤ 1048577 := by omega
    clear hb' hbl
    have HSZ1 := Lib.hid HSZ3.out
    have q := HP3.out.cells
    have l := HP3.out.lt
    have HOb := Lib.hid (ownsRow_ext HO3.out ((Below.refl _ W3).alloc (Nat.le_refl _) (.cells #[.int .u8 (c.toNat : Int)] 5)))
    have HCb := Lib.hid (cells_one (S := fun x => x = W3.heap.size) (g := W3.heap.size) (v := .int .u8 (c.toNat : Int)) rfl (by simp) (Blk.new W3 [.int .u8 (c.toNat : Int)] 5 |>.cell 0 rfl))
    have HSb := Lib.hid (show base ≤ (W3.alloc (.cells #[.int .u8 (c.toNat : Int)] 5)).heap.size by have := HBASE.out; have := HSZ1.out; simp; omega)
    go_wp2_with (at_builtin; refine wpList_append_rowS rfl (.tmp 34) (.tmp 36) 24 rfl Try_elemU8 base _ b'.length (u8s b') rfl HOb.out (fun x => x = W3.heap.size) (some ⟨W3.heap.size, 0, none⟩) 1 1 [.int .u8 (c.toNat : Int)] rfl HCb.out (fun u hu => by simp at hu; subst hu; rfl) (fun h => by cases h) (by unfold maxLen; omega) (by omega) HSb.out ?_; intro v4 w4 hown4 hgrow4; clear HSb; obtain ⟨ra4, rc4, rfl, _⟩ := own_cells hown4; have g4 := Grew.of_own HOb.out hgrow4; have hp4 := g4.blk (HP3.out.alloc _) (by decide); have q4 := hp4.cells; have m4 := hp4.marks; have l4 := hp4.lt; have HO4 := Lib.hid hown4; have HP4 := Lib.hid hp4; have HB4 := Lib.hid ((BEL3.out.alloc (by have := HSZ3.out; omega) (.cells #[.int .u8 (c.toNat : Int)] 5)).trans (below_own (Below.refl B _) (by have := HSZ3.out; have := HBASE.out; simp; omega) HOb.out hB1 hgrow4)); clear hown4 hgrow4 g4 hp4)
    go_end0
    refine ⟨rfl, _, HP4.out.set 0 _, ?_, HB4.out.setCell hB2 _⟩
    have h := ownsRow_set_other (i := 0) (u := .slice ra4 (b'.length + 1) rc4) HO4.out HP4.out (by decide)
    unfold putByte
    rw [HPD.out, List.length_append, u8s_snoc]
    exact h
  · have k3 : (((((n + b.length) % 64 : Nat) : Int)) == 0) = false := by simp; omega
    have k3' : ¬ ((n : Int) + (b.length : Int)) % 64 = 0 := by omega
    have HPD := Lib.hid (show padByte n b = b by unfold padByte; rw [if_neg hm])
    clear hm
    go_enter Try.func35, Try.ntmps35
    go_wp2_with fail
    go_quiet (fail)
    have hbd : Below w.heap.size w (w.drewN nq) := below_drewN (Below.refl _ _) _
    obtain ⟨W1, hW1⟩ : ∃ W1, w.drewN nq = W1 := ⟨_, rfl⟩
    rw [hW1] at hbd ⊢
    have HP1 := Lib.hid (HP.out.ext hbd)
    have HO1 := Lib.hid (ownsRow_ext HO.out hbd)
    have BEL1 := Lib.hid (hbd.mono (show B ≤ w.heap.size by omega))
    have HSZ1 := Lib.hid hbd.size
    clear hbd hW1 HP HO
    clear q m l
    have q := HP1.out.cells
    have l := HP1.out.lt
    have hbm : b.length ≤ 1048577 := by omega
    have HSZ1 := Lib.hid HSZ1.out
    have q := HP1.out.cells
    have l := HP1.out.lt
    have HOb := Lib.hid (ownsRow_ext HO1.out ((Below.refl _ W1).alloc (Nat.le_refl _) (.cells #[.int .u8 (c.toNat : Int)] 5)))
    have HCb := Lib.hid (cells_one (S := fun x => x = W1.heap.size) (g := W1.heap.size) (v := .int .u8 (c.toNat : Int)) rfl (by simp) (Blk.new W1 [.int .u8 (c.toNat : Int)] 5 |>.cell 0 rfl))
    have HSb := Lib.hid (show base ≤ (W1.alloc (.cells #[.int .u8 (c.toNat : Int)] 5)).heap.size by have := HBASE.out; have := HSZ1.out; simp; omega)
    go_wp2_with (at_builtin; refine wpList_append_rowS rfl (.tmp 34) (.tmp 36) 24 rfl Try_elemU8 base _ b.length (u8s b) rfl HOb.out (fun x => x = W1.heap.size) (some ⟨W1.heap.size, 0, none⟩) 1 1 [.int .u8 (c.toNat : Int)] rfl HCb.out (fun u hu => by simp at hu; subst hu; rfl) (fun h => by cases h) (by unfold maxLen; omega) (by omega) HSb.out ?_; intro v4 w4 hown4 hgrow4; clear HSb; obtain ⟨ra4, rc4, rfl, _⟩ := own_cells hown4; have g4 := Grew.of_own HOb.out hgrow4; have hp4 := g4.blk (HP1.out.alloc _) (by decide); have q4 := hp4.cells; have m4 := hp4.marks; have l4 := hp4.lt; have HO4 := Lib.hid hown4; have HP4 := Lib.hid hp4; have HB4 := Lib.hid ((BEL1.out.alloc (by have := HSZ1.out; omega) (.cells #[.int .u8 (c.toNat : Int)] 5)).trans (below_own (Below.refl B _) (by have := HSZ1.out; have := HBASE.out; simp; omega) HOb.out hB1 hgrow4)); clear hown4 hgrow4 g4 hp4)
    go_end0
    refine ⟨rfl, _, HP4.out.set 0 _, ?_, HB4.out.setCell hB2 _⟩
    have h := ownsRow_set_other (i := 0) (u := .slice ra4 (b.length + 1) rc4) HO4.out HP4.out (by decide)
    unfold putByte
    rw [HPD.out, List.length_append, u8s_snoc]
    exact h
end Go.Proofs.Ythpdcbklaapngaa

namespace Go.Proofs.Ythpdcbklaapngaa
set_option linter.unusedVariables false
set_option linter.unusedSimpArgs false
open Go.RowKit Go.Dav
attribute [local go_sem] Gives ite_val ite_val_true

theorem Try_New (w : World) : Calls Try.prog 13 #[] w fun e w' => e = .returned (.agg #[.slice none 0 0, .slice none 0 0, .int .i64 (-1), .int .i64 (-1), .bool false]) ∧ Below w.heap.size w w' := by
  go_enter Try.func13, Try.ntmps13
  go_wp2
  refine bodyPost_ret (v := .agg #[.slice none 0 0, .slice none 0 0, .int .i64 (-1), .int .i64 (-1), .bool false]) (by simp [results, Try.results13, go_sem]) rfl ⟨rfl, (by repeat (first | (with_reducible exact Below.refl _ _) | (with_reducible exact Below.refl _ _) | (with_reducible refine Below.setCell ?_ (by first | omega | (simp; done) | (simp; omega)) _) | (with_reducible refine Below.alloc ?_ (by first | omega | (simp; done) | (simp; omega)) _) | (with_reducible refine Below.drew ?_) | (with_reducible refine below_drewN ?_ _)))⟩

theorem none_at {W : World} {S : Nat → Prop} : FileS W S none 0 0 none 0 0 FileD.none := ⟨BytesS.nil_, LooseS.nil_, by unfold I64' FileD.none; simp, by unfold I64' FileD.none; simp⟩

theorem max_i64 {n : Int} (h : I64' n) : I64' (max n (-1)) := by unfold I64' at *; omega

theorem file_through {w W W' : World} {S : Nat → Prop} {fa la : Option Addr} {fl fc ll lc p : Nat} {F : FileD} (h : FileS w S fa fl fc la ll lc F) (hS : ∀ b, S b → b < w.heap.size) (hb : Below w.heap.size w W) (hp : w.heap.size ≤ p) (ho : Only p W W') : FileS W' (Or S W) fa fl fc la ll lc F :=
  ((h.ext hb).same ho.size fun b h1 h2 => ho.block b h2 (by have := hS b h1; omega)).mono fun b h => Or.inl h

end Go.Proofs.Ythpdcbklaapngaa

namespace Go.Proofs.Ythpdcbklaapngaa
set_option linter.unusedVariables false
set_option linter.unusedSimpArgs false
open Go.RowKit Go.Dav
attribute [local go_sem] Gives ite_val ite_val_true

theorem Try_enter32 (args : Array Value) (W : World) : (callFunc 32 args).run Try.prog W = .ok (Next.enter 32 args) W := by kernel_rfl

set_option maxRecDepth 8000 in
set_option maxHeartbeats 4000000 in
theorem Try_append1 (x : List UInt8) (ba : Option Addr) (bl bc q : Nat) (w : World) (S Sb : Nat → Prop) (hS : ∀ b, S b → b < w.heap.size) (hx : BytesS w Sb ba bl bc x) (hq : Blk w q [.slice ba bl bc] 24) : TryDoes w S 32 #[.pointer (some ⟨q, 0, none⟩)] (fun G => { G with loose := G.loose ++ [x] }) := by
  intro W0 p fa la fl fc ll lc F hb hp hpb hF hr
  have hq2 := hq.ext hb
  have cq := hq2.cells
  have cp := hpb.cells
  have mp := hpb.marks
  have lp := hpb.lt
  have lq := hq2.lt
  have HF := Lib.hid hF
  have HX := Lib.hid (hx.ext hb)
  have HB := Lib.hid hb
  have HPB := Lib.hid hpb
  have HSS := Lib.hid hS
  have hlc := hF.loose.hcap
  have hlm := hF.loose.hmax
  have hlf := hF.loose.hfew
  have hi1 : (ll : Int) ≤ (lc : Int) := by omega
  have hi2 : (0 : Int) ≤ (ll : Int) := by omega
  have hln := hF.loose.hnil
  have hlf2 : ll + 1 ≤ 524289 := by
    have h1 := (FileD.right_spec.1 hr).2.2.2.2
    have h2 := hF.loose.hlen
    have h3 := full_len (FileD.right_spec.1 hr).1
    unfold FileD.many at h1
    omega
  have HLN := Lib.hid hln
  obtain ⟨vs, hvs, hpc⟩ := (hF.loose.ext hb).open_
  have HVS := Lib.hid hvs
  have HPC := Lib.hid hpc
  clear hb hF hpb hS hvs hpc hx hq hln
  show Calls Try.prog 32 #[.pointer (some ⟨p, 0, none⟩), .pointer (some ⟨q, 0, none⟩)] W0 _
  go_enter Try.func32, Try.ntmps32
  go_wp2_with fail
  refine' wp_region_seq [.inl _, .inl _, .inl _, .inl _, .inl _, .inl _, .inl _, .inl _, .inl _, .inl _, .inl _, .inl _, .inl _, .inl _, .inl _, .inl _, .inl _, .inl _, .inl _, .inl _, .inr (NewBytes W0.heap.size x), .inr (NewPiece W0.heap.size x), .inr (Pieces (Or S W0) (F.loose ++ [x])), .inl _, .inl _, .inl _] (by kernel_rfl) (by kernel_rfl) ?main1
  case main1 =>
    refine wpParts_det (by rfl) (fun W hE hN => ?_) ?_
    · go_simp; refine ⟨Below.refl _ _, ?_⟩; rfl
    simp only [Act.put, List.setIfInBounds_toArray, List.set_cons_zero, List.set_cons_succ]
    refine wpParts_det (by rfl) (fun W hE hN => ?_) ?_
    · go_simp; refine ⟨Below.refl _ _, ?_⟩; rfl
    simp only [Act.put, List.setIfInBounds_toArray, List.set_cons_zero, List.set_cons_succ]
    refine wpParts_det (by rfl) (fun W hE hN => ?_) ?_
    · go_simp; refine ⟨Below.refl _ _, ?_⟩; rfl
    simp only [Act.put, List.setIfInBounds_toArray, List.set_cons_zero, List.set_cons_succ]
    refine wpParts_det (by rfl) (fun W hE hN => ?_) ?_
    · go_simp; refine ⟨Below.refl _ _, ?_⟩; rfl
    simp only [Act.put, List.setIfInBounds_toArray, List.set_cons_zero, List.set_cons_succ]
    refine wpParts_det (by rfl) (fun W hE hN => ?_) ?_
    · go_simp; refine ⟨Below.refl _ _, ?_⟩; rfl
    simp only [Act.put, List.setIfInBounds_toArray, List.set_cons_zero, List.set_cons_succ]
    refine wpParts_det (by rfl) (fun W hE hN => ?_) ?_
    · have hc := fun b o h => hE.cell (p := ⟨b, o, none⟩) h
      go_simp; refine ⟨Below.refl _ _, ?_⟩; rfl
    simp only [Act.put, List.setIfInBounds_toArray, List.set_cons_zero, List.set_cons_succ]
    refine wpParts_det (by rfl) (fun W hE hN => ?_) ?_
    · go_simp; refine ⟨Below.refl _ _, ?_⟩; rfl
    simp only [Act.put, List.setIfInBounds_toArray, List.set_cons_zero, List.set_cons_succ]
    refine wpParts_det (by rfl) (fun W hE hN => ?_) ?_
    · go_simp; refine ⟨Below.refl _ _, ?_⟩; rfl
    simp only [Act.put, List.setIfInBounds_toArray, List.set_cons_zero, List.set_cons_succ]
    refine wpParts_det (by rfl) (fun W hE hN => ?_) ?_
    · go_simp; refine ⟨Below.refl _ _, ?_⟩; rfl
    simp only [Act.put, List.setIfInBounds_toArray, List.set_cons_zero, List.set_cons_succ]
    refine wpParts_det (by rfl) (fun W hE hN => ?_) ?_
    · go_simp; refine ⟨Below.refl _ _, ?_⟩; rfl
    simp only [Act.put, List.setIfInBounds_toArray, List.set_cons_zero, List.set_cons_succ]
    refine wpParts_det (by rfl) (fun W hE hN => ?_) ?_
    · have hc := fun b o h => hE.cell (p := ⟨b, o, none⟩) h
      go_simp; refine ⟨Below.refl _ _, ?_⟩; rfl
    simp only [Act.put, List.setIfInBounds_toArray, List.set_cons_zero, List.set_cons_succ]
    refine wpParts_det (by rfl) (fun W hE hN => ?_) ?_
    · go_simp; refine ⟨Below.refl _ _, ?_⟩; rfl
    simp only [Act.put, List.setIfInBounds_toArray, List.set_cons_zero, List.set_cons_succ]
    refine wpParts_det (by rfl) (fun W hE hN => ?_) ?_
    · go_simp; refine ⟨Below.refl _ _, ?_⟩; rfl
    simp only [Act.put, List.setIfInBounds_toArray, List.set_cons_zero, List.set_cons_succ]
    refine wpParts_det (by rfl) (fun W hE hN => ?_) ?_
    · go_simp; refine ⟨Below.refl _ _, ?_⟩; rfl
    simp only [Act.put, List.setIfInBounds_toArray, List.set_cons_zero, List.set_cons_succ]
    refine wpParts_det (by rfl) (fun W hE hN => ?_) ?_
    · go_simp; refine ⟨Below.refl _ _, ?_⟩; rfl
    simp only [Act.put, List.setIfInBounds_toArray, List.set_cons_zero, List.set_cons_succ]
    refine wpParts_det (by rfl) (fun W hE hN => ?_) ?_
    · go_simp; refine ⟨Below.refl _ _, ?_⟩; rfl
    simp only [Act.put, List.setIfInBounds_toArray, List.set_cons_zero, List.set_cons_succ]
    refine wpParts_det (by rfl) (fun W hE hN => ?_) ?_
    · have hc := fun b o h => hE.cell (p := ⟨b, o, none⟩) h
      go_simp; refine ⟨Below.refl _ _, ?_⟩; rfl
    simp only [Act.put, List.setIfInBounds_toArray, List.set_cons_zero, List.set_cons_succ]
    refine wpParts_det (by rfl) (fun W hE hN => ?_) ?_
    · go_simp; refine ⟨Below.refl _ _, ?_⟩; rfl
    simp only [Act.put, List.setIfInBounds_toArray, List.set_cons_zero, List.set_cons_succ]
    refine wpParts_det (by rfl) (fun W hE hN => ?_) ?_
    · go_simp; refine ⟨Below.refl _ _, ?_⟩; rfl
    simp only [Act.put, List.setIfInBounds_toArray, List.set_cons_zero, List.set_cons_succ]
    refine wpParts_det (by rfl) (fun W hE hN => ?_) ?_
    · have hc := fun b o h => hE.cell (p := ⟨b, o, none⟩) h
      go_simp; refine ⟨Below.refl _ _, ?_⟩; rfl
    simp only [Act.put, List.setIfInBounds_toArray, List.set_cons_zero, List.set_cons_succ]
    refine wpParts_any rfl (NewBytes.later) (by rfl) (fun W hE hN => ?_) (fun u20 => ?_)
    · go_simp; refine ⟨Below.refl _ _, ?_⟩; refine (Try_Clone ba bl bc x Sb _ (HX.out.ext hE)).mono ?_; rintro e w' ⟨a, n, c, rfl, h1, h2⟩; exact ⟨_, rfl, h2, a, n, c, rfl, h1.mono fun b h => Nat.le_trans hE.size h⟩
    simp only [Act.put, List.setIfInBounds_toArray, List.set_cons_zero, List.set_cons_succ]
    refine wpParts_any rfl (NewPiece.later) (by rfl) (fun W hE hN => ?_) (fun u21 => ?_)
    · obtain ⟨a, n, c, rfl, hB⟩ := (show NewBytes W0.heap.size x u20 W ∧ True from hN).1; go_simp; exact newPiece_alloc hE.size hB
    simp only [Act.put, List.setIfInBounds_toArray, List.set_cons_zero, List.set_cons_succ]
    refine wpParts_any rfl (Pieces.later) (by rfl) (fun W hE hN => ?_) (fun u22 => ?_)
    · obtain ⟨g, a, n, c, rfl, hg1, hg2, hg3, hB⟩ := (show NewPiece W0.heap.size x u21 W ∧ True from hN).1; obtain ⟨a', c', w', hrun, hcells, hk1, hk2, hk3, hbel⟩ := run_append_fullS (P := Try.prog) (W := W) Try_elemBytes 25 S la ll vs (HVS.out.ext hE) (fun b => W0.heap.size ≤ b) (some ⟨g, 0, none⟩) 1 1 [.slice a n c] (cells_one hg1 hg2 hg3) (by simp [Value.oneCell']) (fun h => by have := HLN.out h; omega) (by unfold maxLen; omega) (by omega); exact gives_append rfl rfl rfl hrun hbel ⟨a', ll + 1, c', rfl, pieces_append (HPC.out.ext hE) hcells hB hbel hE.size hk1 hk2 (by omega) hk3⟩
    simp only [Act.put, List.setIfInBounds_toArray, List.set_cons_zero, List.set_cons_succ]
    refine wpParts_det (by rfl) (fun W hE hN => ?_) ?_
    · go_simp; refine ⟨Below.refl _ _, ?_⟩; rfl
    simp only [Act.put, List.setIfInBounds_toArray, List.set_cons_zero, List.set_cons_succ]
    refine wpParts_det (by rfl) (fun W hE hN => ?_) ?_
    · go_simp; refine ⟨Below.refl _ _, ?_⟩; rfl
    simp only [Act.put, List.setIfInBounds_toArray, List.set_cons_zero, List.set_cons_succ]
    refine wpParts_det (by rfl) (fun W hE hN => ?_) ?_
    · go_simp; refine ⟨Below.refl _ _, ?_⟩; rfl
    simp only [Act.put, List.setIfInBounds_toArray, List.set_cons_zero, List.set_cons_succ]
    refine wpParts_end fun W2 hE2 hG2 => ?_
    have hcW2 := fun b o h => hE2.cell (p := ⟨b, o, none⟩) h
    have hfW2 := fun b o h => hE2.frozen (p := ⟨b, o, none⟩) h
    obtain ⟨ma, ml, mc, rfl, hL⟩ := hG2.1
    have hs2 := hE2.size
    have lp2 : p < W2.heap.size := by omega
    have hpb2 := HPB.out.ext hE2
    have mp2 := hpb2.marks
    have HL := Lib.hid hL
    clear hG2 hL
    go_wp2
    go_end0
    have ho : Only p W0 (W2.setCell ⟨p, 1, none⟩ (.slice ma ml mc)) := ((Only.refl p W0).ext hE2).set 1 _
    have hx := file_through HF.out HSS.out HB.out hp ho
    refine ⟨rfl, fa, fl, fc, ma, ml, mc, hpb2.set 1 _, ⟨hx.firm, ?_, hx.fuse, hx.fault⟩, ho⟩
    refine HL.out.same (by simp) (fun b h hlt => (Only.block ((by repeat (first | (with_reducible exact Only.refl _ _) | (with_reducible refine Only.set ?_ _ _) | (with_reducible refine Only.alloc ?_ _) | (with_reducible refine Only.drew ?_))) : Only p W2 _)) b hlt ?_)
    rcases h with h | h
    · have := HSS.out b h; omega
    · omega


set_option maxRecDepth 8000 in
set_option maxHeartbeats 4000000 in
theorem Try_Append (F : FileD) (fa la ba : Option Addr) (fl fc ll lc bl bc : Nat) (x : List UInt8) (w : World) (S Sb : Nat → Prop) (hF : FileS w S fa fl fc la ll lc F) (hS : ∀ b, S b → b < w.heap.size) (hx : BytesS w Sb ba bl bc x) :
    Calls Try.prog 20 #[.agg #[.slice fa fl fc, .slice la ll lc, .int .i64 F.fuse, .int .i64 F.fault, .bool F.off], .slice ba bl bc] w (GivesFile w S (F.append x).1 (F.append x).2) := by
  have hW : Below w.heap.size w (((w.alloc (.cells [.slice fa fl fc, .slice la ll lc, .int .i64 F.fuse, .int .i64 F.fault, .bool F.off].toArray 27)).alloc (.cells #[.slice ba bl bc] 24)).alloc (.cells #[.slice none 0 0, .slice none 0 0, .int .i64 0, .int .i64 0, .bool false] 27)) := (by repeat (first | (with_reducible exact Below.refl _ _) | (with_reducible exact Below.refl _ _) | (with_reducible refine Below.setCell ?_ (by first | omega | (simp; done) | (simp; omega)) _) | (with_reducible refine Below.alloc ?_ (by first | omega | (simp; done) | (simp; omega)) _) | (with_reducible refine Below.drew ?_) | (with_reducible refine below_drewN ?_ _)))
  have hq := (Blk.new' (w.alloc (.cells [.slice fa fl fc, .slice la ll lc, .int .i64 F.fuse, .int .i64 F.fault, .bool F.off].toArray 27)) [.slice ba bl bc] 24 (p := w.heap.size + 1) (by simp)).alloc (o := (.cells #[.slice none 0 0, .slice none 0 0, .int .i64 0, .int .i64 0, .bool false] 27))
  have hf0 := ((Blk.new w [.slice fa fl fc, .slice la ll lc, .int .i64 F.fuse, .int .i64 F.fault, .bool F.off] 27).alloc (.cells #[.slice ba bl bc] 24)).alloc (o := (.cells #[.slice none 0 0, .slice none 0 0, .int .i64 0, .int .i64 0, .bool false] 27))
  have B0 := Blk.new' ((w.alloc (.cells [.slice fa fl fc, .slice la ll lc, .int .i64 F.fuse, .int .i64 F.fault, .bool F.off].toArray 27)).alloc (.cells #[.slice ba bl bc] 24)) [.slice none 0 0, .slice none 0 0, .int .i64 0, .int .i64 0, .bool false] 27 (p := w.heap.size + 1 + 1) (by simp)
  have hxl := hx.at_.hlen
  have HSS := Lib.hid hS
  have HX := Lib.hid (hx.ext hW)
  have HF := Lib.hid (hF.ext hW)
  have HF0 := Lib.hid hF
  have HQ := Lib.hid hq
  have HFF := Lib.hid hf0
  have HB0 := Lib.hid B0
  clear hF hx hW hq hf0 B0 hS
  cases hr : F.right with
  | false =>
    have herr : F.err = 200 := by unfold FileD.err; rw [if_neg (by rw [hr]; decide)]
    have hop : F.append x = F.op bl fun G => { G with loose := G.loose ++ [x] } := by unfold FileD.append; rw [if_neg (by rw [hr]; simp), hxl]
    have HOP := Lib.hid hop; clear hop
    go_enter Try.func20, Try.ntmps20
    go_wp2_with fail
    refine (Try_Check F fa la fl fc ll lc _ HF.out.at_).mono ?_; rintro e w1 ⟨rfl, hb1⟩
    obtain ⟨hc1, hf1, hs1⟩ := after hb1
    simp only [World.size_alloc] at hs1
    have lt_w1_0_0 : w.heap.size < w1.heap.size := by omega
    have lt_w1_0_1 : w.heap.size < w1.heap.size + 1 := by omega
    have lt_w1_0_2 : w.heap.size < w1.heap.size + 1 + 1 := by omega
    rw [herr]
    have hD := Try_append1 x ba bl bc (w.heap.size + 1) w1 S Sb (fun b h => by have := HSS.out b h; omega) (HX.out.ext hb1) (HQ.out.ext hb1)
    have HC := Lib.hid (Try_operation F fa la fl fc ll lc _ bl _ _ w1 S (HF.out.ext hb1) (fun b h => by have := HSS.out b h; omega) hD Try_enter32)
    clear hD
    go_wp2_with fail
    obtain ⟨F7, e7, hV⟩ : ∃ F7 e7, F.append x = (F7, e7) := ⟨_, _, rfl⟩
    have HC2 := HC.out
    rw [← HOP.out, hV] at HC2
    have HV := Lib.hid hV
    clear hV HC
    refine HC2.mono ?_; rintro e w2 ⟨ga, gl, gc, ma, ml, mc, rfl, hR, hb2⟩
    clear HC2
    have B1 := (HB0.out.ext hb1).ext hb2
    have s2 := hb2.size
    have bel : Below w.heap.size w w2 := (by repeat (first | (with_reducible exact Below.refl _ _) | (with_reducible exact Below.refl _ _) | (with_reducible refine Below.setCell ?_ (by first | omega | (simp; done) | (simp; omega)) _) | (with_reducible refine Below.alloc ?_ (by first | omega | (simp; done) | (simp; omega)) _) | (with_reducible refine Below.drew ?_) | (with_reducible refine below_drewN ?_ _) | (with_reducible refine Below.trans ?_ (hb2.mono (by first | omega | (simp; done) | (simp; omega)))) | (with_reducible refine Below.trans ?_ (hb1.mono (by first | omega | (simp; done) | (simp; omega))))))
    have HR := Lib.hid hR; clear hR
    have hr2 := ((((B1.set 0 (.slice ga gl gc)).set 1 (.slice ma ml mc)).set 2 (.int .i64 (F7).fuse)).set 3 (.int .i64 (F7).fault)).set 4 (.bool (F7).off)
    have c2 := hr2.cells
    have m2 := B1.marks
    have q2 := B1.cells
    have lB := B1.lt
    simp only [List.set_cons_zero, List.set_cons_succ] at c2
    go_wp2
    rw [HV.out]
    refine bodyPost_ret (v := .tuple #[.agg #[.slice ga gl gc, .slice ma ml mc, .int .i64 (F7).fuse, .int .i64 (F7).fault, .bool (F7).off], .int .i64 (e7)]) (by simp [results, Try.results20, go_sem, c2]) rfl ⟨ga, gl, gc, ma, ml, mc, rfl, ?_, ?_⟩
    · refine ((HR.out).same (Only.size (p := w.heap.size + 1 + 1) (by repeat (first | (with_reducible exact Only.refl _ _) | (with_reducible refine Only.set ?_ _ _) | (with_reducible refine Only.alloc ?_ _) | (with_reducible refine Only.drew ?_)))) (fun b h hlt => Only.block (p := w.heap.size + 1 + 1) (by repeat (first | (with_reducible exact Only.refl _ _) | (with_reducible refine Only.set ?_ _ _) | (with_reducible refine Only.alloc ?_ _) | (with_reducible refine Only.drew ?_))) b hlt ?_)).mono (T := Or S w) (fun b h => ?_)
      · rcases h with h | h
        · have := HSS.out b h; omega
        · (try simp at h); omega
      · rcases h with h | h
        · exact .inl h
        · exact .inr (by (try simp at h); omega)
    · exact (by repeat (first | (with_reducible exact Below.refl _ _) | (with_reducible exact Below.refl _ _) | (with_reducible refine Below.setCell ?_ (by first | omega | (simp; done) | (simp; omega)) _) | (with_reducible refine Below.alloc ?_ (by first | omega | (simp; done) | (simp; omega)) _) | (with_reducible refine Below.drew ?_) | (with_reducible refine below_drewN ?_ _) | (with_reducible refine Below.trans ?_ (bel.mono (by first | omega | (simp; done) | (simp; omega))))))
  | true =>
    have herr : F.err = 0 := by unfold FileD.err; rw [if_pos hr]
    go_enter Try.func20, Try.ntmps20
    go_wp2_with fail
    refine (Try_Check F fa la fl fc ll lc _ HF.out.at_).mono ?_; rintro e w1 ⟨rfl, hb1⟩
    obtain ⟨hc1, hf1, hs1⟩ := after hb1
    simp only [World.size_alloc] at hs1
    have lt_w1_0_0 : w.heap.size < w1.heap.size := by omega
    have lt_w1_0_1 : w.heap.size < w1.heap.size + 1 := by omega
    have lt_w1_0_2 : w.heap.size < w1.heap.size + 1 + 1 := by omega
    rw [herr]
    by_cases h0 : bl = 0
    · have HV := Lib.hid (show F.append x = (F, 2) by unfold FileD.append; rw [if_pos ⟨hr, List.length_eq_zero_iff.1 (by omega)⟩])
      have h0' : ((bl : Int) == 0) = true := by simp [h0]
      have B1 := HB0.out.ext hb1
      have bel : Below w.heap.size w w1 := (by repeat (first | (with_reducible exact Below.refl _ _) | (with_reducible exact Below.refl _ _) | (with_reducible refine Below.setCell ?_ (by first | omega | (simp; done) | (simp; omega)) _) | (with_reducible refine Below.alloc ?_ (by first | omega | (simp; done) | (simp; omega)) _) | (with_reducible refine Below.drew ?_) | (with_reducible refine below_drewN ?_ _) | (with_reducible refine Below.trans ?_ (hb1.mono (by first | omega | (simp; done) | (simp; omega))))))
      have HR := Lib.hid ((HF.out.ext hb1).mono (T := Or S w1) fun b h => Or.inl h)
      clear h0
      have hr2 := ((((B1.set 0 (.slice fa fl fc)).set 1 (.slice la ll lc)).set 2 (.int .i64 (F).fuse)).set 3 (.int .i64 (F).fault)).set 4 (.bool (F).off)
      have c2 := hr2.cells
      have m2 := B1.marks
      have q2 := B1.cells
      have lB := B1.lt
      simp only [List.set_cons_zero, List.set_cons_succ] at c2
      go_wp2
      rw [HV.out]
      refine bodyPost_ret (v := .tuple #[.agg #[.slice fa fl fc, .slice la ll lc, .int .i64 (F).fuse, .int .i64 (F).fault, .bool (F).off], .int .i64 (2)]) (by simp [results, Try.results20, go_sem, c2]) rfl ⟨fa, fl, fc, la, ll, lc, rfl, ?_, ?_⟩
      · refine ((HR.out).same (Only.size (p := w.heap.size + 1 + 1) (by repeat (first | (with_reducible exact Only.refl _ _) | (with_reducible refine Only.set ?_ _ _) | (with_reducible refine Only.alloc ?_ _) | (with_reducible refine Only.drew ?_)))) (fun b h hlt => Only.block (p := w.heap.size + 1 + 1) (by repeat (first | (with_reducible exact Only.refl _ _) | (with_reducible refine Only.set ?_ _ _) | (with_reducible refine Only.alloc ?_ _) | (with_reducible refine Only.drew ?_))) b hlt ?_)).mono (T := Or S w) (fun b h => ?_)
        · rcases h with h | h
          · have := HSS.out b h; omega
          · (try simp at h); omega
        · rcases h with h | h
          · exact .inl h
          · exact .inr (by (try simp at h); omega)
      · exact (by repeat (first | (with_reducible exact Below.refl _ _) | (with_reducible exact Below.refl _ _) | (with_reducible refine Below.setCell ?_ (by first | omega | (simp; done) | (simp; omega)) _) | (with_reducible refine Below.alloc ?_ (by first | omega | (simp; done) | (simp; omega)) _) | (with_reducible refine Below.drew ?_) | (with_reducible refine below_drewN ?_ _) | (with_reducible refine Below.trans ?_ (bel.mono (by first | omega | (simp; done) | (simp; omega))))))
    · have hop : F.append x = F.op bl fun G => { G with loose := G.loose ++ [x] } := by unfold FileD.append; rw [if_neg (by rintro ⟨_, h⟩; rw [h] at hxl; simp at hxl; omega), hxl]
      have h0' : ((bl : Int) == 0) = false := by simp; omega
      have HOP := Lib.hid hop; clear hop h0
      have hD := Try_append1 x ba bl bc (w.heap.size + 1) w1 S Sb (fun b h => by have := HSS.out b h; omega) (HX.out.ext hb1) (HQ.out.ext hb1)
      have HC := Lib.hid (Try_operation F fa la fl fc ll lc _ bl _ _ w1 S (HF.out.ext hb1) (fun b h => by have := HSS.out b h; omega) hD Try_enter32)
      clear hD
      go_wp2_with fail
      obtain ⟨F7, e7, hV⟩ : ∃ F7 e7, F.append x = (F7, e7) := ⟨_, _, rfl⟩
      have HC2 := HC.out
      rw [← HOP.out, hV] at HC2
      have HV := Lib.hid hV
      clear hV HC
      refine HC2.mono ?_; rintro e w2 ⟨ga, gl, gc, ma, ml, mc, rfl, hR, hb2⟩
      clear HC2
      have B1 := (HB0.out.ext hb1).ext hb2
      have s2 := hb2.size
      have bel : Below w.heap.size w w2 := (by repeat (first | (with_reducible exact Below.refl _ _) | (with_reducible exact Below.refl _ _) | (with_reducible refine Below.setCell ?_ (by first | omega | (simp; done) | (simp; omega)) _) | (with_reducible refine Below.alloc ?_ (by first | omega | (simp; done) | (simp; omega)) _) | (with_reducible refine Below.drew ?_) | (with_reducible refine below_drewN ?_ _) | (with_reducible refine Below.trans ?_ (hb2.mono (by first | omega | (simp; done) | (simp; omega)))) | (with_reducible refine Below.trans ?_ (hb1.mono (by first | omega | (simp; done) | (simp; omega))))))
      have HR := Lib.hid hR; clear hR
      have hr2 := ((((B1.set 0 (.slice ga gl gc)).set 1 (.slice ma ml mc)).set 2 (.int .i64 (F7).fuse)).set 3 (.int .i64 (F7).fault)).set 4 (.bool (F7).off)
      have c2 := hr2.cells
      have m2 := B1.marks
      have q2 := B1.cells
      have lB := B1.lt
      simp only [List.set_cons_zero, List.set_cons_succ] at c2
      go_wp2
      rw [HV.out]
      refine bodyPost_ret (v := .tuple #[.agg #[.slice ga gl gc, .slice ma ml mc, .int .i64 (F7).fuse, .int .i64 (F7).fault, .bool (F7).off], .int .i64 (e7)]) (by simp [results, Try.results20, go_sem, c2]) rfl ⟨ga, gl, gc, ma, ml, mc, rfl, ?_, ?_⟩
      · refine ((HR.out).same (Only.size (p := w.heap.size + 1 + 1) (by repeat (first | (with_reducible exact Only.refl _ _) | (with_reducible refine Only.set ?_ _ _) | (with_reducible refine Only.alloc ?_ _) | (with_reducible refine Only.drew ?_)))) (fun b h hlt => Only.block (p := w.heap.size + 1 + 1) (by repeat (first | (with_reducible exact Only.refl _ _) | (with_reducible refine Only.set ?_ _ _) | (with_reducible refine Only.alloc ?_ _) | (with_reducible refine Only.drew ?_))) b hlt ?_)).mono (T := Or S w) (fun b h => ?_)
        · rcases h with h | h
          · have := HSS.out b h; omega
          · (try simp at h); omega
        · rcases h with h | h
          · exact .inl h
          · exact .inr (by (try simp at h); omega)
      · exact (by repeat (first | (with_reducible exact Below.refl _ _) | (with_reducible exact Below.refl _ _) | (with_reducible refine Below.setCell ?_ (by first | omega | (simp; done) | (simp; omega)) _) | (with_reducible refine Below.alloc ?_ (by first | omega | (simp; done) | (simp; omega)) _) | (with_reducible refine Below.drew ?_) | (with_reducible refine below_drewN ?_ _) | (with_reducible refine Below.trans ?_ (bel.mono (by first | omega | (simp; done) | (simp; omega))))))
end Go.Proofs.Ythpdcbklaapngaa

namespace Go.Proofs.Ythpdcbklaapngaa
set_option linter.unusedVariables false
set_option linter.unusedSimpArgs false
open Go.RowKit Go.Dav
attribute [local go_sem] Gives ite_val ite_val_true


end Go.Proofs.Ythpdcbklaapngaa

namespace Go.Dav
set_option linter.unusedVariables false
set_option linter.unusedSimpArgs false
open Go Go.RowKit

/-- A run of bytes, and the place at which it begins. -/
structure Run where
  at_ : Int
  a : Option Addr
  len : Nat
  cap : Nat
  l : List UInt8
def RunOk (W : World) (S : Nat → Prop) (r : Run) : Prop := BytesS W S r.a r.len r.cap r.l ∧ r.len ≤ 524288 ∧ 0 ≤ r.at_ ∧ r.at_ ≤ 524288 ∧ (r.len = 0 → r.at_ = 0)
abbrev RunT (W : World) (S : Nat → Prop) : Type := { r : Run // RunOk W S r }
abbrev RunT.encs {W : World} {S : Nat → Prop} (x : RunT W S) : Array Value := #[.int .i64 x.1.at_, .slice x.1.a x.1.len x.1.cap]
def runAt (F : FileD) : Nat → Nat
  | 0 => 0
  | j + 1 => F.firm.length + sumTo F.loose j
/-- What the first k rounds have told. -/
def RunsTo {W : World} {S : Nat → Prop} (F : FileD) (k : Nat) (xs : List (RunT W S)) : Prop := xs.map (fun x => x.1.l) = (F.firm :: F.loose).take k ∧ ∀ (j : Nat) x, xs[j]? = some x → x.1.at_ = (runAt F j : Int)
theorem RunsTo.nil_ {W : World} {S : Nat → Prop} (F : FileD) : RunsTo (W := W) (S := S) F 0 [] := ⟨rfl, fun j x h => by simp at h⟩
theorem RunsTo.snoc {W : World} {S : Nat → Prop} {F : FileD} {k : Nat} {xs : List (RunT W S)} (h : RunsTo F k xs) {x : RunT W S} (hx : (F.firm :: F.loose)[k]? = some x.1.l) (ha : x.1.at_ = (runAt F k : Int)) : RunsTo F (k + 1) (xs ++ [x]) := by
  have hlen : xs.length = k := by
    have h1 := congrArg List.length h.1
    obtain ⟨h2, _⟩ := List.getElem?_eq_some_iff.1 hx
    rw [List.length_map, List.length_take] at h1
    omega
  refine ⟨?_, fun j y hy => ?_⟩
  · rw [List.map_append, h.1, List.take_add_one, hx]; rfl
  · by_cases hj : j < xs.length
    · rw [List.getElem?_append_left hj] at hy; exact h.2 j y hy
    · rw [List.getElem?_append_right (by omega)] at hy
      have hj2 : j - xs.length = 0 := by
        obtain ⟨h2, _⟩ := List.getElem?_eq_some_iff.1 hy
        simp at h2; omega
      rw [hj2] at hy
      cases hy
      have : j = k := by omega
      rw [this]; exact ha
theorem RunsTo.length {W : World} {S : Nat → Prop} {F : FileD} {k : Nat} {xs : List (RunT W S)} (h : RunsTo F k xs) (hk : k ≤ F.loose.length + 1) : xs.length = k := by
  have h1 := congrArg List.length h.1
  rw [List.length_map, List.length_take, List.length_cons] at h1
  omega

/-- What a round keeps: what lay below n, and block B. -/
def KpR (n B : Nat) (W W' : World) : Prop := Below n W W' ∧ W'.heap[B]? = W.heap[B]?
theorem KpR.refl (n B : Nat) (W : World) : KpR n B W W := ⟨Below.refl _ _, rfl⟩
theorem KpR.trans {n B : Nat} {A C D : World} (h : KpR n B A C) (k : KpR n B C D) : KpR n B A D := ⟨h.1.trans k.1, k.2.trans h.2⟩
theorem KpR.t {n B : Nat} : ∀ {A C D : World}, KpR n B A C → KpR n B C D → KpR n B A D := fun h k => h.trans k
theorem KpR.b {n B : Nat} {w : World} (h : n ≤ w.heap.size) (hB : B < w.heap.size) : ∀ (W : World) (l : Nat) (o o' : Obj), w.heap.size ≤ l → W.heap[l]? = some o → o.isCells = false → o.isWalk = false → KpR n B W (W.putObj l o') := fun W l o o' h1 h2 h3 h4 =>
  ⟨belowK_b h W l o o' h1 h2 h3 h4, (grownBy_putObj' W l o').block B (by
    obtain ⟨h5, _⟩ := Array.getElem?_eq_some_iff.1 h2
    omega) (by intro e; cases e; omega)⟩
theorem KpR.blk {n B : Nat} {W W' : World} (h : KpR n B W W') {vs : List Value} {t : TypeId} (hb : Blk W B vs t) : Blk W' B vs t := h.2.trans hb
end Go.Dav
namespace Go.Proofs.Ythpdcbklaapngaa
set_option linter.unusedVariables false
set_option linter.unusedSimpArgs false
open Go.RowKit Go.Dav Go.Shelf
attribute [local go_sem] Gives ite_val ite_val_true Oper.semAt_some

set_option maxHeartbeats 4000000 in
theorem Try_runs (F : FileD) (fa la : Option Addr) (fl fc ll lc : Nat) (w : World) :
    Calls Try.prog 31 #[.agg #[.slice fa fl fc, .slice la ll lc, .int .i64 F.fuse, .int .i64 F.fault, .bool F.off]] w fun e w' => e = .returned (.func (.func 44) #[] #[.pointer (some ⟨w.heap.size, 0, none⟩)]) ∧ w' = w.alloc (.cells [.slice fa fl fc, .slice la ll lc, .int .i64 F.fuse, .int .i64 F.fault, .bool F.off].toArray 27) := by
  go_enter Try.func31, Try.ntmps31
  go_wp2
  go_ret
  exact ⟨rfl, rfl⟩

theorem runAt_two {F : FileD} {k : Nat} {p : List UInt8} (h : F.loose[k]? = some p) : runAt F (k + 1 + 1) = runAt F (k + 1) + p.length := by
  show F.firm.length + sumTo F.loose (k + 1) = F.firm.length + sumTo F.loose k + p.length
  rw [sumTo_succ h]; omega
theorem runAt_le (F : FileD) (k : Nat) : runAt F k ≤ F.many := by
  cases k with
  | zero => exact Nat.zero_le _
  | succ k =>
    show F.firm.length + sumTo F.loose k ≤ F.many
    unfold FileD.many; have := sumTo_mono F.loose k; omega
theorem loose_le {F : FileD} {k : Nat} {p : List UInt8} (h : F.loose[k]? = some p) : p.length ≤ F.many := by
  have h1 := sumTo_succ h
  have h2 := sumTo_mono F.loose (k + 1)
  unfold FileD.many; omega

set_option maxRecDepth 100000 in
set_option maxHeartbeats 4000000 in
theorem Try_runs1 (F : FileD) (fa la : Option Addr) (fl fc ll lc : Nat) (w : World) (S : Nat → Prop) (n n₀ B : Nat) (hn : 1 ≤ n) (hF : FileS w S fa fl fc la ll lc F) (hr : F.right = true) (hS : ∀ b, S b → b < n₀) (h0 : n₀ ≤ w.heap.size) (hB : Blk w B [.slice fa fl fc, .slice la ll lc, .int .i64 F.fuse, .int .i64 F.fault, .bool F.off] 27) :
    SeqStopsK Fence.wide n Try.prog 44 #[.pointer (some ⟨B, 0, none⟩)] (RunT.encs (W := w) (S := S)) (KpR n₀ B) (RunsTo F (F.loose.length + 1)) (fun pre => ∃ k, RunsTo F k pre) (F.loose.length + 1) w := fun l J Jx W hW _ _ hY hJ0 => by
  have hm := (FileD.right_spec.1 hr).2.2.2.2
  have hB1 := hB.ext hW
  have q1 := hB1.cells
  have l1 := hB1.lt
  have e1 := hF.loose.hlen
  have e2 := hF.firm.at_.hlen
  have e3 := hF.loose.hfew
  have hfm : F.firm.length ≤ F.many := by unfold FileD.many; omega
  obtain ⟨x0, hx0⟩ : ∃ x : RunT w S, x.1 = ⟨0, fa, fl, fc, F.firm⟩ := ⟨⟨⟨0, fa, fl, fc, F.firm⟩, hF.firm, by show fl ≤ _; omega, by show (0 : Int) ≤ 0; omega, by show (0 : Int) ≤ _; omega, fun _ => rfl⟩, rfl⟩
  have hJ1 : RunsTo F 1 ([] ++ [x0]) := (RunsTo.nil_ F).snoc (by rw [hx0]; rfl) (by rw [hx0]; rfl)
  obtain ⟨f1, t1, a1, b1, hy1, hR1⟩ := hY [] x0 W hJ0 (by simp)
  dsimp only [RunT.encs] at hy1
  rw [hx0] at hy1
  dsimp only at hy1
  have HFU := Lib.hid (FileD.right_spec.1 hr).1
  have HJ1 := Lib.hid hJ1
  have HB := Lib.hid hB1
  have HF := Lib.hid hF
  have HM := Lib.hid hm
  have HY := Lib.hid hY
  have HW := Lib.hid hW
  have HR1 := Lib.hid hR1
  have HS := Lib.hid hS
  have H1 := Lib.hid e1
  have H2 := Lib.hid e2
  have f2 : (fl : Int) ≤ 524288 := by omega
  have HX0 := Lib.hid hx0
  clear hB hB1 hF hW hY hJ1 hR1 hr hS e1 e2 hfm hx0 hm
  refine callsIn_of_wp Try.func44 rfl trivial ?_ rfl
  simp only [Try.ntmps44, List.size_toArray, List.length_cons, List.length_nil, Nat.reduceAdd, Nat.reduceSub, Array.replicate_succ, Array.replicate_zero, List.push_toArray, List.append_toArray, List.nil_append, List.cons_append]
  gi_wp2_with fail
  refine HR1.out.mono ?_
  rintro e W1 (⟨rfl, hJ1, hk1⟩ | ⟨rfl, hx1⟩)
  · have HJJ := Lib.hid hJ1
    have HK1 := Lib.hid hk1
    have B1 := hk1.blk HB.out
    have q2 := B1.cells
    have m2 := B1.marks
    have HBB := Lib.hid B1
    clear hJ1 hk1 B1 q1 HR1
    gi_wp2_with fail
    gi_loopw [17, 3] (fun ix at_ wr => ∃ (k m : Nat) (pre : List (RunT w S)), k ≤ F.loose.length ∧ m = runAt F (k + 1) ∧ ix = .int .i64 k ∧ at_ = .int .i64 m ∧ RunsTo F (k + 1) pre ∧ J pre wr ∧ KpR n₀ B W wr) (fun ix _ _ => ll - (intOf ix).toNat)
    case atStart => exact ⟨0, fl, _, Nat.zero_le _, by show fl = F.firm.length + sumTo F.loose 0; rw [sumTo_zero, H2.out]; rfl, rfl, rfl, HJ1.out, HJJ.out, HK1.out⟩
    case round =>
      obtain ⟨k, m, pre, hk, hmk, rfl, rfl, hrt, hJ, hkp⟩ := hrel
      have hm2 : (m : Int) ≤ 524288 := by have := runAt_le F (k + 1); have := HM.out; omega
      have hk2 : k ≤ ll := by have := H1.out; omega
      have HMK := Lib.hid hmk
      have HRT := Lib.hid hrt
      have HJ := Lib.hid hJ
      have HKP := Lib.hid hkp
      clear hmk hrt hJ hkp q2 m2
      by_cases hlt : k < F.loose.length
      · obtain ⟨p, hp⟩ : ∃ p, F.loose[k]? = some p := ⟨_, List.getElem?_eq_getElem hlt⟩
        obtain ⟨b, o, pa, pl, pc, rfl, hb, hSb, hc, hP⟩ := HF.out.loose.hat k p hp
        have hcell : wr.cell? ⟨b, o + k, none⟩ = some (.slice pa pl pc) := (HKP.out.1.cell (p := ⟨b, o + k, none⟩) (HS.out b hSb)).trans ((HW.out.cell (p := ⟨b, o + k, none⟩) hb).trans hc)
        have hpl := hP.at_.hlen
        have hp2 : pl ≤ 524288 := by have := loose_le hp; have := HM.out; omega
        have hp3 : (pl : Int) ≤ 524288 := by omega
        have hpne : pl ≠ 0 := by
          intro h
          have := List.all_eq_true.1 HFU.out p (List.mem_of_getElem? hp)
          have hnil : p = [] := List.length_eq_zero_iff.1 (by omega)
          rw [hnil] at this; cases this
        obtain ⟨x, hx⟩ : ∃ x : RunT w S, x.1 = ⟨m, pa, pl, pc, p⟩ := ⟨⟨⟨m, pa, pl, pc, p⟩, hP, hp2, by show (0 : Int) ≤ m; omega, hm2, fun h => (hpne h).elim⟩, rfl⟩
        obtain ⟨fn, tmps, assign, body, hy, hR⟩ := HY.out pre x wr HJ.out (by rw [HRT.out.length (by omega)]; omega)
        dsimp only [RunT.encs] at hy
        rw [hx] at hy
        dsimp only at hy
        have HN := Lib.hid (HRT.out.snoc (x := x) (by rw [hx]; exact hp) (by rw [hx, ← HMK.out]))
        have HA := Lib.hid (runAt_two hp)
        have HPL := Lib.hid hpl
        have HR := Lib.hid hR
        have hkl : (k : Int) < (ll : Int) := by have := H1.out; omega
        have HLT := Lib.hid hlt
        clear hp hc hP hpl hx hR hlt hk hb hSb hpne
        gi_wp2_with fail
        refine HR.out.mono ?_
        rintro e W3 (⟨rfl, hJ3, hk3⟩ | ⟨rfl, hx3⟩)
        · have HJ3 := Lib.hid hJ3
          have HK3 := Lib.hid (HKP.out.trans hk3)
          clear hJ3 hk3 HR hcell
          gi_wp2_with fail
          go_roundw
          case rel => exact ⟨k + 1, m + pl, _, HLT.out, by rw [HA.out, ← HMK.out, HPL.out], by go_num, by go_num, HN.out, HJ3.out, HK3.out⟩
          case measure => simp [intOf]; omega
        · gi_wp2
          refine bodyPost_ret (results_none rfl _ _ _) rfl ?_
          exact ⟨⟨_, rfl⟩, .inr ⟨_, ⟨_, HN.out⟩, hx3⟩⟩
      · have hkl : k = F.loose.length := by omega
        have hk3 : ¬ ((k : Int) < (ll : Int)) := by have := H1.out; omega
        have HL := Lib.hid hkl; clear hkl hlt hk
        gi_wp2
        go_end0
        exact ⟨⟨_, rfl⟩, .inl ⟨_, by rw [← HL.out]; exact HRT.out, HJ.out⟩⟩
  · gi_wp2
    refine bodyPost_ret (results_none rfl _ _ _) rfl ?_
    exact ⟨⟨_, rfl⟩, .inr ⟨_, ⟨1, HJ1.out⟩, hx1⟩⟩
end Go.Proofs.Ythpdcbklaapngaa

namespace Go.Proofs.Ythpdcbklaapngaa
set_option linter.unusedVariables false
set_option linter.unusedSimpArgs false
open Go.RowKit Go.Dav
attribute [local go_sem] Gives ite_val ite_val_true

theorem file_two {w4 w5 w6 : World} {T : Nat → Prop} {fa la : Option Addr} {fl fc ll lc p q : Nat} {F : FileD} (h : FileS w4 T fa fl fc la ll lc F) (hT : ∀ b, T b → b ≠ p ∧ b ≠ q) (h1 : Only p w4 w5) (h2 : Only q w5 w6) : FileS w6 T fa fl fc la ll lc F :=
  (h.same h1.size fun b hb hlt => h1.block b hlt (hT b hb).1).same h2.size fun b hb hlt => h2.block b hlt (hT b hb).2

theorem FileD.asked_same (F : FileD) (more : Int) : (F.asked more).1.firm = F.firm ∧ (F.asked more).1.loose = F.loose := by
  unfold FileD.asked
  repeat' split
  all_goals exact ⟨rfl, rfl⟩

end Go.Proofs.Ythpdcbklaapngaa

namespace Go.Proofs.Ythpdcbklaapngaa
set_option linter.unusedVariables false
set_option linter.unusedSimpArgs false
open Go.RowKit Go.Dav
attribute [local go_sem] Gives ite_val ite_val_true

theorem FileD.many_same {F G : FileD} (h : F.firm = G.firm ∧ F.loose = G.loose) : F.many = G.many := by
  unfold FileD.many; rw [h.1, h.2]
theorem FileD.all_same {F G : FileD} (h : F.firm = G.firm ∧ F.loose = G.loose) : F.all = G.all := by
  unfold FileD.all; rw [h.1, h.2]

end Go.Proofs.Ythpdcbklaapngaa

namespace Go.Dav
set_option linter.unusedVariables false
set_option linter.unusedSimpArgs false
open Go Go.RowKit

theorem wpListIn_append_rowS {Fn : Fence} {n0 : Nat} {P : Program} {W : World} {ops : Array Oper} {rest : List Oper} {o : Oper} {a : Act} {Q : Exit → Act → World → Prop} (hgd : o.guard = none) (s x : Operand) (t : TypeId) (ho : o.op = .call { callee := .builtin .append, args := #[s, x], argTypes := #[t, t] }) {e bytes : Nat} (E : Elem1 P t e bytes) (base : Nat) (v : Value) (n : Nat) (xs : List Value) (hs : a.eval s = v) (hown : W.ownsRow base e 1 v n xs)
    (T : Nat → Prop) (ax : Option Addr) (m c : Nat) (ys : List Value) (hx : a.eval x = .slice ax m c) (hy : CellsS W T ax m ys)
    (h1 : ∀ u ∈ ys, u.oneCell' = true) (hnone : ax = none → c = 0) (h63 : n + m ≤ maxLen) (hbytes : (n + m) * bytes ≤ 140737488355328) (hbase : base ≤ W.heap.size)
    (h : ∀ v' w', w'.ownsRow base e 1 v' (n + m) (xs ++ ys) → W.grownBy w' v.ownBlock → wpListIn Fn n0 P ops Q rest (a.put o.dst v') w') : wpListIn Fn n0 P ops Q (o :: rest) a W := by
  refine wpListIn_plain hgd fun K hK => ?_
  obtain ⟨v', w', hr, h2, h3⟩ := run_append_rowS (P := P) E o.type base v n xs hown T ax m c ys hy h1 hnone h63 hbytes hbase
  unfold Oper.wpIn
  refine ⟨?_, ?_⟩
  · simp [Oper.about, ho, resolve, Target.leads, Sem.run_pure]
  · rw [Oper.semAt_plain Fn _ _ (by rw [ho]; intro c hc'; cases hc')]
    simp [execOp, ho, resolve, invoke, builtin, hs, hx, hr, Result.andThen]
    exact hK _ _ (h v' w' h2 h3)

/-- 'x = append(x, ..)' where x is boxed and owns its row: what lies behind it. -/
theorem boxed_appended {W w1 : World} {n₀ B : Nat} {t e : TypeId} {size : Nat} {v v' : Value} {k m : Nat} {xs ys : List Value}
    (hv : Boxed W B t v) (hte : t ≠ e) (hrow : W.ownsRow n₀ e size v k xs) (hn₀ : n₀ ≤ W.heap.size) (hB : n₀ ≤ B)
    (hown' : w1.ownsRow n₀ e size v' m ys) (hgrow : W.grownBy w1 v.ownBlock) :
    Boxed w1 B t v ∧ Boxed (w1.setCell ⟨B, 0, none⟩ v') B t v' ∧ (w1.setCell ⟨B, 0, none⟩ v').ownsRow n₀ e size v' m ys ∧ KeepsOthers W (w1.setCell ⟨B, 0, none⟩ v') ∧ Below n₀ W (w1.setCell ⟨B, 0, none⟩ v') ∧
      ∀ (q : Nat) (cs : List Value) (t' : TypeId), t' ≠ e → q ≠ B → Blk W q cs t' → Blk (w1.setCell ⟨B, 0, none⟩ v') q cs t' := by
  have hv1 : Boxed w1 B t v := hv.kept hgrow (hv.not_row hte hrow)
  refine ⟨hv1, hv1.set v', hown'.kept (grownBy_setCell' w1 B v') (.inr (hv1.not_row hte hown').symm), ?_, ?_, ?_⟩
  · refine (KeepsOthers.of_grownBy hgrow fun j o ej hj => ?_).trans (KeepsOthers.setCell _ _ _)
    rcases hrow.2 with ⟨rfl, _⟩ | ⟨g, cap, cur, rfl, _, hgb, _⟩
    · simp [Value.ownBlock] at ej
    · obtain rfl : g = j := by simpa [Value.ownBlock] using ej
      rw [hgb] at hj; cases hj; rfl
  · refine ((Below.refl n₀ W).grown hgrow hn₀ fun j ej => ?_).setCell (p := ⟨B, 0, none⟩) hB v'
    rcases hrow.2 with ⟨rfl, _⟩ | ⟨g, cap, cur, rfl, hb, _, _⟩
    · simp [Value.ownBlock] at ej
    · obtain rfl : g = j := by simpa [Value.ownBlock] using ej
      exact hb
  · intro q cs t' ht hq hb
    refine Blk.other (q := B) (W := w1) ?_ hq 0 v'
    refine (hgrow.block q hb.lt fun e' => ?_).trans hb
    rcases hrow.2 with ⟨rfl, _⟩ | ⟨g, cap, cur, rfl, _, hgb, _⟩
    · simp [Value.ownBlock] at e'
    · obtain rfl : q = g := by simpa [Value.ownBlock] using e'
      rw [show W.heap[q]? = _ from hb] at hgb
      cases hgb; exact ht rfl

theorem blk_own {β : Type} (B : Nat) (cs : List Value) (t : TypeId) : Own (fun (_ : β) W => Blk W B cs t) := fun s X Y row h hg hr =>
  (hg.block B h.lt fun e => by
    obtain ⟨o, ho, hc⟩ := hr B e.symm
    rw [show X.heap[B]? = _ from h] at ho; cases ho; cases hc).trans h

theorem CellsS.ne_obj {W : World} {S : Nat → Prop} {a : Option Addr} {n D : Nat} {xs : List Value} {o : Obj} (h : CellsS W S a n xs) (hl : W.heap[D]? = some o) (ho : o.isCells = false) : CellsS W (fun b => S b ∧ b ≠ D) a n xs :=
  ⟨h.len, fun k v hk => by
    obtain ⟨b, i, h1, h2, h3, h4⟩ := h.at_ k v hk
    refine ⟨b, i, h1, h2, ⟨h3, fun e => ?_⟩, h4⟩
    subst e
    unfold World.cell? at h4
    simp only [hl] at h4
    cases o <;> first | cases h4 | cases ho⟩
theorem putObj_block {W : World} {D k : Nat} {o : Obj} (hk : k < W.heap.size) (hne : k ≠ D) : (W.putObj D o).heap[k]? = W.heap[k]? := (grownBy_putObj' W D o).block k hk (by intro e; cases e; exact hne rfl)

/-- The bytes that the runs have told. -/
def told {W : World} {S : Nat → Prop} (xs : List (RunT W S)) : List UInt8 := (xs.map fun x => x.1.l).flatten
theorem told_snoc {W : World} {S : Nat → Prop} (xs : List (RunT W S)) (x : RunT W S) : told (xs ++ [x]) = told xs ++ x.1.l := by simp [told]
theorem told_le {W : World} {S : Nat → Prop} (xs : List (RunT W S)) : (told xs).length ≤ xs.length * 524288 := by
  induction xs with
  | nil => simp [told]
  | cons x xs ih =>
    have h1 : told (x :: xs) = x.1.l ++ told xs := by simp [told]
    have h2 := x.2.1.at_.hlen
    have h3 := x.2.2.1
    rw [h1, List.length_append, List.length_cons]
    omega
theorem told_all {W : World} {S : Nat → Prop} {F : FileD} {xs : List (RunT W S)} (h : RunsTo F (F.loose.length + 1) xs) : told xs = F.all := by
  unfold told
  rw [h.1, List.take_of_length_le (by simp)]
  simp [FileD.all]
end Go.Dav
namespace Go.Proofs.Ythpdcbklaapngaa
set_option linter.unusedVariables false
set_option linter.unusedSimpArgs false
open Go.RowKit Go.Dav Go.Shelf
attribute [local go_sem] Gives ite_val ite_val_true Oper.semAt_some

theorem Try_enter30 (args : Array Value) (W : World) : (callFunc 30 args).run Try.prog W = .ok (Next.enter 30 args) W := by kernel_rfl
theorem Try_enter44 (args : Array Value) (W : World) : (callFunc 44 args).run Try.prog W = .ok (Next.enter 44 args) W := by kernel_rfl

set_option maxRecDepth 100000 in
set_option maxHeartbeats 4000000 in
theorem Try_sync1 (F0 : FileD) (fa la : Option Addr) (fl fc ll lc q : Nat) (w : World) (S : Nat → Prop) (hS : ∀ b, S b → b < w.heap.size) (hF0 : FileS w S fa fl fc la ll lc F0) (hr0 : F0.right = true) (hq : Blk w q [.slice fa fl fc, .slice la ll lc, .int .i64 F0.fuse, .int .i64 F0.fault, .bool F0.off] 27) : TryDoes w S 30 #[.pointer (some ⟨q, 0, none⟩)] (fun G => { G with firm := F0.all, loose := [] }) := by
  intro W0 p ga ma gl gc ml mc F hb hp hpb hF hr
  have hq2 := hq.ext hb
  have HF0 := Lib.hid (hF0.ext hb)
  have HF := Lib.hid hF
  have HQ := Lib.hid hq2
  have HB := Lib.hid hb
  have HPB := Lib.hid hpb
  have HSS := Lib.hid hS
  have HR0 := Lib.hid hr0
  have hm := (FileD.right_spec.1 hr0).2.2.2.2
  have hC := Try_length F0 fa la fl fc ll lc W0 (hF0.ext hb).at_
  rw [FileD.len_right hr0] at hC
  have HC := Lib.hid hC
  have cq := hq2.cells
  have cp := hpb.cells
  have mp := hpb.marks
  have lp := hpb.lt
  have lq := hq2.lt
  obtain ⟨i0, hi, hz0, hz1, hz2⟩ := info_parts Try_infoU8
  have HI := Lib.hid (And.intro hi (And.intro hz0 (And.intro hz1 hz2)))
  obtain ⟨m, hmm⟩ : ∃ m, F0.many = m := ⟨_, rfl⟩
  rw [hmm] at hm HC
  have hm' : (m : Int) ≤ 524288 := by omega
  have HMM := Lib.hid hmm
  clear hF0 hF hq hq2 hb hpb hS hr0 hr hC hi hz0 hz1 hz2 hmm
  show Calls Try.prog 30 #[.pointer (some ⟨p, 0, none⟩), .pointer (some ⟨q, 0, none⟩)] W0 _
  refine (callsIn_wide (n := 4)).1 ?_
  refine callsIn_of_wp_marks Try.func30 rfl trivial ?_ rfl
  simp only [Try.ntmps30, List.size_toArray, List.length_cons, List.length_nil, Nat.reduceAdd, Nat.reduceSub, Array.replicate_succ, Array.replicate_zero, List.push_toArray, List.append_toArray, List.nil_append, List.cons_append]
  gi_wp2_with fail
  refine ⟨trivial, (callsIn_wide.2 HC.out).mono ?_⟩; rintro e w1 ⟨rfl, hb1⟩
  have s1 := hb1.size
  obtain ⟨hi, hz0, hz1, hz2⟩ := HI.out
  have hbq := HQ.out.ext hb1
  have cq1 := hbq.cells
  have lq1 := hbq.lt
  have HBQ := Lib.hid hbq
  have HB1 := Lib.hid hb1
  clear cq cp mp hb1 hbq
  gi_wp2_with (gi_at_make; refine wpListIn_make_own _ rfl _ _ 24 rfl W0.heap.size 5 i0 _ 1 Try.underlying24 hi hz0 hz1 .i64 .i64 (m : Int) m rfl rfl rfl (by rw [hz2]; omega) (by unfold maxLen; omega) s1 ?_; intro w2 hown2 hg2; have hb2 := (Below.refl w1.heap.size w1).grown hg2 (Nat.le_refl _) (fun k e => by cases e); have HO2 := Lib.hid hown2; have s2 := hb2.size; have bq2 := HBQ.out.ext hb2; have cq2 := bq2.cells; have lq2 := bq2.lt; have HBQ2 := Lib.hid bq2; have HB2 := Lib.hid hb2; clear hown2 hg2 hi bq2 hb2 cq1)
  refine ⟨trivial, (callsIn_wide.2 (Try_runs F0 fa la fl fc ll lc _)).mono ?_⟩; rintro e w3 ⟨rfl, rfl⟩
  gi_wp2_with fail
  obtain ⟨L, hL⟩ : ∃ L, ((w2.alloc (Obj.cells #[Value.slice (some { block := w1.heap.size, off := 0 }) 0 m] 24)).alloc (Obj.cells [.slice fa fl fc, .slice la ll lc, .int .i64 F0.fuse, .int .i64 F0.fault, .bool F0.off].toArray 27)) = L := ⟨_, rfl⟩
  have hsz : L.heap.size = w2.heap.size + 1 + 1 := by rw [← hL]; simp
  have hb02 : Below W0.heap.size W0 w2 := HB1.out.trans (HB2.out.mono s1)
  have hb0L : Below W0.heap.size W0 L := by rw [← hL]; exact (hb02.alloc (by omega) _).alloc (by simp; omega) _
  have bB : Boxed L w2.heap.size 24 (Value.slice (some { block := w1.heap.size, off := 0 }) 0 m) := by rw [← hL]; exact (Boxed.new w2 _ _).alloc _
  have bX : Blk L (w2.heap.size + 1) [.slice fa fl fc, .slice la ll lc, .int .i64 F0.fuse, .int .i64 F0.fault, .bool F0.off] 27 := by rw [← hL]; exact Blk.new' (w2.alloc _) [.slice fa fl fc, .slice la ll lc, .int .i64 F0.fuse, .int .i64 F0.fault, .bool F0.off] _ (by simp)
  have hown : L.ownsRow W0.heap.size 5 1 (Value.slice (some { block := w1.heap.size, off := 0 }) 0 m) 0 [] := by
    rw [← hL]
    exact (HO2.out.kept (World.grownBy_alloc _ _ none) (.inr (by simp [Value.ownBlock]))).kept (World.grownBy_alloc _ _ none) (.inr (by simp [Value.ownBlock]))
  have hseq := Try_runs1 F0 fa la fl fc ll lc L S (4 - 1) W0.heap.size (w2.heap.size + 1) (by decide) (HF0.out.ext hb0L) HR0.out (fun b h => by have := HSS.out b h; have := HB.out.size; omega) hb0L.size bX
  have HSEQ := Lib.hid hseq
  have HL := Lib.hid hb0L
  have hN : F0.loose.length + 1 ≤ 524289 := by
    have h1 := (FileD.right_spec.1 HR0.out).2.2.2.2
    have h3 := full_len (FileD.right_spec.1 HR0.out).1
    unfold FileD.many at h1
    omega
  have HN := Lib.hid hN
  rw [show ((w2.alloc (Obj.cells #[Value.slice (some { block := w1.heap.size, off := 0 }) 0 m] 24)).alloc (Obj.cells [.slice fa fl fc, .slice la ll lc, .int .i64 F0.fuse, .int .i64 F0.fault, .bool F0.off].toArray 27)) = L from hL]
  clear hseq hb0L hb02 hL hN
  refine wpIn_rangeFunc_ownF (n := 4) rfl (by decide) (gf := 44) (lb := #[.pointer (some ⟨w2.heap.size + 1, 0, none⟩)]) rfl trivial Try_enter44 HSEQ.out KpR.t (KpR.b HL.out.size (by omega)) (Below.refl _ _) (fun _ => rfl)
    (fun pre W => (∃ v, Boxed W w2.heap.size 24 v ∧ W.ownsRow W0.heap.size 5 1 v (told pre).length (u8s (told pre)) ∧ True) ∧ Below W0.heap.size L W ∧ Blk W (w2.heap.size + 1) [.slice fa fl fc, .slice la ll lc, .int .i64 F0.fuse, .int .i64 F0.fault, .bool F0.off] 27)
    (fun _ _ _ => False)
    (OwnFrom.and (Own.from (holdsRow_own _ _ _ _ 1 (fun pre => (told pre).length) (fun pre => u8s (told pre)) (fun _ _ => True)) _) (OwnFrom.and (ownFrom_below HL.out.size HL.out.size) (Own.from (blk_own _ _ _) _)))
    (fun _ _ _ _ _ hs _ _ => hs)
    ⟨⟨_, bB, hown, trivial⟩, Below.refl _ _, bX⟩
    (fun x => { tmps := #[Value.pointer (some { block := p, off := 0 }), Value.pointer (some { block := q, off := 0 }), undef, Value.pointer (some { block := w2.heap.size, off := 0 }), undef, .slice x.1.a x.1.len x.1.cap, .agg #[.slice fa fl fc, .slice la ll lc, .int .i64 F0.fuse, .int .i64 F0.fault, .bool F0.off], Value.int IntKind.i64 ↑m, Value.slice (some { block := w1.heap.size, off := 0 }) 0 m, .agg #[.slice fa fl fc, .slice la ll lc, .int .i64 F0.fuse, .int .i64 F0.fault, .bool F0.off], Value.func (Fn.func 44) #[] #[Value.pointer (some { block := w2.heap.size + 1, off := 0 })], .int .i64 x.1.at_, .slice x.1.a x.1.len x.1.cap, undef, undef, undef, undef, undef, undef, undef, undef, undef, undef, undef, undef], defers := [] }) ?assign ?body ?done ?stop
  case assign =>
    intro l x W K hK
    gi_wp2
    exact hK
  case body =>
    rintro l pre x W ⟨⟨v, hv, hrow, _⟩, hB, hblk⟩ hlt
    have hc := hv.cell
    have hbs := x.2.1.same hB.size (fun b hb _ => hB.block b (by have := HSS.out b hb; have := HB.out.size; omega))
    have hcs := hbs.cells
    have hnil := x.2.1.at_.hnil
    have hlen := x.2.1.at_.hlen
    have hle := x.2.2.1
    have htl := told_le pre
    have hn1 : (told pre).length + x.1.len ≤ 140737488355328 := by have := HN.out; omega
    have HCS := Lib.hid hcs
    have HV := Lib.hid hv
    have HROW := Lib.hid hrow
    have HNIL := Lib.hid hnil
    have HBL := Lib.hid hB
    have HBK := Lib.hid hblk
    have hWs : W0.heap.size ≤ W.heap.size := Nat.le_trans HL.out.size hB.size
    clear hbs hcs hv hrow hnil hB hblk
    gi_wp2_with (gi_at_builtin; refine wpListIn_append_rowS rfl (.tmp 13) (.tmp 14) 24 rfl Try_elemU8 W0.heap.size _ (told pre).length (u8s (told pre)) rfl HROW.out S x.1.a x.1.len x.1.cap (u8s x.1.l) rfl HCS.out (u8s_one _) HNIL.out (by unfold maxLen; omega) (by omega) hWs ?_; intro v' w' hown' hgrow; obtain ⟨a', c', rfl, hz⟩ := own_cells hown'; obtain ⟨hv1, hv2, hr2, hk2, hb2, hq2⟩ := boxed_appended HV.out (by decide) HROW.out hWs (by omega) hown' hgrow; have hc1 := hv1.cell; have hf1 := hv1.frozen)
    have hx := hq2 _ _ _ (by decide) (by omega) HBK.out
    refine ⟨hk2, ⟨hb2, Eq.trans hx (Eq.symm HBK.out)⟩, ⟨_, hv2, ?_, trivial⟩, HBL.out.trans hb2, hx⟩
    rw [told_snoc, u8s_append, List.length_append, hlen]
    exact hr2
  case done =>
    rintro D ys W hD hys ⟨⟨v, hv, hrow, _⟩, hB, hblk⟩ hK
    rw [told_all hys] at hrow
    obtain ⟨a', c', rfl, hz1', hz2', hz3', hz4'⟩ := own_cells hrow
    have hc := hv.cell
    have hall := FileD.all_length F0
    have hmx := (FileD.right_spec.1 HR0.out).2.2.2.2
    have hBW := HL.out.trans hB
    have hpW := HPB.out.below hBW lp
    have hBytes : BytesS W (fun b => W0.heap.size ≤ b ∧ b ≠ D) a' F0.all.length c' F0.all := BytesS.of_cells (hz4'.ne_obj hK rfl) hz1' hz2' (by omega) hz3'
    have HBY := Lib.hid hBytes
    have HBW := Lib.hid hBW
    have HPW := Lib.hid hpW
    have HKK := Lib.hid hK
    have cpw := hpW.cells
    have mpw := hpW.marks
    clear hv hrow hz1' hz2' hz3' hz4' hall hmx hBW hpW hBytes hblk
    gi_wp2
    have ho : Only p W ((W.setCell ⟨p, 0, none⟩ (Value.slice a' F0.all.length c')).setCell ⟨p, 1, none⟩ (Value.slice none 0 0)) := (by repeat (first | (with_reducible exact Only.refl _ _) | (with_reducible refine Only.set ?_ _ _) | (with_reducible refine Only.alloc ?_ _) | (with_reducible refine Only.drew ?_)))
    have hK' := ((KeepsOthers.setCell W ⟨p, 0, none⟩ (Value.slice a' F0.all.length c')).trans (KeepsOthers.setCell _ ⟨p, 1, none⟩ (Value.slice none 0 0))).same D _ HKK.out rfl
    have hbp := (HPW.out.set 0 (Value.slice a' F0.all.length c')).set 1 (Value.slice none 0 0)
    have hDp : D < W.heap.size := (Array.getElem?_eq_some_iff.1 HKK.out).1
    have hDL := HL.out.size
    have hsw := HBW.out.size
    have hso := ho.size
    refine ⟨by simp, .inl ⟨_, _, rfl, run_takeDeferred hK', ?_⟩⟩
    refine ⟨_, results_none rfl _ _ _, rfl, a', F0.all.length, c', none, 0, 0, (putObj_block hbp.lt (by omega)).trans hbp, ⟨?_, LooseS.nil_, HF.out.fuse, HF.out.fault⟩, ?_⟩
    · refine (HBY.out.same (by simp) fun b h hlt => ?_).mono fun b h => Or.inr h.1
      exact (putObj_block (by omega) h.2).trans (ho.block b hlt (by omega))
    · have g := grownBy_putObj' ((W.setCell ⟨p, 0, none⟩ (Value.slice a' F0.all.length c')).setCell ⟨p, 1, none⟩ (Value.slice none 0 0)) D (.deferred none)
      have gs := g.size
      exact ⟨g.os.trans (ho.os.trans HBW.out.os), g.tape.trans (ho.tape.trans HBW.out.tape), g.output.trans (ho.output.trans HBW.out.output), Nat.le_trans hsw (Nat.le_trans hso gs), fun k hk hne => (putObj_block (by omega) (by omega)).trans ((ho.block k (by omega) hne).trans (HBW.out.block k hk))⟩
  case stop =>
    rintro D c pre W _ _ h _
    exact h.elim


set_option maxRecDepth 8000 in
set_option maxHeartbeats 4000000 in
theorem Try_Sync (F : FileD) (fa la : Option Addr) (fl fc ll lc : Nat) (w : World) (S : Nat → Prop) (hF : FileS w S fa fl fc la ll lc F) (hS : ∀ b, S b → b < w.heap.size) :
    Calls Try.prog 17 #[.agg #[.slice fa fl fc, .slice la ll lc, .int .i64 F.fuse, .int .i64 F.fault, .bool F.off]] w (GivesFile w S F.sync.1 F.sync.2) := by
  have hW : Below w.heap.size w ((w.alloc (.cells [.slice fa fl fc, .slice la ll lc, .int .i64 F.fuse, .int .i64 F.fault, .bool F.off].toArray 27)).alloc (.cells #[.slice none 0 0, .slice none 0 0, .int .i64 0, .int .i64 0, .bool false] 27)) := (by repeat (first | (with_reducible exact Below.refl _ _) | (with_reducible exact Below.refl _ _) | (with_reducible refine Below.setCell ?_ (by first | omega | (simp; done) | (simp; omega)) _) | (with_reducible refine Below.alloc ?_ (by first | omega | (simp; done) | (simp; omega)) _) | (with_reducible refine Below.drew ?_) | (with_reducible refine below_drewN ?_ _)))
  have hf0 := (Blk.new w [.slice fa fl fc, .slice la ll lc, .int .i64 F.fuse, .int .i64 F.fault, .bool F.off] 27).alloc (o := (.cells #[.slice none 0 0, .slice none 0 0, .int .i64 0, .int .i64 0, .bool false] 27))
  have B0 := Blk.new' (w.alloc (.cells [.slice fa fl fc, .slice la ll lc, .int .i64 F.fuse, .int .i64 F.fault, .bool F.off].toArray 27)) [.slice none 0 0, .slice none 0 0, .int .i64 0, .int .i64 0, .bool false] 27 (p := w.heap.size + 1) (by simp)
  have hS' : ∀ b, S b → b < ((w.alloc (.cells [.slice fa fl fc, .slice la ll lc, .int .i64 F.fuse, .int .i64 F.fault, .bool F.off].toArray 27)).alloc (.cells #[.slice none 0 0, .slice none 0 0, .int .i64 0, .int .i64 0, .bool false] 27)).heap.size := fun b h => by have := hS b h; simp; omega
  have hC : Calls Try.prog 29 #[.agg #[.slice fa fl fc, .slice la ll lc, .int .i64 F.fuse, .int .i64 F.fault, .bool F.off], .int .i64 0, .func (.func 30) #[] #[.pointer (some ⟨w.heap.size, 0, none⟩)]] ((w.alloc (.cells [.slice fa fl fc, .slice la ll lc, .int .i64 F.fuse, .int .i64 F.fault, .bool F.off].toArray 27)).alloc (.cells #[.slice none 0 0, .slice none 0 0, .int .i64 0, .int .i64 0, .bool false] 27)) (GivesFile ((w.alloc (.cells [.slice fa fl fc, .slice la ll lc, .int .i64 F.fuse, .int .i64 F.fault, .bool F.off].toArray 27)).alloc (.cells #[.slice none 0 0, .slice none 0 0, .int .i64 0, .int .i64 0, .bool false] 27)) S F.sync.1 F.sync.2) := by
    cases hr : F.right with
    | false =>
      have e : F.sync = (F, 200) := by unfold FileD.sync FileD.op; rw [if_neg (by rw [hr]; decide)]
      rw [e]
      exact Try_operation_no F fa la fl fc ll lc _ 0 _ _ S (hF.ext hW) hr
    | true =>
      have e : F.sync = F.op 0 fun G => { G with firm := F.all, loose := [] } := by
        unfold FileD.sync FileD.op
        rw [if_pos hr, if_pos hr]
        show (if (F.asked 0).snd = 0 then ({ (F.asked 0).fst with firm := (F.asked 0).fst.all, loose := [] }, (0 : Int)) else F.asked 0) = _
        rw [FileD.all_same (FileD.asked_same F 0)]
      rw [e]
      exact Try_operation F fa la fl fc ll lc _ 0 _ _ _ S (hF.ext hW) hS' (Try_sync1 F fa la fl fc ll lc w.heap.size _ S hS' (hF.ext hW) hr hf0) Try_enter30
  have HSS := Lib.hid hS
  have HC := Lib.hid hC
  have HB0 := Lib.hid B0
  clear hW hf0 B0 hS' hC hF hS
  go_enter Try.func17, Try.ntmps17
  go_wp2_with fail
  obtain ⟨F7, e7, hV⟩ : ∃ F7 e7, F.sync = (F7, e7) := ⟨_, _, rfl⟩
  have HC2 := HC.out
  rw [hV] at HC2
  have HV := Lib.hid hV
  clear hV HC
  refine HC2.mono ?_; rintro e w2 ⟨ga, gl, gc, ma, ml, mc, rfl, hR, hb2⟩
  clear HC2
  have B1 := HB0.out.ext hb2
  have s2 := hb2.size
  simp only [World.size_alloc] at s2
  have bel : Below w.heap.size w w2 := (by repeat (first | (with_reducible exact Below.refl _ _) | (with_reducible exact Below.refl _ _) | (with_reducible refine Below.setCell ?_ (by first | omega | (simp; done) | (simp; omega)) _) | (with_reducible refine Below.alloc ?_ (by first | omega | (simp; done) | (simp; omega)) _) | (with_reducible refine Below.drew ?_) | (with_reducible refine below_drewN ?_ _) | (with_reducible refine Below.trans ?_ (hb2.mono (by first | omega | (simp; done) | (simp; omega))))))
  have HR := Lib.hid hR; clear hR
  have hr2 := ((((B1.set 0 (.slice ga gl gc)).set 1 (.slice ma ml mc)).set 2 (.int .i64 (F7).fuse)).set 3 (.int .i64 (F7).fault)).set 4 (.bool (F7).off)
  have c2 := hr2.cells
  have m2 := B1.marks
  have q2 := B1.cells
  have lB := B1.lt
  simp only [List.set_cons_zero, List.set_cons_succ] at c2
  go_wp2
  rw [HV.out]
  refine bodyPost_ret (v := .tuple #[.agg #[.slice ga gl gc, .slice ma ml mc, .int .i64 (F7).fuse, .int .i64 (F7).fault, .bool (F7).off], .int .i64 (e7)]) (by simp [results, Try.results17, go_sem, c2]) rfl ⟨ga, gl, gc, ma, ml, mc, rfl, ?_, ?_⟩
  · refine ((HR.out).same (Only.size (p := w.heap.size + 1) (by repeat (first | (with_reducible exact Only.refl _ _) | (with_reducible refine Only.set ?_ _ _) | (with_reducible refine Only.alloc ?_ _) | (with_reducible refine Only.drew ?_)))) (fun b h hlt => Only.block (p := w.heap.size + 1) (by repeat (first | (with_reducible exact Only.refl _ _) | (with_reducible refine Only.set ?_ _ _) | (with_reducible refine Only.alloc ?_ _) | (with_reducible refine Only.drew ?_))) b hlt ?_)).mono (T := Or S w) (fun b h => ?_)
    · rcases h with h | h
      · have := HSS.out b h; omega
      · (try simp at h); omega
    · rcases h with h | h
      · exact .inl h
      · exact .inr (by (try simp at h); omega)
  · exact (by repeat (first | (with_reducible exact Below.refl _ _) | (with_reducible exact Below.refl _ _) | (with_reducible refine Below.setCell ?_ (by first | omega | (simp; done) | (simp; omega)) _) | (with_reducible refine Below.alloc ?_ (by first | omega | (simp; done) | (simp; omega)) _) | (with_reducible refine Below.drew ?_) | (with_reducible refine below_drewN ?_ _) | (with_reducible refine Below.trans ?_ (bel.mono (by first | omega | (simp; done) | (simp; omega))))))
end Go.Proofs.Ythpdcbklaapngaa

namespace Go.Proofs.Ythpdcbklaapngaa
set_option linter.unusedVariables false
set_option linter.unusedSimpArgs false
open Go.RowKit Go.Dav
attribute [local go_sem] Gives ite_val ite_val_true

theorem FileD.err_right {F : FileD} (h : F.right = true) : F.err = 0 := by unfold FileD.err; rw [if_pos h]
theorem FileD.err_wrong {F : FileD} (h : F.right = false) : F.err = 200 := by unfold FileD.err; rw [if_neg (by rw [h]; decide)]

end Go.Proofs.Ythpdcbklaapngaa
