/-
  A number in so many bytes, the highest first, in plain.
  append(s, make([]T, k)...): k zeros onto a row of the call's own, and onto a slice that is full.
  A slice that is full, or a row of the call's own: append of zeros and of bytes; the walk of a drawn region operation by operation.
  Layer 10: how many bytes a file has, and whether it may be: length, Check, Len, and the reference's Long and Right, walked.
  Layer 10: Len, and the reference's Long and Right, walked.
  Layer 10: bytes of slices held against one another: the reference's bytes, bytes.Equal, slices.Equal, slices.EqualFunc, walked; slices.Clone.
  Layer 10: whole files held against one another: slices.EqualFunc, Same, and the reference's Same, walked.
  Layer 10: what is asked ahead of an operation: off, room, refused, burns, walked.
  Layer 10: operation, walked: what is asked, and what is then done.
  Layer 10: copies: slices.Clone; the reference's All, walked.
  A region that draws its order, one of whose operations writes into memory that was there (a call that grows a row); the facts of the others hold in whatever order.
  Layer 14: numbers and bytes laid behind one another, walked.
  Layer 14: an item and a kid laid, walked.
-/
import Derived.Test.YtfhhcpolicdfpaaNdA
import Derived.Lib.AppendZerosOnto
import Derived.RegionTactic
import Derived.Test.YtfhhcpolicdfpaaProg
import Derived.Test.YtfhhcpolicdfpaaNdB
import Derived.WalkKit
import Derived.WalkSpells
import Derived.WalkLawsBesides
import Derived.BigQuiet
import Derived.Lib.Hide
import Derived.Laws.AppendOwnNone
import Derived.ArgAppend
import Derived.Deep.MidRow
import Derived.Laws.IdiomStrings
import Derived.Lib.BufferRead
import Derived.IntWalk
import Derived.LoopN
import Derived.Test.YtfhhcpolicdfpaaNdC
import Derived.Laws.EntriesVeiled
import Derived.Deep.DeepCutAuto
namespace Go.Dav
set_option linter.unusedVariables false
set_option linter.unusedSimpArgs false
open Go Go.RowKit
/-- A number in so many bytes, the highest first. -/
def highOf (x n : Nat) : List UInt8 := (List.range n).map fun i => UInt8.ofNat (x / 2 ^ (8 * (n - 1 - i)))
theorem highOf_len (x n : Nat) : (highOf x n).length = n := by simp [highOf]
theorem highOf_get {x n j : Nat} (h : j < n) : (highOf x n)[j]? = some (UInt8.ofNat (x / 2 ^ (8 * (n - 1 - j)))) := by simp [highOf, h]
theorem highOf_take {x n j : Nat} (h : j < n) : (highOf x n).take (j + 1) = (highOf x n).take j ++ [UInt8.ofNat (x / 2 ^ (8 * (n - 1 - j)))] := by
  rw [List.take_add_one, highOf_get h]; rfl
theorem u8s_byte (x e : Nat) : u8s [UInt8.ofNat (x / 2 ^ e)] = [.int .u8 ((x : Int) / 2 ^ e % 256)] := by
  simp [u8s]
end Go.Dav

namespace Go.Dav
set_option linter.unusedVariables false
set_option linter.unusedSimpArgs false
open Go Go.RowKit

theorem zeroCells_one (z0 : Value) (k : Nat) : Builtin.zeroCells #[z0] k = (List.replicate k z0).toArray := by
  apply Array.ext
  · simp [Builtin.zeroCells]
  · intro i h1 h2
    simp [Builtin.zeroCells] at h1 ⊢
    rw [Nat.mod_one]; rfl

section
variable {P : Program} {w : World}

theorem run_append_zeros_nothing (t tn ty e : TypeId) (i : TypeInfo) (kq kn : IntKind) (ht : P.underlying t = some (.slice e)) (htn : P.underlying tn = some (.int kn)) (hi : P.info? e = some i)
    (base : Option Addr) (sLen sCap : Nat) (hc : sLen ≤ sCap) : (Builtin.append_ #[t, tn] ty #[.slice base sLen sCap, .int kq 0]).run P w = .ok (.slice base sLen sCap) w := by
  have hw : IntKind.i64.wrap (0 : Int) = 0 := by rw [IntKind.wrap_i64]; omega
  cases base <;> simp [Builtin.append_, run_underlying ht, run_underlying htn, sizeOf, typeInfo, hi, asInt, asIntOf, hw, hc, storeCells]

theorem run_append_zeros_room (t tn ty e : TypeId) (i : TypeInfo) (z z0 : Value) (kq kn : IntKind) (ht : P.underlying t = some (.slice e)) (htn : P.underlying tn = some (.int kn)) (hi : P.info? e = some i) (hz : i.zero = some z) (hs : i.size = 1) (hzc : z.cells = #[z0]) (h1 : z0.oneCell' = true)
    (g sLen sCap : Nat) (cur : Array Value) (hg : w.heap[g]? = some (.cells cur e (0, 0))) (k : Nat) (h0 : 0 < k) (hroom : sLen + k ≤ sCap) (hfit : sLen + k ≤ cur.size) (h63 : k ≤ 9223372036854775807) (h48 : k * i.bytes ≤ 281474976710656) :
    (Builtin.append_ #[t, tn] ty #[.slice (some ⟨g, 0, none⟩) sLen sCap, .int kq k]).run P w =
      .ok (.slice (some ⟨g, 0, none⟩) (sLen + k) sCap) (w.setRow g (cur.toList.take sLen ++ List.replicate k z0 ++ cur.toList.drop (sLen + k)).toArray) := by
  have hk : k ≠ 0 := by omega
  have hw : IntKind.i64.wrap (k : Int) = k := by rw [IntKind.wrap_i64]; omega
  have h48i : ¬ (281474976710656 < (k : Int) * (i.bytes : Int)) := by
    rw [← Int.natCast_mul]
    omega
  have hneg : ¬ ((k : Int) < 0) := by omega
  have hst := run_storeCells_at P g sLen e (List.replicate k z0) 0 cur w hg (by simpa using hfit) (fun v hv => by rw [(List.mem_replicate.1 hv).2]; exact h1)
  simp only [Nat.add_zero, List.length_replicate] at hst
  simp [Builtin.append_, run_underlying ht, run_underlying htn, sizeOf, typeInfo, zeroValue, hi, hz, hs, asInt, asIntOf, hw, hneg, hk, h48i, hroom, hzc, zeroCells_one, Addr.add_lit, hst]

/-- append of k zeros to a row of the call's own. -/
theorem run_append_zeros_own (base : Nat) (t tn ty e : TypeId) (i : TypeInfo) (z z0 : Value) (kq kn : IntKind) (ht : P.underlying t = some (.slice e)) (htn : P.underlying tn = some (.int kn)) (hi : P.info? e = some i) (hz : i.zero = some z) (hs : i.size = 1) (hb : i.bytes = 1) (hzc : z.cells = #[z0]) (h1 : z0.oneCell' = true)
    (v : Value) (n : Nat) (xs : List Value) (hown : w.ownsRow base e 1 v n xs) (k : Nat) (hm : n + k ≤ 140737488355328) (hbase : base ≤ w.heap.size) :
    ∃ v' w', (Builtin.append_ #[t, tn] ty #[v, .int kq k]).run P w = .ok v' w' ∧ w'.ownsRow base e 1 v' (n + k) (xs ++ List.replicate k z0) ∧ w.grownBy w' v.ownBlock := by
  by_cases h0 : k = 0
  · subst h0
    obtain ⟨a, cap, rfl, hc, _⟩ := own_cells hown
    exact ⟨_, w, run_append_zeros_nothing t tn ty e i kq kn ht htn hi a n cap hc, by simpa using hown, World.grownBy.refl _ _⟩
  · have hk : 0 < k := by omega
    have hlen : (xs ++ List.replicate k z0).length = (n + k) * 1 := by rw [List.length_append, hown.1, List.length_replicate]; omega
    have grown : ∀ (old : Nat), old < n + k → ∀ (row : Option Nat),
        (w.drew.alloc (.cells (xs.toArray ++ Builtin.zeroCells z.cells k ++ Builtin.zeroCells z.cells (grownCap w (n + k) old e - (n + k))) e)).ownsRow base e 1
          (.slice (some ⟨w.heap.size, 0, none⟩) (n + k) (grownCap w (n + k) old e)) (n + k) (xs ++ List.replicate k z0) ∧
        w.grownBy (w.drew.alloc (.cells (xs.toArray ++ Builtin.zeroCells z.cells k ++ Builtin.zeroCells z.cells (grownCap w (n + k) old e - (n + k))) e)) row := by
      intro old ho row
      have hge := grownCap_ge w (n + k) old e
      have hcm : grownCap w (n + k) old e ≤ maxLen := grownCap_le_maxLen w (n + k) old e (by unfold maxLen; omega)
      have hx1 := hown.1
      refine ⟨⟨hlen, .inr ⟨w.heap.size, _, _, rfl, hbase, heap_alloc_new w.drew _, hge, hcm, ?_, ?_⟩⟩, ⟨rfl, rfl, rfl, by simp, fun j hj _ => Below.heap_alloc w.drew _ j hj⟩⟩
      · rw [hzc, zeroCells_one, zeroCells_one]
        simp
        omega
      · rw [hzc, zeroCells_one, zeroCells_one]
        simp only [Array.toList_append]
        rw [← hlen]
        exact List.take_left
    have hfits : ∀ old, old < n + k → Builtin.nextslicecap (n + k) old * i.bytes ≤ 281474976710656 := fun old ho => growslice_fits (by omega) (by rw [hb]; omega)
    rcases hown.2 with ⟨rfl, rfl⟩ | ⟨g, cap, cur, rfl, hbg, hg, hnc, hcm, hcs, htake⟩
    · have hx : xs = [] := List.eq_nil_of_length_eq_zero (by simpa using hown.1)
      subst hx
      have hr := Lib.run_append_grow_zeros (P := P) w t tn ty e i z kq kn ht htn hi hz none 0 0 [] (by rw [run_firstCells_none]) k hk (by omega) (by omega) (by omega) (by rw [hb]; omega) (hfits 0 (by omega))
      have hgr := grown 0 (by omega) (Value.ownBlock (.slice none 0 0))
      exact ⟨_, _, hr, hgr.1, hgr.2⟩
    · by_cases hroom : n + k ≤ cap
      · have hr := run_append_zeros_room (P := P) (w := w) t tn ty e i z z0 kq kn ht htn hi hz hs hzc h1 g n cap cur hg k hk hroom (by omega) (by omega) (by rw [hb]; omega)
        have hcl : cur.toList.length = cap := by rw [Array.length_toList]; omega
        refine ⟨_, _, hr, ⟨hlen, .inr ⟨g, cap, _, rfl, hbg, setRow_heap w g cur _ e _ hg, hroom, hcm, ?_, ?_⟩⟩, ⟨rfl, rfl, rfl, by simp, fun j _ hj => setRow_other w g j _ (fun e => hj (by simp [Value.ownBlock, e]))⟩⟩
        · simp only [List.size_toArray, List.length_append, List.length_take, List.length_drop, List.length_replicate, hcl]
          omega
        · have ht' : cur.toList.take n = xs := by simpa using htake
          rw [ht', ← hlen]
          exact List.take_left
      · have holds : ∀ j u, xs[j]? = some u → w.cell? ((⟨g, 0, none⟩ : Addr).add j) = some u := hown.cells (g := g) rfl
        have hr := Lib.run_append_grow_zeros (P := P) w t tn ty e i z kq kn ht htn hi hz (some ⟨g, 0, none⟩) n cap xs (run_firstCells_some w.drew i.size n ⟨g, 0, none⟩ n cap xs (by rw [hs]; exact hown.1) holds) k hk (by omega) (by omega) (by omega) (by rw [hb]; omega) (hfits cap (by omega))
        have hgr := grown cap (by omega) (Value.ownBlock (.slice (some ⟨g, 0, none⟩) n cap))
        exact ⟨_, _, hr, hgr.1, hgr.2⟩

theorem full_first {W : World} {S : Nat → Prop} {a : Option Addr} {n : Nat} {xs : List Value} (hx : CellsS W S a n xs) (hnone : a = none → n = 0) : (Builtin.firstCells 1 n (.slice a n n)).run P W.drew = .ok xs.toArray W.drew := by
  cases a with
  | none =>
    have h0 : xs = [] := by
      cases xs with
      | nil => rfl
      | cons x xs => obtain ⟨b, o, h1, _⟩ := hx.at_ 0 x rfl; cases h1
    subst h0
    rw [hnone rfl]
    exact run_firstCells_none W.drew 1 0 0 0
  | some ad =>
    refine run_firstCells_some W.drew 1 n ad n n xs (by rw [hx.len]; omega) ?_
    have := hx.from_
    simpa using this

/-- append of something to a slice that is full: a row of the call's own. -/
theorem run_append_full_own {t e bytes : Nat} (E : Elem1 P t e bytes) (ty : TypeId) (base : Nat) (S : Nat → Prop) (a : Option Addr) (n : Nat) (xs : List Value) (hx : CellsS w S a n xs) (T : Nat → Prop) (ax : Option Addr) (m c : Nat) (ys : List Value) (hy : CellsS w T ax m ys)
    (h1 : ∀ u ∈ ys, u.oneCell' = true) (hnone : a = none → n = 0) (hm : 0 < m) (h63 : n + m ≤ maxLen) (hbytes : (n + m) * bytes ≤ 140737488355328) (hbase : base ≤ w.heap.size) :
    ∃ v' w', (Builtin.append_ #[t, t] ty #[.slice a n n, .slice ax m c]).run P w = .ok v' w' ∧ w'.ownsRow base e 1 v' (n + m) (xs ++ ys) ∧ Below w.heap.size w w' := by
  obtain ⟨i, z, hi, hz, hs, hb, hzs⟩ := E.row
  have hsrc : Src P i.size t (.slice ax m c) m ys w := by rw [hs]; exact hy.src h1 E.ht
  have h64 : n + m ≤ 9223372036854775807 := by simp only [maxLen] at h63; omega
  have hr := run_append_grow_src (P := P) w t t ty e i z E.ht hi hz a n n xs (by rw [hs]; exact full_first hx hnone) _ m ys hsrc (by omega) (by omega) (growslice_fits (by omega) (by rw [hb]; exact hbytes))
  have hge := grownCap_ge w (n + m) n e
  have hcm : grownCap w (n + m) n e ≤ maxLen := grownCap_le_maxLen w (n + m) n e h63
  have hl1 := hx.len
  have hl2 := hy.len
  refine ⟨_, _, hr, ⟨by rw [List.length_append, hl1, hl2]; omega, .inr ⟨w.heap.size, _, _, rfl, hbase, heap_alloc_new w.drew _, hge, hcm, ?_, ?_⟩⟩, (Below.refl _ _).drew.alloc (Nat.le_refl _) _⟩
  · simp only [Array.size_append, List.size_toArray, size_zeroCells, hzs, List.length_append]
    omega
  · have hlen : (xs ++ ys).length = (n + m) * 1 := by rw [List.length_append, hl1, hl2]; omega
    simp only [Array.toList_append]
    rw [← hlen]
    exact List.take_left

/-- append of zeros to a slice that is full. -/
theorem run_append_zeros_full (base : Nat) (t tn ty e : TypeId) (i : TypeInfo) (z z0 : Value) (kq kn : IntKind) (ht : P.underlying t = some (.slice e)) (htn : P.underlying tn = some (.int kn)) (hi : P.info? e = some i) (hz : i.zero = some z) (hs : i.size = 1) (hb : i.bytes = 1) (hzc : z.cells = #[z0])
    (S : Nat → Prop) (a : Option Addr) (n : Nat) (xs : List Value) (hx : CellsS w S a n xs) (hnone : a = none → n = 0) (k : Nat) (hk : 0 < k) (hm : n + k ≤ 140737488355328) (hbase : base ≤ w.heap.size) :
    ∃ v' w', (Builtin.append_ #[t, tn] ty #[.slice a n n, .int kq k]).run P w = .ok v' w' ∧ w'.ownsRow base e 1 v' (n + k) (xs ++ List.replicate k z0) ∧ Below w.heap.size w w' := by
  have hr := Lib.run_append_grow_zeros (P := P) w t tn ty e i z kq kn ht htn hi hz a n n xs (by rw [hs]; exact full_first hx hnone) k hk (by omega) (by omega) (by omega) (by rw [hb]; omega) (growslice_fits (by omega) (by rw [hb]; omega))
  have hge := grownCap_ge w (n + k) n e
  have hcm : grownCap w (n + k) n e ≤ maxLen := grownCap_le_maxLen w (n + k) n e (by unfold maxLen; omega)
  have hl1 := hx.len
  refine ⟨_, _, hr, ⟨by rw [List.length_append, hl1, List.length_replicate]; omega, .inr ⟨w.heap.size, _, _, rfl, hbase, heap_alloc_new w.drew _, hge, hcm, ?_, ?_⟩⟩, (Below.refl _ _).drew.alloc (Nat.le_refl _) _⟩
  · rw [hzc, zeroCells_one, zeroCells_one]
    simp
    omega
  · have hlen : (xs ++ List.replicate k z0).length = (n + k) * 1 := by rw [List.length_append, hl1, List.length_replicate]; omega
    rw [hzc, zeroCells_one, zeroCells_one]
    simp only [Array.toList_append]
    rw [← hlen]
    exact List.take_left
end
end Go.Dav

namespace Go.Dav
set_option linter.unusedVariables false
set_option linter.unusedSimpArgs false
open Go Go.RowKit

/-- What lay below n stays, and so do the blocks of another type. -/
structure Grew (n : Nat) (e : TypeId) (W W' : World) : Prop where
  os : W'.os = W.os
  tape : W'.tape = W.tape
  output : W'.output = W.output
  size : W.heap.size ≤ W'.heap.size
  block : ∀ k, k < W.heap.size → (k < n ∨ ∃ cs t fz, W.heap[k]? = some (.cells cs t fz) ∧ t ≠ e) → W'.heap[k]? = W.heap[k]?
theorem Grew.refl (n : Nat) (e : TypeId) (W : World) : Grew n e W W := ⟨rfl, rfl, rfl, Nat.le_refl _, fun _ _ _ => rfl⟩
theorem Grew.trans {n : Nat} {e : TypeId} {A B C : World} (h : Grew n e A B) (k : Grew n e B C) : Grew n e A C :=
  ⟨k.os.trans h.os, k.tape.trans h.tape, k.output.trans h.output, Nat.le_trans h.size k.size, fun j hj hc => by
    have h1 := h.block j hj hc
    refine (k.block j (Nat.lt_of_lt_of_le hj h.size) ?_).trans h1
    rcases hc with hc | ⟨cs, t, fz, h2, h3⟩
    · exact .inl hc
    · exact .inr ⟨cs, t, fz, h1.trans h2, h3⟩⟩
theorem Grew.below {n : Nat} {e : TypeId} {W W' : World} (h : Grew n e W W') (hn : n ≤ W.heap.size) : Below n W W' := ⟨h.os, h.tape, h.output, h.size, fun k hk => h.block k (by omega) (.inl hk)⟩
theorem Grew.blk {n p : Nat} {e t : TypeId} {cs : List Value} {W W' : World} (h : Grew n e W W') (hb : Blk W p cs t) (ht : t ≠ e) : Blk W' p cs t := (h.block p hb.lt (.inr ⟨_, _, _, hb, ht⟩)).trans hb
theorem Grew.of_below {n : Nat} {e : TypeId} {W W' : World} (h : Below W.heap.size W W') : Grew n e W W' := ⟨h.os, h.tape, h.output, h.size, fun k hk _ => h.block k hk⟩
theorem Grew.of_own {n N : Nat} {e : TypeId} {W W' : World} {v : Value} {xs : List Value} (hown : W.ownsRow n e 1 v N xs) (hg : W.grownBy W' v.ownBlock) : Grew n e W W' :=
  ⟨hg.os, hg.tape, hg.output, hg.size, fun k hk hc => hg.block k hk fun e' => by
    rcases hown.2 with ⟨rfl, _⟩ | ⟨g, cap, cur, rfl, hb, hgb, _⟩
    · simp [Value.ownBlock] at e'
    · obtain rfl : k = g := by simpa [Value.ownBlock] using e'
      rcases hc with hc | ⟨cs, t, fz, h2, h3⟩
      · omega
      · rw [hgb] at h2; cases h2; exact h3 rfl⟩

/-- The bytes l: a slice that is full, in the blocks of S, or a row of the call's own. -/
def FirmOf (e : TypeId) (S : Nat → Prop) (n : Nat) (v : Value) (l : List UInt8) (W : World) : Prop :=
  (∃ a, v = .slice a l.length l.length ∧ CellsS W S a l.length (u8s l) ∧ (a = none → l.length = 0)) ∨ W.ownsRow n e 1 v l.length (u8s l)
theorem FirmOf.ext {e : TypeId} {S : Nat → Prop} {n : Nat} {v : Value} {l : List UInt8} {W W' : World} (h : FirmOf e S n v l W) (hb : Below W.heap.size W W') : FirmOf e S n v l W' := by
  rcases h with ⟨a, h1, h2, h3⟩ | h
  · exact .inl ⟨a, h1, h2.ext hb, h3⟩
  · exact .inr (ownsRow_ext h hb)
theorem run_append_op {P : Program} {o : Oper} {a : Act} {W w' : World} {s x : Operand} {t tx : TypeId} {v1 v2 v' : Value} (ho : o.op = .call { callee := .builtin .append, args := #[s, x], argTypes := #[t, tx] }) (hs : a.eval s = v1) (hx : a.eval x = v2)
    (hr : (Builtin.append_ #[t, tx] o.type #[v1, v2]).run P W = .ok v' w') : (execOp a.eval o).run P W = .ok (.value v') w' := by
  unfold execOp
  simp only [ho, resolve, invoke, builtin, Sem.run_bind, Sem.run_pure, Result.andThen_ok, List.map_toArray, List.map_cons, List.map_nil, hs, hx, hr]
theorem CellsS.take {W : World} {S : Nat → Prop} {a : Option Addr} {n k : Nat} {xs : List Value} (h : CellsS W S a n xs) (hk : k ≤ n) : CellsS W S a k (xs.take k) :=
  ⟨by rw [List.length_take, h.len]; omega, fun i v hi => h.at_ i v (by rw [List.getElem?_take] at hi; split at hi <;> first | exact hi | cases hi)⟩
theorem u8s_take (l : List UInt8) (k : Nat) : (u8s l).take k = u8s (l.take k) := by simp [u8s]
theorem ownsRow_set_other {w : World} {base e size n G i : Nat} {t : TypeId} {v u : Value} {xs cs : List Value} (h : w.ownsRow base e size v n xs) (hb : Blk w G cs t) (ht : t ≠ e) : (w.setCell ⟨G, i, none⟩ u).ownsRow base e size v n xs := by
  refine ⟨h.1, ?_⟩
  rcases h.2 with h2 | ⟨g, cap, cur, h1, h2, h3, h4⟩
  · exact .inl h2
  · refine .inr ⟨g, cap, cur, h1, h2, (Below.heap_setCell w ⟨G, i, none⟩ u g (fun e' => ?_)).trans h3, h4⟩
    subst e'
    rw [show w.heap[g]? = _ from hb] at h3
    cases h3; exact ht rfl
theorem Grew.set {n G i : Nat} {e : TypeId} {W W' : World} {u : Value} (h : Grew n e W W') (hG : n ≤ G) : Below n W' (W'.setCell ⟨G, i, none⟩ u) := (Below.refl _ _).setCell (p := ⟨G, i, none⟩) hG u
theorem u8s_zeros (k : Nat) : u8s (List.replicate k 0) = List.replicate k (.int .u8 0) := by simp [u8s]

section
variable {P : Program} {W : World}
theorem firm_zeros (t tn ty e : TypeId) (i : TypeInfo) (kn : IntKind) (ht : P.underlying t = some (.slice e)) (htn : P.underlying tn = some (.int kn)) (hi : P.info? e = some i) (hz : i.zero = some (.int .u8 0)) (hs : i.size = 1) (hb : i.bytes = 1)
    (S : Nat → Prop) (n : Nat) (hn : n ≤ W.heap.size) (v : Value) (l : List UInt8) (h : FirmOf e S n v l W) (k : Nat) (hm : l.length + k ≤ 140737488355328) :
    ∃ v' w', (Builtin.append_ #[t, tn] ty #[v, .int .i64 k]).run P W = .ok v' w' ∧ FirmOf e S n v' (l ++ List.replicate k 0) w' ∧ Grew n e W w' := by
  have hl : (l ++ List.replicate k 0).length = l.length + k := by simp
  rcases h with ⟨a, rfl, h2, h3⟩ | h
  · by_cases h0 : k = 0
    · subst h0
      refine ⟨_, W, run_append_zeros_nothing t tn ty e i .i64 kn ht htn hi a _ _ (Nat.le_refl _), .inl ⟨a, by simp, by simpa using h2, by simpa using h3⟩, Grew.refl _ _ _⟩
    · obtain ⟨v', w', h4, h5, h6⟩ := run_append_zeros_full (P := P) (w := W) n t tn ty e i (.int .u8 0) (.int .u8 0) .i64 kn ht htn hi hz hs hb rfl S a _ _ h2 h3 k (by omega) hm hn
      exact ⟨v', w', h4, .inr (by rw [hl, u8s_append, u8s_zeros]; exact h5), Grew.of_below h6⟩
  · obtain ⟨v', w', h4, h5, h6⟩ := run_append_zeros_own (P := P) (w := W) n t tn ty e i (.int .u8 0) (.int .u8 0) .i64 kn ht htn hi hz hs hb rfl rfl v _ _ h k hm hn
    exact ⟨v', w', h4, .inr (by rw [hl, u8s_append, u8s_zeros]; exact h5), Grew.of_own h h6⟩
theorem firm_append {t e : TypeId} (E : Elem1 P t e 1) (ty : TypeId) (S : Nat → Prop) (n : Nat) (hn : n ≤ W.heap.size) (v : Value) (l : List UInt8) (h : FirmOf e S n v l W) (T : Nat → Prop) (ax : Option Addr) (m c : Nat) (y : List UInt8) (hy : CellsS W T ax m (u8s y)) (hax : ax ≠ none) (hm0 : 0 < m) (hm : l.length + m ≤ 140737488355328) :
    ∃ v' w', (Builtin.append_ #[t, t] ty #[v, .slice ax m c]).run P W = .ok v' w' ∧ W.heap.size ≤ w'.heap.size ∧ w'.ownsRow n e 1 v' (l ++ y).length (u8s (l ++ y)) ∧ Grew n e W w' := by
  have hl : (l ++ y).length = l.length + m := by have := hy.len; rw [u8s_len] at this; simp; omega
  rcases h with ⟨a, rfl, h2, h3⟩ | h
  · obtain ⟨v', w', h4, h5, h6⟩ := run_append_full_own (w := W) E ty n S a _ _ h2 T ax m c _ hy (u8s_one _) h3 hm0 (by unfold maxLen; omega) (by omega) hn
    exact ⟨v', w', h4, h6.size, by rw [hl, u8s_append]; exact h5, Grew.of_below h6⟩
  · obtain ⟨v', w', h4, h5, h6⟩ := run_append_rowS E ty n v _ _ h T ax m c _ hy (u8s_one _) (fun e => (hax e).elim) (by unfold maxLen; omega) (by omega) hn
    exact ⟨v', w', h4, h6.size, by rw [hl, u8s_append]; exact h5, Grew.of_own h h6⟩

variable {md : Region.Mode} {ops : Array Oper} {Q : Exit → Act → World → Prop}
/-- One operation alone may come, and yields. -/
theorem wpAny_runs {i : Nat} {o : Oper} {v : Value} {w w' : World} {a : Act} {fuel : Nat} {listed : Array Bool} (hr : Region.ready md ops listed = [i]) (ho : ops[i]? = some o) (hw : Region.wanted o (yielded ops a.tmps) = true)
    (hrun : (execOp a.eval o).run P w = .ok (.value v) w') (h : wpAny P md ops Q fuel (listed.setIfInBounds i true) (a.put o.dst v) w') : wpAny P md ops Q (fuel + 1) listed a w :=
  wpAny_all hr (by simp) fun j hj => by
    simp at hj; subst hj
    unfold wpOp
    rw [ho]
    simp only [hw, if_true]
    refine .inl ?_
    unfold Oper.wp
    rw [hrun]
    exact h
theorem wpAny_skips {i : Nat} {o : Oper} {w w' : World} {a : Act} {fuel : Nat} {listed : Array Bool} (hr : Region.ready md ops listed = [i]) (ho : ops[i]? = some o) (hw : Region.wanted o (yielded ops a.tmps) = true)
    (hrun : (execOp a.eval o).run P w = .ok .skip w') (h : wpAny P md ops Q fuel (listed.setIfInBounds i true) (a.put o.dst undef) w') : wpAny P md ops Q (fuel + 1) listed a w :=
  wpAny_all hr (by simp) fun j hj => by
    simp at hj; subst hj
    unfold wpOp
    rw [ho]
    simp only [hw, if_true]
    refine .inl ?_
    unfold Oper.wp
    rw [hrun]
    exact h
theorem wpAny_takeD {i : Nat} {oi : Oper} {v : Value} (d : Option Tmp) {fuel : Nat} {listed : Array Bool} {a : Act} {w : World} (hi : ops[i]? = some oi) (hd : oi.dst = d)
    (hs : Region.noSelect ops = true) (hf : Region.free md ops listed i = true) (hr : (Region.ready md ops listed).contains i = true)
    (hQ : ∀ c a w, Q (.panic c) (a.put oi.dst v) w → Q (.panic c) a w) (hy : Yields P ops oi v a)
    (h : wpAny P md ops Q fuel (listed.setIfInBounds i true) (a.put d v) w) : wpAny P md ops Q (fuel + 1) listed a w := by
  subst hd
  exact wpAny_take hi hs hf hr hQ hy h
theorem wpAny_runsD {i : Nat} {o : Oper} {v : Value} {w w' : World} (d : Option Tmp) {a : Act} {fuel : Nat} {listed : Array Bool} (hr : Region.ready md ops listed = [i]) (ho : ops[i]? = some o) (hd : o.dst = d) (hw : Region.wanted o (yielded ops a.tmps) = true)
    (hrun : (execOp a.eval o).run P w = .ok (.value v) w') (h : wpAny P md ops Q fuel (listed.setIfInBounds i true) (a.put d v) w') : wpAny P md ops Q (fuel + 1) listed a w := by
  subst hd
  exact wpAny_runs hr ho hw hrun h
theorem wpAny_skipsD {i : Nat} {o : Oper} {w w' : World} (d : Option Tmp) {a : Act} {fuel : Nat} {listed : Array Bool} (hr : Region.ready md ops listed = [i]) (ho : ops[i]? = some o) (hd : o.dst = d) (hw : Region.wanted o (yielded ops a.tmps) = true)
    (hrun : (execOp a.eval o).run P w = .ok .skip w') (h : wpAny P md ops Q fuel (listed.setIfInBounds i true) (a.put d undef) w') : wpAny P md ops Q (fuel + 1) listed a w := by
  subst hd
  exact wpAny_skips hr ho hw hrun h
end
end Go.Dav

namespace Go.Proofs.Ytfhhcpolicdfpaa
set_option linter.unusedVariables false
set_option linter.unusedSimpArgs false
open Go.RowKit Go.Dav
attribute [local go_sem] Gives ite_val ite_val_true

end Go.Proofs.Ytfhhcpolicdfpaa

namespace Go.Proofs.Ytfhhcpolicdfpaa
set_option linter.unusedVariables false
set_option linter.unusedSimpArgs false
open Go.RowKit Go.Dav
attribute [local go_sem] Gives ite_val ite_val_true

/-- What 'Long' answers: how many bytes, or more than may be. -/
def TryLong (F : FileD) (w : World) (e : Ending) (w' : World) : Prop :=
  ∃ n : Nat, e = .returned (.int .i64 n) ∧ (F.many ≤ 524288 → n = F.many) ∧ (524288 < F.many → 524288 < n) ∧ n ≤ 281474976710656 ∧ Below w.heap.size w w'

theorem FileD.len_right {F : FileD} (h : F.right = true) : F.len = F.many := by
  have := FileD.right_spec.1 h
  unfold FileD.len
  rw [if_pos ⟨this.1, this.2.2.2.2⟩]

end Go.Proofs.Ytfhhcpolicdfpaa

namespace Go.Proofs.Ytfhhcpolicdfpaa
set_option linter.unusedVariables false
set_option linter.unusedSimpArgs false
open Go.RowKit Go.Dav
attribute [local go_sem] Gives ite_val ite_val_true

theorem conv_bytes {P : Program} {W : World} {a : Option Addr} {len cap : Nat} {l : List UInt8} (h : BytesAt W a len cap l) (src dst e : TypeId) (hs : P.underlying src = some (.slice e)) (he : P.underlying e = some (.int .u8)) (hd : P.underlying dst = some .string) :
    (convert src dst (.slice a len cap)).run P W = .ok (.string ⟨l.toArray⟩) W := by
  obtain ⟨h1, h2, h3, h4, h5, h6⟩ := h
  subst h1
  cases a with
  | none =>
    have h0 := h6 rfl
    have hl : l = [] := List.length_eq_zero_iff.1 (by omega)
    subst hl
    exact Lib.run_convert_nil_bytes W src dst e cap hs he hd
  | some a =>
    cases l with
    | nil =>
      refine run_convert_bytes_back W src dst e a cap [] hs he hd ?_
      intro j hj
      simp at hj
    | cons c l =>
      obtain ⟨b, o, e0, _, _⟩ := h5 0 c rfl
      cases e0
      refine run_convert_bytes_back W src dst e _ cap (c :: l) hs he hd ?_
      intro j hj
      obtain ⟨b', o', e1, _, hc⟩ := h5 j _ (List.getElem?_eq_getElem hj)
      cases e1
      rw [Addr.add_mid]
      exact hc

theorem list_beq (x y : List UInt8) : (x == y) = decide (x = y) := by
  rw [Bool.eq_iff_iff]; simp

theorem Try_bytesEqual (a b : Option Addr) (al ac bl bc : Nat) (x y : List UInt8) (w : World) (hx : BytesAt w a al ac x) (hy : BytesAt w b bl bc y) :
    Calls Try.prog 15 #[.slice a al ac, .slice b bl bc] w fun e w' => e = .returned (.bool (decide (x = y))) ∧ Below w.heap.size w w' := by
  have k1 := conv_bytes hx 22 9 5 Try.underlying22 Try.underlying5 Try.underlying9
  have k2 := conv_bytes hy 22 9 5 Try.underlying22 Try.underlying5 Try.underlying9
  clear hx hy
  go_enter Try.func15, Try.ntmps15
  go_wp2
  go_ret
  exact ⟨ret_bool (list_beq x y), (by repeat (first | (with_reducible exact Below.refl _ _) | (with_reducible exact Below.refl _ _) | (with_reducible refine Below.setCell ?_ (by first | omega | (simp; done) | (simp; omega)) _) | (with_reducible refine Below.alloc ?_ (by first | omega | (simp; done) | (simp; omega)) _) | (with_reducible refine Below.drew ?_) | (with_reducible refine below_drewN ?_ _)))⟩

def TryEqRel (w : World) (x y : List UInt8) (ix : Value) (wr : World) : Prop :=
  ∃ k : Nat, k ≤ x.length ∧ ix = .int .i64 k ∧ x.take k = y.take k ∧ Below w.heap.size w wr

theorem take_succ_eq {x y : List UInt8} {k : Nat} {c d : UInt8} (h : x.take k = y.take k) (hx : x[k]? = some c) (hy : y[k]? = some d) : x.take (k + 1) = y.take (k + 1) ↔ c = d := by
  rw [List.take_add_one, List.take_add_one, hx, hy, h]
  simp
theorem u8_ne {c d : UInt8} : ((c.toNat : Int) != (d.toNat : Int)) = !decide (c = d) := by
  rw [Bool.eq_iff_iff]
  simp only [bne_iff_ne, ne_eq, Bool.not_eq_true', decide_eq_false_iff_not]
  rw [Int.natCast_inj, UInt8.toNat_inj]

end Go.Proofs.Ytfhhcpolicdfpaa

namespace Go.Proofs.Ytfhhcpolicdfpaa
set_option linter.unusedVariables false
set_option linter.unusedSimpArgs false
open Go.RowKit Go.Dav
attribute [local go_sem] Gives ite_val ite_val_true

def TryEqFRel (w : World) (x y : List (List UInt8)) (ix : Value) (wr : World) : Prop :=
  ∃ k : Nat, k ≤ x.length ∧ ix = .int .i64 k ∧ x.take k = y.take k ∧ Below w.heap.size w wr

theorem take_succ_eqL {x y : List (List UInt8)} {k : Nat} {c d : List UInt8} (h : x.take k = y.take k) (hx : x[k]? = some c) (hy : y[k]? = some d) : x.take (k + 1) = y.take (k + 1) ↔ c = d := by
  rw [List.take_add_one, List.take_add_one, hx, hy, h]
  simp

end Go.Proofs.Ytfhhcpolicdfpaa

namespace Go.Proofs.Ytfhhcpolicdfpaa
set_option linter.unusedVariables false
set_option linter.unusedSimpArgs false
open Go.RowKit Go.Dav
attribute [local go_sem] Gives ite_val ite_val_true

end Go.Proofs.Ytfhhcpolicdfpaa

namespace Go.Proofs.Ytfhhcpolicdfpaa
set_option linter.unusedVariables false
set_option linter.unusedSimpArgs false
open Go.RowKit Go.Dav
attribute [local go_sem] Gives ite_val ite_val_true

end Go.Proofs.Ytfhhcpolicdfpaa

namespace Go.Proofs.Ytfhhcpolicdfpaa
set_option linter.unusedVariables false
set_option linter.unusedSimpArgs false
open Go.RowKit Go.Dav
attribute [local go_sem] Gives ite_val ite_val_true

theorem Try_infoU8 : (Try.prog.info? 5).map (fun i => (i.zero, i.size, i.bytes)) = some (some (.int .u8 0), 1, 1) := by kernel_rfl
theorem Try_elemU8 : Elem1 Try.prog 22 5 1 := by
  obtain ⟨i0, hi, hz0, hz1, hz2⟩ := info_parts Try_infoU8
  exact ⟨Try.underlying22, i0, _, hi, hz0, hz1, hz2, rfl⟩
theorem Try_infoBytes : (Try.prog.info? 22).map (fun i => (i.zero, i.size, i.bytes)) = some (some (.slice none 0 0), 1, 24) := by kernel_rfl
theorem Try_elemBytes : Elem1 Try.prog 54 22 24 := by
  obtain ⟨i0, hi, hz0, hz1, hz2⟩ := info_parts Try_infoBytes
  exact ⟨Try.underlying54, i0, _, hi, hz0, hz1, hz2, rfl⟩

theorem Try_eqNil (w : World) (a : Option Addr) (n c : Nat) : (binOp .eql 22 (.slice a n c) (.slice none 0 0)).run Try.prog w = .ok (.bool a.isNone) w := Lib.run_eql_slice_nil w _ _ a n c 0 0 Try.underlying22

/-- Bytes are handed back, in new memory. -/
def GivesBytes (w : World) (x : List UInt8) (e : Ending) (w' : World) : Prop :=
  ∃ a n c, e = .returned (.slice a n c) ∧ BytesS w' (fun b => w.heap.size ≤ b) a n c x ∧ Below w.heap.size w w'

/-- Bytes are handed back, in a row of the call's own. -/
def GivesOwn (t : TypeId) (w : World) (x : List UInt8) (e : Ending) (w' : World) : Prop :=
  ∃ v, e = .returned v ∧ w'.ownsRow w.heap.size t 1 v x.length (u8s x) ∧ Below w.heap.size w w'

theorem own_bytes {w : World} {base e n : Nat} {v : Value} {l : List UInt8} (h : w.ownsRow base e 1 v n (u8s l)) (hn : n ≤ 140737488355328) : ∃ a c, v = .slice a n c ∧ BytesS w (fun b => base ≤ b) a n c l := by
  obtain ⟨a, cap, h1, h2, h3, h4, h5⟩ := own_cells h
  exact ⟨a, cap, h1, BytesS.of_cells h5 h2 h3 hn h4⟩

set_option maxHeartbeats 1000000 in
theorem Try_Clone (a : Option Addr) (al ac : Nat) (x : List UInt8) (S : Nat → Prop) (w : World) (hx : BytesS w S a al ac x) :
    Calls Try.prog 20 #[.slice a al ac] w (GivesBytes w x) := by
  cases a with
  | none =>
    have h0 := hx.at_.hnil rfl
    have h1 := hx.at_.hcap
    obtain rfl : al = 0 := by omega
    subst h0
    have hx0 : x = [] := List.length_eq_zero_iff.1 hx.at_.hlen
    subst hx0
    clear hx h1
    have knil := @Try_eqNil
    go_enter Try.func20, Try.ntmps20
    go_wp2
    go_ret
    exact ⟨none, 0, 0, rfl, BytesS.nil_, (by repeat (first | (with_reducible exact Below.refl _ _) | (with_reducible exact Below.refl _ _) | (with_reducible refine Below.setCell ?_ (by first | omega | (simp; done) | (simp; omega)) _) | (with_reducible refine Below.alloc ?_ (by first | omega | (simp; done) | (simp; omega)) _) | (with_reducible refine Below.drew ?_) | (with_reducible refine below_drewN ?_ _)))⟩
  | some ad =>
    have hc := (hx.cells.ext ((Below.refl _ w).alloc (Nat.le_refl _) (.cells #[] 5)))
    have hf := hx.at_.hfew
    have HX := Lib.hid hc
    clear hx hc
    have knil := @Try_eqNil
    go_enter Try.func20, Try.ntmps20
    have hown := World.ownsRow_made (e := 5) (size := 1) w #[] 0 (Nat.le_refl _) (by unfold maxLen; omega) rfl
    go_wp2_with (at_builtin; refine wpList_append_rowS rfl (.tmp 5) (.tmp 6) 22 rfl Try_elemU8 w.heap.size _ 0 [] rfl hown S (some ad) al ac (u8s x) rfl HX.out (u8s_one x) (fun h => by cases h) (by unfold maxLen; omega) (by omega) (by simp) ?_; intro v' w1 hown1 hgrow)
    rw [Nat.zero_add, List.nil_append] at hown1
    obtain ⟨a', c', rfl, hB⟩ := own_bytes hown1 hf
    have hbel : Below w.heap.size w w1 := ((Below.refl _ w).alloc (Nat.le_refl _) _).grown hgrow (by simp) (fun k hk => (hown.lt k hk).1)
    clear hown1 hgrow
    go_wp2
    go_ret
    exact ⟨a', al, c', rfl, hB, hbel⟩
/-- The bytes up to the k-th piece. -/
def allTo (F : FileD) (k : Nat) : List UInt8 := F.firm ++ (F.loose.take k).flatten
theorem allTo_succ {F : FileD} {k : Nat} {p : List UInt8} (h : F.loose[k]? = some p) : allTo F (k + 1) = allTo F k ++ p := by
  unfold allTo; rw [List.take_add_one, h]; simp
theorem allTo_len (F : FileD) (k : Nat) : (allTo F k).length = F.firm.length + sumTo F.loose k := by
  unfold allTo sumTo; simp [List.length_flatten]
theorem allTo_le (F : FileD) (k : Nat) : (allTo F k).length ≤ F.many := by
  rw [allTo_len]; have := sumTo_mono F.loose k; unfold FileD.many; omega
theorem allTo_all (F : FileD) : allTo F F.loose.length = F.all := by unfold allTo FileD.all; rw [List.take_length]

end Go.Proofs.Ytfhhcpolicdfpaa

namespace Go.Dav
set_option linter.unusedVariables false
set_option linter.unusedSimpArgs false
open Go Go.RowKit

/-- What an operation brings about: values, and a world that stands to the former one as K says. -/
def GivesK (P : Program) (K : World → World → Prop) (o : Oper) (a : Act) (W : World) (R : Value → World → Prop) : Prop :=
  match (execOp a.eval o).run P W with
  | .ok (.value u) W' => K W W' ∧ R u W'
  | .ok .skip W' => K W W' ∧ R undef W'
  | .ok (.enter f args) W' => Below W.heap.size W W' ∧ Calls P f args W' (fun e W'' => ∃ v, e = .returned v ∧ K W' W'' ∧ R v W'')
  | _ => False
def Bel (W W' : World) : Prop := Below W.heap.size W W'
/-- K holds whatever grows, and goes on. -/
structure Goes (K : World → World → Prop) : Prop where
  bel : ∀ W W', Below W.heap.size W W' → K W W'
  trans : ∀ A B C, K A B → K B C → K A C
theorem goes_bel : Goes Bel := ⟨fun _ _ h => h, fun _ _ _ h k => ext_trans h k⟩
def relOf (K : World → World → Prop) (p i : Nat) : World → World → Prop := if i = p then K else Bel
theorem relOf_le {K : World → World → Prop} (g : Goes K) {p i : Nat} {W W' : World} (h : relOf K p i W W') : K W W' := by
  unfold relOf at h; split at h
  · exact h
  · exact g.bel _ _ h
theorem relOf_bel {K : World → World → Prop} (g : Goes K) {p i : Nat} {W W' : World} (h : Below W.heap.size W W') : relOf K p i W W' := by
  unfold relOf; split
  · exact g.bel _ _ h
  · exact h
theorem relOf_goes {K : World → World → Prop} (g : Goes K) (p i : Nat) : Goes (relOf K p i) := by
  unfold relOf; split
  · exact g
  · exact goes_bel
theorem wp_of_givesK {P : Program} {K0 : World → World → Prop} (g : Goes K0) {o : Oper} {a : Act} {W : World} {R : Value → World → Prop} {K : Act → World → Prop} {Q : Exit → Act → World → Prop}
    (h : GivesK P K0 o a W R) (hk : ∀ v W', K0 W W' → R v W' → K (a.put o.dst v) W') : o.wp P a W K Q := by
  unfold GivesK at h
  unfold Oper.wp
  generalize (execOp a.eval o).run P W = r at *
  cases r with
  | ok n w' =>
    cases n <;> simp only [Oper.upon] at h ⊢
    case value u => exact hk _ _ h.1 h.2
    case skip => exact hk _ _ h.1 h.2
    case enter f args =>
      refine h.2.mono fun e w'' ⟨v, he, hb, hr⟩ => ?_
      subst he
      exact hk _ _ (g.trans _ _ _ (g.bel _ _ h.1) hb) hr
  | halt x w' => cases h
theorem GivesK.of_eval {P : Program} {K : World → World → Prop} {o : Oper} {a a' : Act} {W : World} {R : Value → World → Prop} (h : GivesK P K o a W R) (he : execOp a'.eval o = execOp a.eval o) : GivesK P K o a' W R := by
  unfold GivesK at *
  rwa [he]

section
variable {P : Program} {ops : Array Oper} {K0 : World → World → Prop} {p0 : Nat}

structure MidK (K0 : World → World → Prop) (p0 : Nat) (ops : Array Oper) (n : Nat) (ps : Nat → Value ⊕ (Value → World → Prop)) (a0 : Act) (w0 : World) (listed : Array Bool) (vs : Nat → Value) (a : Act) (W : World) : Prop where
  ext : K0 w0 W
  ext2 : listed.getD p0 false = false → Below w0.heap.size w0 W
  size : a.tmps.size = a0.tmps.size
  defers : a.defers = a0.defers
  slots : ∀ t : Nat, a.tmps[t]? = slotOf ops (fun j => listed.getD j false) vs a0 n t
  held : ∀ j, j < n → listed.getD j false = true → holdsOf (ps j) (vs j) W

def stepForK (P : Program) (K0 : World → World → Prop) (p0 : Nat) (ops : Array Oper) (ps : Nat → Value ⊕ (Value → World → Prop)) (a0 : Act) (w0 : World) (vs : Nat → Value) (i : Nat) : Prop :=
  match ops[i]? with
  | none => True
  | some o => ∀ W, K0 w0 W → (i = p0 → Below w0.heap.size w0 W) → depsHold ops ps vs o W i →
      if Region.wanted o (yielded ops (lay ops vs a0 i).tmps) then GivesK P (relOf K0 p0 i) o (lay ops vs a0 i) W (holdsOf (ps i)) else holdsOf (ps i) undef W

/-- What is laid of an operation stays. -/
def staysK (K0 : World → World → Prop) (p0 j : Nat) (R : Value → World → Prop) : Prop := (∀ v W W', R v W → Below W.heap.size W W' → R v W') ∧ (j ≠ p0 → ∀ v W W', R v W → K0 W W' → R v W')
theorem staysK.step {j i : Nat} {R : Value → World → Prop} (h : staysK K0 p0 j R) (hne : j ≠ i) {v : Value} {W W' : World} (hR : R v W) (hr : relOf K0 p0 i W W') : R v W' := by
  unfold relOf at hr
  split at hr
  · rename_i e; exact h.2 (by rw [← e]; exact hne) v W W' hR hr
  · exact h.1 v W W' hR hr

theorem mid_stepK (g : Goes K0) {n : Nat} {ps : Nat → Value ⊕ (Value → World → Prop)} {a0 : Act} {w0 : World} {listed : Array Bool} {vs : Nat → Value} {a : Act} {W : World} {Q : Exit → Act → World → Prop}
    (hB : tidyB ops n = true) (hsel : Region.noSelect ops = true) (hst : ∀ j R, ps j = .inr R → staysK K0 p0 j R)
    (hop : ∀ vs i, i < n → stepForK P K0 p0 ops ps a0 w0 vs i) (inv : HeadInv .any ops n listed) (mid : MidK K0 p0 ops n ps a0 w0 listed vs a W)
    {i : Nat} (hr : i ∈ Region.ready .any ops listed) (hin : i < n) {K : Act → World → Prop}
    (hk : ∀ vs a W, HeadInv .any ops n (listed.setIfInBounds i true) → MidK K0 p0 ops n ps a0 w0 (listed.setIfInBounds i true) vs a W → K a W) : wpOp P ops Q i K a W := by
  obtain ⟨hun, oi, hoi, hall⟩ := mem_ready.1 hr
  have hunf : listed.getD i false = false := getD_both hun
  have hisz : i < listed.size := by rw [inv.size]; exact (Array.getElem?_eq_some_iff.1 hoi).1
  -- what a listed operation has to do with i
  have later : ∀ j oj d, j < n → ops[j]? = some oj → oj.dst = some d → listed.getD j false = true → (d ∈ oi.looksAt ops ∨ oi.dst = some d) → j < i := by
    intro j oj d hj hoj hd hl hlook
    have hji : i ≠ j := fun e => by subst e; rw [hunf] at hl; cases hl
    obtain ⟨_, h1, _⟩ := tidy_spec hB hin hj hoi hoj hd (hlook.imp id fun h => ⟨h, hji⟩)
    rcases Nat.lt_trichotomy i j with h | h | h
    · obtain ⟨oj', hoj', e, he, hb, hon⟩ := Region.waitsFor_spec (h1 h)
      have := inv.closed j oj' hoj' hl e he hb
      rw [hon, hunf] at this
      cases this
    · exact absurd h hji
    · exact h
  have early : ∀ j oj d, j < i → ops[j]? = some oj → oj.dst = some d → (d ∈ oi.looksAt ops) → listed.getD j false = true := by
    intro j oj d hj hoj hd hlook
    obtain ⟨_, _, h2⟩ := tidy_spec hB hin (by omega) hoi hoj hd (.inl hlook)
    obtain ⟨oi', hoi', e, he, hb, hon⟩ := Region.waitsFor_spec (h2 hj)
    have : oi' = oi := Option.some.inj (hoi'.symm.trans hoi)
    subst this
    have := hall e he hb
    rwa [hon] at this
  have looks : ∀ t ∈ oi.looksAt ops, (lay ops vs a0 i).tmps[t]? = a.tmps[t]? := by
    intro t ht
    rw [lay_get, mid.slots t]
    unfold slotOf
    rw [lastW_eq (ops := ops) (t := t) (p := fun _ => true) (q := fun j => listed.getD j false) (m := i) (n := n) ?_]
    intro j
    constructor
    · rintro ⟨h1, _, h3⟩
      obtain ⟨oj, hoj, hd⟩ := Option.bind_eq_some_iff.1 h3
      exact ⟨by omega, early j oj t h1 hoj hd ht, h3⟩
    · rintro ⟨h1, h2, h3⟩
      obtain ⟨oj, hoj, hd⟩ := Option.bind_eq_some_iff.1 h3
      exact ⟨later j oj t h1 hoj hd h2 (.inl ht), rfl, h3⟩
  have hdeps : depsHold ops ps vs oi W i := depsHold_of i fun j d hj hd hl => by
    obtain ⟨oj, hoj, hd'⟩ := Option.bind_eq_some_iff.1 hd
    exact mid.held j (by omega) (early j oj d hj hoj hd' hl)
  have hs := hop vs i hin
  unfold stepForK at hs
  simp only [hoi] at hs
  have hs := hs W mid.ext (fun e => mid.ext2 (by rw [← e]; exact hunf)) hdeps
  rw [wanted_congr looks] at hs
  have next : ∀ v W', relOf K0 p0 i W W' → holdsOf (ps i) v W' → K (a.put oi.dst v) W' := by
    intro v W' hb hv
    refine hk (fun j => if j = i then v else vs j) _ W' (inv.set hr hin) ⟨g.trans _ _ _ mid.ext (relOf_le g hb), fun hp0 => ?_, by rw [put_size, mid.size], by rw [put_defers, mid.defers], fun t => ?_, fun j hj hl => ?_⟩
    · have hne : p0 ≠ i := fun e => by subst e; simp [hisz] at hp0
      have hb' : Below W.heap.size W W' := by unfold relOf at hb; rw [if_neg (fun e => hne e.symm)] at hb; exact hb
      exact ext_trans (mid.ext2 (by rwa [getD_set_ne false (Ne.symm hne)] at hp0)) hb'
    · rw [put_get, mid.size]
      unfold slotOf
      by_cases hd : oi.dst = some t
      · simp only [hd, if_true]
        have : lastW ops (fun j => (listed.setIfInBounds i true).getD j false) t n = some i := by
          cases hc : lastW ops (fun j => (listed.setIfInBounds i true).getD j false) t n with
          | none => exact absurd ⟨by simp [hisz], by simp [hoi, hd]⟩ (lastW_none hc i hin)
          | some j =>
            obtain ⟨c1, c2, c3, c4⟩ := lastW_some hc
            obtain ⟨oj, hoj, hdj⟩ := Option.bind_eq_some_iff.1 c3
            by_cases e : j = i
            · rw [e]
            · have hlj : listed.getD j false = true := by rwa [getD_set_ne false (Ne.symm e)] at c2
              have := later j oj t c1 hoj hdj hlj (.inr hd)
              exact absurd ⟨by simp [hisz], by simp [hoi, hd]⟩ (c4 i this hin)
        rw [this]
        simp
      · simp only [hd, if_false]
        rw [mid.slots t]
        unfold slotOf
        have : lastW ops (fun j => (listed.setIfInBounds i true).getD j false) t n = lastW ops (fun j => listed.getD j false) t n := by
          refine lastW_eq fun j => ?_
          by_cases e : j = i
          · subst e; simp [hoi, hd]
          · rw [getD_set_ne false (Ne.symm e)]
        rw [this]
        cases hc : lastW ops (fun j => listed.getD j false) t n with
        | none => rfl
        | some j =>
          obtain ⟨c1, c2, c3, c4⟩ := lastW_some hc
          have e : j ≠ i := fun e => by subst e; simp [hoi, hd] at c3
          simp [e]
    · by_cases e : j = i
      · subst e; simpa using hv
      · simp only [e, if_false]
        have hl' : listed.getD j false = true := by rwa [getD_set_ne false (Ne.symm e)] at hl
        have h1 := mid.held j hj hl'
        cases hp : ps j with
        | inl u => simpa [hp, holdsOf] using h1
        | inr R => simp only [hp, holdsOf] at h1 ⊢; exact (hst j R hp).step e h1 hb
  unfold wpOp
  simp only [hoi]
  split
  · rename_i hw
    simp only [hw, if_true] at hs
    exact .inl (wp_of_givesK (relOf_goes g p0 i) (hs.of_eval (exec_congr (fun cs b => Region.noSelect_spec hsel i oi cs b hoi) (fun t ht => (looks t ht).symm))) next)
  · rename_i hw
    simp only [hw] at hs
    exact next _ _ (relOf_bel g (Below.refl _ _)) (by simpa using hs)


theorem wpAny_of_midK (g : Goes K0) {n : Nat} {ps : Nat → Value ⊕ (Value → World → Prop)} {a0 : Act} {w0 : World} {Q : Exit → Act → World → Prop} {l : List Oper}
    (hl : ∀ j : Nat, l[j]? = ops[n + j]?) (hll : l.length = ops.size - n)
    (hB : partsB ops n = true) (hst : ∀ j R, ps j = .inr R → staysK K0 p0 j R)
    (hop : ∀ vs i, i < n → stepForK P K0 p0 ops ps a0 w0 vs i)
    (hend : ∀ vs W, K0 w0 W → allHold ps vs W n → wpList P ops Q l (lay ops vs a0 n) W) :
    ∀ (f : Nat) (listed : Array Bool) (vs : Nat → Value) (a : Act) (W : World), HeadInv .any ops n listed → MidK K0 p0 ops n ps a0 w0 listed vs a W → cnt listed n = f →
      wpAny P .any ops Q (f + (ops.size - n)) listed a W := by
  simp only [partsB, Bool.and_eq_true, decide_eq_true_eq] at hB
  obtain ⟨⟨⟨⟨⟨hsel, htidy⟩, hback⟩, hn⟩, htail0⟩, hseq⟩ := hB
  have htail : n = ops.size ∨ (Region.sinkB .any ops n = true ∧ Region.chainB .any ops n = true) := by simpa using htail0
  intro f
  induction f with
  | zero =>
    intro listed vs a W inv mid hc
    have hall := cnt_zero listed n hc
    have hlisted : listed = (Array.range ops.size).map fun j => decide (j < n) := by
      apply Array.ext
      · simp [inv.size]
      · intro j h1 h2
        simp only [Array.getElem_map, Array.getElem_range]
        by_cases hj : j < n
        · have := hall j hj
          simp only [h1, Array.getD_eq_getD_getElem?, Array.getElem?_eq_getElem, Option.getD_some] at this
          simp [hj, this]
        · have := getD_both (inv.tail j (by omega) (by simpa using h2))
          simp only [h1, Array.getD_eq_getD_getElem?, Array.getElem?_eq_getElem, Option.getD_some] at this
          simp [hj, this]
    have ha : a = lay ops vs a0 n := act_ext (fun t => by
      rw [lay_get, mid.slots t]
      unfold slotOf
      rw [lastW_eq (ops := ops) (t := t) (p := fun j => listed.getD j false) (q := fun _ => true) (m := n) (n := n) ?_]
      intro j
      constructor
      · rintro ⟨h1, _, h3⟩; exact ⟨h1, rfl, h3⟩
      · rintro ⟨h1, _, h3⟩; exact ⟨h1, hall j h1, h3⟩) (by rw [mid.defers, lay_defers])
    have h := hend vs W mid.ext (allHold_of n fun j hj => mid.held j hj (hall j hj))
    rw [Nat.zero_add, ← hll]
    rw [← hlisted, ← hll] at hseq
    rw [ha]
    exact wpAny_of_seq l n listed _ W hl hseq h
  | succ f ih =>
    intro listed vs a W inv mid hc
    obtain ⟨i0, hi0, hu0, hlow⟩ := least_unlisted listed n (by omega)
    rw [show f + 1 + (ops.size - n) = (f + (ops.size - n)) + 1 by omega]
    refine ⟨fun h => ?_, fun i hi => ?_⟩
    · exfalso
      have h1 := List.all_eq_true.1 hback i0 (List.mem_range.2 hi0)
      cases ho : ops[i0]? with
      | none => simp [ho] at h1
      | some o =>
        simp only [ho] at h1
        have : i0 ∈ Region.ready .any ops listed := by
          refine mem_ready.2 ⟨getD_in (by rw [inv.size]; omega) hu0, o, ho, fun e he hb => ?_⟩
          have h2 := Array.all_eq_true'.1 h1 e he
          simp only [hb, Bool.not_true, Bool.false_or, decide_eq_true_eq] at h2
          exact hlow e.on h2
        rw [h] at this
        cases this
    · have hin : i < n := by
        rcases Nat.lt_or_ge i n with h | h
        · exact h
        · rcases htail with ht | ht
          · obtain ⟨_, o, ho, _⟩ := mem_ready.1 hi
            have := (Array.getElem?_eq_some_iff.1 ho).1
            omega
          · rcases Nat.lt_or_ge n ops.size with hns | hns
            · exact absurd hi (tail_waits ht.1 ht.2 hns inv _ i0 rfl hi0 (getD_in (by rw [inv.size]; omega) hu0) i h)
            · obtain ⟨_, o, ho, _⟩ := mem_ready.1 hi
              have := (Array.getElem?_eq_some_iff.1 ho).1
              omega
      have hun := (mem_ready.1 hi).1
      refine mid_stepK g htidy hsel hst hop inv mid hi hin fun vs' a' W' inv' mid' => ih _ vs' a' W' inv' mid' ?_
      have := cnt_set listed i (by rw [inv.size]; omega) (getD_both hun) n hin
      omega

theorem wp_region_partsK (g : Goes K0) {id : Nat} {ops : List Oper} {Q : Exit → Act → World → Prop} {a : Act} {w : World} (n : Nat) (ps : Nat → Value ⊕ (Value → World → Prop)) (hm : P.follows .mixedOrders = true) (hB : partsB ops.toArray n = true)
    (hst : ∀ j R, ps j = .inr R → staysK K0 p0 j R)
    (hop : ∀ vs i, i < n → stepForK P K0 p0 ops.toArray ps a w vs i)
    (hend : ∀ vs W, K0 w W → allHold ps vs W n → wpList P ops.toArray Q (ops.drop n) (lay ops.toArray vs a n) W) : (Code.region id ops.toArray true).wp P Q a w := by
  have hn : n ≤ ops.toArray.size := by
    simp only [partsB, Bool.and_eq_true, decide_eq_true_eq] at hB
    exact hB.1.1.2
  have he : K0 w { w with drawn := w.drawn + 1 } := g.bel _ _ (Below.refl _ _).drew
  have hc : ∀ m, cnt (Array.replicate ops.toArray.size false) m = m := fun m => by
    induction m with
    | zero => rfl
    | succ m ih => rw [cnt, ih, getD_replicate_false]; rfl
  refine wp_region_any hm ?_
  have := wpAny_of_midK g (P := P) (ops := ops.toArray) (l := ops.drop n) (fun j => by simp [List.getElem?_drop]) (by simp) hB hst hop hend n (Array.replicate ops.toArray.size false) (fun _ => undef) a { w with drawn := w.drawn + 1 }
    ⟨by simp, fun j oj _ hl => (by rw [getD_replicate_false] at hl; cases hl), fun t _ ht => getD_in (by simpa using ht) (getD_replicate_false _ _)⟩
    ⟨he, fun _ => (Below.refl _ _).drew, rfl, rfl, fun t => ?_, fun j _ hl => (by rw [getD_replicate_false] at hl; cases hl)⟩ (hc n)
  · rwa [show n + (ops.toArray.size - n) = ops.toArray.size by omega] at this
  · unfold slotOf
    rw [show lastW ops.toArray (fun j => (Array.replicate ops.toArray.size false).getD j false) t n = none from ?_]
    cases h : lastW ops.toArray (fun j => (Array.replicate ops.toArray.size false).getD j false) t n with
    | none => rfl
    | some j => have := (lastW_some h).2.1; rw [getD_replicate_false] at this; cases this

end

section
variable {P : Program} {K0 : World → World → Prop} {p0 : Nat}

/-- The walk in the order of the text; k is the next operation's number. -/
def wpPartsK (P : Program) (K0 : World → World → Prop) (p0 : Nat) (ops : Array Oper) (w : World) (Q : Exit → Act → World → Prop) : Nat → List Oper → List Piece → List (Tmp × (World → Prop)) → Act → Prop
  | k, o :: os, .inl v :: ps, G, a =>
    (if Region.wanted o (yielded ops a.tmps) then (∀ W, K0 w W → (k = p0 → Below w.heap.size w W) → near ops o G W → GivesK P (relOf K0 p0 k) o a W (fun u _ => u = v)) else undef = v) ∧ wpPartsK P K0 p0 ops w Q (k + 1) os ps G (a.put o.dst v)
  | k, o :: os, .inr R :: ps, G, a =>
    (staysK K0 p0 k R ∧ Region.wanted o (yielded ops a.tmps) = true ∧ (∀ W, K0 w W → (k = p0 → Below w.heap.size w W) → near ops o G W → GivesK P (relOf K0 p0 k) o a W R)) ∧
      ∀ u, wpPartsK P K0 p0 ops w Q (k + 1) os ps (match o.dst with | some d => (d, R u) :: G | none => G) (a.put o.dst u)
  | _, os, _, G, a => ∀ W, K0 w W → every G W → wpList P ops Q os a W

end

section
variable {P : Program} {ops : Array Oper} {K0 : World → World → Prop} {p0 : Nat}

/-- What the walk in the order of the text says of each operation, and of what stands behind. -/
theorem parts_specK {w : World} {Q : Exit → Act → World → Prop} {a : Act} {qs : Nat → Piece} (vs : Nat → Value) :
    ∀ (l : List Oper) (ps : List Piece) (k : Nat), (∀ j : Nat, l[j]? = ops[k + j]?) → (∀ j p, ps[j]? = some p → qs (k + j) = p) → ps.length ≤ l.length →
      wpPartsK P K0 p0 ops w Q k l ps (facts ops qs vs k) (lay ops (fixed qs vs) a k) →
      (∀ i, k ≤ i → i < k + ps.length → ∃ o, ops[i]? = some o ∧ ∀ W, K0 w W → (i = p0 → Below w.heap.size w W) → near ops o (facts ops qs vs i) W →
        (if Region.wanted o (yielded ops (lay ops (fixed qs vs) a i).tmps) then GivesK P (relOf K0 p0 i) o (lay ops (fixed qs vs) a i) W (holdsOf (qs i)) else holdsOf (qs i) undef W)) ∧
      (∀ i R, k ≤ i → i < k + ps.length → qs i = .inr R → staysK K0 p0 i R) ∧
      (∀ W, K0 w W → every (facts ops qs vs (k + ps.length)) W → wpList P ops Q (l.drop ps.length) (lay ops (fixed qs vs) a (k + ps.length)) W)
  | l, [], k, _, _, _, h => by
    refine ⟨fun i h1 h2 => ?_, fun i R h1 h2 => ?_, ?_⟩
    · simp at h2; omega
    · simp at h2; omega
    · cases l <;> simpa [wpPartsK] using h
  | [], _ :: _, _, _, _, hlen, _ => by simp at hlen
  | o :: l, p :: ps, k, hl, hq, hlen, h => by
    have h0 : ops[k]? = some o := by simpa using (hl 0).symm
    have hp : qs k = p := by simpa using hq 0 p rfl
    have hb : (ops[k]?).bind (·.dst) = o.dst := by rw [h0]; rfl
    have rest := fun (h' : wpPartsK P K0 p0 ops w Q (k + 1) l ps (facts ops qs vs (k + 1)) (lay ops (fixed qs vs) a (k + 1))) => parts_specK vs l ps (k + 1) (fun j => by have := hl (j + 1); simpa [Nat.add_assoc, Nat.add_comm 1 j] using this)
      (fun j q hj => by have := hq (j + 1) q (by simpa using hj); simpa [Nat.add_assoc, Nat.add_comm 1 j] using this) (by simpa using hlen) h'
    have key : wpPartsK P K0 p0 ops w Q (k + 1) l ps (facts ops qs vs (k + 1)) (lay ops (fixed qs vs) a (k + 1)) ∧
        (∀ R, p = .inr R → staysK K0 p0 k R) ∧
        ∀ W, K0 w W → (k = p0 → Below w.heap.size w W) → near ops o (facts ops qs vs k) W →
          (if Region.wanted o (yielded ops (lay ops (fixed qs vs) a k).tmps) then GivesK P (relOf K0 p0 k) o (lay ops (fixed qs vs) a k) W (holdsOf p) else holdsOf p undef W) := by
      cases p with
      | inl v =>
        obtain ⟨h1, h2⟩ := h
        have e : fixed qs vs k = v := by unfold fixed; rw [hp]
        refine ⟨by rw [facts, hp, lay, hb, e]; exact h2, (fun R hR => by cases hR), fun W hW hW2 hn => ?_⟩
        split
        · rename_i hw; rw [if_pos hw] at h1; exact h1 W hW hW2 hn
        · rename_i hw; rw [if_neg hw] at h1; exact h1
      | inr R =>
        obtain ⟨⟨h1, h3, h4⟩, h2⟩ := h
        have e : fixed qs vs k = vs k := by unfold fixed; rw [hp]
        refine ⟨?_, (fun R' hR => by cases hR; exact h1), fun W hW hW2 hn => by rw [if_pos h3]; exact h4 W hW hW2 hn⟩
        have := h2 (vs k)
        rw [facts, hp, lay, hb, e]
        cases hd : o.dst <;> simpa [hd] using this
    obtain ⟨r1, r2, r3⟩ := rest key.1
    have hl' : k + (p :: ps).length = k + 1 + ps.length := by simp; omega
    refine ⟨fun i h1 h2 => ?_, fun i R h1 h2 hR => ?_, ?_⟩
    · by_cases e : i = k
      · subst e; exact ⟨o, h0, by rw [hp]; exact key.2.2⟩
      · exact r1 i (by omega) (by omega)
    · by_cases e : i = k
      · subst e; exact key.2.1 R (by rw [← hp, hR])
      · exact r2 i R (by omega) (by omega) hR
    · rw [hl']; simpa using r3

/-- **A region that draws its order**, walked in the order of the text; operation p0 may write as K0 says. -/
theorem wp_region_seqK (K0 : World → World → Prop) (g : Goes K0) (p0 : Nat) {id : Nat} {l : List Oper} {Q : Exit → Act → World → Prop} {a : Act} {w : World} (ps : List Piece) (hm : P.follows .mixedOrders = true) (hB : partsB l.toArray ps.length = true)
    (h : wpPartsK P K0 p0 l.toArray w Q 0 l ps [] a) : (Code.region id l.toArray true).wp P Q a w := by
  have hn : ps.length ≤ l.length := by
    simp only [partsB, Bool.and_eq_true, decide_eq_true_eq] at hB
    simpa using hB.1.1.2
  have spec := fun vs => parts_specK (P := P) (K0 := K0) (p0 := p0) (ops := l.toArray) (w := w) (Q := Q) (a := a) (qs := fun i => (ps[i]?).getD (.inl undef)) vs l ps 0 (fun j => by simp) (fun j p hj => by simp [hj]) hn h
  refine wp_region_partsK (K0 := K0) (p0 := p0) g ps.length (fun i => (ps[i]?).getD (.inl undef)) hm hB ?_ ?_ ?_
  · intro j R hj
    by_cases hlt : j < ps.length
    · exact (spec (fun _ => undef)).2.1 j R (by omega) (by omega) hj
    · have : ps[j]? = none := by simp; omega
      simp [this] at hj
  · intro vs i hi
    unfold stepForK
    obtain ⟨o, ho, hs⟩ := (spec vs).1 i (by omega) (by omega)
    rw [ho]
    intro W hW hW2 hd
    have hs := hs W hW hW2 (near_of hd)
    have looks : ∀ t ∈ o.looksAt l.toArray, (lay l.toArray (fixed (fun i => (ps[i]?).getD (.inl undef)) vs) a i).tmps[t]? = (lay l.toArray vs a i).tmps[t]? := by
      intro t ht
      rw [lay_get, lay_get]
      unfold slotOf
      cases hc : lastW l.toArray (fun _ => true) t i with
      | none => rfl
      | some j =>
        obtain ⟨c1, _, c3, _⟩ := lastW_some hc
        simp only
        rw [fixed_eq (depsHold_get hd j t c1 c3 ht)]
    rw [wanted_congr looks] at hs
    simp only
    split
    · rename_i hw; rw [if_pos hw] at hs
      refine hs.of_eval (exec_congr (fun cs b => Region.noSelect_spec (by simp only [partsB, Bool.and_eq_true] at hB; exact hB.1.1.1.1.1) i o cs b ho) (fun t ht => (looks t ht).symm))
    · rename_i hw; rw [if_neg hw] at hs; exact hs
  · intro vs W hW hall
    have := (spec vs).2.2 W hW (every_of (by simpa using hall))
    have e : lay l.toArray (fixed (fun i => (ps[i]?).getD (.inl undef)) vs) a ps.length = lay l.toArray vs a ps.length := act_ext (fun t => by
      rw [lay_get, lay_get]
      unfold slotOf
      cases hc : lastW l.toArray (fun _ => true) t ps.length with
      | none => rfl
      | some j =>
        obtain ⟨c1, _, _, _⟩ := lastW_some hc
        simp only
        rw [fixed_eq (allHold_get hall j c1)]) (by rw [lay_defers, lay_defers])
    rw [Nat.zero_add, e] at this
    exact this

end

section
variable {P : Program} {ops : Array Oper} {w : World} {Q : Exit → Act → World → Prop} {o : Oper} {os : List Oper} {ps : List Piece} {G : List (Tmp × (World → Prop))} {a : Act} {K0 : World → World → Prop} {p0 k : Nat}

theorem gives_rel {R : Value → World → Prop} {W : World} (hk : k ≠ p0) (h : Gives P o a W R) : GivesK P (relOf K0 p0 k) o a W R := by
  unfold relOf; rw [if_neg hk]; exact h
theorem gives_relW {R : Value → World → Prop} {W : World} (hk : k = p0) (h : GivesK P K0 o a W R) : GivesK P (relOf K0 p0 k) o a W R := by
  unfold relOf; rw [if_pos hk]; exact h
/-- One operation, whose value is known. -/
theorem wpPartsK_det {v : Value} (hk : k ≠ p0) (hw : Region.wanted o (yielded ops a.tmps) = true) (h : ∀ W, K0 w W → near ops o G W → Gives P o a W (fun u _ => u = v))
    (hr : wpPartsK P K0 p0 ops w Q (k + 1) os ps G (a.put o.dst v)) : wpPartsK P K0 p0 ops w Q k (o :: os) (.inl v :: ps) G a := by
  unfold wpPartsK
  rw [if_pos hw]
  exact ⟨fun W h1 _ h2 => gives_rel hk (h W h1 h2), hr⟩
/-- One operation of whose value something is known. -/
theorem wpPartsK_any {d : Tmp} {R : Value → World → Prop} (hk : k ≠ p0) (hd : o.dst = some d) (hst : ∀ v W W', R v W → Below W.heap.size W W' → R v W') (hst2 : ∀ v W W', R v W → K0 W W' → R v W') (hw : Region.wanted o (yielded ops a.tmps) = true)
    (h : ∀ W, K0 w W → near ops o G W → Gives P o a W R) (hr : ∀ u, wpPartsK P K0 p0 ops w Q (k + 1) os ps ((d, R u) :: G) (a.put (some d) u)) : wpPartsK P K0 p0 ops w Q k (o :: os) (.inr R :: ps) G a := by
  unfold wpPartsK
  refine ⟨⟨⟨hst, fun _ => hst2⟩, hw, fun W h1 _ h2 => gives_rel hk (h W h1 h2)⟩, fun u => ?_⟩
  simp only [hd]
  exact hr u
/-- The one operation that writes. -/
theorem wpPartsK_writes {d : Tmp} {R : Value → World → Prop} (hk : k = p0) (hd : o.dst = some d) (hst : ∀ v W W', R v W → Below W.heap.size W W' → R v W') (hw : Region.wanted o (yielded ops a.tmps) = true)
    (h : ∀ W, Below w.heap.size w W → near ops o G W → GivesK P K0 o a W R) (hr : ∀ u, wpPartsK P K0 p0 ops w Q (k + 1) os ps ((d, R u) :: G) (a.put (some d) u)) : wpPartsK P K0 p0 ops w Q k (o :: os) (.inr R :: ps) G a := by
  unfold wpPartsK
  refine ⟨⟨⟨hst, fun hn => absurd hk hn⟩, hw, fun W _ h0 h2 => gives_relW hk (h W (h0 hk) h2)⟩, fun u => ?_⟩
  simp only [hd]
  exact hr u
theorem wpPartsK_end (h : ∀ W, K0 w W → every G W → wpList P ops Q os a W) : wpPartsK P K0 p0 ops w Q k os [] G a := by
  cases os <;> (unfold wpPartsK; exact h)
end
end Go.Dav

namespace Go.Dav
set_option linter.unusedVariables false
set_option linter.unusedSimpArgs false
open Go Go.RowKit
def itemBytes (x : ItemD) : List UInt8 := UInt8.ofNat x.key.length :: x.key ++ (UInt8.ofNat x.value.length :: x.value) ++ [if x.int then 1 else 0] ++ highOf (x.n % 18446744073709551616).toNat 8
def kidBytes (x : KidD) : List UInt8 := UInt8.ofNat x.key.length :: x.key ++ (highOf (x.at_ % 18446744073709551616).toNat 4 ++ highOf (x.red.c % 18446744073709551616).toNat 4 ++ highOf (x.red.n % 18446744073709551616).toNat 4) ++ (highOf (hi x.red.s % 18446744073709551616).toNat 8 ++ highOf (lo x.red.s).toNat 8 ++ highOf (x.red.l % 18446744073709551616).toNat 8 ++ highOf (x.red.m % 18446744073709551616).toNat 8)
def pBytes : PartD → List UInt8
  | .inl x => itemBytes x
  | .inr x => kidBytes x
def nodeBytes (n : NodeD) : List UInt8 := [if n.leaf then 1 else 2, UInt8.ofNat (partsOf n).length] ++ (partsOf n).flatMap pBytes
def highs (l : List Nat) (w : Nat) : List UInt8 := l.flatMap (highOf · w)
theorem highs_succ {l : List Nat} {w k x : Nat} (h : l[k]? = some x) : highs (l.take (k + 1)) w = highs (l.take k) w ++ highOf x w := by
  unfold highs; rw [List.take_add_one, h]; simp
theorem highs_len (l : List Nat) (w : Nat) : (highs l w).length = l.length * w := by
  unfold highs; induction l with
  | nil => simp
  | cons x l ih => simp [highOf_len, Nat.add_mul] at ih ⊢; omega
/-- A row of the call's own has grown to these bytes; nothing else beyond base of another type has changed. -/
def GivesRow (e : TypeId) (base : Nat) (l : List UInt8) (w : World) (en : Ending) (w' : World) : Prop :=
  ∃ v', en = .returned v' ∧ w'.ownsRow base e 1 v' l.length (u8s l) ∧ Grew base e w w'
def numCells (l : List Nat) : List Value := l.map fun (x : Nat) => .int .u64 (x : Int)
theorem numCells_get {l : List Nat} {k x : Nat} (h : l[k]? = some x) : (numCells l)[k]? = some (.int .u64 (x : Int)) := by unfold numCells; rw [List.getElem?_map, h]; rfl
/-- A new slice of numbers. -/
def NewSl (cs : List Value) (t : TypeId) (k : Nat) (v : Value) (W : World) : Prop := ∃ p, v = .slice (some ⟨p, 0, none⟩) k k ∧ Blk W p cs t
theorem NewSl.later {cs : List Value} {t : TypeId} {k : Nat} : ∀ v W W', NewSl cs t k v W → Below W.heap.size W W' → NewSl cs t k v W' :=
  fun _ _ _ ⟨p, h1, h2⟩ hb => ⟨p, h1, h2.ext hb⟩
theorem NewSl.grew {cs : List Value} {t e : TypeId} {k n : Nat} (ht : t ≠ e) : ∀ v W W', NewSl cs t k v W → Grew n e W W' → NewSl cs t k v W' :=
  fun _ _ _ ⟨p, h1, h2⟩ hb => ⟨p, h1, hb.blk h2 ht⟩
def OwnIs (base : Nat) (e : TypeId) (l : List UInt8) (v : Value) (W : World) : Prop := W.ownsRow base e 1 v l.length (u8s l)
theorem OwnIs.later {base : Nat} {e : TypeId} {l : List UInt8} : ∀ v W W', OwnIs base e l v W → Below W.heap.size W W' → OwnIs base e l v W' := fun _ _ _ h hb => ownsRow_ext h hb
theorem goes_grew (n : Nat) (e : TypeId) : Goes (Grew n e) := ⟨fun _ _ h => Grew.of_below h, fun _ _ _ h k => h.trans k⟩
theorem newSl_alloc {cs : List Value} {t : TypeId} {k : Nat} {W : World} : Below W.heap.size W (W.alloc (.cells cs.toArray t)) ∧ NewSl cs t k (.slice (some ⟨W.heap.size, 0, none⟩) k k) (W.alloc (.cells cs.toArray t)) :=
  ⟨(Below.refl _ _).alloc (Nat.le_refl _) _, _, rfl, Blk.new _ _ _⟩
theorem BytesS.grew {W W' : World} {S : Nat → Prop} {a : Option Addr} {n c base : Nat} {e : TypeId} {l : List UInt8} (h : BytesS W S a n c l) (hS : ∀ b, S b → b < base) (hg : Grew base e W W') : BytesS W' S a n c l :=
  h.same hg.size fun b h1 h2 => hg.block b h2 (.inl (hS b h1))
end Go.Dav
namespace Go.Proofs.Ytfhhcpolicdfpaa
set_option linter.unusedVariables false
set_option linter.unusedSimpArgs false
open Go.RowKit Go.Dav
attribute [local go_sem] Gives GivesK ite_val ite_val_true

set_option maxRecDepth 8000 in
set_option maxHeartbeats 4000000 in
theorem Try_numbers (base p width n : Nat) (xs : List Nat) (v : Value) (l : List UInt8) (w : World) (hp : Blk w p (numCells xs) 45) (hn : xs.length = n) (hn8 : n ≤ 8) (hv : w.ownsRow base 5 1 v l.length (u8s l)) (hb : base ≤ w.heap.size) (hlo : l.length ≤ 100000) (hw : width ≤ 8) (hx : ∀ x ∈ xs, x < 18446744073709551616) :
    Calls Try.prog 96 #[v, .int .i64 (width : Int), .slice (some ⟨p, 0, none⟩) n n] w (GivesRow 5 base (l ++ highs xs width) w) := by
  have lp := hp.lt
  have HP := Lib.hid hp
  have HN := Lib.hid hn
  have HV := Lib.hid hv
  have HB := Lib.hid hb
  have HLO := Lib.hid hlo
  have HX := Lib.hid hx
  have hw' : (width : Int) ≤ 8 := by omega
  have hn' : (n : Int) ≤ 8 := by omega
  clear hp hn hv hb hlo hx
  go_enter Try.func96, Try.ntmps96
  go_wp2_with fail
  go_loopg [0, 12] n (fun g vx ix wr => ∃ k : Nat, k ≤ n ∧ g = n - k ∧ ix = .int .i64 k ∧ wr.ownsRow base 5 1 vx (l ++ highs (xs.take k) width).length (u8s (l ++ highs (xs.take k) width)) ∧ Grew base 5 w wr)
  case atStart => exact ⟨0, Nat.zero_le _, rfl, rfl, by simpa [highs] using HV.out, Grew.refl _ _ _⟩
  case round =>
    obtain ⟨k, hk, rfl, rfl, hown, hgr⟩ := hrel
    have HO := Lib.hid hown
    have HG := Lib.hid hgr
    clear hown hgr
    by_cases hkn : k < n
    · obtain ⟨x, hx⟩ : ∃ x, xs[k]? = some x := ⟨_, List.getElem?_eq_getElem (by have := HN.out; omega)⟩
      have hcell := (HG.out.blk HP.out (by decide)).cell k (numCells_get hx)
      have hlt := (HG.out.blk HP.out (by decide)).lt
      have hkn' : (k : Int) < (n : Int) := by omega
      have HXX := Lib.hid hx
      have HKN := Lib.hid hkn
      obtain ⟨lk, hlk⟩ : ∃ lk, l ++ highs (xs.take k) width = lk := ⟨_, rfl⟩
      have HLK := Lib.hid hlk
      have hll : lk.length ≤ 100100 := by
        rw [← hlk, List.length_append, highs_len]
        have h1 := HLO.out
        have h2 : (xs.take k).length * width ≤ 8 * 8 := Nat.mul_le_mul (by rw [List.length_take]; omega) hw
        omega
      have HLL := Lib.hid hll
      have HO2 := Lib.hid (show wr.ownsRow base 5 1 u0 lk.length (u8s lk) by have := HO.out; rw [hlk] at this; exact this)
      have hxl := HX.out x (List.mem_of_getElem? hx)
      have HXL := Lib.hid hxl
      obtain ⟨wo, rfl⟩ : ∃ wo : World, wo = wr := ⟨_, rfl⟩
      clear hx hkn hk hlk hll hxl
      go_wp2_with fail
      go_loopg [0, 9] width (fun g vx bx w2 => ∃ j : Nat, j ≤ width ∧ g = width - j ∧ bx = .int .i64 (8 * ((width : Int) - (j : Int)) - 8) ∧ w2.ownsRow base 5 1 vx (lk ++ (highOf x width).take j).length (u8s (lk ++ (highOf x width).take j)) ∧ Grew base 5 wo w2)
      case atStart => exact ⟨0, Nat.zero_le _, rfl, by go_num, by simpa using HO2.out, Grew.refl _ _ _⟩
      case round =>
        obtain ⟨j, hj, rfl, rfl, f1, f2⟩ := hrel
        have F1 := Lib.hid f1
        have F2 := Lib.hid f2
        clear f1 f2
        by_cases hjw : j < width
        · obtain ⟨e, he⟩ : ∃ e, 8 * (width - 1 - j) = e := ⟨_, rfl⟩
          have he2 : 8 * ((width : Int) - (j : Int)) - 8 = (e : Int) := by omega
          rw [he2]
          have hel : e ≤ 56 := by omega
          have hmin : min e 64 = e := by omega
          have HE := Lib.hid he
          have HJW := Lib.hid hjw
          clear he he2 hjw hj
          have s3 := F2.out.size
          have HBx := Lib.hid (show base ≤ (wr.alloc (.cells #[.int .u8 ((x : Int) / 2 ^ e % 256)] 5)).heap.size by have := HB.out; have := HG.out.size; simp; omega)
          have HFx := Lib.hid (ownsRow_ext F1.out ((Below.refl _ wr).alloc (Nat.le_refl _) (.cells #[.int .u8 ((x : Int) / 2 ^ e % 256)] 5)))
          have HCx := Lib.hid (show CellsS (wr.alloc (.cells #[.int .u8 ((x : Int) / 2 ^ e % 256)] 5)) (fun b => b = wr.heap.size) (some ⟨wr.heap.size, 0, none⟩) 1 (u8s [UInt8.ofNat (x / 2 ^ e)]) by rw [u8s_byte]; exact cells_one rfl (by simp) (Blk.new wr [.int .u8 ((x : Int) / 2 ^ e % 256)] 5 |>.cell 0 rfl))
          have HLx := Lib.hid (show (lk ++ (highOf x width).take j).length + 1 ≤ 140737488355328 by have := HLL.out; have := highOf_len x width; simp; omega)
          clear s3
          go_wp2_with (at_builtin; refine wpList_append_rowS rfl (.tmp 23) (.tmp 28) 22 rfl Try_elemU8 base _ (lk ++ (highOf x width).take j).length (u8s (lk ++ (highOf x width).take j)) rfl HFx.out (fun b => b = wr.heap.size) (some ⟨wr.heap.size, 0, none⟩) 1 1 (u8s [UInt8.ofNat (x / 2 ^ e)]) rfl HCx.out (u8s_one _) (fun h => by cases h) (by have := HLx.out; unfold maxLen; omega) (by have := HLx.out; omega) HBx.out ?_; intro v' w' hown' hgrow)
          have hgr2 := Grew.of_own HFx.out hgrow
          have e1 : lk ++ (highOf x width).take j ++ [UInt8.ofNat (x / 2 ^ e)] = lk ++ (highOf x width).take (j + 1) := by rw [highOf_take HJW.out, HE.out, List.append_assoc]
          have hln : (lk ++ (highOf x width).take j).length + 1 = (lk ++ (highOf x width).take (j + 1)).length := by rw [← e1]; simp only [List.length_append, List.length_singleton]
          rw [← u8s_append, e1, hln] at hown'
          have HO3 := Lib.hid hown'
          have HG3 := Lib.hid hgr2
          clear hown' hgr2 e1 hln hgrow
          go_wp2_with fail
          go_roundg (width - (j + 1))
          case measure => have := HJW.out; omega
          case rel =>
            exact ⟨j + 1, HJW.out, rfl, by rw [show 8 * ((width : Int) - ((j + 1 : Nat) : Int)) - 8 = (e : Int) - 8 by have := HE.out; have := HJW.out; omega], HO3.out, F2.out.trans ((Grew.of_below ((Below.refl _ wr).alloc (Nat.le_refl _) _)).trans HG3.out)⟩
        · obtain rfl : j = width := by omega
          have hz : 8 * ((j : Int) - (j : Int)) - 8 = -8 := by omega
          rw [hz]
          clear hjw
          go_wp2_with fail
          go_roundg (n - (k + 1))
          case measure => have := HKN.out; omega
          case rel =>
            have hle : (highOf x j).take j = highOf x j := List.take_of_length_le (by rw [highOf_len]; omega)
            have h1 := F1.out
            rw [hle, ← HLK.out, List.append_assoc, ← highs_succ HXX.out] at h1
            exact ⟨k + 1, HKN.out, rfl, by go_num, h1, HG.out.trans F2.out⟩
    · obtain rfl : k = n := by omega
      have hk3 : ¬ (k : Int) < (k : Int) := by omega
      have h1 := HO.out
      rw [List.take_of_length_le (by have := HN.out; omega)] at h1
      have H1 := Lib.hid h1
      clear hkn h1
      go_wp2
      go_ret
      exact ⟨_, rfl, H1.out, HG.out⟩

set_option maxRecDepth 8000 in
set_option maxHeartbeats 4000000 in
theorem Try_counted (base : Nat) (S : Nat → Prop) (a : Option Addr) (n c : Nat) (x : List UInt8) (v : Value) (l : List UInt8) (w : World) (hx : BytesS w S a n c x) (hS : ∀ b, S b → b < base) (hv : w.ownsRow base 5 1 v l.length (u8s l)) (hb : base ≤ w.heap.size) (hlo : l.length ≤ 100000) (hn : n ≤ 100000) :
    Calls Try.prog 95 #[v, .slice a n c] w (GivesRow 5 base (l ++ (UInt8.ofNat x.length :: x)) w) := by
  have hxl := hx.at_.hlen
  have hn' : (n : Int) ≤ 100000 := by omega
  have HX := Lib.hid hx
  have HXL := Lib.hid hxl
  have HS := Lib.hid hS
  have HB := Lib.hid hb
  have HLO := Lib.hid hlo
  have hnil := hx.at_.hnil
  have HNIL := Lib.hid hnil
  have HOW := Lib.hid (ownsRow_ext hv ((Below.refl _ w).alloc (Nat.le_refl _) (.cells #[.int .u8 ((n : Int) % 256)] 5)))
  have HCx := Lib.hid (show CellsS (w.alloc (.cells #[.int .u8 ((n : Int) % 256)] 5)) (fun b => b = w.heap.size) (some ⟨w.heap.size, 0, none⟩) 1 (u8s [UInt8.ofNat n]) by
    rw [show u8s [UInt8.ofNat n] = [.int .u8 ((n : Int) % 256)] by simp [u8s]]
    exact cells_one rfl (by simp) (Blk.new w [.int .u8 ((n : Int) % 256)] 5 |>.cell 0 rfl))
  have tok1 : True := trivial
  have tok2 : True := trivial
  clear hx hxl hS hv hb hlo hnil
  go_enter Try.func95, Try.ntmps95
  go_wp2_with (first
    | (at_builtin; refine wpList_append_rowS rfl (.tmp 5) (.tmp 9) 22 rfl Try_elemU8 base _ l.length (u8s l) rfl HOW.out (fun b => b = w.heap.size) (some ⟨w.heap.size, 0, none⟩) 1 1 (u8s [UInt8.ofNat n]) rfl HCx.out (u8s_one _) (fun h => by cases h) (by have := HLO.out; unfold maxLen; omega) (by have := HLO.out; omega) (by have := HB.out; simp; omega) ?_; intro v1 w1 hown1 hgrow1; have HO1 := Lib.hid hown1; have HG1 := Lib.hid ((Grew.of_below ((Below.refl _ w).alloc (Nat.le_refl _) (.cells #[.int .u8 ((n : Int) % 256)] 5))).trans (Grew.of_own HOW.out hgrow1)); clear hown1 hgrow1 tok1)
    | (at_builtin; refine wpList_append_rowS rfl (.tmp 10) (.tmp 11) 22 rfl Try_elemU8 base _ (l.length + 1) (u8s l ++ u8s [UInt8.ofNat n]) rfl HO1.out S a n c (u8s x) rfl (HX.out.grew HS.out HG1.out).cells (u8s_one _) HNIL.out (by have := HLO.out; unfold maxLen; omega) (by have := HLO.out; omega) (by have := HB.out; have := HG1.out.size; omega) ?_; intro v2 w2 hown2 hgrow2; have HO2 := Lib.hid hown2; have HG2 := Lib.hid (HG1.out.trans (Grew.of_own HO1.out hgrow2)); clear hown2 hgrow2 tok2))
  go_ret
  refine ⟨_, rfl, ?_, HG2.out⟩
  have h := HO2.out
  rw [← u8s_append, ← u8s_append, List.append_assoc, show l.length + 1 + n = (l ++ ([UInt8.ofNat n] ++ x)).length by have := HXL.out; simp; omega] at h
  rw [HXL.out]
  exact h
theorem Try_numbers1 (base p n : Nat) (xs : List Nat) (v : Value) (l : List UInt8) (w : World) (hp : Blk w p (numCells xs) 45) (hn : xs.length = n) (hn8 : n ≤ 8) (hv : w.ownsRow base 5 1 v l.length (u8s l)) (hb : base ≤ w.heap.size) (hlo : l.length ≤ 100000) (hx : ∀ x ∈ xs, x < 18446744073709551616) :
    Calls Try.prog 96 #[v, .int .i64 1, .slice (some ⟨p, 0, none⟩) n n] w (GivesRow 5 base (l ++ highs xs 1) w) := Try_numbers base p 1 n xs v l w hp hn hn8 hv hb hlo (by omega) hx
theorem Try_numbers4 (base p n : Nat) (xs : List Nat) (v : Value) (l : List UInt8) (w : World) (hp : Blk w p (numCells xs) 45) (hn : xs.length = n) (hn8 : n ≤ 8) (hv : w.ownsRow base 5 1 v l.length (u8s l)) (hb : base ≤ w.heap.size) (hlo : l.length ≤ 100000) (hx : ∀ x ∈ xs, x < 18446744073709551616) :
    Calls Try.prog 96 #[v, .int .i64 4, .slice (some ⟨p, 0, none⟩) n n] w (GivesRow 5 base (l ++ highs xs 4) w) := Try_numbers base p 4 n xs v l w hp hn hn8 hv hb hlo (by omega) hx
theorem Try_numbers8 (base p n : Nat) (xs : List Nat) (v : Value) (l : List UInt8) (w : World) (hp : Blk w p (numCells xs) 45) (hn : xs.length = n) (hn8 : n ≤ 8) (hv : w.ownsRow base 5 1 v l.length (u8s l)) (hb : base ≤ w.heap.size) (hlo : l.length ≤ 100000) (hx : ∀ x ∈ xs, x < 18446744073709551616) :
    Calls Try.prog 96 #[v, .int .i64 8, .slice (some ⟨p, 0, none⟩) n n] w (GivesRow 5 base (l ++ highs xs 8) w) := Try_numbers base p 8 n xs v l w hp hn hn8 hv hb hlo (by omega) hx
end Go.Proofs.Ytfhhcpolicdfpaa

namespace Go.Dav
set_option linter.unusedVariables false
set_option linter.unusedSimpArgs false
open Go Go.RowKit
def flagN (b : Bool) : Nat := if b then 1 else 0
theorem highOf_one (n : Nat) : highOf n 1 = [UInt8.ofNat n] := by simp [highOf, List.range_succ]
theorem itemBytes_eq (x : ItemD) : itemBytes x = (UInt8.ofNat x.key.length :: x.key) ++ (UInt8.ofNat x.value.length :: x.value) ++ highs [flagN x.int] 1 ++ highs [(x.n % 18446744073709551616).toNat] 8 := by
  unfold itemBytes highs flagN
  cases x.int <;> simp [highOf_one]
theorem kidBytes_eq (x : KidD) : kidBytes x = (UInt8.ofNat x.key.length :: x.key) ++ highs [(x.at_ % 18446744073709551616).toNat, (x.red.c % 18446744073709551616).toNat, (x.red.n % 18446744073709551616).toNat] 4 ++ highs [(hi x.red.s % 18446744073709551616).toNat, (lo x.red.s).toNat, (x.red.l % 18446744073709551616).toNat, (x.red.m % 18446744073709551616).toNat] 8 := by
  unfold kidBytes highs; simp
theorem flag_len {l : List UInt8} {a b : List UInt8} : (l ++ (a ++ b)).length = l.length + a.length + b.length := by simp [Nat.add_assoc]
theorem pOk_sizes {x : PartD} (h : pOk x = true) : (pKey x).length ≤ 120 ∧ ∀ i, x = .inl i → i.value.length ≤ 100 := by
  unfold pOk at h
  simp only [Bool.and_eq_true, decide_eq_true_eq] at h
  refine ⟨h.2.1, fun i e => ?_⟩
  subst e
  have := h.2.2
  unfold pMay at this
  simp only [Bool.and_eq_true, decide_eq_true_eq] at this
  exact this.1
end Go.Dav
namespace Go.Proofs.Ytfhhcpolicdfpaa
set_option linter.unusedVariables false
set_option linter.unusedSimpArgs false
open Go.RowKit Go.Dav
attribute [local go_sem] Gives GivesK ite_val ite_val_true

set_option maxRecDepth 8000 in
set_option maxHeartbeats 4000000 in
theorem Try_layItem (base : Nat) (S : Nat → Prop) (i : ItemD) (u v : Value) (l : List UInt8) (w : World) (h : TryItemU w S u i) (hS : ∀ b, S b → b < base) (hv : w.ownsRow base 5 1 v l.length (u8s l)) (hb : base ≤ w.heap.size) (hlo : l.length ≤ 10000) (hk : i.key.length ≤ 1000) (hv8 : i.value.length ≤ 1000) :
    Calls Try.prog 91 #[u, v] w (GivesRow 5 base (l ++ itemBytes i) w) := by
  obtain ⟨ka, kl, kc, va, vl, vc, h1, h2, h3, h4⟩ := h
  subst h1
  have e1 := h2.at_.hlen
  have e2 := h3.at_.hlen
  obtain ⟨w0, hw0⟩ : ∃ w0, w.alloc (.cells #[.slice ka kl kc, .slice va vl vc, .bool i.int, .int .i64 i.n] 100) = w0 := ⟨_, rfl⟩
  have hbw : Below w.heap.size w w0 := by rw [← hw0]; exact (by repeat (first | (with_reducible exact Below.refl _ _) | (with_reducible exact Below.refl _ _) | (with_reducible refine Below.setCell ?_ (by first | omega | (simp; done) | (simp; omega)) _) | (with_reducible refine Below.alloc ?_ (by first | omega | (simp; done) | (simp; omega)) _) | (with_reducible refine Below.drew ?_) | (with_reducible refine below_drewN ?_ _)))
  have hBX : Blk w0 w.heap.size [.slice ka kl kc, .slice va vl vc, .bool i.int, .int .i64 i.n] 100 := by rw [← hw0]; exact Blk.new w _ _
  have HBX := Lib.hid hBX
  have H2 := Lib.hid (h2.ext hbw)
  have H3 := Lib.hid (h3.ext hbw)
  have HV := Lib.hid (ownsRow_ext hv hbw)
  have HS := Lib.hid hS
  have HB := Lib.hid (show base ≤ w0.heap.size by have := hbw.size; omega)
  have HBW := Lib.hid hbw
  have HK := Lib.hid (show kl ≤ 1000 by omega)
  have HV8 := Lib.hid (show vl ≤ 1000 by omega)
  have HLO := Lib.hid hlo
  have E1 := Lib.hid e1
  have E2 := Lib.hid e2
  have HI := Lib.hid h4
  have HNN := Lib.hid (show (IntKind.u64.wrap i.n) = (((i.n % 18446744073709551616).toNat : Nat) : Int) by rw [wrap_u64, Int.toNat_of_nonneg (by omega)])
  clear hBX h2 h3 hv hS hb hbw e1 e2 hk hv8 hlo h4
  go_enter Try.func91, Try.ntmps91
  go_wp2_with fail
  clear hw0
  refine' wp_region_seqK (Grew base 5) (goes_grew _ _) 3 [.inl _, .inl _, .inl _, .inr (OwnIs base 5 (l ++ (UInt8.ofNat i.key.length :: i.key))), .inl _, .inl _] (by kernel_rfl) (by kernel_rfl) ?main1
  case main1 =>
    refine wpPartsK_det (by decide) (by rfl) (fun W hE hN => ?_) ?_
    · go_simp; refine ⟨Below.refl _ _, ?_⟩; rfl
    simp only [Act.put, List.setIfInBounds_toArray, List.set_cons_zero, List.set_cons_succ]
    refine wpPartsK_det (by decide) (by rfl) (fun W hE hN => ?_) ?_
    · go_simp; refine ⟨Below.refl _ _, ?_⟩; rfl
    simp only [Act.put, List.setIfInBounds_toArray, List.set_cons_zero, List.set_cons_succ]
    refine wpPartsK_det (by decide) (by rfl) (fun W hE hN => ?_) ?_
    · have q1 := (hE.blk HBX.out (by decide)).cells; go_simp; refine ⟨Below.refl _ _, ?_⟩; rfl
    simp only [Act.put, List.setIfInBounds_toArray, List.set_cons_zero, List.set_cons_succ]
    refine wpPartsK_writes (by decide) rfl (OwnIs.later) (by rfl) (fun W hE hN => ?_) (fun u3 => ?_)
    · go_simp; refine ⟨Below.refl _ _, ?_⟩; refine (Try_counted base S ka kl kc i.key v l W (H2.out.ext hE) HS.out (ownsRow_ext HV.out hE) (by have := HB.out; have := hE.size; omega) (by have := HLO.out; omega) (by have := HK.out; omega)).mono ?_; rintro e w' ⟨v', rfl, ho, hg⟩; exact ⟨v', rfl, hg, ho⟩
    simp only [Act.put, List.setIfInBounds_toArray, List.set_cons_zero, List.set_cons_succ]
    refine wpPartsK_det (by decide) (by rfl) (fun W hE hN => ?_) ?_
    · go_simp; refine ⟨Below.refl _ _, ?_⟩; rfl
    simp only [Act.put, List.setIfInBounds_toArray, List.set_cons_zero, List.set_cons_succ]
    refine wpPartsK_det (by decide) (by rfl) (fun W hE hN => ?_) ?_
    · have q1 := (hE.blk HBX.out (by decide)).cells; go_simp; refine ⟨Below.refl _ _, ?_⟩; rfl
    simp only [Act.put, List.setIfInBounds_toArray, List.set_cons_zero, List.set_cons_succ]
    refine wpPartsK_end fun W1 hE1 hG1 => ?_
    have HO1 := Lib.hid (show W1.ownsRow base 5 1 u3 (l ++ (UInt8.ofNat i.key.length :: i.key)).length (u8s (l ++ (UInt8.ofNat i.key.length :: i.key))) ∧ True from hG1).1
    have HE1 := Lib.hid hE1
    clear hE1 hG1
    go_wp2_with fail
    (with_reducible refine (Try_counted base S va vl vc i.value u3 (l ++ (UInt8.ofNat i.key.length :: i.key)) W1 (H3.out.grew HS.out HE1.out) HS.out HO1.out (by have := HB.out; have := HE1.out.size; omega) (by have := HLO.out; have := HK.out; have := E1.out; simp; omega) (by have := HV8.out; omega)).mono ?_); rintro e w2 ⟨v2, rfl, ho2, hg2⟩
    obtain ⟨l2, hl2⟩ : ∃ l2, l ++ (UInt8.ofNat i.key.length :: i.key) ++ (UInt8.ofNat i.value.length :: i.value) = l2 := ⟨_, rfl⟩
    rw [hl2] at ho2
    have HL2 := Lib.hid hl2
    have HL2L := Lib.hid (show l2.length ≤ 13000 by rw [← hl2]; have := HLO.out; have := HK.out; have := E1.out; have := E2.out; have := HV8.out; simp; omega)
    have HO2 := Lib.hid ho2
    have HE2 := Lib.hid (HE1.out.trans hg2)
    have q2 := (HE2.out.blk HBX.out (by decide)).cells
    have HBX2 := Lib.hid (HE2.out.blk HBX.out (by decide))
    have HB2 := Lib.hid (show base ≤ w2.heap.size by have := HB.out; have := HE2.out.size; omega)
    clear hl2 ho2 hg2
    cases hint : i.int with
    | true =>
      rw [hint] at q2 HBX2
      go_wp2_with fail
      clear q2
      refine' wp_region_seqK (Grew base 5) (goes_grew _ _) 3 [.inl _, .inl _, .inr (NewSl (numCells [1]) 45 1), .inr (OwnIs base 5 (l2 ++ highs [1] 1)), .inl _, .inl _, .inl _, .inr (NewSl (numCells [(i.n % 18446744073709551616).toNat]) 45 1)] (by kernel_rfl) (by kernel_rfl) ?main2
      case main2 =>
        refine wpPartsK_det (by decide) (by rfl) (fun W hE hN => ?_) ?_
        · go_simp; refine ⟨Below.refl _ _, ?_⟩; rfl
        simp only [Act.put, List.setIfInBounds_toArray, List.set_cons_zero, List.set_cons_succ]
        refine wpPartsK_det (by decide) (by rfl) (fun W hE hN => ?_) ?_
        · go_simp; refine ⟨Below.refl _ _, ?_⟩; rfl
        simp only [Act.put, List.setIfInBounds_toArray, List.set_cons_zero, List.set_cons_succ]
        refine wpPartsK_any (by decide) rfl (NewSl.later) (NewSl.grew (by decide)) (by rfl) (fun W hE hN => ?_) (fun u2 => ?_)
        · go_simp; exact newSl_alloc
        simp only [Act.put, List.setIfInBounds_toArray, List.set_cons_zero, List.set_cons_succ]
        refine wpPartsK_writes (by decide) rfl (OwnIs.later) (by rfl) (fun W hE hN => ?_) (fun u3 => ?_)
        · obtain ⟨q, rfl, hq⟩ := (show NewSl (numCells [1]) 45 1 u2 W ∧ True from hN).1; go_simp; refine ⟨Below.refl _ _, ?_⟩; refine (Try_numbers1 base q 1 [1] v2 l2 W hq rfl (by omega) (ownsRow_ext HO2.out hE) (by have := HB2.out; have := hE.size; omega) (by have := HL2L.out; omega) (by intro x hx; simp at hx; subst hx; omega)).mono ?_; rintro e w' ⟨v', rfl, ho, hg⟩; exact ⟨v', rfl, hg, ho⟩
        simp only [Act.put, List.setIfInBounds_toArray, List.set_cons_zero, List.set_cons_succ]
        refine wpPartsK_det (by decide) (by rfl) (fun W hE hN => ?_) ?_
        · go_simp; refine ⟨Below.refl _ _, ?_⟩; rfl
        simp only [Act.put, List.setIfInBounds_toArray, List.set_cons_zero, List.set_cons_succ]
        refine wpPartsK_det (by decide) (by rfl) (fun W hE hN => ?_) ?_
        · have q1 := (hE.blk HBX2.out (by decide)).cells; go_simp; refine ⟨Below.refl _ _, ?_⟩; rfl
        simp only [Act.put, List.setIfInBounds_toArray, List.set_cons_zero, List.set_cons_succ]
        refine wpPartsK_det (by decide) (by rfl) (fun W hE hN => ?_) ?_
        · go_simp; refine ⟨Below.refl _ _, ?_⟩; rfl
        simp only [Act.put, List.setIfInBounds_toArray, List.set_cons_zero, List.set_cons_succ]
        refine wpPartsK_any (by decide) rfl (NewSl.later) (NewSl.grew (by decide)) (by rfl) (fun W hE hN => ?_) (fun u7 => ?_)
        · go_simp; rw [HNN.out]; exact newSl_alloc
        simp only [Act.put, List.setIfInBounds_toArray, List.set_cons_zero, List.set_cons_succ]
        refine wpPartsK_end fun W3 hE3 hG3 => ?_
        obtain ⟨⟨q, rfl, hq⟩, hrow, _⟩ := (show NewSl (numCells [(i.n % 18446744073709551616).toNat]) 45 1 u7 W3 ∧ W3.ownsRow base 5 1 u3 (l2 ++ highs [1] 1).length (u8s (l2 ++ highs [1] 1)) ∧ NewSl (numCells [1]) 45 1 u2 W3 ∧ True from hG3)
        have HR := Lib.hid hrow
        have HQ := Lib.hid hq
        have HE3 := Lib.hid hE3
        clear hrow hq hE3 hG3
        go_wp2_with fail
        (with_reducible refine (Try_numbers8 base q 1 [(i.n % 18446744073709551616).toNat] u3 (l2 ++ highs [1] 1) _ HQ.out rfl (by omega) HR.out (by have := HB2.out; have := HE3.out.size; omega) (by have := HL2L.out; rw [List.length_append, highs_len]; simp; omega) (by intro x hx; simp at hx; subst hx; omega)).mono ?_); rintro e w4 ⟨v4, rfl, ho4, hg4⟩
        have HO4 := Lib.hid ho4
        have HG4 := Lib.hid hg4
        clear ho4 hg4
        go_wp2
        go_ret
        refine ⟨v4, rfl, ?_, (Grew.of_below HBW.out).trans ((HE2.out.trans HE3.out).trans HG4.out)⟩
        have h := HO4.out
        rw [← HL2.out] at h
        rw [itemBytes_eq, hint, show flagN true = 1 from rfl]
        simpa only [List.append_assoc] using h
    | false =>
      rw [hint] at q2 HBX2
      go_wp2_with fail
      clear q2
      refine' wp_region_seqK (Grew base 5) (goes_grew _ _) 3 [.inl _, .inl _, .inr (NewSl (numCells [0]) 45 1), .inr (OwnIs base 5 (l2 ++ highs [0] 1)), .inl _, .inl _, .inl _, .inr (NewSl (numCells [(i.n % 18446744073709551616).toNat]) 45 1)] (by kernel_rfl) (by kernel_rfl) ?main3
      case main3 =>
        refine wpPartsK_det (by decide) (by rfl) (fun W hE hN => ?_) ?_
        · go_simp; refine ⟨Below.refl _ _, ?_⟩; rfl
        simp only [Act.put, List.setIfInBounds_toArray, List.set_cons_zero, List.set_cons_succ]
        refine wpPartsK_det (by decide) (by rfl) (fun W hE hN => ?_) ?_
        · go_simp; refine ⟨Below.refl _ _, ?_⟩; rfl
        simp only [Act.put, List.setIfInBounds_toArray, List.set_cons_zero, List.set_cons_succ]
        refine wpPartsK_any (by decide) rfl (NewSl.later) (NewSl.grew (by decide)) (by rfl) (fun W hE hN => ?_) (fun u2 => ?_)
        · go_simp; exact newSl_alloc
        simp only [Act.put, List.setIfInBounds_toArray, List.set_cons_zero, List.set_cons_succ]
        refine wpPartsK_writes (by decide) rfl (OwnIs.later) (by rfl) (fun W hE hN => ?_) (fun u3 => ?_)
        · obtain ⟨q, rfl, hq⟩ := (show NewSl (numCells [0]) 45 1 u2 W ∧ True from hN).1; go_simp; refine ⟨Below.refl _ _, ?_⟩; refine (Try_numbers1 base q 1 [0] v2 l2 W hq rfl (by omega) (ownsRow_ext HO2.out hE) (by have := HB2.out; have := hE.size; omega) (by have := HL2L.out; omega) (by intro x hx; simp at hx; subst hx; omega)).mono ?_; rintro e w' ⟨v', rfl, ho, hg⟩; exact ⟨v', rfl, hg, ho⟩
        simp only [Act.put, List.setIfInBounds_toArray, List.set_cons_zero, List.set_cons_succ]
        refine wpPartsK_det (by decide) (by rfl) (fun W hE hN => ?_) ?_
        · go_simp; refine ⟨Below.refl _ _, ?_⟩; rfl
        simp only [Act.put, List.setIfInBounds_toArray, List.set_cons_zero, List.set_cons_succ]
        refine wpPartsK_det (by decide) (by rfl) (fun W hE hN => ?_) ?_
        · have q1 := (hE.blk HBX2.out (by decide)).cells; go_simp; refine ⟨Below.refl _ _, ?_⟩; rfl
        simp only [Act.put, List.setIfInBounds_toArray, List.set_cons_zero, List.set_cons_succ]
        refine wpPartsK_det (by decide) (by rfl) (fun W hE hN => ?_) ?_
        · go_simp; refine ⟨Below.refl _ _, ?_⟩; rfl
        simp only [Act.put, List.setIfInBounds_toArray, List.set_cons_zero, List.set_cons_succ]
        refine wpPartsK_any (by decide) rfl (NewSl.later) (NewSl.grew (by decide)) (by rfl) (fun W hE hN => ?_) (fun u7 => ?_)
        · go_simp; rw [HNN.out]; exact newSl_alloc
        simp only [Act.put, List.setIfInBounds_toArray, List.set_cons_zero, List.set_cons_succ]
        refine wpPartsK_end fun W3 hE3 hG3 => ?_
        obtain ⟨⟨q, rfl, hq⟩, hrow, _⟩ := (show NewSl (numCells [(i.n % 18446744073709551616).toNat]) 45 1 u7 W3 ∧ W3.ownsRow base 5 1 u3 (l2 ++ highs [0] 1).length (u8s (l2 ++ highs [0] 1)) ∧ NewSl (numCells [0]) 45 1 u2 W3 ∧ True from hG3)
        have HR := Lib.hid hrow
        have HQ := Lib.hid hq
        have HE3 := Lib.hid hE3
        clear hrow hq hE3 hG3
        go_wp2_with fail
        (with_reducible refine (Try_numbers8 base q 1 [(i.n % 18446744073709551616).toNat] u3 (l2 ++ highs [0] 1) _ HQ.out rfl (by omega) HR.out (by have := HB2.out; have := HE3.out.size; omega) (by have := HL2L.out; rw [List.length_append, highs_len]; simp; omega) (by intro x hx; simp at hx; subst hx; omega)).mono ?_); rintro e w4 ⟨v4, rfl, ho4, hg4⟩
        have HO4 := Lib.hid ho4
        have HG4 := Lib.hid hg4
        clear ho4 hg4
        go_wp2
        go_ret
        refine ⟨v4, rfl, ?_, (Grew.of_below HBW.out).trans ((HE2.out.trans HE3.out).trans HG4.out)⟩
        have h := HO4.out
        rw [← HL2.out] at h
        rw [itemBytes_eq, hint, show flagN false = 0 from rfl]
        simpa only [List.append_assoc] using h

set_option maxRecDepth 8000 in
set_option maxHeartbeats 4000000 in
theorem Try_layKid (base : Nat) (S : Nat → Prop) (i : KidD) (u v : Value) (l : List UInt8) (w : World) (h : TryKidU w S u i) (hS : ∀ b, S b → b < base) (hv : w.ownsRow base 5 1 v l.length (u8s l)) (hb : base ≤ w.heap.size) (hlo : l.length ≤ 10000) (hk : i.key.length ≤ 1000) :
    Calls Try.prog 98 #[u, v] w (GivesRow 5 base (l ++ kidBytes i) w) := by
  obtain ⟨ka, kl, kc, h1, h2, h3, h4⟩ := h
  subst h1
  have e1 := h2.at_.hlen
  obtain ⟨w0, hw0⟩ : ∃ w0, (w.alloc (.cells #[.slice ka kl kc, .int .i64 i.at_, .int .i64 i.red.c, .int .i64 i.red.n, .int .i64 (hi i.red.s), .int .u64 (lo i.red.s), .int .i64 i.red.l, .int .i64 i.red.m] 101)).alloc (.cells #[.int .i64 i.red.c, .int .i64 i.red.n, .int .i64 (hi i.red.s), .int .u64 (lo i.red.s), .int .i64 i.red.l, .int .i64 i.red.m] 47) = w0 := ⟨_, rfl⟩
  have hbw : Below w.heap.size w w0 := by rw [← hw0]; exact (by repeat (first | (with_reducible exact Below.refl _ _) | (with_reducible exact Below.refl _ _) | (with_reducible refine Below.setCell ?_ (by first | omega | (simp; done) | (simp; omega)) _) | (with_reducible refine Below.alloc ?_ (by first | omega | (simp; done) | (simp; omega)) _) | (with_reducible refine Below.drew ?_) | (with_reducible refine below_drewN ?_ _)))
  have hBX : Blk w0 w.heap.size [.slice ka kl kc, .int .i64 i.at_, .int .i64 i.red.c, .int .i64 i.red.n, .int .i64 (hi i.red.s), .int .u64 (lo i.red.s), .int .i64 i.red.l, .int .i64 i.red.m] 101 := by rw [← hw0]; exact (Blk.new w _ _).alloc _
  have hRX : Blk w0 (w.heap.size + 1) [.int .i64 i.red.c, .int .i64 i.red.n, .int .i64 (hi i.red.s), .int .u64 (lo i.red.s), .int .i64 i.red.l, .int .i64 i.red.m] 47 := by rw [← hw0]; exact Blk.new' _ _ _ (by simp)
  have HBX := Lib.hid hBX
  have HRX := Lib.hid hRX
  have H2 := Lib.hid (h2.ext hbw)
  have HV := Lib.hid (ownsRow_ext hv hbw)
  have HS := Lib.hid hS
  have HB := Lib.hid (show base ≤ w0.heap.size by have := hbw.size; omega)
  have HBW := Lib.hid hbw
  have HK := Lib.hid (show kl ≤ 1000 by omega)
  have HLO := Lib.hid hlo
  have E1 := Lib.hid e1
  obtain ⟨ln, hln⟩ : ∃ n : Int → Nat, n = fun x => (x % 18446744073709551616).toNat := ⟨_, rfl⟩
  have wrp : ∀ x : Int, IntKind.u64.wrap x = ((ln x : Nat) : Int) := fun x => by rw [hln, wrap_u64]; dsimp only; rw [Int.toNat_of_nonneg (by omega)]
  have lnl : ∀ x : Int, ln x < 18446744073709551616 := fun x => by rw [hln]; dsimp only; omega
  have WRP := Lib.hid wrp
  have LNL := Lib.hid lnl
  have LOB := Lib.hid (show ((lo i.red.s).toNat : Int) = lo i.red.s ∧ (lo i.red.s).toNat < 18446744073709551616 by have := lo_bd i.red.s; omega)
  have HLN := Lib.hid hln
  clear hBX hRX h2 hv hS hb hbw e1 hk hlo h3 h4 hln wrp lnl
  go_enter Try.func98, Try.ntmps98
  go_wp2_with fail
  clear hw0
  refine' wp_region_seqK (Grew base 5) (goes_grew _ _) 3 [.inl _, .inl _, .inl _, .inr (OwnIs base 5 (l ++ (UInt8.ofNat i.key.length :: i.key))), .inl _, .inl _, .inl _, .inl _, .inl _, .inl _, .inl _, .inl _, .inl _, .inr (NewSl (numCells [ln i.at_, ln i.red.c, ln i.red.n]) 45 3)] (by kernel_rfl) (by kernel_rfl) ?main4
  case main4 =>
    refine wpPartsK_det (by decide) (by rfl) (fun W hE hN => ?_) ?_
    · go_simp; refine ⟨Below.refl _ _, ?_⟩; rfl
    simp only [Act.put, List.setIfInBounds_toArray, List.set_cons_zero, List.set_cons_succ]
    refine wpPartsK_det (by decide) (by rfl) (fun W hE hN => ?_) ?_
    · go_simp; refine ⟨Below.refl _ _, ?_⟩; rfl
    simp only [Act.put, List.setIfInBounds_toArray, List.set_cons_zero, List.set_cons_succ]
    refine wpPartsK_det (by decide) (by rfl) (fun W hE hN => ?_) ?_
    · have q1 := (hE.blk HBX.out (by decide)).cells; have q2 := (hE.blk HRX.out (by decide)).cells; go_simp; refine ⟨Below.refl _ _, ?_⟩; rfl
    simp only [Act.put, List.setIfInBounds_toArray, List.set_cons_zero, List.set_cons_succ]
    refine wpPartsK_writes (by decide) rfl (OwnIs.later) (by rfl) (fun W hE hN => ?_) (fun u3 => ?_)
    · go_simp; refine ⟨Below.refl _ _, ?_⟩; refine (Try_counted base S ka kl kc i.key v l W (H2.out.ext hE) HS.out (ownsRow_ext HV.out hE) (by have := HB.out; have := hE.size; omega) (by have := HLO.out; omega) (by have := HK.out; omega)).mono ?_; rintro e w' ⟨v', rfl, ho, hg⟩; exact ⟨v', rfl, hg, ho⟩
    simp only [Act.put, List.setIfInBounds_toArray, List.set_cons_zero, List.set_cons_succ]
    refine wpPartsK_det (by decide) (by rfl) (fun W hE hN => ?_) ?_
    · go_simp; refine ⟨Below.refl _ _, ?_⟩; rfl
    simp only [Act.put, List.setIfInBounds_toArray, List.set_cons_zero, List.set_cons_succ]
    refine wpPartsK_det (by decide) (by rfl) (fun W hE hN => ?_) ?_
    · have q1 := (hE.blk HBX.out (by decide)).cells; have q2 := (hE.blk HRX.out (by decide)).cells; go_simp; refine ⟨Below.refl _ _, ?_⟩; rfl
    simp only [Act.put, List.setIfInBounds_toArray, List.set_cons_zero, List.set_cons_succ]
    refine wpPartsK_det (by decide) (by rfl) (fun W hE hN => ?_) ?_
    · go_simp; refine ⟨Below.refl _ _, ?_⟩; rfl
    simp only [Act.put, List.setIfInBounds_toArray, List.set_cons_zero, List.set_cons_succ]
    refine wpPartsK_det (by decide) (by rfl) (fun W hE hN => ?_) ?_
    · go_simp; refine ⟨Below.refl _ _, ?_⟩; rfl
    simp only [Act.put, List.setIfInBounds_toArray, List.set_cons_zero, List.set_cons_succ]
    refine wpPartsK_det (by decide) (by rfl) (fun W hE hN => ?_) ?_
    · have q1 := (hE.blk HBX.out (by decide)).cells; have q2 := (hE.blk HRX.out (by decide)).cells; go_simp; refine ⟨Below.refl _ _, ?_⟩; rfl
    simp only [Act.put, List.setIfInBounds_toArray, List.set_cons_zero, List.set_cons_succ]
    refine wpPartsK_det (by decide) (by rfl) (fun W hE hN => ?_) ?_
    · go_simp; refine ⟨Below.refl _ _, ?_⟩; rfl
    simp only [Act.put, List.setIfInBounds_toArray, List.set_cons_zero, List.set_cons_succ]
    refine wpPartsK_det (by decide) (by rfl) (fun W hE hN => ?_) ?_
    · go_simp; refine ⟨Below.refl _ _, ?_⟩; rfl
    simp only [Act.put, List.setIfInBounds_toArray, List.set_cons_zero, List.set_cons_succ]
    refine wpPartsK_det (by decide) (by rfl) (fun W hE hN => ?_) ?_
    · have q1 := (hE.blk HBX.out (by decide)).cells; have q2 := (hE.blk HRX.out (by decide)).cells; go_simp; refine ⟨Below.refl _ _, ?_⟩; rfl
    simp only [Act.put, List.setIfInBounds_toArray, List.set_cons_zero, List.set_cons_succ]
    refine wpPartsK_det (by decide) (by rfl) (fun W hE hN => ?_) ?_
    · go_simp; refine ⟨Below.refl _ _, ?_⟩; rfl
    simp only [Act.put, List.setIfInBounds_toArray, List.set_cons_zero, List.set_cons_succ]
    refine wpPartsK_any (by decide) rfl (NewSl.later) (NewSl.grew (by decide)) (by rfl) (fun W hE hN => ?_) (fun u13 => ?_)
    · go_simp; rw [WRP.out, WRP.out, WRP.out]; exact newSl_alloc
    simp only [Act.put, List.setIfInBounds_toArray, List.set_cons_zero, List.set_cons_succ]
    refine wpPartsK_end fun W1 hE1 hG1 => ?_
    obtain ⟨⟨q, rfl, hq⟩, hrow, _⟩ := (show NewSl (numCells [ln i.at_, ln i.red.c, ln i.red.n]) 45 3 u13 W1 ∧ W1.ownsRow base 5 1 u3 (l ++ (UInt8.ofNat i.key.length :: i.key)).length (u8s (l ++ (UInt8.ofNat i.key.length :: i.key))) ∧ True from hG1)
    have HR := Lib.hid hrow
    have HQ := Lib.hid hq
    have HE1 := Lib.hid hE1
    clear hE1 hG1 hrow hq
    go_wp2_with fail
    (with_reducible refine (Try_numbers4 base q 3 [ln i.at_, ln i.red.c, ln i.red.n] u3 (l ++ (UInt8.ofNat i.key.length :: i.key)) _ HQ.out rfl (by omega) HR.out (by have := HB.out; have := HE1.out.size; omega) (by have := HLO.out; have := HK.out; have := E1.out; simp; omega) (by intro x hx; simp at hx; rcases hx with rfl | rfl | rfl <;> exact LNL.out _)).mono ?_); rintro e w2 ⟨v2, rfl, ho2, hg2⟩
    obtain ⟨l2, hl2⟩ : ∃ l2, l ++ (UInt8.ofNat i.key.length :: i.key) ++ highs [ln i.at_, ln i.red.c, ln i.red.n] 4 = l2 := ⟨_, rfl⟩
    rw [hl2] at ho2
    have HL2 := Lib.hid hl2
    have HL2L := Lib.hid (show l2.length ≤ 13000 by rw [← hl2, List.length_append, highs_len]; have := HLO.out; have := HK.out; have := E1.out; simp; omega)
    have HO2 := Lib.hid ho2
    have HE2 := Lib.hid (HE1.out.trans hg2)
    have q2 := (HE2.out.blk HRX.out (by decide)).cells
    have l2' := (HE2.out.blk HRX.out (by decide)).lt
    have HB2 := Lib.hid (show base ≤ w2.heap.size by have := HB.out; have := HE2.out.size; omega)
    have w1' := WRP.out (hi i.red.s)
    have w2' := WRP.out i.red.l
    have w3' := WRP.out i.red.m
    clear hl2 ho2 hg2
    have HQ4 := Lib.hid (show Blk (w2.alloc (.cells #[.int .u64 (ln (hi i.red.s) : Nat), .int .u64 (lo i.red.s), .int .u64 (ln i.red.l : Nat), .int .u64 (ln i.red.m : Nat)] 45)) w2.heap.size (numCells [ln (hi i.red.s), (lo i.red.s).toNat, ln i.red.l, ln i.red.m]) 45 by
      have e : numCells [ln (hi i.red.s), (lo i.red.s).toNat, ln i.red.l, ln i.red.m] = [.int .u64 (ln (hi i.red.s) : Nat), .int .u64 (lo i.red.s), .int .u64 (ln i.red.l : Nat), .int .u64 (ln i.red.m : Nat)] := by unfold numCells; simp only [List.map_cons, List.map_nil, LOB.out.1]
      rw [e]
      exact Blk.new w2 _ _)
    have HO4 := Lib.hid (ownsRow_ext HO2.out ((Below.refl _ w2).alloc (Nat.le_refl _) (.cells #[.int .u64 (ln (hi i.red.s) : Nat), .int .u64 (lo i.red.s), .int .u64 (ln i.red.l : Nat), .int .u64 (ln i.red.m : Nat)] 45)))
    go_wp2_with fail
    (with_reducible refine (Try_numbers8 base w2.heap.size 4 [ln (hi i.red.s), (lo i.red.s).toNat, ln i.red.l, ln i.red.m] v2 l2 _ HQ4.out rfl (by omega) HO4.out (by have := HB2.out; simp; omega) (by have := HL2L.out; omega) (by intro x hx; simp at hx; rcases hx with rfl | rfl | rfl | rfl <;> first | exact LNL.out _ | exact LOB.out.2)).mono ?_); rintro e w4 ⟨v4, rfl, ho4, hg4⟩
    have HO5 := Lib.hid ho4
    have HG5 := Lib.hid hg4
    clear ho4 hg4
    go_wp2
    go_ret
    refine ⟨v4, rfl, ?_, ((Grew.of_below HBW.out).trans HE2.out).trans ((Grew.of_below ((Below.refl _ w2).alloc (Nat.le_refl _) _)).trans HG5.out)⟩
    have h := HO5.out
    rw [← HL2.out, HLN.out] at h
    dsimp only at h
    rw [kidBytes_eq]
    simpa only [List.append_assoc] using h
theorem Try_layPart (base : Nat) (S : Nat → Prop) (x : PartD) (u v : Value) (l : List UInt8) (w : World) (h : TryPartU w S u x) (hS : ∀ b, S b → b < base) (hv : w.ownsRow base 5 1 v l.length (u8s l)) (hb : base ≤ w.heap.size) (hlo : l.length ≤ 10000) (hok : pOk x = true) :
    Calls Try.prog (TryFLay x) #[u, v] w (GivesRow 5 base (l ++ pBytes x) w) := by
  obtain ⟨h1, h2⟩ := pOk_sizes hok
  cases x with
  | inl i => exact Try_layItem base S i u v l w h hS hv hb hlo (by unfold pKey at h1; dsimp only at h1; omega) (by have := h2 i rfl; omega)
  | inr k => exact Try_layKid base S k u v l w h hS hv hb hlo (by unfold pKey at h1; dsimp only at h1; omega)
end Go.Proofs.Ytfhhcpolicdfpaa
