/-
  Layer 14: a node in memory of its own, walked.
-/
import Derived.Test.YtfhhcpolicdfpaaQNodY
namespace Go.Dav
set_option linter.unusedVariables false
set_option linter.unusedSimpArgs false
open Go Go.RowKit
section
variable {P : Program} {ops : Array Oper} {w : World} {Q : Exit → Act → World → Prop} {o : Oper} {os : List Oper} {ps : List Piece} {G : List (Tmp × (World → Prop))} {a : Act} {K0 : World → World → Prop} {p0 k : Nat}
/-- The one operation that writes, whose value is known. -/
theorem wpPartsK_wdet {v : Value} (hk : k = p0) (hw : Region.wanted o (yielded ops a.tmps) = true) (h : ∀ W, Below w.heap.size w W → near ops o G W → GivesK P K0 o a W (fun u _ => u = v))
    (hr : wpPartsK P K0 p0 ops w Q (k + 1) os ps G (a.put o.dst v)) : wpPartsK P K0 p0 ops w Q k (o :: os) (.inl v :: ps) G a := by
  unfold wpPartsK
  rw [if_pos hw]
  exact ⟨fun W _ h0 h2 => gives_relW hk (h W (h0 hk) h2), hr⟩
end
theorem goes_only (p : Nat → Prop) : Goes (OnlyS p) := ⟨fun _ _ h => OnlyS.of_below h, fun _ _ _ h k => h.trans k⟩
theorem NewBytes.onlyS {B g : Nat} {x : List UInt8} (hg : g < B) : ∀ v W W', NewBytes B x v W → OnlyS (fun b => b = g) W W' → NewBytes B x v W' :=
  fun _ _ _ ⟨a, n, c, h1, h2⟩ hb => ⟨a, n, c, h1, h2.onlyS hb (fun b h e => by omega)⟩
/-- Rows of items, of kids: a call's own. -/
def ItemRow (t : TypeId) (B : Nat) (S : Nat → Prop) (l : List ItemD) (v : Value) (W : World) : Prop := ∃ cs, W.ownsRow B t 4 v l.length cs ∧ ItemCells W S cs l
def KidRow (t : TypeId) (B : Nat) (S : Nat → Prop) (l : List KidD) (v : Value) (W : World) : Prop := ∃ cs, W.ownsRow B t 8 v l.length cs ∧ KidCells W S cs l
theorem ItemRow.later {t : TypeId} {B : Nat} {S : Nat → Prop} {l : List ItemD} : ∀ v W W', ItemRow t B S l v W → Below W.heap.size W W' → ItemRow t B S l v W' :=
  fun _ _ _ ⟨cs, h1, h2⟩ hb => ⟨cs, ownsRow_ext h1 hb, h2.same hb.size fun b _ h => hb.block b h⟩
theorem KidRow.later {t : TypeId} {B : Nat} {S : Nat → Prop} {l : List KidD} : ∀ v W W', KidRow t B S l v W → Below W.heap.size W W' → KidRow t B S l v W' :=
  fun _ _ _ ⟨cs, h1, h2⟩ hb => ⟨cs, ownsRow_ext h1 hb, h2.same hb.size fun b _ h => hb.block b h⟩
def ownI (x : ItemD) : ItemD := ⟨x.key.take 121, x.value.take 121, x.int, x.n⟩
def ownK (x : KidD) : KidD := ⟨x.key.take 121, x.at_, x.red⟩
def ownN (n : NodeD) : NodeD := ⟨n.leaf, (n.items.take 7).map ownI, (n.kids.take 7).map ownK⟩
/-- The first k have been turned. -/
def turnI (l : List ItemD) (k : Nat) : List ItemD := (l.take k).map ownI ++ l.drop k
def turnK (l : List KidD) (k : Nat) : List KidD := (l.take k).map ownK ++ l.drop k
theorem turnI_get {l : List ItemD} {k : Nat} {x : ItemD} (h : l[k]? = some x) : (turnI l k)[k]? = some x := by
  have hk := (List.getElem?_eq_some_iff.1 h).1
  unfold turnI
  rw [List.getElem?_append_right (by simp; omega)]
  simp [List.getElem?_drop, h]
  rw [show min k l.length = k by omega]; simpa using h
theorem turnK_get {l : List KidD} {k : Nat} {x : KidD} (h : l[k]? = some x) : (turnK l k)[k]? = some x := by
  have hk := (List.getElem?_eq_some_iff.1 h).1
  unfold turnK
  rw [List.getElem?_append_right (by simp; omega)]
  simp [List.getElem?_drop, h]
  rw [show min k l.length = k by omega]; simpa using h
theorem turnI_set {l : List ItemD} {k : Nat} {x : ItemD} (h : l[k]? = some x) : turnI l (k + 1) = (turnI l k).set k (ownI x) := by
  have hk := (List.getElem?_eq_some_iff.1 h).1
  unfold turnI
  rw [List.set_append_right _ _ (by simp; omega), List.take_add_one, h]
  simp only [Option.toList_some, List.map_append, List.map_cons, List.map_nil, List.length_map, List.length_take]
  rw [show k - min k l.length = 0 by omega, List.drop_eq_getElem_cons hk, List.set_cons_zero]
  simp
theorem turnK_set {l : List KidD} {k : Nat} {x : KidD} (h : l[k]? = some x) : turnK l (k + 1) = (turnK l k).set k (ownK x) := by
  have hk := (List.getElem?_eq_some_iff.1 h).1
  unfold turnK
  rw [List.set_append_right _ _ (by simp; omega), List.take_add_one, h]
  simp only [Option.toList_some, List.map_append, List.map_cons, List.map_nil, List.length_map, List.length_take]
  rw [show k - min k l.length = 0 by omega, List.drop_eq_getElem_cons hk, List.set_cons_zero]
  simp
/-- Items' cells, the first k of which lie in T, the others in S. -/
def MixI (W : World) (S T : Nat → Prop) (cs : List Value) (l : List ItemD) (k : Nat) : Prop :=
  cs.length = l.length * 4 ∧ ∀ (i : Nat) (x : ItemD), l[i]? = some x → ∃ ka kl kc va vl vc, cs[i * 4]? = some (.slice ka kl kc) ∧ cs[i * 4 + 1]? = some (.slice va vl vc) ∧ cs[i * 4 + 2]? = some (.bool x.int) ∧ cs[i * 4 + 3]? = some (.int .i64 x.n) ∧ BytesS W (fun b => if i < k then T b else S b) ka kl kc x.key ∧ BytesS W (fun b => if i < k then T b else S b) va vl vc x.value ∧ I64' x.n
end Go.Dav
