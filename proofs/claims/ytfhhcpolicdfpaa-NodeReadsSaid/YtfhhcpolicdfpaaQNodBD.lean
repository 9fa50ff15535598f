/-
  Layer 14: nodes in boxes that a region makes and fills.
-/
import Derived.Test.YtfhhcpolicdfpaaQBoxZ
import Derived.Test.YtfhhcpolicdfpaaNdA
namespace Go.Dav
set_option linter.unusedVariables false
set_option linter.unusedSimpArgs false
open Go Go.RowKit
def NBox (cs : List Value) : Prop := ∃ f a n c a' n' c', cs = [.bool f, .slice a n c, .slice a' n' c']
theorem NBox.mk (f : Bool) (a a' : Option Addr) (n c n' c' : Nat) : NBox [.bool f, .slice a n c, .slice a' n' c'] := ⟨_, _, _, _, _, _, _, rfl⟩
theorem NBox.noU8 : noU8 NBox := by
  rintro cs ⟨f, a, n, c, a', n', c', rfl⟩ v hv x e
  subst e
  simp at hv
theorem NBox.short {cs : List Value} (h : NBox cs) {o : Nat} (ho : 3 ≤ o) (v : Value) : cs[o]? ≠ some v := by
  obtain ⟨f, a, n, c, a', n', c', rfl⟩ := h
  match o, ho with
  | o + 3, _ => simp
theorem ItemsS.keepZ {B : Nat} {t : TypeId} {W W' : World} {S : Nat → Prop} {a : Option Addr} {len cap : Nat} {l : List ItemD} (h : ItemsS W S a len cap l) (k : OnlyZ B NBox t W W') : ItemsS W' S a len cap l :=
  ⟨h.hlen, h.hcap, h.hmax, h.hfew, fun j x hj => by
    obtain ⟨b, o, ka, kl, kc, va, vl, vc, h1, h2, h3, c0, c1, c2, c3, h4, h5, h6⟩ := h.hat j x hj
    have e := k.cell c3 (fun cs hz => hz.short (by omega) _)
    have hc := fun j => World.cell?_of_block (a := ⟨b, j, none⟩) e
    exact ⟨b, o, ka, kl, kc, va, vl, vc, h1, Nat.lt_of_lt_of_le h2 k.size, h3, (hc _).trans c0, (hc _).trans c1, (hc _).trans c2, (hc _).trans c3, h4.keepZ k NBox.noU8, h5.keepZ k NBox.noU8, h6⟩, h.hnil⟩
theorem KidsS.keepZ {B : Nat} {t : TypeId} {W W' : World} {S : Nat → Prop} {a : Option Addr} {len cap : Nat} {l : List KidD} (h : KidsS W S a len cap l) (k : OnlyZ B NBox t W W') : KidsS W' S a len cap l :=
  ⟨h.hlen, h.hcap, h.hmax, h.hfew, fun j x hj => by
    obtain ⟨b, o, ka, kl, kc, h1, h2, h3, c0, c1, c2, c3, c4, c5, c6, c7, h4, h5, h6⟩ := h.hat j x hj
    have e := k.cell c3 (fun cs hz => hz.short (by omega) _)
    have hc := fun j => World.cell?_of_block (a := ⟨b, j, none⟩) e
    exact ⟨b, o, ka, kl, kc, h1, Nat.lt_of_lt_of_le h2 k.size, h3, (hc _).trans c0, (hc _).trans c1, (hc _).trans c2, (hc _).trans c3, (hc _).trans c4, (hc _).trans c5, (hc _).trans c6, (hc _).trans c7, h4.keepZ k NBox.noU8, h5, h6⟩, h.hnil⟩
theorem ItemsS.offZ {W : World} {S : Nat → Prop} {a : Option Addr} {len cap p t : Nat} {l : List ItemD} {cs : List Value} (h : ItemsS W S a len cap l) (hp : Blk W p cs t) (hz : NBox cs) : ItemsS W (fun b => S b ∧ b ≠ p) a len cap l :=
  ⟨h.hlen, h.hcap, h.hmax, h.hfew, fun j x hj => by
    obtain ⟨b, o, ka, kl, kc, va, vl, vc, h1, h2, h3, c0, c1, c2, c3, h4, h5, h6⟩ := h.hat j x hj
    exact ⟨b, o, ka, kl, kc, va, vl, vc, h1, h2, ⟨h3, fun e => by subst e; rw [hp.cells] at c3; exact hz.short (by omega) _ c3⟩, c0, c1, c2, c3, h4.offZ hp hz NBox.noU8, h5.offZ hp hz NBox.noU8, h6⟩, h.hnil⟩
theorem KidsS.offZ {W : World} {S : Nat → Prop} {a : Option Addr} {len cap p t : Nat} {l : List KidD} {cs : List Value} (h : KidsS W S a len cap l) (hp : Blk W p cs t) (hz : NBox cs) : KidsS W (fun b => S b ∧ b ≠ p) a len cap l :=
  ⟨h.hlen, h.hcap, h.hmax, h.hfew, fun j x hj => by
    obtain ⟨b, o, ka, kl, kc, h1, h2, h3, c0, c1, c2, c3, c4, c5, c6, c7, h4, h5, h6⟩ := h.hat j x hj
    exact ⟨b, o, ka, kl, kc, h1, h2, ⟨h3, fun e => by subst e; rw [hp.cells] at c3; exact hz.short (by omega) _ c3⟩, c0, c1, c2, c3, c4, c5, c6, c7, h4.offZ hp hz NBox.noU8, h5, h6⟩, h.hnil⟩
/-- A node's value; it lies at B or beyond. -/
def NodeV (B : Nat) (N : NodeD) (v : Value) (W : World) : Prop := ∃ ja jl jc la ll lc, v = .agg #[.bool N.leaf, .slice ja jl jc, .slice la ll lc] ∧ NodeS W (fun b => B ≤ b) ja jl jc la ll lc N
theorem NodeV.later {B : Nat} {N : NodeD} : ∀ v W W', NodeV B N v W → Below W.heap.size W W' → NodeV B N v W' := fun _ _ _ ⟨ja, jl, jc, la, ll, lc, h1, h2⟩ hb => ⟨ja, jl, jc, la, ll, lc, h1, h2.ext hb⟩
theorem NodeV.keepZ {B B' : Nat} {N : NodeD} {t : TypeId} : ∀ v W W', NodeV B N v W → OnlyZ B' NBox t W W' → NodeV B N v W' := fun _ _ _ ⟨ja, jl, jc, la, ll, lc, h1, h2⟩ hk => ⟨ja, jl, jc, la, ll, lc, h1, h2.items.keepZ hk, h2.kids.keepZ hk⟩
theorem NodeS.offZ {W : World} {S : Nat → Prop} {ia ka : Option Addr} {il ic kl kc p t : Nat} {N : NodeD} {cs : List Value} (h : NodeS W S ia il ic ka kl kc N) (hp : Blk W p cs t) (hz : NBox cs) : NodeS W (fun b => S b ∧ b ≠ p) ia il ic ka kl kc N := ⟨h.items.offZ hp hz, h.kids.offZ hp hz⟩
theorem NodeS.keepZ {B : Nat} {t : TypeId} {W W' : World} {S : Nat → Prop} {ia ka : Option Addr} {il ic kl kc : Nat} {N : NodeD} (h : NodeS W S ia il ic ka kl kc N) (k : OnlyZ B NBox t W W') : NodeS W' S ia il ic ka kl kc N := ⟨h.items.keepZ k, h.kids.keepZ k⟩
/-- What is laid over a node's box. -/
theorem nbox_store {W : World} {p t : Nat} {cs : List Value} {v0 v1 v2 : Value} (h : Blk W p cs t) (hz : NBox cs) : Blk (((W.setCell ⟨p, 0, none⟩ v0).setCell ⟨p, 1, none⟩ v1).setCell ⟨p, 2, none⟩ v2) p [v0, v1, v2] t := by
  obtain ⟨f, a, n, c, a', n', c', rfl⟩ := hz
  exact ((h.set 0 _).set 1 _).set 2 _
/-- A box whose pointer lies in slot s holds a node. -/
def StoredN (s B : Nat) (N : NodeD) (t : TypeId) (a : Act) (W : World) : Prop := ∃ p ja jl jc la ll lc, a.tmps[s]? = some (.pointer (some ⟨p, 0, none⟩)) ∧ B ≤ p ∧ Blk W p [.bool N.leaf, .slice ja jl jc, .slice la ll lc] t ∧ NodeS W (fun b => B ≤ b ∧ b ≠ p) ja jl jc la ll lc N
theorem StoredN.later {s B : Nat} {N : NodeD} {t : TypeId} : ∀ a W W', StoredN s B N t a W → Below W.heap.size W W' → StoredN s B N t a W' := fun _ _ _ ⟨p, ja, jl, jc, la, ll, lc, h1, h2, h3, h4⟩ hb => ⟨p, ja, jl, jc, la, ll, lc, h1, h2, h3.ext hb, h4.ext hb⟩
theorem StoredN.local {s B : Nat} {N : NodeD} {t : TypeId} {a a' : Act} {W : World} (h : StoredN s B N t a W) (e : a.tmps[s]? = a'.tmps[s]?) : StoredN s B N t a' W := by
  obtain ⟨p, ja, jl, jc, la, ll, lc, h1, h2⟩ := h
  exact ⟨p, ja, jl, jc, la, ll, lc, e.symm.trans h1, h2⟩
end Go.Dav
