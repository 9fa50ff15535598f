/-
  Slices of one-cell elements: what they hold; append to one that is full, or to a row of the call's own, from whatever slice.
-/
import Derived.Test.YtdebmifjfemcjaaFilD
import Derived.Test.YtdebmifjfemcjaaParts
import Derived.Deep.Upon
import Derived.Deep.MidRow
import Derived.Laws.OwnMore
import Derived.Tactics
import Derived.OwnWalk
namespace Go.Dav
set_option linter.unusedVariables false
set_option linter.unusedSimpArgs false
open Go Go.RowKit

/-- The cells of a slice, and the blocks where they lie. -/
structure CellsS (W : World) (S : Nat → Prop) (a : Option Addr) (n : Nat) (xs : List Value) : Prop where
  len : xs.length = n
  at_ : ∀ (k : Nat) (v : Value), xs[k]? = some v → ∃ b o : Nat, a = some ⟨b, o, none⟩ ∧ b < W.heap.size ∧ S b ∧ W.cell? ⟨b, o + k, none⟩ = some v

/-- Bytes, as cells. -/
def u8s (l : List UInt8) : List Value := l.map fun x => Value.int .u8 (x.toNat : Int)
theorem u8s_one (l : List UInt8) : ∀ u ∈ u8s l, u.oneCell' = true := fun u hu => by
  obtain ⟨x, _, rfl⟩ := List.mem_map.1 hu; rfl
theorem u8s_len (l : List UInt8) : (u8s l).length = l.length := by simp [u8s]
theorem u8s_append (l k : List UInt8) : u8s (l ++ k) = u8s l ++ u8s k := by simp [u8s]
theorem u8s_inj {l k : List UInt8} (h : u8s l = u8s k) : l = k := by
  unfold u8s at h
  refine (List.map_inj_right (fun x y hxy => ?_)).1 h
  injection hxy with _ h
  exact UInt8.toNat_inj.1 (by omega)
theorem u8s_get {l : List UInt8} {k : Nat} {x : UInt8} (h : l[k]? = some x) : (u8s l)[k]? = some (.int .u8 (x.toNat : Int)) := by simp [u8s, h]

theorem BytesS.cells {W : World} {S : Nat → Prop} {a : Option Addr} {n cap : Nat} {l : List UInt8} (h : BytesS W S a n cap l) : CellsS W S a n (u8s l) :=
  ⟨by rw [u8s_len, h.at_.hlen], fun k v hk => by
    unfold u8s at hk
    rw [List.getElem?_map] at hk
    cases hx : l[k]? with
    | none => rw [hx] at hk; cases hk
    | some x =>
      rw [hx] at hk
      cases hk
      obtain ⟨b, o, h1, h2, h3⟩ := h.at_.hat k x hx
      obtain ⟨b', o', h1', h4⟩ := h.in_ k x hx
      rw [h1] at h1'; cases h1'
      exact ⟨b, o, h1, h2, h4, h3⟩⟩
theorem BytesS.of_cells {W : World} {S : Nat → Prop} {a : Option Addr} {n cap : Nat} {l : List UInt8} (h : CellsS W S a n (u8s l)) (h1 : n ≤ cap) (h2 : cap ≤ maxLen) (h3 : n ≤ 140737488355328) (h4 : a = none → cap = 0) : BytesS W S a n cap l :=
  ⟨⟨by rw [← h.len, u8s_len], h1, h2, h3, fun k x hk => by
    obtain ⟨b, o, g1, g2, _, g4⟩ := h.at_ k _ (u8s_get hk)
    exact ⟨b, o, g1, g2, g4⟩, h4⟩, fun k x hk => by
    obtain ⟨b, o, g1, _, g3, _⟩ := h.at_ k _ (u8s_get hk)
    exact ⟨b, o, g1, g3⟩⟩

theorem CellsS.ext {W W' : World} {S : Nat → Prop} {a : Option Addr} {n : Nat} {xs : List Value} (h : CellsS W S a n xs) (hb : Below W.heap.size W W') : CellsS W' S a n xs :=
  ⟨h.len, fun k v hk => by
    obtain ⟨b, o, h1, h2, h3, h4⟩ := h.at_ k v hk
    exact ⟨b, o, h1, Nat.lt_of_lt_of_le h2 hb.size, h3, by rw [hb.cell (p := ⟨b, o + k, none⟩) h2]; exact h4⟩⟩
theorem CellsS.same {W W' : World} {S : Nat → Prop} {a : Option Addr} {n : Nat} {xs : List Value} (h : CellsS W S a n xs) (hs : W.heap.size ≤ W'.heap.size) (hb : ∀ b, S b → b < W.heap.size → W'.heap[b]? = W.heap[b]?) : CellsS W' S a n xs :=
  ⟨h.len, fun k v hk => by
    obtain ⟨b, o, h1, h2, h3, h4⟩ := h.at_ k v hk
    exact ⟨b, o, h1, by omega, h3, (World.cell?_of_block (hb b h3 h2)).trans h4⟩⟩
theorem CellsS.mono {W : World} {S T : Nat → Prop} {a : Option Addr} {n : Nat} {xs : List Value} (h : CellsS W S a n xs) (hst : ∀ b, S b → T b) : CellsS W T a n xs :=
  ⟨h.len, fun k v hk => by
    obtain ⟨b, o, h1, h2, h3, h4⟩ := h.at_ k v hk
    exact ⟨b, o, h1, h2, hst b h3, h4⟩⟩
theorem CellsS.nil_ {W : World} {S : Nat → Prop} {a : Option Addr} : CellsS W S a 0 [] := ⟨rfl, fun k v hk => by simp at hk⟩

/-- The cells that lie one behind the other from an address on. -/
theorem CellsS.from_ {W : World} {S : Nat → Prop} {ad : Addr} {n : Nat} {xs : List Value} (h : CellsS W S (some ad) n xs) : ∀ j u, xs[j]? = some u → W.cell? (ad.add j) = some u := fun j u hj => by
  obtain ⟨b, o, h1, _, _, h4⟩ := h.at_ j u hj
  cases h1
  rw [Addr.add_mid]
  exact h4

theorem CellsS.src {P : Program} {W : World} {S : Nat → Prop} {a : Option Addr} {n c : Nat} {xs : List Value} (h : CellsS W S a n xs) (h1 : ∀ u ∈ xs, u.oneCell' = true) {t e : TypeId} (ht : P.underlying t = some (.slice e)) : Src P 1 t (.slice a n c) n xs W := by
  cases a with
  | none =>
    have h0 : xs = [] := by
      cases xs with
      | nil => rfl
      | cons x xs => obtain ⟨b, o, h1, _⟩ := h.at_ 0 x rfl; cases h1
    subst h0
    have hn : n = 0 := by have := h.len; simpa using this.symm
    subst hn
    exact Src.ofNil W ht c
  | some ad => exact Src.ofSlice W ht ad n c xs (by rw [h.len]; omega) h.from_ h1

/-- The element's row of the table: one cell. -/
structure Elem1 (P : Program) (t e : TypeId) (bytes : Nat) : Prop where
  ht : P.underlying t = some (.slice e)
  row : ∃ i z, P.info? e = some i ∧ i.zero = some z ∧ i.size = 1 ∧ i.bytes = bytes ∧ z.cells.size = 1

theorem own_cells {w : World} {base e n : Nat} {v : Value} {xs : List Value} (h : w.ownsRow base e 1 v n xs) :
    ∃ a cap, v = .slice a n cap ∧ n ≤ cap ∧ cap ≤ maxLen ∧ (a = none → cap = 0) ∧ CellsS w (fun b => base ≤ b) a n xs := by
  rcases h.2 with ⟨h1, h2⟩ | ⟨g, cap, cur, h1, h2, h3, h4, h5, _⟩
  · subst h1 h2
    have hx : xs = [] := List.length_eq_zero_iff.1 (by have := h.1; omega)
    subst hx
    exact ⟨none, 0, rfl, Nat.le_refl _, by unfold maxLen; omega, fun _ => rfl, CellsS.nil_⟩
  · subst h1
    refine ⟨_, cap, rfl, h4, h5, (fun h => by cases h), by have := h.1; omega, fun k v hk => ⟨g, 0, rfl, (Array.getElem?_eq_some_iff.1 h3).1, h2, ?_⟩⟩
    have := h.cells (g := g) rfl k v hk
    rw [Addr.add_mid] at this
    exact this

section
variable {P : Program} {W : World}

/-- append to a row of the call's own, from whatever slice. -/
theorem run_append_rowS {t e bytes : Nat} (E : Elem1 P t e bytes) (ty : TypeId) (base : Nat) (v : Value) (n : Nat) (xs : List Value) (hown : W.ownsRow base e 1 v n xs) (T : Nat → Prop) (ax : Option Addr) (m c : Nat) (ys : List Value) (hy : CellsS W T ax m ys)
    (h1 : ∀ u ∈ ys, u.oneCell' = true) (hnone : ax = none → c = 0) (h63 : n + m ≤ maxLen) (hbytes : (n + m) * bytes ≤ 140737488355328) (hbase : base ≤ W.heap.size) :
    ∃ v' w', (Builtin.append_ #[t, t] ty #[v, .slice ax m c]).run P W = .ok v' w' ∧ w'.ownsRow base e 1 v' (n + m) (xs ++ ys) ∧ W.grownBy w' v.ownBlock := by
  obtain ⟨i, z, hi, hz, hs, hb, hzs⟩ := E.row
  cases ax with
  | none =>
    have h0 : ys = [] := by
      cases ys with
      | nil => rfl
      | cons x xs => obtain ⟨b, o, h1, _⟩ := hy.at_ 0 x rfl; cases h1
    subst h0
    have hm : m = 0 := by have := hy.len; simpa using this.symm
    have hc := hnone rfl
    subst hm hc
    exact ⟨v, W, run_append_owned_none W base t ty e i 1 E.ht hi v n xs hown, by simpa using hown, World.grownBy.refl _ _⟩
  | some ad =>
    obtain ⟨v', w', r1, r2, r3, _⟩ := run_append_own (P := P) W base t ty e i z 1 bytes E.ht hi hz hs hb hzs (by omega) v n xs hown ad m c ys (by rw [hy.len]; omega) hy.from_ h1 h63 hbytes hbase
    exact ⟨v', w', r1, r2, r3⟩

/-- append to a slice that is full, from whatever slice. -/
theorem run_append_fullS {t e bytes : Nat} (E : Elem1 P t e bytes) (ty : TypeId) (S : Nat → Prop) (a : Option Addr) (n : Nat) (xs : List Value) (hx : CellsS W S a n xs) (T : Nat → Prop) (ax : Option Addr) (m c : Nat) (ys : List Value) (hy : CellsS W T ax m ys)
    (h1 : ∀ u ∈ ys, u.oneCell' = true) (hnone : a = none → n = 0) (h63 : n + m ≤ maxLen) (hbytes : (n + m) * bytes ≤ 140737488355328) :
    ∃ a' cap' w', (Builtin.append_ #[t, t] ty #[.slice a n n, .slice ax m c]).run P W = .ok (.slice a' (n + m) cap') w' ∧ CellsS w' (fun b => (S b ∧ m = 0) ∨ W.heap.size ≤ b) a' (n + m) (xs ++ ys) ∧ n + m ≤ cap' ∧ cap' ≤ maxLen ∧ (a' = none → cap' = 0) ∧ Below W.heap.size W w' := by
  obtain ⟨i, z, hi, hz, hs, hb, hzs⟩ := E.row
  have hsrc : Src P i.size t (.slice ax m c) m ys W := by rw [hs]; exact hy.src h1 E.ht
  by_cases hm : m = 0
  · subst hm
    have h0 : ys = [] := List.length_eq_zero_iff.1 hy.len
    subst h0
    refine ⟨a, n, W, run_append_nothing W t t ty e i E.ht hi a n n (Nat.le_refl _) _ hsrc, ?_, Nat.le_refl _, by omega, hnone, Below.refl _ _⟩
    rw [List.append_nil]
    exact hx.mono fun b hb => .inl ⟨hb, rfl⟩
  · have hold : (Builtin.firstCells i.size n (.slice a n n)).run P W.drew = .ok xs.toArray W.drew := by
      cases a with
      | none =>
        have h0 : xs = [] := by
          cases xs with
          | nil => rfl
          | cons x xs => obtain ⟨b, o, h1, _⟩ := hx.at_ 0 x rfl; cases h1
        subst h0
        rw [hnone rfl]
        exact run_firstCells_none W.drew i.size 0 0 0
      | some ad =>
        refine run_firstCells_some W.drew i.size n ad n n xs (by rw [hx.len, hs]; omega) ?_
        have := hx.from_
        simpa using this
    have h64 : n + m ≤ 9223372036854775807 := by simp only [maxLen] at h63; omega
    have hr := run_append_grow_src (P := P) W t t ty e i z E.ht hi hz a n n xs hold _ m ys hsrc (by omega) (by omega) (growslice_fits (by omega) (by rw [hb]; exact hbytes))
    have hge := grownCap_ge W (n + m) n e
    have hcm : grownCap W (n + m) n e ≤ maxLen := grownCap_le_maxLen W (n + m) n e h63
    refine ⟨_, _, _, hr, ⟨by rw [List.length_append, hx.len, hy.len], fun k v hk => ⟨W.heap.size, 0, rfl, by simp, .inr (Nat.le_refl _), ?_⟩⟩, hge, hcm, (fun h => by cases h), ?_⟩
    · have hnew := heap_alloc_new W.drew (.cells ((xs ++ ys).toArray ++ Builtin.zeroCells z.cells (grownCap W (n + m) n e - (n + m))) e)
      have hlt := (List.getElem?_eq_some_iff.1 hk).1
      rw [World.cell?]
      have e1 : W.drew.heap.size = W.heap.size := rfl
      rw [e1] at hnew
      simp only [hnew]
      simp
      rw [Array.getElem?_append_left (by simpa using hlt)]
      simpa using hk
    · exact (Below.refl _ _).drew.alloc (Nat.le_refl _) _

variable {ops : Array Oper} {rest : List Oper} {o : Oper} {a : Act} {Q : Exit → Act → World → Prop}

theorem wpList_append_rowS (hgd : o.guard = none) (s x : Operand) (t : TypeId) (ho : o.op = .call { callee := .builtin .append, args := #[s, x], argTypes := #[t, t] }) {e bytes : Nat} (E : Elem1 P t e bytes) (base : Nat) (v : Value) (n : Nat) (xs : List Value) (hs : a.eval s = v) (hown : W.ownsRow base e 1 v n xs)
    (T : Nat → Prop) (ax : Option Addr) (m c : Nat) (ys : List Value) (hx : a.eval x = .slice ax m c) (hy : CellsS W T ax m ys)
    (h1 : ∀ u ∈ ys, u.oneCell' = true) (hnone : ax = none → c = 0) (h63 : n + m ≤ maxLen) (hbytes : (n + m) * bytes ≤ 140737488355328) (hbase : base ≤ W.heap.size)
    (h : ∀ v' w', w'.ownsRow base e 1 v' (n + m) (xs ++ ys) → W.grownBy w' v.ownBlock → wpList P ops Q rest (a.put o.dst v') w') : wpList P ops Q (o :: rest) a W := by
  refine wpList_plain hgd fun K hK => ?_
  obtain ⟨v', w', hr, h2, h3⟩ := run_append_rowS (P := P) E o.type base v n xs hown T ax m c ys hy h1 hnone h63 hbytes hbase
  unfold Oper.wp execOp
  simp only [ho, resolve, invoke, builtin, Sem.run_bind, Sem.run_pure, Result.andThen_ok, List.map_toArray, List.map_cons, List.map_nil, hs, hx, hr]
  exact hK _ _ (h v' w' h2 h3)

theorem wpList_append_fullS (hgd : o.guard = none) (s x : Operand) (t : TypeId) (ho : o.op = .call { callee := .builtin .append, args := #[s, x], argTypes := #[t, t] }) {e bytes : Nat} (E : Elem1 P t e bytes) (S : Nat → Prop) (b : Option Addr) (n : Nat) (xs : List Value) (hs : a.eval s = .slice b n n) (hx' : CellsS W S b n xs)
    (T : Nat → Prop) (ax : Option Addr) (m c : Nat) (ys : List Value) (hx : a.eval x = .slice ax m c) (hy : CellsS W T ax m ys)
    (h1 : ∀ u ∈ ys, u.oneCell' = true) (hnone : b = none → n = 0) (h63 : n + m ≤ maxLen) (hbytes : (n + m) * bytes ≤ 140737488355328)
    (h : ∀ a' cap' w', CellsS w' (fun b => (S b ∧ m = 0) ∨ W.heap.size ≤ b) a' (n + m) (xs ++ ys) → n + m ≤ cap' → cap' ≤ maxLen → (a' = none → cap' = 0) → Below W.heap.size W w' → wpList P ops Q rest (a.put o.dst (.slice a' (n + m) cap')) w') : wpList P ops Q (o :: rest) a W := by
  refine wpList_plain hgd fun K hK => ?_
  obtain ⟨a', cap', w', hr, h2, h3, h4, h5, h6⟩ := run_append_fullS (P := P) E o.type S b n xs hx' T ax m c ys hy h1 hnone h63 hbytes
  unfold Oper.wp execOp
  simp only [ho, resolve, invoke, builtin, Sem.run_bind, Sem.run_pure, Result.andThen_ok, List.map_toArray, List.map_cons, List.map_nil, hs, hx, hr]
  exact hK _ _ (h a' cap' w' h2 h3 h4 h5 h6)
end
/-- Bytes in memory that is new since B. -/
def NewBytes (B : Nat) (x : List UInt8) (v : Value) (W : World) : Prop := ∃ a n c, v = .slice a n c ∧ BytesS W (fun b => B ≤ b) a n c x
theorem NewBytes.later {B : Nat} {x : List UInt8} : ∀ v W W', NewBytes B x v W → Below W.heap.size W W' → NewBytes B x v W' :=
  fun _ _ _ ⟨a, n, c, h1, h2⟩ hb => ⟨a, n, c, h1, h2.ext hb⟩
/-- A slice of one slice of bytes, both new since B. -/
def NewPiece (B : Nat) (x : List UInt8) (v : Value) (W : World) : Prop := ∃ g a n c, v = .slice (some ⟨g, 0, none⟩) 1 1 ∧ B ≤ g ∧ g < W.heap.size ∧ W.cell? ⟨g, 0, none⟩ = some (.slice a n c) ∧ BytesS W (fun b => B ≤ b) a n c x
theorem NewPiece.later {B : Nat} {x : List UInt8} : ∀ v W W', NewPiece B x v W → Below W.heap.size W W' → NewPiece B x v W' :=
  fun _ _ _ ⟨g, a, n, c, h1, h2, h3, h4, h5⟩ hb => ⟨g, a, n, c, h1, h2, Nat.lt_of_lt_of_le h3 hb.size, by rw [hb.cell (p := ⟨g, 0, none⟩) h3]; exact h4, h5.ext hb⟩
/-- Pieces of a file. -/
def Pieces (S : Nat → Prop) (L : List (List UInt8)) (v : Value) (W : World) : Prop := ∃ a n c, v = .slice a n c ∧ LooseS W S a n c L
theorem Pieces.later {S : Nat → Prop} {L : List (List UInt8)} : ∀ v W W', Pieces S L v W → Below W.heap.size W W' → Pieces S L v W' :=
  fun _ _ _ ⟨a, n, c, h1, h2⟩ hb => ⟨a, n, c, h1, h2.ext hb⟩

/-- The cells of a slice of pieces. -/
def PieceCells (W : World) (S : Nat → Prop) (vs : List Value) (L : List (List UInt8)) : Prop :=
  vs.length = L.length ∧ ∀ (k : Nat) (p : List UInt8), L[k]? = some p → ∃ pa pl pc, vs[k]? = some (.slice pa pl pc) ∧ BytesS W S pa pl pc p
theorem PieceCells.ext {W W' : World} {S : Nat → Prop} {vs : List Value} {L : List (List UInt8)} (h : PieceCells W S vs L) (hb : Below W.heap.size W W') : PieceCells W' S vs L :=
  ⟨h.1, fun k p hk => by obtain ⟨pa, pl, pc, h1, h2⟩ := h.2 k p hk; exact ⟨pa, pl, pc, h1, h2.ext hb⟩⟩
theorem PieceCells.mono {W : World} {S T : Nat → Prop} {vs : List Value} {L : List (List UInt8)} (h : PieceCells W S vs L) (hst : ∀ b, S b → T b) : PieceCells W T vs L :=
  ⟨h.1, fun k p hk => by obtain ⟨pa, pl, pc, h1, h2⟩ := h.2 k p hk; exact ⟨pa, pl, pc, h1, h2.mono hst⟩⟩
theorem PieceCells.append {W : World} {S : Nat → Prop} {vs ws : List Value} {L K : List (List UInt8)} (h : PieceCells W S vs L) (k : PieceCells W S ws K) : PieceCells W S (vs ++ ws) (L ++ K) := by
  refine ⟨by simp [h.1, k.1], fun i p hp => ?_⟩
  by_cases hi : i < L.length
  · rw [List.getElem?_append_left hi] at hp
    obtain ⟨pa, pl, pc, h1, h2⟩ := h.2 i p hp
    exact ⟨pa, pl, pc, by rw [List.getElem?_append_left (by rw [h.1]; exact hi)]; exact h1, h2⟩
  · rw [List.getElem?_append_right (by omega)] at hp
    obtain ⟨pa, pl, pc, h1, h2⟩ := k.2 _ p hp
    exact ⟨pa, pl, pc, by rw [List.getElem?_append_right (by rw [h.1]; omega), h.1]; exact h1, h2⟩
theorem PieceCells.one {W : World} {S : Nat → Prop} {vs : List Value} {L : List (List UInt8)} (h : PieceCells W S vs L) : ∀ u ∈ vs, u.oneCell' = true := fun u hu => by
  obtain ⟨k, hk, e⟩ := List.mem_iff_getElem.1 hu
  obtain ⟨pa, pl, pc, h1, _⟩ := h.2 k (L[k]'(by rw [← h.1]; exact hk)) (List.getElem?_eq_getElem (by rw [← h.1]; exact hk))
  rw [List.getElem?_eq_getElem hk] at h1
  have h2 := Option.some.inj h1
  rw [e] at h2
  rw [h2]; rfl
theorem LooseS.open_ {W : World} {S : Nat → Prop} {a : Option Addr} {n c : Nat} {L : List (List UInt8)} (h : LooseS W S a n c L) : ∃ vs, CellsS W S a n vs ∧ PieceCells W S vs L := by
  have key : ∀ i, i < L.length → ∃ v : Value, ∃ p, L[i]? = some p ∧ ∃ b o pa pl pc, a = some ⟨b, o, none⟩ ∧ b < W.heap.size ∧ S b ∧ W.cell? ⟨b, o + i, none⟩ = some v ∧ v = .slice pa pl pc ∧ BytesS W S pa pl pc p := fun i hi => by
    obtain ⟨b, o, pa, pl, pc, h1, h2, h3, h4, h5⟩ := h.hat i L[i] (List.getElem?_eq_getElem hi)
    exact ⟨_, L[i], List.getElem?_eq_getElem hi, b, o, pa, pl, pc, h1, h2, h3, h4, rfl, h5⟩
  have list : ∀ m, m ≤ L.length → ∃ vs : List Value, vs.length = m ∧ ∀ (k : Nat) (v : Value), vs[k]? = some v → ∃ p, L[k]? = some p ∧ ∃ b o pa pl pc, a = some ⟨b, o, none⟩ ∧ b < W.heap.size ∧ S b ∧ W.cell? ⟨b, o + k, none⟩ = some v ∧ v = .slice pa pl pc ∧ BytesS W S pa pl pc p := by
    intro m
    induction m with
    | zero => intro _; exact ⟨[], rfl, fun k v hk => by simp at hk⟩
    | succ m ih =>
      intro hm
      obtain ⟨vs, hl, hv⟩ := ih (by omega)
      obtain ⟨v, hv2⟩ := key m (by omega)
      refine ⟨vs ++ [v], by simp [hl], fun k u hk => ?_⟩
      by_cases hkm : k < vs.length
      · rw [List.getElem?_append_left hkm] at hk; exact hv k u hk
      · rw [List.getElem?_append_right (by omega)] at hk
        have hlt := (List.getElem?_eq_some_iff.1 hk).1
        simp at hlt
        have e : k = m := by omega
        subst e
        rw [hl, Nat.sub_self] at hk
        cases hk
        exact hv2
  obtain ⟨vs, hl, hv⟩ := list L.length (Nat.le_refl _)
  refine ⟨vs, ⟨by rw [hl, h.hlen], fun k v hk => ?_⟩, hl, fun k p hp => ?_⟩
  · obtain ⟨p, _, b, o, _, _, _, h1, h2, h3, h4, _⟩ := hv k v hk
    exact ⟨b, o, h1, h2, h3, h4⟩
  · have hk : k < vs.length := by rw [hl]; exact (List.getElem?_eq_some_iff.1 hp).1
    obtain ⟨p', hp', b, o, pa, pl, pc, _, _, _, _, h5, h6⟩ := hv k vs[k] (List.getElem?_eq_getElem hk)
    rw [hp] at hp'; cases hp'
    exact ⟨pa, pl, pc, by rw [List.getElem?_eq_getElem hk, h5], h6⟩
theorem LooseS.shut_ {W : World} {S : Nat → Prop} {a : Option Addr} {n c : Nat} {L : List (List UInt8)} {vs : List Value} (h : CellsS W S a n vs) (k : PieceCells W S vs L) (h1 : n ≤ c) (h2 : c ≤ maxLen) (h3 : n ≤ 140737488355328) (h4 : a = none → c = 0) : LooseS W S a n c L :=
  ⟨by rw [← k.1, h.len], h1, h2, h3, fun i p hp => by
    obtain ⟨pa, pl, pc, g1, g2⟩ := k.2 i p hp
    obtain ⟨b, o, f1, f2, f3, f4⟩ := h.at_ i _ g1
    exact ⟨b, o, pa, pl, pc, f1, f2, f3, f4, g2⟩, h4⟩

theorem newPiece_alloc {B : Nat} {x : List UInt8} {W : World} {a : Option Addr} {n c : Nat} {t : TypeId} (h : B ≤ W.heap.size) (hB : BytesS W (fun b => B ≤ b) a n c x) :
    Below W.heap.size W (W.alloc (.cells #[.slice a n c] t)) ∧ NewPiece B x (.slice (some ⟨W.heap.size, 0, none⟩) 1 1) (W.alloc (.cells #[.slice a n c] t)) :=
  ⟨(Below.refl _ _).alloc (Nat.le_refl _) _, W.heap.size, a, n, c, rfl, h, by simp, (Blk.new W [_] t).cell 0 rfl, hB.ext ((Below.refl _ _).alloc (Nat.le_refl _) _)⟩
theorem cells_one {W : World} {S : Nat → Prop} {g : Nat} {v : Value} (h1 : S g) (h2 : g < W.heap.size) (h3 : W.cell? ⟨g, 0, none⟩ = some v) : CellsS W S (some ⟨g, 0, none⟩) 1 [v] :=
  ⟨rfl, fun k u hk => by
    match k, hk with
    | 0, hk => cases hk; exact ⟨g, 0, rfl, h2, h1, h3⟩
    | k + 1, hk => simp at hk⟩
theorem full_len : ∀ {L : List (List UInt8)}, (L.all fun p => !p.isEmpty) = true → L.length ≤ (L.map List.length).sum
  | [], _ => by simp
  | p :: L, h => by
    rw [List.all_cons, Bool.and_eq_true] at h
    have ih := full_len h.2
    have hp : 1 ≤ p.length := by cases p with | nil => simp at h | cons => simp
    simp only [List.length_cons, List.map_cons, List.sum_cons]
    omega
theorem pieces_append {W0 W W' : World} {S : Nat → Prop} {vs : List Value} {L : List (List UInt8)} {x : List UInt8} {a a' : Option Addr} {n c c' m : Nat} (hp : PieceCells W S vs L) (hc : CellsS W' (fun b => (S b ∧ 1 = 0) ∨ W.heap.size ≤ b) a' m (vs ++ [.slice a n c])) (hB : BytesS W (fun b => W0.heap.size ≤ b) a n c x)
    (hb : Below W.heap.size W W') (hs : W0.heap.size ≤ W.heap.size) (h1 : m ≤ c') (h2 : c' ≤ maxLen) (h3 : m ≤ 140737488355328) (h4 : a' = none → c' = 0) : LooseS W' (Or S W0) a' m c' (L ++ [x]) := by
  refine LooseS.shut_ (hc.mono fun b h => ?_) (PieceCells.append ((hp.ext hb).mono fun b h => Or.inl h) ⟨rfl, fun k p hk => ?_⟩) h1 h2 h3 h4
  · rcases h with ⟨_, h⟩ | h
    · cases h
    · exact .inr (by omega)
  · match k, hk with
    | 0, hk => cases hk; exact ⟨a, n, c, rfl, (hB.ext hb).mono fun b h => Or.inr h⟩
    | k + 1, hk => simp at hk
theorem gives_append {P : Program} {o : Oper} {a : Act} {W w' : World} {R : Value → World → Prop} {s x : Operand} {t : TypeId} {v1 v2 v' : Value} (ho : o.op = .call { callee := .builtin .append, args := #[s, x], argTypes := #[t, t] }) (hs : a.eval s = v1) (hx : a.eval x = v2)
    (hr : (Builtin.append_ #[t, t] o.type #[v1, v2]).run P W = .ok v' w') (hb : Below W.heap.size W w') (hR : R v' w') : Gives P o a W R := by
  unfold Gives execOp
  simp only [ho, resolve, invoke, builtin, Sem.run_bind, Sem.run_pure, Result.andThen_ok, List.map_toArray, List.map_cons, List.map_nil, hs, hx, hr]
  exact ⟨hb, hR⟩
theorem PieceCells.same {W W' : World} {S : Nat → Prop} {vs : List Value} {L : List (List UInt8)} (h : PieceCells W S vs L) (hs : W.heap.size ≤ W'.heap.size) (hb : ∀ b, S b → b < W.heap.size → W'.heap[b]? = W.heap[b]?) : PieceCells W' S vs L :=
  ⟨h.1, fun k p hk => by obtain ⟨pa, pl, pc, h1, h2⟩ := h.2 k p hk; exact ⟨pa, pl, pc, h1, h2.same hs hb⟩⟩
theorem ownsRow_ext {w w' : World} {base e size n : Nat} {v : Value} {xs : List Value} (h : w.ownsRow base e size v n xs) (hb : Below w.heap.size w w') : w'.ownsRow base e size v n xs := by
  refine ⟨h.1, ?_⟩
  rcases h.2 with h2 | ⟨g, cap, cur, h1, h2, h3, h4⟩
  · exact .inl h2
  · exact .inr ⟨g, cap, cur, h1, h2, (hb.block g (Array.getElem?_eq_some_iff.1 h3).1).trans h3, h4⟩
theorem below_own {W0 w w' : World} {base B e size n : Nat} {v : Value} {xs : List Value} (hb : Below B W0 w) (hs : B ≤ w.heap.size) (h : w.ownsRow base e size v n xs) (hB : B ≤ base) (hg : w.grownBy w' v.ownBlock) : Below B W0 w' :=
  hb.grown hg hs fun k hk => Nat.le_trans hB (h.lt k hk).1
theorem pieces_one {W : World} {S : Nat → Prop} {a : Option Addr} {n c : Nat} {x : List UInt8} (h : BytesS W S a n c x) : PieceCells W S [.slice a n c] [x] :=
  ⟨rfl, fun k p hk => by
    match k, hk with
    | 0, hk => cases hk; exact ⟨a, n, c, rfl, h⟩
    | k + 1, hk => simp at hk⟩
end Go.Dav
