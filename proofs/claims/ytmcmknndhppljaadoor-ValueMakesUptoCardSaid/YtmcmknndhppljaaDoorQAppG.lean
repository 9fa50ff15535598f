/-
  append onto a row of one's own in a region that draws its order, elements of several cells: rows that are no longer stay as they were.
-/
import Derived.Test.YtmcmknndhppljaaDoorVbK
import Derived.Test.YtmcmknndhppljaaDoorQAppF
import Derived.Test.YtmcmknndhppljaaDoorVbC
import Derived.Test.YtmcmknndhppljaaDoorVbA
import Derived.Deep.DeepAppendRoom
import Derived.Deep.Upon
namespace Go.Dav
set_option linter.unusedVariables false
set_option linter.unusedSimpArgs false
open Go Go.RowKit
theorem below_grown_none {W W' : World} {v : Value} (h : W.grownBy W' v.ownBlock) (hv : v = .slice none 0 0 := by rfl) : Below W.heap.size W W' := ⟨h.os, h.tape, h.output, h.size, fun k hk => h.block k hk (by subst hv; intro e; cases e)⟩
/-- Old blocks stay; so do the first n elements of each own row of so many. -/
structure PreS (B : Nat) (e : TypeId) (size n : Nat) (W W' : World) : Prop where
  only : OnlyS (fun b => B ≤ b) W W'
  own : ∀ v k xs, k ≤ n → W.ownsRow B e size v k xs → W'.ownsRow B e size v k xs
theorem goes_preS (B : Nat) (e : TypeId) (size n : Nat) : Goes (PreS B e size n) :=
  ⟨fun _ _ h => ⟨OnlyS.of_below h, fun _ _ _ _ ho => ownsRow_below ho h⟩,
   fun _ _ _ h k => ⟨⟨k.only.os.trans h.only.os, k.only.tape.trans h.only.tape, k.only.output.trans h.only.output, Nat.le_trans h.only.size k.only.size, fun i hi hn => (k.only.block i (Nat.lt_of_lt_of_le hi h.only.size) hn).trans (h.only.block i hi hn)⟩,
     fun v j xs hj ho => k.own v j xs hj (h.own v j xs hj ho)⟩⟩
theorem PreS.below {e : TypeId} {size n : Nat} {W W' : World} (h : PreS W.heap.size e size n W W') : Below W.heap.size W W' := ⟨h.only.os, h.only.tape, h.only.output, h.only.size, fun k hk => h.only.block k hk (by omega)⟩
theorem PreS.size {B : Nat} {e : TypeId} {size n : Nat} {W W' : World} (h : PreS B e size n W W') : W.heap.size ≤ W'.heap.size := h.only.size
theorem PreS.le {B : Nat} {e : TypeId} {size n m : Nat} {W W' : World} (h : PreS B e size m W W') (hn : n ≤ m) : PreS B e size n W W' := ⟨h.only, fun v k xs hk => h.own v k xs (by omega)⟩
theorem PreS.of_below {B : Nat} {e : TypeId} {size n : Nat} {W W' : World} (h : Below W.heap.size W W') : PreS B e size n W W' := (goes_preS B e size n).1 _ _ h
theorem PreS.of_grown {B : Nat} {e : TypeId} {size n m : Nat} {v : Value} {xs : List Value} {W W' : World} (ho : W.ownsRow B e size v n xs) (hg : W.grownBy W' v.ownBlock) (hk : W'.ownsRow B e size v n xs) (hm : m ≤ n) : PreS B e size m W W' := by
  refine ⟨⟨hg.os, hg.tape, hg.output, hg.size, fun k hk hn => hg.block k hk fun e => hn (ho.lt k e.symm).1⟩, fun v2 j ys hj ho2 => ?_⟩
  by_cases hb : v2.ownBlock = v.ownBlock
  · rcases ho.2 with ⟨rfl, h0⟩ | ⟨g, cap, cur, rfl, h2, h3, h4, h5, h6, h7⟩
    · rcases ho2.2 with ⟨rfl, h02⟩ | ⟨g, cap, cur, rfl, _⟩
      · exact ⟨ho2.1, .inl ⟨rfl, h02⟩⟩
      · cases hb
    · rcases ho2.2 with ⟨rfl, _⟩ | ⟨g2, cap2, cur2, rfl, i2, i3, i4, i5, i6, i7⟩
      · cases hb
      · obtain rfl : g2 = g := by simpa [Value.ownBlock] using hb
        rw [h3] at i3
        cases i3
        rcases hk.2 with ⟨hk0, _⟩ | ⟨g', cap', cur', e1, k2, k3, k4, k5, k6, k7⟩
        · cases hk0
        · cases e1
          have hmul : j * size ≤ n * size := Nat.mul_le_mul_right _ (by omega)
          refine ⟨ho2.1, .inr ⟨g2, cap2, cur', rfl, i2, k3, i4, i5, by rw [k6, ← h6, i6], ?_⟩⟩
          have e2 := congrArg (List.take (j * size)) (k7.trans h7.symm)
          rw [List.take_take, List.take_take, Nat.min_eq_left hmul] at e2
          exact e2.trans i7
  · rcases ho2.2 with ⟨rfl, h0⟩ | ⟨g2, cap2, cur2, rfl, i2, i3, i4, i5, i6, i7⟩
    · exact ⟨ho2.1, .inl ⟨rfl, h0⟩⟩
    · exact ⟨ho2.1, .inr ⟨g2, cap2, cur2, rfl, i2, (hg.block g2 (Array.getElem?_eq_some_iff.1 i3).1 fun e => hb e).trans i3, i4, i5, i6, i7⟩⟩
/-- A row of one's own; nil where it has nothing. -/
structure RowN (B : Nat) (e : TypeId) (size n : Nat) (xs : List Value) (v : Value) (W : World) : Prop where
  own : W.ownsRow B e size v n xs
  nil : n = 0 → v = .slice none 0 0
theorem RowN.later {B : Nat} {e : TypeId} {size n : Nat} {xs : List Value} : ∀ v W W', RowN B e size n xs v W → Below W.heap.size W W' → RowN B e size n xs v W' := fun _ _ _ h hb => ⟨ownsRow_below h.own hb, h.nil⟩
theorem RowN.keep {B : Nat} {e : TypeId} {size n m : Nat} {xs : List Value} (hn : n ≤ m) : ∀ v W W', RowN B e size n xs v W → PreS B e size m W W' → RowN B e size n xs v W' := fun _ _ _ h hk => ⟨hk.own _ _ _ hn h.own, h.nil⟩
section
variable {P : Program} {W : World}
theorem run_append_keepsS {t e : TypeId} (ty : TypeId) {i : TypeInfo} {z : Value} {size bytes : Nat} (ht : P.underlying t = some (.slice e)) (hi : P.info? e = some i) (hz : i.zero = some z) (hsize : i.size = size) (hby : i.bytes = bytes) (hzs : z.cells.size = size) (hsz : 0 < size)
    (base n : Nat) (v : Value) (xs : List Value) (hown : RowN base e size n xs v W) (ax : Option Addr) (m c : Nat) (ys : List Value) (hat : FlatAt W ax ys) (hl : ys.length = m * size) (h1 : ∀ u ∈ ys, u.oneCell' = true) (hnone : ax = none → c = 0) (hmc : m ≤ c) (h63 : n + m ≤ maxLen) (hbytes : (n + m) * bytes ≤ 140737488355328) (hbase : base ≤ W.heap.size) (q : Nat) (hq : n = 0 ∨ q ≤ n) :
    ∃ v' w', (Builtin.append_ #[t, t] ty #[v, .slice ax m c]).run P W = .ok v' w' ∧ RowN base e size (n + m) (xs ++ ys) v' w' ∧ PreS base e size q W w' := by
  cases ax with
  | none =>
    have hc := hnone rfl
    have hm : m = 0 := by omega
    subst hc
    subst hm
    have hx : ys = [] := List.length_eq_zero_iff.1 (by omega)
    subst hx
    exact ⟨v, W, run_append_owned_none W base t ty e i size ht hi v n xs hown.own, ⟨by simpa using hown.own, fun h => hown.nil (by omega)⟩, PreS.of_below (Below.refl _ _)⟩
  | some ad =>
    obtain ⟨v', w', r1, r2, r3, r4, _⟩ := run_append_own_at (P := P) W base t ty e i z size bytes ht hi hz hsize hby hzs hsz v n xs hown.own ad m c ys hl hat.from_ h1 h63 hbytes hbase
    refine ⟨v', w', r1, ⟨r2, fun h => r4.2 ⟨hown.nil (by omega), by omega⟩⟩, ?_⟩
    by_cases hn0 : n = 0
    · have hv := hown.nil hn0
      subst hv
      exact PreS.of_below (below_grown_none (v := .slice none 0 0) r3)
    · rcases hown.own.2 with ⟨rfl, h0⟩ | ⟨g, cap, cur, rfl, g2, g3, g4, g5, g6, g7⟩
      · exact (hn0 h0).elim
      · by_cases hroom : n + m ≤ cap
        · obtain ⟨w2, q1, q2, q3⟩ := run_append_own_spare (P := P) (w := W) base t ty e i size ht hi hsize g n cap xs hown.own ad m c ys hl hat.from_ h1 hroom
          rw [r1] at q1
          cases q1
          rcases q2.2 with ⟨h, _⟩ | ⟨g', cap', cur', e1, k2, k3, k4, k5, k6, k7⟩
          · cases h
          · cases e1
            refine PreS.of_grown hown.own r3 ⟨hown.own.1, .inr ⟨g, cap, cur', rfl, g2, k3, g4, g5, k6, ?_⟩⟩ (by omega)
            have := congrArg (List.take (n * size)) k7
            rw [List.take_take, Nat.min_eq_left (Nat.mul_le_mul_right _ (by omega)), List.take_append_of_le_length (by rw [hown.own.1]; exact Nat.le_refl _)] at this
            exact this.trans (List.take_of_length_le (by rw [hown.own.1]; exact Nat.le_refl _))
        · have hsrc : Src P i.size t (.slice (some ad) m c) m ys W := by
            rw [hsize]
            exact ⟨.inl ⟨_, ht⟩, fun w' => by simp [Builtin.lenOf], run_firstCells_some W size m ad m c ys hl hat.from_, run_firstCells_some W.drew size m ad m c ys hl (fun j u hj => by have := hat.from_ j u hj; exact this), hl, h1⟩
          have h64 : n + m ≤ 9223372036854775807 := by simp only [maxLen] at h63; omega
          have hr := run_append_grow_src (P := P) W t t ty e i z ht hi hz (some ⟨g, 0, none⟩) n cap xs (by rw [hsize]; exact run_firstCells_some W.drew size n ⟨g, 0, none⟩ n cap xs hown.own.1 (fun j u hj => by have := World.ownsRow.cells hown.own (g := g) rfl j u hj; exact this)) _ m ys hsrc (by omega) (by omega) (growslice_fits (by omega) (by rw [hby]; exact hbytes))
          rw [r1] at hr
          cases hr
          exact PreS.of_below ((Below.refl _ _).drew.alloc (Nat.le_refl _) _)
end
theorem givesK_preS {P : Program} {o : Oper} {a : Act} {W : World} {s x : Operand} {t e : TypeId} {i : TypeInfo} {z : Value} {size bytes base n m c q : Nat} {v : Value} {xs ys : List Value} {ax : Option Addr} (ho : o.op = .call { callee := .builtin .append, args := #[s, x], argTypes := #[t, t] })
    (ht : P.underlying t = some (.slice e)) (hi : P.info? e = some i ∧ i.zero = some z ∧ i.size = size ∧ i.bytes = bytes) (hzs : z.cells.size = size) (hsz : 0 < size)
    (hs : a.eval s = v) (hx : a.eval x = .slice ax m c) (hown : RowN base e size n xs v W) (hat : FlatAt W ax ys) (hl : ys.length = m * size) (h1 : ∀ u ∈ ys, u.oneCell' = true) (hnone : ax = none → c = 0) (hmc : m ≤ c) (h63 : n + m ≤ maxLen) (hbytes : (n + m) * bytes ≤ 140737488355328) (hbase : base ≤ W.heap.size) (hq : n = 0 ∨ q ≤ n) :
    GivesK P (PreS base e size q) o a W (RowN base e size (n + m) (xs ++ ys)) := by
  obtain ⟨v', w', hr, h2, h3⟩ := run_append_keepsS (P := P) (W := W) o.type ht hi.1 hi.2.1 hi.2.2.1 hi.2.2.2 hzs hsz base n v xs hown ax m c ys hat hl h1 hnone hmc h63 hbytes hbase q hq
  unfold GivesK
  rw [run_append_op ho hs hx hr]
  exact ⟨h3, h2⟩
theorem gives_nilS {P : Program} {o : Oper} {a : Act} {W : World} {s x : Operand} {t e : TypeId} {i : TypeInfo} {z : Value} {size bytes base m c : Nat} {ys : List Value} {ax : Option Addr} (ho : o.op = .call { callee := .builtin .append, args := #[s, x], argTypes := #[t, t] })
    (ht : P.underlying t = some (.slice e)) (hi : P.info? e = some i ∧ i.zero = some z ∧ i.size = size ∧ i.bytes = bytes) (hzs : z.cells.size = size) (hsz : 0 < size)
    (hs : a.eval s = .slice none 0 0) (hx : a.eval x = .slice ax m c) (hat : FlatAt W ax ys) (hl : ys.length = m * size) (h1 : ∀ u ∈ ys, u.oneCell' = true) (hnone : ax = none → c = 0) (hmc : m ≤ c) (h63 : m ≤ maxLen) (hbytes : m * bytes ≤ 140737488355328) (hbase : base ≤ W.heap.size) :
    Gives P o a W (RowN base e size m ys) := by
  cases ax with
  | none =>
    have hc := hnone rfl
    have hm : m = 0 := by omega
    subst hc
    subst hm
    have hx0 : ys = [] := List.length_eq_zero_iff.1 (by omega)
    subst hx0
    exact gives_append ho hs hx (run_append_owned_none W base t o.type e i size ht hi.1 _ 0 [] (World.ownsRow_nil _ _ _ _)) (Below.refl _ _) ⟨World.ownsRow_nil _ _ _ _, fun _ => rfl⟩
  | some ad =>
    obtain ⟨v', w', r1, r2, r3, r4, _⟩ := run_append_own_at (P := P) W base t o.type e i z size bytes ht hi.1 hi.2.1 hi.2.2.1 hi.2.2.2 hzs hsz (.slice none 0 0) 0 [] (World.ownsRow_nil _ _ _ _) ad m c ys hl hat.from_ h1 (by omega) (by rw [Nat.zero_add]; exact hbytes) hbase
    rw [Nat.zero_add] at r2
    exact gives_append ho hs hx r1 (below_grown_none (v := .slice none 0 0) r3) ⟨by simpa using r2, fun h => r4.2 ⟨rfl, h⟩⟩
end Go.Dav
