/-
  append onto a row of one's own, in a region that draws its order: the row's first cells stay as they were; strings as elements.
-/
import Derived.Test.YtmcmknndhppljaaDoorVbC
import Derived.Test.YtmcmknndhppljaaDoorQPartsKF
import Derived.Deep.DeepAppendRoom
namespace Go.Dav
set_option linter.unusedVariables false
set_option linter.unusedSimpArgs false
open Go Go.RowKit
/-- Old blocks stay; so do blocks of another type, and the first n cells of each own row of so many. -/
structure PreK (B : Nat) (e : TypeId) (n : Nat) (W W' : World) : Prop where
  only : OnlyS (fun b => B ≤ b) W W'
  other : ∀ (k : Nat) (cs : Array Value) (t : TypeId) (fz : Nat × Nat), t ≠ e → W.heap[k]? = some (.cells cs t fz) → W'.heap[k]? = some (.cells cs t fz)
  own : ∀ v k xs, k ≤ n → W.ownsRow B e 1 v k xs → W'.ownsRow B e 1 v k xs
theorem goes_pre (B : Nat) (e : TypeId) (n : Nat) : Goes (PreK B e n) :=
  ⟨fun _ _ h => ⟨⟨h.os, h.tape, h.output, h.size, fun k hk _ => h.block k hk⟩, fun k cs t fz _ hk => (h.block k (Array.getElem?_eq_some_iff.1 hk).1).trans hk, fun _ _ _ _ ho => ownsRow_ext ho h⟩,
   fun _ _ _ h k => ⟨⟨k.only.os.trans h.only.os, k.only.tape.trans h.only.tape, k.only.output.trans h.only.output, Nat.le_trans h.only.size k.only.size, fun i hi hn => (k.only.block i (Nat.lt_of_lt_of_le hi h.only.size) hn).trans (h.only.block i hi hn)⟩,
     fun i cs t fz ht hi => k.other i cs t fz ht (h.other i cs t fz ht hi), fun v j xs hj ho => k.own v j xs hj (h.own v j xs hj ho)⟩⟩
theorem PreK.below {e : TypeId} {n : Nat} {W W' : World} (h : PreK W.heap.size e n W W') : Below W.heap.size W W' := ⟨h.only.os, h.only.tape, h.only.output, h.only.size, fun k hk => h.only.block k hk (by omega)⟩
theorem PreK.size {B : Nat} {e : TypeId} {n : Nat} {W W' : World} (h : PreK B e n W W') : W.heap.size ≤ W'.heap.size := h.only.size
theorem PreK.of_grown {B : Nat} {e : TypeId} {n m : Nat} {v : Value} {xs : List Value} {W W' : World} (ho : W.ownsRow B e 1 v n xs) (hg : W.grownBy W' v.ownBlock) (hk : W'.ownsRow B e 1 v n xs) (hm : m = n) : PreK B e m W W' := by
  subst hm
  refine ⟨⟨hg.os, hg.tape, hg.output, hg.size, fun k hk hn => hg.block k hk fun e => hn (ho.lt k e.symm).1⟩, fun k cs t fz ht hk => ?_, fun v2 j xs2 hj ho2 => ?_⟩
  · refine (hg.block k (Array.getElem?_eq_some_iff.1 hk).1 fun e => ?_).trans hk
    rcases ho.2 with ⟨rfl, _⟩ | ⟨g, cap, cur, rfl, _, h3, _⟩
    · cases e
    · obtain rfl : g = k := by simpa [Value.ownBlock] using e.symm
      rw [h3] at hk; cases hk; exact ht rfl
  · by_cases hb : v2.ownBlock = v.ownBlock
    · rcases ho.2 with ⟨rfl, h0⟩ | ⟨g, cap, cur, rfl, h2, h3, h4, h5, h6, h7⟩
      · rcases ho2.2 with ⟨rfl, h02⟩ | ⟨g, cap, cur, rfl, _⟩
        · exact ⟨ho2.1, .inl ⟨rfl, h02⟩⟩
        · cases hb
      · rcases ho2.2 with ⟨rfl, _⟩ | ⟨g2, cap2, cur2, rfl, i2, i3, i4, i5, i6, i7⟩
        · cases hb
        · obtain rfl : g2 = g := by simpa [Value.ownBlock] using hb
          rw [h3] at i3
          cases i3
          rcases hk.2 with ⟨hk0, _⟩ | ⟨g', cap', cur', e1, k2, k3, k4, k5, k6, k7⟩
          · cases hk0
          · cases e1
            refine ⟨ho2.1, .inr ⟨g2, cap2, cur', rfl, i2, k3, i4, i5, by omega, ?_⟩⟩
            have e2 := congrArg (List.take (j * 1)) (k7.trans h7.symm)
            rw [List.take_take, List.take_take, Nat.min_eq_left (by omega)] at e2
            exact e2.trans i7
    · rcases ho2.2 with ⟨rfl, h0⟩ | ⟨g2, cap2, cur2, rfl, i2, i3, i4, i5, i6, i7⟩
      · exact ⟨ho2.1, .inl ⟨rfl, h0⟩⟩
      · exact ⟨ho2.1, .inr ⟨g2, cap2, cur2, rfl, i2, (hg.block g2 (Array.getElem?_eq_some_iff.1 i3).1 fun e => hb e).trans i3, i4, i5, i6, i7⟩⟩
section
variable {P : Program} {W : World}
theorem run_append_keeps {t e bytes : Nat} (E : Elem1 P t e bytes) (ty : TypeId) (base : Nat) (v : Value) (n : Nat) (xs : List Value) (hown : W.ownsRow base e 1 v n xs) (T : Nat → Prop) (ax : Option Addr) (m c : Nat) (ys : List Value) (hy : CellsS W T ax m ys)
    (h1 : ∀ u ∈ ys, u.oneCell' = true) (hnone : ax = none → c = 0) (h63 : n + m ≤ maxLen) (hbytes : (n + m) * bytes ≤ 140737488355328) (hbase : base ≤ W.heap.size) :
    ∃ v' w', (Builtin.append_ #[t, t] ty #[v, .slice ax m c]).run P W = .ok v' w' ∧ w'.ownsRow base e 1 v' (n + m) (xs ++ ys) ∧ W.grownBy w' v.ownBlock ∧ w'.ownsRow base e 1 v n xs := by
  obtain ⟨i, z, hi, hz, hs, hb, hzs⟩ := E.row
  cases ax with
  | none =>
    have h0 : ys = [] := by
      cases ys with
      | nil => rfl
      | cons x xs => obtain ⟨b, o, h1, _⟩ := hy.at_ 0 x rfl; cases h1
    subst h0
    have hm : m = 0 := by have := hy.len; simpa using this.symm
    have hc := hnone rfl
    subst hm hc
    exact ⟨v, W, run_append_owned_none W base t ty e i 1 E.ht hi v n xs hown, by simpa using hown, World.grownBy.refl _ _, hown⟩
  | some ad =>
    obtain ⟨v', w', r1, r2, r3, _⟩ := run_append_own (P := P) W base t ty e i z 1 bytes E.ht hi hz hs hb hzs (by omega) v n xs hown ad m c ys (by rw [hy.len]; omega) hy.from_ h1 h63 hbytes hbase
    refine ⟨v', w', r1, r2, r3, ?_⟩
    rcases hown.2 with ⟨rfl, h0⟩ | ⟨g, cap, cur, rfl, g2, g3, g4, g5, g6, g7⟩
    · exact ⟨hown.1, .inl ⟨rfl, h0⟩⟩
    · by_cases hroom : n + m ≤ cap
      · obtain ⟨w2, q1, q2, q3⟩ := run_append_own_spare (P := P) (w := W) base t ty e i 1 E.ht hi hs g n cap xs hown ad m c ys (by rw [hy.len]; omega) hy.from_ h1 hroom
        rw [r1] at q1
        cases q1
        rcases q2.2 with ⟨h, _⟩ | ⟨g', cap', cur', e1, k2, k3, k4, k5, k6, k7⟩
        · cases h
        · cases e1
          refine ⟨hown.1, .inr ⟨g, cap, cur', rfl, g2, k3, g4, g5, k6, ?_⟩⟩
          have := congrArg (List.take (n * 1)) k7
          rw [List.take_take, Nat.min_eq_left (by omega), List.take_append_of_le_length (by rw [hown.1]; omega)] at this
          exact this.trans (List.take_of_length_le (by rw [hown.1]; omega))
      · have hsrc : Src P i.size t (.slice (some ad) m c) m ys W := by rw [hs]; exact hy.src h1 E.ht
        have h64 : n + m ≤ 9223372036854775807 := by simp only [maxLen] at h63; omega
        have hfrom := (own_cells hown)
        obtain ⟨a', cap', e1, _, _, _, hcl⟩ := hfrom
        cases e1
        have hr := run_append_grow_src (P := P) W t t ty e i z E.ht hi hz _ n cap xs (run_firstCells_some W.drew i.size n ⟨g, 0, none⟩ n cap xs (by rw [hcl.len, hs]; omega) (by have := hcl.from_; simpa using this)) _ m ys hsrc (by omega) (by omega) (growslice_fits (by omega) (by rw [hb]; exact hbytes))
        rw [r1] at hr
        cases hr
        exact ownsRow_ext hown ((Below.refl _ _).drew.alloc (Nat.le_refl _) _)
/-- append to an empty row of one's own. -/
theorem run_append_none_own {t e bytes : Nat} (E : Elem1 P t e bytes) (ty : TypeId) (base g : Nat) (hown : W.ownsRow base e 1 (.slice (some ⟨g, 0, none⟩) 0 0) 0 []) (T : Nat → Prop) (ax : Option Addr) (m c : Nat) (ys : List Value) (hy : CellsS W T ax m ys)
    (h1 : ∀ u ∈ ys, u.oneCell' = true) (h63 : m ≤ maxLen) (hbytes : m * bytes ≤ 140737488355328) (hbase : base ≤ W.heap.size) :
    ∃ v' w', (Builtin.append_ #[t, t] ty #[.slice (some ⟨g, 0, none⟩) 0 0, .slice ax m c]).run P W = .ok v' w' ∧ w'.ownsRow base e 1 v' m ys ∧ Below W.heap.size W w' := by
  obtain ⟨i, z, hi, hz, hs, hb, hzs⟩ := E.row
  by_cases hm : m = 0
  · subst hm
    have h0 : ys = [] := List.length_eq_zero_iff.1 hy.len
    subst h0
    exact ⟨_, W, run_append_nothing W t t ty e i E.ht hi _ 0 0 (Nat.le_refl _) _ (by rw [hs]; exact hy.src h1 E.ht), hown, Below.refl _ _⟩
  · obtain ⟨v', w', r1, r2, r3⟩ := run_append_full_own (P := P) (w := W) E ty base (fun _ => True) (some ⟨g, 0, none⟩) 0 [] ⟨rfl, fun k v h => by simp at h⟩ T ax m c ys hy h1 (fun h => by cases h) (by omega) (by omega) (by rw [Nat.zero_add]; exact hbytes) hbase
    rw [Nat.zero_add] at r2
    exact ⟨v', w', r1, r2, r3⟩
end
/-- An empty literal row. -/
def NilRow (B : Nat) (e : TypeId) (v : Value) (W : World) : Prop := ∃ g, v = .slice (some ⟨g, 0, none⟩) 0 0 ∧ W.ownsRow B e 1 v 0 []
theorem NilRow.later {B : Nat} {e : TypeId} : ∀ v W W', NilRow B e v W → Below W.heap.size W W' → NilRow B e v W' := fun _ _ _ ⟨g, h1, h2⟩ hb => ⟨g, h1, ownsRow_ext h2 hb⟩
theorem nilRow_alloc {B : Nat} {W : World} {e : TypeId} (hB : B ≤ W.heap.size) : Below W.heap.size W (W.alloc (.cells #[] e)) ∧ NilRow B e (.slice (some ⟨W.heap.size, 0, none⟩) 0 0) (W.alloc (.cells #[] e)) :=
  ⟨(Below.refl _ _).alloc (Nat.le_refl _) _, W.heap.size, rfl, rfl, .inr ⟨W.heap.size, 0, #[], rfl, hB, heap_alloc_new W _, Nat.le_refl _, by unfold maxLen; omega, rfl, rfl⟩⟩
/-- Cells that are one's own. -/
def OwnC (B : Nat) (e : TypeId) (xs : List Value) (v : Value) (W : World) : Prop := W.ownsRow B e 1 v xs.length xs
theorem OwnC.later {B : Nat} {e : TypeId} {xs : List Value} : ∀ v W W', OwnC B e xs v W → Below W.heap.size W W' → OwnC B e xs v W' := fun _ _ _ h hb => ownsRow_ext h hb
theorem OwnC.keep {B : Nat} {e : TypeId} {xs : List Value} {n : Nat} (hn : n = xs.length) : ∀ v W W', OwnC B e xs v W → PreK B e n W W' → OwnC B e xs v W' := fun _ _ _ h hk => hk.own _ _ _ (by omega) h
theorem NilRow.keep {B : Nat} {e : TypeId} {n : Nat} : ∀ v W W', NilRow B e v W → PreK B e n W W' → NilRow B e v W' := fun _ _ _ ⟨g, h1, h2⟩ hk => ⟨g, h1, hk.own _ _ _ (Nat.zero_le _) h2⟩
theorem gives_appendNil {P : Program} {o : Oper} {a : Act} {W : World} {s x : Operand} {t e bytes base m c : Nat} {v : Value} {ys : List Value} {T : Nat → Prop} {ax : Option Addr} (ho : o.op = .call { callee := .builtin .append, args := #[s, x], argTypes := #[t, t] }) (E : Elem1 P t e bytes)
    (hs : a.eval s = v) (hx : a.eval x = .slice ax m c) (hn : NilRow base e v W) (hy : CellsS W T ax m ys) (h1 : ∀ u ∈ ys, u.oneCell' = true) (h63 : m ≤ maxLen) (hbytes : m * bytes ≤ 140737488355328) (hbase : base ≤ W.heap.size) : Gives P o a W (OwnC base e ys) := by
  obtain ⟨g, rfl, hown⟩ := hn
  obtain ⟨v', w', hr, h2, h3⟩ := run_append_none_own (P := P) E o.type base g hown T ax m c ys hy h1 h63 hbytes hbase
  refine gives_append ho hs hx hr h3 ?_
  unfold OwnC
  rw [hy.len]; exact h2
theorem givesK_appendPre {P : Program} {o : Oper} {a : Act} {W : World} {s x : Operand} {t e bytes base n m c : Nat} {v : Value} {xs ys : List Value} {T : Nat → Prop} {ax : Option Addr} (ho : o.op = .call { callee := .builtin .append, args := #[s, x], argTypes := #[t, t] }) (E : Elem1 P t e bytes)
    (hs : a.eval s = v) (hx : a.eval x = .slice ax m c) (hown : OwnC base e xs v W) (hn : n = xs.length) (hy : CellsS W T ax m ys) (h1 : ∀ u ∈ ys, u.oneCell' = true) (hnone : ax = none → c = 0) (h63 : xs.length + m ≤ maxLen) (hbytes : (xs.length + m) * bytes ≤ 140737488355328) (hbase : base ≤ W.heap.size) : GivesK P (PreK base e n) o a W (OwnC base e (xs ++ ys)) := by
  obtain ⟨v', w', hr, h2, h3, h4⟩ := run_append_keeps (P := P) E o.type base v xs.length xs hown T ax m c ys hy h1 hnone h63 hbytes hbase
  unfold GivesK
  rw [run_append_op ho hs hx hr]
  refine ⟨PreK.of_grown hown h3 h4 hn, ?_⟩
  unfold OwnC
  rw [List.length_append, hy.len]
  exact h2
theorem newBlk_pre {B C n : Nat} {e t : TypeId} {cs : List Value} (hne : t ≠ e) : ∀ v W W', NewBlk C cs t v W → PreK B e n W W' → NewBlk C cs t v W' := fun v W W' h hk => by
  obtain ⟨g, h1, h2, h3⟩ := h
  exact ⟨g, h1, h2, hk.other g _ t _ hne h3⟩
/-- Strings, as cells. -/
def strsV (l : List ByteArray) : List Value := l.map Value.string
theorem strsV_one (l : List ByteArray) : ∀ u ∈ strsV l, u.oneCell' = true := fun u hu => by
  obtain ⟨x, _, rfl⟩ := List.mem_map.1 hu; rfl
theorem strsV_len (l : List ByteArray) : (strsV l).length = l.length := by simp [strsV]
theorem strsV_append (l k : List ByteArray) : strsV (l ++ k) = strsV l ++ strsV k := by simp [strsV]
theorem StrsAt.cells {W : World} {a : Option Addr} {n c : Nat} {l : List ByteArray} (h : StrsAt W a n c l) : CellsS W (fun b => b < W.heap.size) a n (strsV l) :=
  ⟨by rw [strsV_len, h.hlen], fun k v hk => by
    unfold strsV at hk
    rw [List.getElem?_map] at hk
    cases hx : l[k]? with
    | none => rw [hx] at hk; cases hk
    | some x =>
      rw [hx] at hk
      cases hk
      obtain ⟨b, o, h1, h2, h3⟩ := h.hat k x hx
      exact ⟨b, o, h1, h2, h2, h3⟩⟩
theorem StrsAt.take {W : World} {a : Option Addr} {n c : Nat} {l : List ByteArray} (h : StrsAt W a n c l) {m : Nat} (hm : m ≤ n) : StrsAt W a m c (l.take m) :=
  ⟨by rw [List.length_take, h.hlen]; omega, by have := h.hcap; omega, h.hmax, by have := h.hfew; omega, fun k x hk => by
    have hkm : k < m := by have := (List.getElem?_eq_some_iff.1 hk).1; rw [List.length_take] at this; omega
    rw [List.getElem?_take_of_lt hkm] at hk
    exact h.hat k x hk, h.hnil, fun s hs => h.hsz s (List.mem_of_mem_take hs)⟩
theorem strs_of_own {W : World} {B : Nat} {e : TypeId} {v : Value} {l : List ByteArray} (h : OwnC B e (strsV l) v W) (hs : ∀ s ∈ l, s.size ≤ 17592186044416) (hf : l.length ≤ 1048576) : ∃ a c, v = .slice a l.length c ∧ StrsAt W a l.length c l := by
  unfold OwnC at h
  rw [strsV_len] at h
  obtain ⟨a, cap, rfl, h1, h2, h3, h4⟩ := own_cells h
  refine ⟨a, cap, rfl, rfl, h1, h2, by omega, fun k s hk => ?_, h3, hs⟩
  obtain ⟨b, o, g1, g2, _, g3⟩ := h4.at_ k (.string s) (by unfold strsV; rw [List.getElem?_map, hk]; rfl)
  exact ⟨b, o, g1, g2, g3⟩
end Go.Dav
