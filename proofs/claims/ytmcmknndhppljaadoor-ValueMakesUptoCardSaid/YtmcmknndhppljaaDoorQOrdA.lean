/-
  For the statements on pairs: a row turned round, in plain; what Object answers, by the pairs alone; append onto a row of one's own, elements of several cells.
-/
import Derived.Test.YtmcmknndhppljaaDoorQObjD
import Derived.Test.YtmcmknndhppljaaDoorQMkC
import Derived.Test.YtmcmknndhppljaaDoorVbM
import Derived.Test.YtmcmknndhppljaaDoorVbL
namespace Go.Dav
set_option linter.unusedVariables false
set_option linter.unusedSimpArgs false
open Go Go.RowKit
/-- The same pairs from another one on, and the other way round. -/
def turnL (l : List PairE) (r : Nat) : List PairE := (l.take (r + 1)).reverse ++ (l.drop (r + 1)).reverse
theorem turnL_perm (l : List PairE) (r : Nat) : (turnL l r).Perm l := by
  have h := (List.reverse_perm (l.take (r + 1))).append (List.reverse_perm (l.drop (r + 1)))
  rwa [List.take_append_drop] at h
theorem turnL_get {l : List PairE} {r n i : Nat} (hl : l.length = n) (hr : r < n) (hi : i < n) : (turnL l r)[i]? = l[(r + n - i) % n]? := by
  unfold turnL
  have h1 : (l.take (r + 1)).length = r + 1 := by rw [List.length_take]; omega
  have h2 : (l.drop (r + 1)).length = n - (r + 1) := by rw [List.length_drop]; omega
  by_cases c : i ≤ r
  · rw [show (r + n - i) % n = r - i by rw [show r + n - i = (r - i) + n by omega, Nat.add_mod_right, Nat.mod_eq_of_lt (by omega)], List.getElem?_append_left (by rw [List.length_reverse]; omega), List.getElem?_reverse (by omega), List.getElem?_take, if_pos (by omega)]
    congr 1; omega
  · rw [Nat.mod_eq_of_lt (show r + n - i < n by omega), List.getElem?_append_right (by rw [List.length_reverse]; omega), List.length_reverse, List.getElem?_reverse (by omega), List.getElem?_drop]
    congr 1; omega
theorem insFold_perm {l l2 : List PairE} (h : l.Perm l2) : insFold [] l = insFold [] l2 := by
  cases h1 : insFold [] l with
  | none =>
    cases h2 : insFold [] l2 with
    | none => rfl
    | some m2 =>
      obtain ⟨g1, g2⟩ := insFold_some List.Pairwise.nil h2
      exact (insFold_none List.Pairwise.nil h1 (List.Perm.nodup ((g2.trans h.symm).map _) g1.nodup)).elim
  | some m =>
    obtain ⟨g1, g2⟩ := insFold_some List.Pairwise.nil h1
    cases h2 : insFold [] l2 with
    | none => exact (insFold_none List.Pairwise.nil h2 (List.Perm.nodup ((g2.trans h).map _) g1.nodup)).elim
    | some m2 =>
      obtain ⟨g3, g4⟩ := insFold_some List.Pairwise.nil h2
      rw [StrictK.unique g1 g3 ((g2.trans h).trans g4.symm)]
def objOf (d : Nat) (f : PairE → ValN d) (m : List PairE) : ValN (d + 1) := (⟨6, 0, noStr, m.map f, m.map PairE.key⟩ : ValF (ValN d))
/-- The error of an object of pairs, and the object. -/
def objE (d : Nat) (f : PairE → ValN d) (l : List PairE) : Int := match insFold [] l with
  | none => 141
  | some m => if rightV (d + 1) (objOf d f m) = true then 0 else 140
def objX (d : Nat) (f : PairE → ValN d) (l : List PairE) : ValN (d + 1) := match insFold [] l with
  | none => objOf d f []
  | some m => objOf d f m
theorem objE_three (d : Nat) (f : PairE → ValN d) (l : List PairE) : objE d f l = 0 ∨ objE d f l = 140 ∨ objE d f l = 141 := by
  unfold objE
  split
  · exact .inr (.inr rfl)
  · split
    · exact .inl rfl
    · exact .inr (.inl rfl)
theorem objE_perm {d : Nat} {f : PairE → ValN d} {l l2 : List PairE} (h : l.Perm l2) : objE d f l = objE d f l2 ∧ objX d f l = objX d f l2 := by
  unfold objE objX
  rw [insFold_perm h]
  exact ⟨rfl, rfl⟩
theorem objE_right {d : Nat} {f : PairE → ValN d} {l : List PairE} (h : objE d f l = 0) : ∃ m, insFold [] l = some m ∧ objX d f l = objOf d f m ∧ rightV (d + 1) (objX d f l) = true ∧ m.Perm l := by
  unfold objE at h
  unfold objX
  split at h
  · cases h
  · rename_i m hm
    split at h
    · rename_i hr
      obtain ⟨_, g2⟩ := insFold_some List.Pairwise.nil hm
      exact ⟨m, hm, rfl, hr, g2⟩
    · cases h
theorem obj_len {d : Nat} {f : PairE → ValN d} {m : List PairE} (h : rightV (d + 1) (objOf d f m) = true) : lenV d (objOf d f m) = (m.length, true) := by
  unfold lenV
  rw [if_pos h, if_pos (show (objOf d f m).to.kind = 5 ∨ (objOf d f m).to.kind = 6 from .inr rfl)]
  show ((m.map f).length, true) = _
  rw [List.length_map]
theorem objX_len {d : Nat} {f : PairE → ValN d} {l : List PairE} (h : objE d f l = 0) : lenV d (objX d f l) = (l.length, true) := by
  obtain ⟨m, _, h2, h3, h4⟩ := objE_right h
  rw [h2] at h3 ⊢
  rw [obj_len h3, h4.length_eq]
theorem FlatAt.pair {w W : World} {a : Option Addr} {l : List PairE} {i : Nat} {p : PairE} (h : FlatAt w a (flatE l)) (hb : Below w.heap.size w W) (hp : l[i]? = some p) :
    ∃ b o, a = some ⟨b, o, none⟩ ∧ b < W.heap.size ∧ W.cell? ⟨b, o + i * 6, none⟩ = some (.string p.key) ∧ W.cell? ⟨b, o + i * 6 + 1, none⟩ = some (.int .i64 p.k) ∧ W.cell? ⟨b, o + i * 6 + 2, none⟩ = some (.int .i64 p.n) ∧ W.cell? ⟨b, o + i * 6 + 3, none⟩ = some (.string p.s) ∧ W.cell? ⟨b, o + i * 6 + 4, none⟩ = some (.slice p.a1 p.l1 p.c1) ∧ W.cell? ⟨b, o + i * 6 + 5, none⟩ = some (.slice p.a2 p.l2 p.c2) := by
  obtain ⟨b, o, rfl, hbl, _⟩ := h (i * 6 + 0) (.string p.key) (by have := flatE_get (j := 0) hp rfl []; rwa [List.append_nil] at this)
  have cc : ∀ j u, p.cells[j]? = some u → W.cell? ⟨b, o + i * 6 + j, none⟩ = some u := fun j u hu => by
    obtain ⟨b', o', e, h1, h2⟩ := h (i * 6 + j) u (by have := flatE_get (j := j) hp hu []; rwa [List.append_nil] at this)
    cases e
    rw [← Nat.add_assoc] at h2
    exact (hb.cell (p := ⟨b, o + i * 6 + j, none⟩) h1).trans h2
  exact ⟨b, o, rfl, Nat.lt_of_lt_of_le hbl hb.size, cc 0 _ rfl, cc 1 _ rfl, cc 2 _ rfl, cc 3 _ rfl, cc 4 _ rfl, cc 5 _ rfl⟩
/-- Each pair's value stands at its key. -/
theorem objX_get {d : Nat} {f : PairE → ValN d} {l : List PairE} (h : objE d f l = 0) {e : PairE} (he : e ∈ l) : getV d (objX d f l) e.key = some (f e) ∧ rightV d (f e) = true := by
  obtain ⟨m, _, h2, h3, h4⟩ := objE_right h
  rw [h2] at h3 ⊢
  obtain ⟨i, hi⟩ := List.mem_iff_getElem?.1 (h4.mem_iff.2 he)
  have hk : (objOf d f m).to.kids[i]? = some (f e) := by
    show (m.map f)[i]? = _
    rw [List.getElem?_map, hi]; rfl
  have hq : (objOf d f m).to.keys[i]? = some e.key := by
    show (m.map PairE.key)[i]? = _
    rw [List.getElem?_map, hi]; rfl
  exact ⟨getV_at h3 hq hk, right_kid h3 hk⟩
section
variable {P : Program} {W : World} {ops : Array Oper} {rest : List Oper} {o : Oper} {a : Act} {Q : Exit → Act → World → Prop}
theorem wpList_append_ownF (hgd : o.guard = none) (s x : Operand) (t : TypeId) (ho : o.op = .call { callee := .builtin .append, args := #[s, x], argTypes := #[t, t] }) {e : TypeId} {i : TypeInfo} {z : Value} {size bytes : Nat} (ht : P.underlying t = some (.slice e)) (hi : P.info? e = some i) (hz : i.zero = some z) (hsize : i.size = size) (hby : i.bytes = bytes) (hzs : z.cells.size = size) (hsz : 0 < size)
    (base n : Nat) (v : Value) (xs : List Value) (hs : a.eval s = v) (hown : W.ownsRow base e size v n xs) (ax : Option Addr) (m c : Nat) (ys : List Value) (hx : a.eval x = .slice ax m c) (hat : FlatAt W ax ys) (hl : ys.length = m * size) (h1 : ∀ u ∈ ys, u.oneCell' = true) (hnone : ax = none → c = 0) (hmc : m ≤ c) (h63 : n + m ≤ maxLen) (hbytes : (n + m) * bytes ≤ 140737488355328) (hbase : base ≤ W.heap.size)
    (h : ∀ v' w', w'.ownsRow base e size v' (n + m) (xs ++ ys) → W.grownBy w' v.ownBlock → wpList P ops Q rest (a.put o.dst v') w') : wpList P ops Q (o :: rest) a W := by
  refine wpList_plain hgd fun K hK => ?_
  have key : ∃ v' w', (Builtin.append_ #[t, t] o.type #[v, .slice ax m c]).run P W = .ok v' w' ∧ w'.ownsRow base e size v' (n + m) (xs ++ ys) ∧ W.grownBy w' v.ownBlock := by
    cases ax with
    | none =>
      have hc := hnone rfl
      have hm : m = 0 := by omega
      subst hc
      subst hm
      have hy : ys = [] := List.length_eq_zero_iff.1 (by omega)
      subst hy
      exact ⟨v, W, run_append_owned_none W base t o.type e i size ht hi v n xs hown, by simpa using hown, World.grownBy.refl _ _⟩
    | some ad =>
      obtain ⟨v', w', r1, r2, r3, _⟩ := run_append_own_at (P := P) W base t o.type e i z size bytes ht hi hz hsize hby hzs hsz v n xs hown ad m c ys hl hat.from_ h1 h63 hbytes hbase
      exact ⟨v', w', r1, r2, r3⟩
  obtain ⟨v', w', hr, h2, h3⟩ := key
  unfold Oper.wp execOp
  simp only [ho, resolve, invoke, builtin, Sem.run_bind, Sem.run_pure, Result.andThen_ok, List.map_toArray, List.map_cons, List.map_nil, hs, hx, hr]
  exact hK _ _ (h v' w' h2 h3)
end
end Go.Dav
namespace Go.Proofs.YtmcmknndhppljaaDoor
set_option linter.unusedVariables false
set_option linter.unusedSimpArgs false
open Go.RowKit Go.Dav
attribute [local go_sem] Gives ite_val ite_val_true

/-- What both ways of making an object answer. -/
def TrydObjOut (d : Nat) (f : PairE → ValN d) (l : List PairE) (e : Ending) (w' : World) : Prop :=
  ∃ k n s a1 l1 c1 a2 l2 c2, e = .returned (.tuple #[.agg #[.int .i64 k, .int .i64 n, .string s, .slice a1 l1 c1, .slice a2 l2 c2], .int .i64 (objE d f l)]) ∧
    (objE d f l = 0 → ValAt w' (d + 1) (.agg #[.int .i64 k, .int .i64 n, .string s, .slice a1 l1 c1, .slice a2 l2 c2]) (objX d f l)) ∧
    (objE d f l ≠ 0 → (.agg #[.int .i64 k, .int .i64 n, .string s, .slice a1 l1 c1, .slice a2 l2 c2] : Value) = .agg #[.int .i64 0, .int .i64 0, .string ⟨#[]⟩, .slice none 0 0, .slice none 0 0])
theorem TrydobjOut_of {d : Nat} {f : PairE → ValN d} {l m : List PairE} {v : Value} {w' : World} (hf : insFold [] l = some m) (hv : ValAt w' (d + 1) v (objOf d f m)) : TrydObjOut d f l (.returned (wholeV (rightV (d + 1) (objOf d f m)) v)) w' := by
  obtain ⟨k, n, s, a1, l1, c1, a2, l2, c2, rfl⟩ := hv.agg
  unfold TrydObjOut objE objX
  rw [hf]
  cases hr : rightV (d + 1) (objOf d f m) with
  | true => exact ⟨k, n, s, a1, l1, c1, a2, l2, c2, by simp [wholeV, hr], fun _ => hv, fun h => (h (by simp [hr])).elim⟩
  | false => exact ⟨0, 0, ⟨#[]⟩, none, 0, 0, none, 0, 0, by simp [wholeV, hr], fun h => by simp [hr] at h, fun _ => rfl⟩
theorem TrydobjOut_dup {d : Nat} {f : PairE → ValN d} {l : List PairE} {w' : World} (hf : insFold [] l = none) : TrydObjOut d f l (.returned (.tuple #[.agg zeroL.toArray, .int .i64 141])) w' := by
  unfold TrydObjOut objE objX
  rw [hf]
  exact ⟨0, 0, ⟨#[]⟩, none, 0, 0, none, 0, 0, rfl, (fun h => absurd (show (141 : Int) = 0 from h) (by decide)), fun _ => rfl⟩
theorem Tryd_objOut (d : Nat) (f : PairE → ValN d) (a : Option Addr) (n c : Nat) (l : List PairE) (w : World) (hl : l.length = n) (hat : FlatAt w a (flatE l)) (hnil : a = none → c = 0) (hnc : n ≤ c) (hn : n ≤ 300) (hf : ∀ e ∈ l, ValAt w d (.agg #[.int .i64 e.k, .int .i64 e.n, .string e.s, .slice e.a1 e.l1 e.c1, .slice e.a2 e.l2 e.c2]) (f e)) (hks : ∀ e ∈ l, e.key.size ≤ 17592186044416) (hN : GlobAt w 0 [.int .i64 0, .int .i64 0] 143) :
    Calls Tryd.prog 23 #[.slice a n c] w fun e w' => TrydObjOut d f l e w' ∧ Below w.heap.size w w' := by
  refine (Tryd_ObjectG d f a n c l w hl hat hnil hnc hn hf hks hN).mono ?_
  rintro e w' ⟨⟨m, hm, hp, hs, h⟩, hb⟩
  refine ⟨?_, hb⟩
  rcases h with ⟨h1, rfl⟩ | ⟨h1, v, hv, rfl⟩
  · exact TrydobjOut_dup (ways_none hp h1)
  · exact TrydobjOut_of (ways_some hm hp hs h1) hv
theorem Tryd_robjOut (d : Nat) (f : PairE → ValN d) (a : Option Addr) (n c : Nat) (l : List PairE) (w : World) (hl : l.length = n) (hat : FlatAt w a (flatE l)) (hn : n ≤ 300) (hf : ∀ e ∈ l, ValAt w d (.agg #[.int .i64 e.k, .int .i64 e.n, .string e.s, .slice e.a1 e.l1 e.c1, .slice e.a2 e.l2 e.c2]) (f e)) (hks : ∀ e ∈ l, e.key.size ≤ 17592186044416) :
    Calls Tryd.prog 24 #[.slice a n c] w fun e w' => TrydObjOut d f l e w' ∧ Below w.heap.size w w' := by
  refine (Tryd_rObject d f a n c l w hl hat hn hf hks).mono ?_
  rintro e w' ⟨h, hb⟩
  refine ⟨?_, hb⟩
  unfold TrydRObjBack at h
  cases hi : insFold [] l with
  | none => rw [hi] at h; rw [h]; exact TrydobjOut_dup hi
  | some m =>
    rw [hi] at h
    obtain ⟨v, hv, rfl⟩ := h
    exact TrydobjOut_of hi hv
end Go.Proofs.YtmcmknndhppljaaDoor
