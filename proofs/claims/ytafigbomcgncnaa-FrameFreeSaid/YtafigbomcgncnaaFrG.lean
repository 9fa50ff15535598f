/-
  Layer 11: Get, walked.
-/
import Derived.Test.YtafigbomcgncnaaFrF
import Derived.Test.YtafigbomcgncnaaFilT
namespace Go.Dav
set_option linter.unusedVariables false
set_option linter.unusedSimpArgs false
open Go Go.RowKit
def bytesOf (pre : List PlT) : List UInt8 := pre.map fun x => x.1.2
def nextOf (pre : List PlT) : Nat := match pre.getLast? with | some x => x.1.1 + 1 | none => 0
theorem bytesOf_snoc (pre : List PlT) (x : PlT) : bytesOf (pre ++ [x]) = bytesOf pre ++ [x.1.2] := by simp [bytesOf]
theorem nextOf_snoc (pre : List PlT) (x : PlT) : nextOf (pre ++ [x]) = x.1.1 + 1 := by simp [nextOf]
theorem bytesOf_len (pre : List PlT) : (bytesOf pre).length = pre.length := by simp [bytesOf]
theorem ownsRow_own {β : Type} (base e n : Nat) (v : β → Value) (m : β → Nat) (xs : β → List Value) (s : β) {X Y : World} {row : Option Nat} (h : X.ownsRow base e 1 (v s) (m s) (xs s)) (hg : X.grownBy Y row) (hr : ∀ r, row = some r → ∃ o : Obj, X.heap[r]? = some o ∧ o.isCells = false) : Y.ownsRow base e 1 (v s) (m s) (xs s) := by
  refine ⟨h.1, ?_⟩
  rcases h.2 with k | ⟨g, cap, cur, k1, k2, k3, k4⟩
  · exact .inl k
  · refine .inr ⟨g, cap, cur, k1, k2, ?_, k4⟩
    refine (hg.block g (Array.getElem?_eq_some_iff.1 k3).1 (fun e' => ?_)).trans k3
    obtain ⟨o, ho, hc⟩ := hr g e'.symm
    rw [k3] at ho; cases ho; cases hc
/-- What Get holds in its round. -/
def GetAt (q base tb ts ti : Nat) (ok : List UInt8 → Nat → Prop) (pre : List PlT) (W : World) : Prop :=
  ∃ (v : Value) (want : Nat), Blk W q [v] ts ∧ W.ownsRow base tb 1 v pre.length (u8s (bytesOf pre)) ∧ Blk W (q + 1) [.int .i64 (want : Int)] ti ∧ Blk W (q + 1 + 1) [.int .i64 (nextOf pre : Int)] ti ∧ ok (bytesOf pre) want ∧ base ≤ W.heap.size
theorem getAt_own (q base tb ts ti : Nat) (ok : List UInt8 → Nat → Prop) : Own (GetAt q base tb ts ti ok) := fun s X Y row ⟨v, want, h1, h2, h3, h4, h5, h6⟩ hg hr =>
  ⟨v, want, blk_own q _ _ s X Y row h1 hg hr, ownsRow_own (β := Unit) base tb 0 (fun _ => v) (fun _ => s.length) (fun _ => u8s (bytesOf s)) () h2 hg hr, blk_own (q + 1) _ _ s X Y row h3 hg hr, blk_own (q + 1 + 1) _ _ s X Y row h4 hg hr, h5, Nat.le_trans h6 hg.size⟩
theorem get_grown {W w' : World} {q base tb ts ti k m g cap : Nat} {z v x9 x10 : Value} {xs ys : List Value} (h8 : Blk W q [v] ts) (h9 : Blk W (q + 1) [x9] ti) (h10 : Blk W (q + 1 + 1) [x10] ti) (hts : ts ≠ tb) (hti : ti ≠ tb) (hrow : W.ownsRow base tb 1 v k xs) (hb : base ≤ W.heap.size) (hq : base ≤ q)
    (hown : w'.ownsRow base tb 1 (.slice (some ⟨g, 0, none⟩) m cap) m ys) (hgrow : (W.alloc (.cells #[z] tb)).grownBy w' v.ownBlock) (hg : v.ownBlock = some g ∨ g = (W.alloc (.cells #[z] tb)).heap.size) (hgl : g < w'.heap.size) :
    (Blk w' q [v] ts ∧ Blk w' (q + 1) [x9] ti ∧ Blk w' (q + 1 + 1) [x10] ti) ∧
    ∀ y W4, (w'.setCell ⟨q, 0, none⟩ (.slice (some ⟨g, 0, none⟩) m cap)).setCell ⟨q + 1 + 1, 0, none⟩ y = W4 →
    Blk W4 q [.slice (some ⟨g, 0, none⟩) m cap] ts ∧ Blk W4 (q + 1) [x9] ti ∧ Blk W4 (q + 1 + 1) [y] ti ∧ W4.ownsRow base tb 1 (.slice (some ⟨g, 0, none⟩) m cap) m ys ∧ KeepsOthers W W4 ∧ KpQ q (fun k => k = q ∨ k = q + 1 ∨ k = q + 1 + 1) W W4 ∧ Below base W W4 := by
  have far : ∀ {b : Nat} {cs : List Value} {t : TypeId}, Blk W b cs t → t ≠ tb → some b ≠ v.ownBlock := fun {b cs t} h ht e => by
    rcases hrow.2 with ⟨rfl, _⟩ | ⟨g0, c0, cur, rfl, _, hgb, _⟩
    · simp [Value.ownBlock] at e
    · obtain rfl : b = g0 := by simpa [Value.ownBlock] using e
      rw [show W.heap[b]? = _ from h] at hgb; cases hgb; exact ht rfl
  have kept : ∀ {b : Nat} {cs : List Value} {t : TypeId}, Blk W b cs t → t ≠ tb → Blk w' b cs t := fun {b cs t} h ht =>
    (hgrow.block b (by rw [World.size_alloc]; exact Nat.lt_succ_of_lt h.lt) (far h ht)).trans (h.alloc _)
  have k8 := kept h8 hts
  have k9 := kept h9 hti
  have k10 := kept h10 hti
  refine ⟨⟨k8, k9, k10⟩, ?_⟩
  rintro y W4 rfl
  have farg : ∀ {b : Nat} {cs : List Value} {t : TypeId}, Blk w' b cs t → t ≠ tb → b ≠ g := fun {b cs t} h ht e => by
    rcases hown.2 with ⟨e1, _⟩ | ⟨g0, c0, cur, e1, _, hgb, _⟩
    · cases e1
    · cases e1; subst e
      rw [show w'.heap[b]? = _ from h] at hgb; cases hgb; exact ht rfl
  have g8 := farg k8 hts
  have g10 := farg k10 hti
  have hsz : W.heap.size ≤ w'.heap.size := Nat.le_trans (by rw [World.size_alloc]; omega) hgrow.size
  have hb4 : ∀ b, b ≠ q → b ≠ q + 1 + 1 → ((w'.setCell ⟨q, 0, none⟩ (.slice (some ⟨g, 0, none⟩) m cap)).setCell ⟨q + 1 + 1, 0, none⟩ y).heap[b]? = w'.heap[b]? := fun b h1 h2 => (Below.heap_setCell _ _ _ b h2).trans (Below.heap_setCell _ _ _ b h1)
  have hs4 : ((w'.setCell ⟨q, 0, none⟩ (.slice (some ⟨g, 0, none⟩) m cap)).setCell ⟨q + 1 + 1, 0, none⟩ y).heap.size = w'.heap.size := by simp
  have b8 : Blk ((w'.setCell ⟨q, 0, none⟩ (.slice (some ⟨g, 0, none⟩) m cap)).setCell ⟨q + 1 + 1, 0, none⟩ y) q [.slice (some ⟨g, 0, none⟩) m cap] ts := (k8.set 0 _).other (by omega) 0 _
  have hko : KeepsOthers W w' := (KeepsOthers.alloc W _).trans (KeepsOthers.of_grownBy hgrow fun j o ej hj => by
    rcases (hrow.alloc (.cells #[z] tb)).2 with ⟨rfl, _⟩ | ⟨g0, c0, cur, rfl, _, hgb, _⟩
    · simp [Value.ownBlock] at ej
    · obtain rfl : g0 = j := by simpa [Value.ownBlock] using ej
      rw [hgb] at hj; cases hj; rfl)
  have ptsv : ∀ j, v.ownBlock = some j → PtsTo W q j := fun j ej => by
    rcases hrow.2 with ⟨rfl, _⟩ | ⟨g0, c0, cur, rfl, _, hgb, _⟩
    · simp [Value.ownBlock] at ej
    · obtain rfl : g0 = j := by simpa [Value.ownBlock] using ej
      exact ⟨0, k, c0, h8.cell 0 rfl⟩
  refine ⟨b8, (k9.other (by omega) 0 _).other (by omega) 0 _, (k10.other (by omega) 0 _).set 0 _, ?_, (hko.trans (KeepsOthers.setCell _ _ _)).trans (KeepsOthers.setCell _ _ _), ?_, ?_⟩
  · refine (hown.kept (grownBy_setCell' w' q _) (.inr ?_)).kept (grownBy_setCell' _ (q + 1 + 1) _) (.inr ?_)
    · intro e; simp [Value.ownBlock] at e; omega
    · intro e; simp [Value.ownBlock] at e; omega
  · refine ⟨by omega, fun j o hj hc hp hn => ?_, ?_⟩
    · have hjl := (Array.getElem?_eq_some_iff.1 hj).1
      have h1 : j ≠ q := fun e => hp (.inl e)
      have h2 : j ≠ q + 1 + 1 := fun e => hp (.inr (.inr e))
      rw [hb4 j h1 h2, hgrow.block j (by rw [World.size_alloc]; omega) (fun e => hn (ptsv j e.symm)), Below.heap_alloc _ _ _ hjl]
      exact hj
    · rintro j ⟨o, n1, c1, hc⟩
      rw [b8.cell 0 rfl] at hc
      cases hc
      rcases hg with hg | hg
      · exact .inl (ptsv g hg)
      · refine .inr ⟨?_, by omega⟩
        rw [World.size_alloc] at hg; omega
  · refine (((((Below.refl base W).alloc hb _).grown hgrow (by rw [World.size_alloc]; omega) fun j ej => ?_).setCell (p := ⟨q, 0, none⟩) hq _).setCell (p := ⟨q + 1 + 1, 0, none⟩) (by show base ≤ q + 1 + 1; omega) y)
    rcases hrow.2 with ⟨rfl, _⟩ | ⟨g0, c0, cur, rfl, hb', _, _⟩
    · simp [Value.ownBlock] at ej
    · obtain rfl : g0 = j := by simpa [Value.ownBlock] using ej
      exact hb'
theorem KpQ.set {q b i : Nat} {p : Nat → Prop} {W : World} (hp : p b) (hq : b ≠ q) (v : Value) : KpQ q p W (W.setCell ⟨b, i, none⟩ v) :=
  ⟨by simp, fun k o h1 _ h3 _ => (Below.heap_setCell _ _ _ k (fun e => h3 (e ▸ hp))).trans h1, fun k ⟨o, n, c, hc⟩ => .inl ⟨o, n, c, by
    rw [← World.cell?_of_block (Below.heap_setCell W ⟨b, i, none⟩ v q (fun e => hq e.symm))]; exact hc⟩⟩
theorem get_stored {W W4 W5 W7 : World} {q base tb ts ti m g cap : Nat} {y x9 x10 : Value} {ys : List Value} (c8 : Blk W4 q [.slice (some ⟨g, 0, none⟩) m cap] ts) (c9 : Blk W4 (q + 1) [x9] ti) (c10 : Blk W4 (q + 1 + 1) [x10] ti) (hti : ti ≠ tb)
    (cr : W4.ownsRow base tb 1 (.slice (some ⟨g, 0, none⟩) m cap) m ys) (ck : KeepsOthers W W4) (cq : KpQ q (fun k => k = q ∨ k = q + 1 ∨ k = q + 1 + 1) W W4) (cb : Below base W W4) (hq : base ≤ q) (hE : Below W4.heap.size W4 W5) (hb : Below (W5.setCell ⟨q + 1, 0, none⟩ y).heap.size (W5.setCell ⟨q + 1, 0, none⟩ y) W7) :
    Blk W7 q [.slice (some ⟨g, 0, none⟩) m cap] ts ∧ Blk W7 (q + 1) [y] ti ∧ Blk W7 (q + 1 + 1) [x10] ti ∧ W7.ownsRow base tb 1 (.slice (some ⟨g, 0, none⟩) m cap) m ys ∧ KeepsOthers W W7 ∧ KpQ q (fun k => k = q ∨ k = q + 1 ∨ k = q + 1 + 1) W W7 ∧ Below base W W7 := by
  have l8 := c8.lt
  have s5 := hE.size
  have s6 : (W5.setCell ⟨q + 1, 0, none⟩ y).heap.size = W5.heap.size := by simp
  have hg : q + 1 ≠ g := fun e => by
    rcases cr.2 with ⟨e1, _⟩ | ⟨g0, c0, cur, e1, _, hgb, _⟩
    · cases e1
    · cases e1; subst e
      rw [show W4.heap[q + 1]? = _ from c9] at hgb; cases hgb; exact hti rfl
  refine ⟨((c8.ext hE).other (by omega) 0 y).ext hb, ((c9.ext hE).set 0 y).ext hb, ((c10.ext hE).other (by omega) 0 y).ext hb, ownsRow_ext ((ownsRow_ext cr hE).kept (grownBy_setCell' W5 (q + 1) y) (.inr ?_)) hb, ((ck.trans (keeps_below hE)).trans (KeepsOthers.setCell _ _ _)).trans (keeps_below hb), ?_, ?_⟩
  · intro e; simp [Value.ownBlock] at e; omega
  · exact ((cq.t (KpQ.of_below l8 hE)).t (KpQ.set (.inr (.inl rfl)) (by omega) y)).t (KpQ.of_below (by omega) hb)
  · have h1 : base ≤ W4.heap.size := by omega
    exact ((cb.trans (hE.mono h1)).setCell (p := ⟨q + 1, 0, none⟩) (by show base ≤ q + 1; omega) y).trans (hb.mono (by omega))
theorem alive_step {l : List UInt8} {c : UInt8} {want : Nat} (h : Alive l want) (h6 : ¬ l.length + 1 = 6) : (l.length + 1 = want → Halted (l ++ [c]) want) ∧ (¬ l.length + 1 = want → Alive (l ++ [c]) want) := by
  have e : (l ++ [c]).length = l.length + 1 := by simp
  rcases h with ⟨h1, h2⟩ | ⟨h1, h2, h3, h4⟩
  · exact ⟨fun hw => by omega, fun hw => .inl ⟨by omega, h2⟩⟩
  · have hz : szOf (l ++ [c]) = szOf l := szOf_append (by omega) _
    exact ⟨fun hw => ⟨by omega, by rw [hz]; exact h3, .inr ⟨by omega, by rw [hz]; exact h2⟩⟩, fun hw => .inr ⟨by omega, by rw [hz]; exact h2, by rw [hz]; exact h3, by omega⟩⟩
theorem alive_six {l : List UInt8} (h : l.length = 6) : (mayBe (szOf l) → Alive l (6 + szOf l)) ∧ (¬ mayBe (szOf l) → Halted l (6 + szOf l)) :=
  ⟨fun hm => .inr ⟨by omega, hm, rfl, by have := hm.1; omega⟩, fun hm => ⟨by omega, rfl, .inl ⟨h, hm⟩⟩⟩
theorem frameOf_alive {T : List (Nat × UInt8)} {want : Nat} (h : Alive (T.map (·.2)) want) : frameOf T = none := by
  unfold frameOf
  refine if_neg fun hf => ?_
  rcases h with ⟨h1, _⟩ | ⟨_, _, h3, h4⟩
  · rw [List.length_map] at h1; have := hf.1; omega
  · rw [List.length_map] at h4; have := hf.2.2.1; omega
theorem frameOf_six {T : List (Nat × UInt8)} {l r : List UInt8} (hT : T.map (·.2) = l ++ r) (h6 : l.length = 6) (hm : ¬ mayBe (szOf l)) : frameOf T = none := by
  unfold frameOf
  refine if_neg fun hf => hm ?_
  have := hf.2.1
  rwa [hT, szOf_append (by omega)] at this
theorem frameOf_whole {T : List (Nat × UInt8)} {l r : List UInt8} {want : Nat} (hT : T.map (·.2) = l ++ r) (hl : l.length = want) (hm : mayBe (szOf l)) (hw : want = 6 + szOf l) : (outOf (l.drop 6) = l → frameOf T = some (l.drop 6, (T[want - 1]?.map fun x => x.1 + 1).getD 0)) ∧ (¬ outOf (l.drop 6) = l → frameOf T = none) := by
  have hz : szOf (T.map (·.2)) = szOf l := by rw [hT, szOf_append (by omega)]
  have hlen : T.length = l.length + r.length := by have := congrArg List.length hT; simpa using this
  have e1 : ((T.map (·.2)).drop 6).take (szOf (T.map (·.2))) = l.drop 6 := by
    rw [hz, hT, List.drop_append_of_le_length (by omega), List.take_left' (by rw [List.length_drop]; omega)]
  have e2 : (T.map (·.2)).take (6 + szOf (T.map (·.2))) = l := by
    rw [hz, hT, List.take_left' (by omega)]
  have e3 : 5 + szOf (T.map (·.2)) = want - 1 := by rw [hz]; omega
  have h1 : 1 ≤ szOf l := hm.1
  unfold frameOf
  refine ⟨fun he => ?_, fun he => if_neg fun hf => he ?_⟩
  · rw [if_pos ⟨by omega, by rw [hz]; exact hm, by rw [hz]; omega, by rw [e1, e2]; exact he⟩, e1, e3]
  · have := hf.2.2.2
    rwa [e1, e2] at this
theorem next_whole {ys : List PlT} {T : List (Nat × UInt8)} (h : ys.map (·.1) <+: T) (hn : 0 < ys.length) : (T[ys.length - 1]?.map fun x => x.1 + 1).getD 0 = nextOf ys := by
  obtain ⟨r, rfl⟩ := h
  rw [List.getElem?_append_left (by rw [List.length_map]; omega), List.getElem?_map]
  unfold nextOf
  rw [List.getLast?_eq_getElem?]
  cases ys[ys.length - 1]? <;> rfl
theorem row_one_cell (W : World) (x : Value) (t : TypeId) : ∀ (j : Nat) (u : Value), [x][j]? = some u → (W.alloc (.cells #[x] t)).cell? (Addr.add ⟨W.heap.size, 0, none⟩ j) = some u := fun j u h => by
  cases j with
  | zero => cases h; exact (Blk.new W [x] t).cell 0 rfl
  | succ j => cases h
def GetsTo (w : World) (T : List (Nat × UInt8)) (e : Ending) (w' : World) : Prop :=
  (∃ p nx, frameOf T = some (p, nx) ∧ ∃ a n c, e = .returned (.tuple #[.slice a n c, .int .i64 (nx : Int), .int .i64 0]) ∧ BytesAt w' a n c p ∧ Below w.heap.size w w') ∨
  (frameOf T = none ∧ e = .returned (.tuple #[.slice none 0 0, .int .i64 0, .int .i64 210]) ∧ Below w.heap.size w w')
end Go.Dav
namespace Go.Proofs.Ytafigbomcgncnaa
set_option linter.unusedVariables false
set_option linter.unusedSimpArgs false
open Go.RowKit Go.Dav Go.Shelf
attribute [local go_sem] Gives ite_val ite_val_true Oper.semAt_some

set_option maxRecDepth 100000 in
set_option maxHeartbeats 8000000 in
theorem Try_Get (F : FileD) (fa la : Option Addr) (fl fc ll lc : Nat) (at_ : Int) (w : World) (S : Nat → Prop) (hF : FileS w S fa fl fc la ll lc F) (hS : ∀ b, S b → b < w.heap.size) (hr : F.right = true) (ha : I64' at_) :
    Calls Try.prog 10 #[.agg #[.slice fa fl fc, .slice la ll lc, .int .i64 F.fuse, .int .i64 F.fault, .bool F.off], .int .i64 at_] w (GetsTo w (pastAll F.all at_)) := by
  have hW : Below w.heap.size w (w.alloc (.cells [.slice fa fl fc, .slice la ll lc, .int .i64 F.fuse, .int .i64 F.fault, .bool F.off].toArray 25)) := (by repeat (first | (with_reducible exact Below.refl _ _) | (with_reducible exact Below.refl _ _) | (with_reducible refine Below.setCell ?_ (by first | omega | (simp; done) | (simp; omega)) _) | (with_reducible refine Below.alloc ?_ (by first | omega | (simp; done) | (simp; omega)) _) | (with_reducible refine Below.drew ?_) | (with_reducible refine below_drewN ?_ _)))
  have HB0 := Lib.hid (Blk.new w [.slice fa fl fc, .slice la ll lc, .int .i64 F.fuse, .int .i64 F.fault, .bool F.off] 25)
  have HF0 := Lib.hid (hF.ext hW)
  have HW := Lib.hid hW
  have HSS := Lib.hid hS
  have HR := Lib.hid hr
  have HAT := Lib.hid ha
  have hC := Try_Check F fa la fl fc ll lc _ HF0.out.at_
  rw [show F.err = 0 by unfold FileD.err; rw [if_pos hr]] at hC
  have HC := Lib.hid hC
  clear hF hW hS hr ha hC
  refine (callsIn_wide (n := 4)).1 ?_
  refine callsIn_of_wp_marks Try.func10 rfl trivial (wpIn_wide.2 ?_) rfl
  simp only [Try.ntmps10, List.size_toArray, List.length_cons, List.length_nil, Nat.reduceAdd, Nat.reduceSub, Array.replicate_succ, Array.replicate_zero, List.push_toArray, List.append_toArray, List.nil_append, List.cons_append]
  go_wp2_with fail
  go_step3
  go_wp2_with fail
  refine HC.out.mono ?_; rintro e w1 ⟨rfl, hb1⟩
  have HB1 := Lib.hid (HB0.out.ext hb1)
  have HF1 := Lib.hid (HF0.out.ext hb1)
  have BEL1 := Lib.hid (HW.out.trans (hb1.mono HW.out.size))
  have hs1 : w.heap.size < w1.heap.size := HB1.out.lt
  have q1 := HB1.out.cells
  have l1 := HB1.out.lt
  clear hb1 HB0 HF0 HW HC
  have lt_w1_0_0 : w.heap.size < w1.heap.size := by omega
  have lt_w1_0_1 : w.heap.size < w1.heap.size + 1 := by omega
  have lt_w1_0_2 : w.heap.size < w1.heap.size + 1 + 1 := by omega
  have lt_w1_0_3 : w.heap.size < w1.heap.size + 1 + 1 + 1 := by omega
  have lt_w1_0_4 : w.heap.size < w1.heap.size + 1 + 1 + 1 + 1 := by omega
  go_wp2_with fail
  go_step3
  go_wp2_with fail
  refine (Try_behind F fa la fl fc ll lc at_ _).mono ?_; rintro e w4 ⟨rfl, rfl⟩
  go_wp2_with fail
  obtain ⟨L, hL⟩ : ∃ L, ((((w1.alloc (.cells #[.slice none 0 0] 22)).alloc (.cells #[.int .i64 6] 3)).alloc (.cells #[.int .i64 0] 3)).alloc (.cells [.slice fa fl fc, .slice la ll lc, .int .i64 F.fuse, .int .i64 F.fault, .bool F.off].toArray 25)).alloc (.cells #[.int .i64 at_] 3) = L := ⟨_, rfl⟩
  have hsz : L.heap.size = w1.heap.size + 1 + 1 + 1 + 1 + 1 := by rw [← hL]; simp
  have hbL : Below w1.heap.size w1 L := by rw [← hL]; exact (by repeat (first | (with_reducible exact Below.refl _ _) | (with_reducible exact Below.refl _ _) | (with_reducible refine Below.setCell ?_ (by first | omega | (simp; done) | (simp; omega)) _) | (with_reducible refine Below.alloc ?_ (by first | omega | (simp; done) | (simp; omega)) _) | (with_reducible refine Below.drew ?_) | (with_reducible refine below_drewN ?_ _)))
  have hq8 : Blk L w1.heap.size [.slice none 0 0] 22 := by rw [← hL]; exact ((((Blk.new w1 _ _).alloc _).alloc _).alloc _).alloc _
  have hq9 : Blk L (w1.heap.size + 1) [.int .i64 6] 3 := by rw [← hL]; exact (((Blk.new' _ _ _ (by simp)).alloc _).alloc _).alloc _
  have hq10 : Blk L (w1.heap.size + 1 + 1) [.int .i64 0] 3 := by rw [← hL]; exact ((Blk.new' _ _ _ (by simp)).alloc _).alloc _
  have hqB : Blk L (w1.heap.size + 1 + 1 + 1) [.slice fa fl fc, .slice la ll lc, .int .i64 F.fuse, .int .i64 F.fault, .bool F.off] 25 := by rw [← hL]; exact (Blk.new' _ [.slice fa fl fc, .slice la ll lc, .int .i64 F.fuse, .int .i64 F.fault, .bool F.off] _ (by simp)).alloc _
  have hqA : Blk L (w1.heap.size + 1 + 1 + 1 + 1) [.int .i64 at_] 3 := by rw [← hL]; exact Blk.new' _ _ _ (by simp)
  have hseq := Try_behind1 F fa la fl fc ll lc at_ L S (fun k => k = w1.heap.size ∨ k = w1.heap.size + 1 ∨ k = w1.heap.size + 1 + 1) (4 - 1) (w1.heap.size + 1 + 1 + 1) w1.heap.size 22 (by decide) (HF1.out.ext hbL) HR.out (fun b h => by have := HSS.out b h; omega) (fun b h => by omega) hqB hqA (by omega) hq8 HAT.out
  have HSEQ := Lib.hid hseq
  have HBL := Lib.hid hbL
  have hI0 : GetAt w1.heap.size w1.heap.size 5 22 3 Alive [] L := ⟨_, 6, hq8, World.ownsRow_nil _ _ _ _, hq9, hq10, Alive.nil_, by omega⟩
  have HI0 := Lib.hid hI0
  rw [show _ = L from hL]
  have HSZ := Lib.hid hsz
  clear hL hsz hbL hq8 hq9 hq10 hqB hqA hseq hI0
  refine wpIn_wide.1 (wpIn_rangeFunc_ownF (n := 4) rfl (by decide) (gf := 44) (lb := #[.pointer (some ⟨w1.heap.size + 1 + 1 + 1, 0, none⟩), .pointer (some ⟨w1.heap.size + 1 + 1 + 1 + 1, 0, none⟩)]) rfl trivial Try_enter44 HSEQ.out KpQ.t (KpQ.b (by have := HSZ.out; omega)) (Below.refl _ _) (fun _ => rfl)
    (fun pre W => GetAt w1.heap.size w1.heap.size 5 22 3 Alive pre W ∧ Below w1.heap.size L W)
    (fun c pre W => (c = .exit 0 ∧ GetAt w1.heap.size w1.heap.size 5 22 3 Halted pre W) ∧ Below w1.heap.size L W)
    (OwnFrom.and (Own.from (getAt_own _ _ _ _ _ _) _) (ownFrom_below (by have := HSZ.out; omega) (by have := HSZ.out; omega)))
    (fun c => OwnFrom.and (Own.from (fun s A B row hs hg hr => ⟨hs.1, getAt_own _ _ _ _ _ _ s A B row hs.2 hg hr⟩) _) (ownFrom_below (by have := HSZ.out; omega) (by have := HSZ.out; omega)))
    ⟨HI0.out, Below.refl _ _⟩
    ?act ?assign ?body ?done ?stop)
  case assign =>
    intro l x W K hK
    gi_wp2
    exact hK
  case body =>
    rintro l pre x W ⟨⟨v, want, h8, hrow, h9, h10, hal, hsz⟩, hB⟩ -
    have hlen := hal.len
    rw [bytesOf_len] at hlen
    have H8 := Lib.hid h8
    have HROW := Lib.hid hrow
    have H9 := Lib.hid h9
    have H10 := Lib.hid h10
    have HAL := Lib.hid hal
    have HB := Lib.hid hB
    have HSZW := Lib.hid hsz
    have hxle := x.2
    obtain ⟨pl, c, hx⟩ : ∃ pl c, x.1 = (pl, c) := ⟨_, _, rfl⟩
    rw [hx] at hxle ⊢
    dsimp only at hxle ⊢
    have HX := Lib.hid hx
    have q8 := h8.cells
    have m8 := h8.marks
    have l8 := h8.lt
    have q9 := h9.cells
    have m9 := h9.marks
    have l9 := h9.lt
    have q10 := h10.cells
    have m10 := h10.marks
    have l10 := h10.lt
    obtain ⟨ra, rc, rfl, _⟩ := own_cells hrow
    clear h8 hrow h9 h10 hal hB hsz hx
    have k1 : pre.length + 1 ≤ maxLen := by unfold maxLen; omega
    have k2 : IntKind.i64.wrap ((pl : Int) + 1) = ((pl + 1 : Nat) : Int) := by rw [Int.natCast_add]; exact IntWalk.i64_in _ (by omega)
    clear hxle
    have e7 : u8s (bytesOf pre) ++ [.int .u8 (c.toNat : Int)] = u8s (bytesOf (pre ++ [x])) := by rw [bytesOf_snoc, u8s_append, HX.out]; rfl
    have E7 := Lib.hid e7
    have E8 := Lib.hid (show (bytesOf (pre ++ [x])).length = pre.length + 1 by rw [bytesOf_snoc, List.length_append, bytesOf_len]; rfl)
    have E9 := Lib.hid (show nextOf (pre ++ [x]) = pl + 1 by rw [nextOf_snoc, HX.out])
    clear e7
    by_cases k6 : pre.length + 1 = 6
    · skip
      gi_wp2_with (gi_at_builtin; refine wpListIn_append_lies rfl (.tmp 23) (.tmp 25) 22 rfl Try_elemU8 w1.heap.size _ pre.length (u8s (bytesOf pre)) rfl (HROW.out.alloc _) ⟨W.heap.size, 0, none⟩ 1 1 [.int .u8 (c.toNat : Int)] rfl rfl (row_one_cell W _ _) (fun u hu => by simp at hu; subst hu; rfl) (by omega) k1 (by omega) (by have := HSZW.out; simp; omega) ?_; intro g cap w' hown' hgrow hg hgl; obtain ⟨⟨b8', b9', b10'⟩, hW4⟩ := get_grown H8.out H9.out H10.out (by decide) (by decide) HROW.out HSZW.out (Nat.le_refl _) hown' hgrow hg hgl; have q8' := b8'.cells; have m8' := b8'.marks; have q10' := b10'.cells; have m10' := b10'.marks; have l8' := b8'.lt; have l10' := b10'.lt; have q9' := b9'.cells; have m9' := b9'.marks; have l9' := b9'.lt; have HW4 := Lib.hid hW4; clear b8' b9' b10' hW4 hown' hgrow hg hgl)
      obtain ⟨W4, hw4⟩ : ∃ W4, (w'.setCell ⟨w1.heap.size, 0, none⟩ (.slice (some ⟨g, 0, none⟩) 6 cap)).setCell ⟨w1.heap.size + 1 + 1, 0, none⟩ (.int .i64 ((pl : Int) + 1)) = W4 := ⟨_, rfl⟩
      obtain ⟨c8, c9, c10, cr, ck, cq, cb⟩ := HW4.out _ W4 (by rw [k6]; exact hw4)
      rw [hw4]
      rw [E7.out, k6] at cr
      rw [k6] at c8
      have E8' := Lib.hid (E8.out.trans k6)
      obtain ⟨_, _, ee, _, _, _, hcc⟩ := own_cells cr
      cases ee
      obtain ⟨ba, hba⟩ : ∃ ba, (bytesOf (pre ++ [x]))[0]? = some ba := ⟨_, List.getElem?_eq_getElem (by rw [E8'.out]; omega)⟩
      obtain ⟨bb, hbb⟩ : ∃ bb, (bytesOf (pre ++ [x]))[1]? = some bb := ⟨_, List.getElem?_eq_getElem (by rw [E8'.out]; omega)⟩
      have y0 : W4.cell? ⟨g, 0, none⟩ = some (.int .u8 (ba.toNat : Int)) := by
        obtain ⟨b, i, e1, _, _, h3⟩ := hcc.at_ 0 (.int .u8 (ba.toNat : Int)) (by simp [u8s, hba])
        cases e1; exact h3
      have y1 : W4.cell? ⟨g, 1, none⟩ = some (.int .u8 (bb.toNat : Int)) := by
        obtain ⟨b, i, e1, _, _, h3⟩ := hcc.at_ 1 (.int .u8 (bb.toNat : Int)) (by simp [u8s, hbb])
        cases e1; exact h3
      have hsz6 : szOf (bytesOf (pre ++ [x])) = ba.toNat * 256 + bb.toNat := szOf_get hba hbb
      have n0 := ba.toNat_lt
      have n1 := bb.toNat_lt
      have q4 := c8.cell 0 rfl
      have q4' := c9.cell 0 rfl
      have m4' := c9.marks
      have l4' := c9.lt
      have l4 := c8.lt
      have lg : g < W4.heap.size := by
        obtain ⟨b, i, e1, h1, _, h3⟩ := hcc.at_ 1 (.int .u8 (bb.toNat : Int)) (by simp [u8s, hbb])
        cases e1; exact h1
      have C8 := Lib.hid c8
      have C9 := Lib.hid c9
      have C10 := Lib.hid c10
      have CR := Lib.hid cr
      have CK := Lib.hid ck
      have CQ := Lib.hid cq
      have CB := Lib.hid cb
      have HSZ6 := Lib.hid hsz6
      clear hw4 c8 c9 c10 cr ck cq cb hcc hsz6 hba hbb HW4 q8 q9 q10 m8 m9 m10 l8 l9 l10 q8' m8' q9' m9' q10' m10' l8' l9' l10' k2
      refine' wpIn_region_seqF [] [.inl _, .inl _, .inl _, .inl _, .inl _, .inl _, .inl _, .inl _, .inl _, .inl _, .inl _] (by kernel_rfl) (by kernel_rfl) (by kernel_rfl) ?main1
      case main1 =>
        refine wpParts_det (by rfl) (fun W hE hN => ?_) ?_
        · have hc := fun b o h => hE.cell (p := ⟨b, o, none⟩) h
          go_simp; refine ⟨Below.refl _ _, ?_⟩; rfl
        simp only [Act.put, List.setIfInBounds_toArray, List.set_cons_zero, List.set_cons_succ]
        refine wpParts_det (by rfl) (fun W hE hN => ?_) ?_
        · go_simp; refine ⟨Below.refl _ _, ?_⟩; rfl
        simp only [Act.put, List.setIfInBounds_toArray, List.set_cons_zero, List.set_cons_succ]
        refine wpParts_det (by rfl) (fun W hE hN => ?_) ?_
        · have hc := fun b o h => hE.cell (p := ⟨b, o, none⟩) h
          go_simp; refine ⟨Below.refl _ _, ?_⟩; rfl
        simp only [Act.put, List.setIfInBounds_toArray, List.set_cons_zero, List.set_cons_succ]
        refine wpParts_det (by rfl) (fun W hE hN => ?_) ?_
        · go_simp; refine ⟨Below.refl _ _, ?_⟩; rfl
        simp only [Act.put, List.setIfInBounds_toArray, List.set_cons_zero, List.set_cons_succ]
        refine wpParts_det (by rfl) (fun W hE hN => ?_) ?_
        · go_simp; refine ⟨Below.refl _ _, ?_⟩; rfl
        simp only [Act.put, List.setIfInBounds_toArray, List.set_cons_zero, List.set_cons_succ]
        refine wpParts_det (by rfl) (fun W hE hN => ?_) ?_
        · go_simp; refine ⟨Below.refl _ _, ?_⟩; rfl
        simp only [Act.put, List.setIfInBounds_toArray, List.set_cons_zero, List.set_cons_succ]
        refine wpParts_det (by rfl) (fun W hE hN => ?_) ?_
        · have hc := fun b o h => hE.cell (p := ⟨b, o, none⟩) h
          go_simp; refine ⟨Below.refl _ _, ?_⟩; rfl
        simp only [Act.put, List.setIfInBounds_toArray, List.set_cons_zero, List.set_cons_succ]
        refine wpParts_det (by rfl) (fun W hE hN => ?_) ?_
        · go_simp; refine ⟨Below.refl _ _, ?_⟩; rfl
        simp only [Act.put, List.setIfInBounds_toArray, List.set_cons_zero, List.set_cons_succ]
        refine wpParts_det (by rfl) (fun W hE hN => ?_) ?_
        · have hc := fun b o h => hE.cell (p := ⟨b, o, none⟩) h
          go_simp; refine ⟨Below.refl _ _, ?_⟩; rfl
        simp only [Act.put, List.setIfInBounds_toArray, List.set_cons_zero, List.set_cons_succ]
        refine wpParts_det (by rfl) (fun W hE hN => ?_) ?_
        · go_simp; refine ⟨Below.refl _ _, ?_⟩; rfl
        simp only [Act.put, List.setIfInBounds_toArray, List.set_cons_zero, List.set_cons_succ]
        refine wpParts_det (by rfl) (fun W hE hN => ?_) ?_
        · go_simp; refine ⟨Below.refl _ _, ?_⟩; rfl
        simp only [Act.put, List.setIfInBounds_toArray, List.set_cons_zero, List.set_cons_succ]
        refine wpParts_end fun W5 hE5 hG5 => ?_
        have hcW5 := fun b o h => hE5.cell (p := ⟨b, o, none⟩) h
        have hfW5 := fun b o h => hE5.frozen (p := ⟨b, o, none⟩) h
        have h5 := hE5.size
        go_wp2_with fail
        refine onlyN_normal ?_
        gi_wp2_with fail
        obtain ⟨sN, hsN⟩ : ∃ sN, szOf (bytesOf (pre ++ [x])) = sN := ⟨_, rfl⟩
        have hsv : sN = ba.toNat * 256 + bb.toNat := hsN ▸ HSZ6.out
        have es : (6 + (ba.toNat : Int) * 256 + (bb.toNat : Int) - 6) = (sN : Int) := by omega
        have ew : (6 + (ba.toNat : Int) * 256 + (bb.toNat : Int)) = ((6 + sN : Nat) : Int) := by omega
        rw [es]
        rw [ew]
        have HSN := Lib.hid hsN
        have hA := Try_may sN (W5.setCell ⟨w1.heap.size + 1, 0, none⟩ (.int .i64 ((6 + sN : Nat) : Int))) (by omega)
        refine ⟨trivial, ((callsIn_wide.2 hA).inRound l).mono ?_⟩
        rintro e W7 ⟨rfl, hb7⟩
        obtain ⟨d8, d9, d10, dr, dk, dq, db⟩ := get_stored C8.out C9.out C10.out (by decide) CR.out CK.out CQ.out CB.out (Nat.le_refl _) hE5 hb7
        have hsz7 : w1.heap.size ≤ W7.heap.size := by have := d8.lt; omega
        have q7 := d8.cells
        have q7' := d9.cells
        have HAL6 := Lib.hid (alive_six E8'.out)
        have D8 := Lib.hid d8
        have D9 := Lib.hid d9
        have D10 := Lib.hid d10
        have DR := Lib.hid dr
        have DK := Lib.hid dk
        have DQ := Lib.hid dq
        have DB := Lib.hid (HB.out.trans db)
        clear hb7 d8 d9 d10 dr dk dq db hA es ew hsv hsN hE5 hG5 hcW5 hfW5 y0 y1 q4 q4' m4' l4' l4 lg C8 C9 C10 CR CK CQ CB h5 n0 n1 HSZ6
        by_cases hm : 1 ≤ sN ∧ sN ≤ 4096
        · have hmd : (decide (1 ≤ sN) && decide (sN ≤ 4096)) = true := by simp [hm.1, hm.2]
          have kw : ¬ (6 : Int) = ((6 + sN : Nat) : Int) := by have := hm.1; omega
          have kw' : ¬ (6 : Int) = 6 + (sN : Int) := by have := hm.1; omega
          rw [hmd]
          have HM := Lib.hid hm
          clear hm hmd
          gi_wp2_with fail
          refine ⟨DK.out, DQ.out, ⟨_, 6 + sN, D8.out, ?_, D9.out, ?_, ?_, hsz7⟩, DB.out⟩
          · rw [List.length_append]; exact k6 ▸ DR.out
          · rw [E9.out, Int.natCast_add]; exact D10.out
          · have := HAL6.out.1 (by rw [HSN.out]; exact HM.out); rwa [HSN.out] at this
        · have hmd : (decide (1 ≤ sN) && decide (sN ≤ 4096)) = false := by
            by_cases h1 : 1 ≤ sN
            · have h2 : ¬ sN ≤ 4096 := fun h2 => hm ⟨h1, h2⟩
              simp [h2]
            · simp [h1]
          rw [hmd]
          have HM := Lib.hid hm
          clear hm hmd
          gi_wp2_with fail
          refine ⟨DK.out, ⟨rfl, ⟨_, 6 + sN, D8.out, ?_, D9.out, ?_, ?_, hsz7⟩⟩, DB.out⟩
          · rw [List.length_append]; exact k6 ▸ DR.out
          · rw [E9.out, Int.natCast_add]; exact D10.out
          · have := HAL6.out.2 (by rw [HSN.out]; exact HM.out); rwa [HSN.out] at this
    · have hne : ¬ ((pre.length : Int) + 1 = 6) := by omega
      have hst := alive_step (c := c) HAL.out (by rw [bytesOf_len]; exact k6)
      rw [bytesOf_len, show bytesOf pre ++ [c] = bytesOf (pre ++ [x]) by rw [bytesOf_snoc, HX.out]] at hst
      have HST := Lib.hid hst
      clear hst
      by_cases kw : pre.length + 1 = want
      · have kw' : (pre.length : Int) + 1 = (want : Int) := by omega
        have HKW := Lib.hid kw
        clear kw
        gi_wp2_with (gi_at_builtin; refine wpListIn_append_lies rfl (.tmp 23) (.tmp 25) 22 rfl Try_elemU8 w1.heap.size _ pre.length (u8s (bytesOf pre)) rfl (HROW.out.alloc _) ⟨W.heap.size, 0, none⟩ 1 1 [.int .u8 (c.toNat : Int)] rfl rfl (row_one_cell W _ _) (fun u hu => by simp at hu; subst hu; rfl) (by omega) k1 (by omega) (by have := HSZW.out; simp; omega) ?_; intro g cap w' hown' hgrow hg hgl; obtain ⟨⟨b8', b9', b10'⟩, hW4⟩ := get_grown H8.out H9.out H10.out (by decide) (by decide) HROW.out HSZW.out (Nat.le_refl _) hown' hgrow hg hgl; have q8' := b8'.cells; have m8' := b8'.marks; have q10' := b10'.cells; have m10' := b10'.marks; have l8' := b8'.lt; have l10' := b10'.lt; have q9' := b9'.cells; have m9' := b9'.marks; have l9' := b9'.lt; have HW4 := Lib.hid hW4; clear b8' b9' b10' hW4 hown' hgrow hg hgl)
        obtain ⟨W4, hw4⟩ : ∃ W4, (w'.setCell ⟨w1.heap.size, 0, none⟩ (.slice (some ⟨g, 0, none⟩) (pre.length + 1) cap)).setCell ⟨w1.heap.size + 1 + 1, 0, none⟩ (.int .i64 ((pl : Int) + 1)) = W4 := ⟨_, rfl⟩
        obtain ⟨c8, c9, c10, cr, ck, cq, cb⟩ := HW4.out _ W4 hw4
        rw [hw4]
        rw [E7.out] at cr
        refine ⟨ck, ⟨rfl, ⟨_, want, c8, ?_, c9, ?_, HST.out.1 HKW.out, by have := c8.lt; omega⟩⟩, HB.out.trans cb⟩
        · rw [List.length_append]; exact cr
        · rw [E9.out, Int.natCast_add]; exact c10
      · have kw' : ¬ (pre.length : Int) + 1 = (want : Int) := by omega
        gi_wp2_with (gi_at_builtin; refine wpListIn_append_lies rfl (.tmp 23) (.tmp 25) 22 rfl Try_elemU8 w1.heap.size _ pre.length (u8s (bytesOf pre)) rfl (HROW.out.alloc _) ⟨W.heap.size, 0, none⟩ 1 1 [.int .u8 (c.toNat : Int)] rfl rfl (row_one_cell W _ _) (fun u hu => by simp at hu; subst hu; rfl) (by omega) k1 (by omega) (by have := HSZW.out; simp; omega) ?_; intro g cap w' hown' hgrow hg hgl; obtain ⟨⟨b8', b9', b10'⟩, hW4⟩ := get_grown H8.out H9.out H10.out (by decide) (by decide) HROW.out HSZW.out (Nat.le_refl _) hown' hgrow hg hgl; have q8' := b8'.cells; have m8' := b8'.marks; have q10' := b10'.cells; have m10' := b10'.marks; have l8' := b8'.lt; have l10' := b10'.lt; have q9' := b9'.cells; have m9' := b9'.marks; have l9' := b9'.lt; have HW4 := Lib.hid hW4; clear b8' b9' b10' hW4 hown' hgrow hg hgl)
        obtain ⟨W4, hw4⟩ : ∃ W4, (w'.setCell ⟨w1.heap.size, 0, none⟩ (.slice (some ⟨g, 0, none⟩) (pre.length + 1) cap)).setCell ⟨w1.heap.size + 1 + 1, 0, none⟩ (.int .i64 ((pl : Int) + 1)) = W4 := ⟨_, rfl⟩
        obtain ⟨c8, c9, c10, cr, ck, cq, cb⟩ := HW4.out _ W4 hw4
        rw [hw4]
        rw [E7.out] at cr
        refine ⟨ck, cq, ⟨_, want, c8, ?_, c9, ?_, HST.out.2 kw, by have := c8.lt; omega⟩, HB.out.trans cb⟩
        · rw [List.length_append]; exact cr
        · rw [E9.out, Int.natCast_add]; exact c10
  case done =>
    rintro D ys W hD hys ⟨⟨v, want, h8, hrow, h9, h10, hal, hsz⟩, hB⟩ hK
    have hbt : bytesOf ys = (pastAll F.all at_).map (·.2) := by rw [← hys, List.map_map]; rfl
    have hnone : frameOf (pastAll F.all at_) = none := frameOf_alive (hbt ▸ hal)
    have hlen := bytesOf_len ys
    rcases hal with ⟨h6, hw⟩ | ⟨h6, hmay, hw, hlt⟩
    · rw [hlen] at h6
      have k6 : (ys.length : Int) ≤ 6 := by omega
      have HN := Lib.hid hnone
      have q8 := h8.cells
      have l8 := h8.lt
      have q9 := h9.cells
      have l9 := h9.lt
      obtain ⟨ra, rc, rfl, _⟩ := own_cells hrow
      have HKK := Lib.hid hK
      have hDw : w.heap.size ≤ D := by have := HSZ.out; omega
      have hDl : D < W.heap.size := (Array.getElem?_eq_some_iff.1 hK).1
      have HBW := Lib.hid ((BEL1.out.trans (HBL.out.mono (Nat.le_of_lt hs1))).trans (hB.mono (Nat.le_of_lt hs1)))
      clear h8 h9 h10 hrow hK hB hnone hys hbt hlen hsz
      go_wp2_with fail
      refine' wp_region_seq [.inl _, .inl _, .inl _, .inl _, .inl undef, .inl undef, .inl undef, .inl undef, .inl _, .inl _, .inl undef, .inl undef, .inl undef, .inl undef, .inl undef, .inl undef, .inl undef, .inl _] (by kernel_rfl) (by kernel_rfl) ?main2
      case main2 =>
        refine wpParts_det (by rfl) (fun W hE hN => ?_) ?_
        · have hc := fun b o h => hE.cell (p := ⟨b, o, none⟩) h
          go_simp; refine ⟨Below.refl _ _, ?_⟩; rfl
        simp only [Act.put, List.setIfInBounds_toArray, List.set_cons_zero, List.set_cons_succ]
        refine wpParts_det (by rfl) (fun W hE hN => ?_) ?_
        · go_simp; refine ⟨Below.refl _ _, ?_⟩; rfl
        simp only [Act.put, List.setIfInBounds_toArray, List.set_cons_zero, List.set_cons_succ]
        refine wpParts_det (by rfl) (fun W hE hN => ?_) ?_
        · go_simp; refine ⟨Below.refl _ _, ?_⟩; rfl
        simp only [Act.put, List.setIfInBounds_toArray, List.set_cons_zero, List.set_cons_succ]
        refine wpParts_det (by rfl) (fun W hE hN => ?_) ?_
        · go_simp; refine ⟨Below.refl _ _, ?_⟩; rfl
        simp only [Act.put, List.setIfInBounds_toArray, List.set_cons_zero, List.set_cons_succ]
        refine wpParts_skip ?_ ?_
        · rfl
        simp only [Act.put, List.setIfInBounds_toArray, List.set_cons_zero, List.set_cons_succ]
        refine wpParts_skip ?_ ?_
        · rfl
        simp only [Act.put, List.setIfInBounds_toArray, List.set_cons_zero, List.set_cons_succ]
        refine wpParts_skip ?_ ?_
        · rfl
        simp only [Act.put, List.setIfInBounds_toArray, List.set_cons_zero, List.set_cons_succ]
        refine wpParts_skip ?_ ?_
        · rfl
        simp only [Act.put, List.setIfInBounds_toArray, List.set_cons_zero, List.set_cons_succ]
        refine wpParts_det (by rfl) (fun W hE hN => ?_) ?_
        · go_simp; refine ⟨Below.refl _ _, ?_⟩; rfl
        simp only [Act.put, List.setIfInBounds_toArray, List.set_cons_zero, List.set_cons_succ]
        refine wpParts_det (by rfl) (fun W hE hN => ?_) ?_
        · go_simp; refine ⟨Below.refl _ _, ?_⟩; rfl
        simp only [Act.put, List.setIfInBounds_toArray, List.set_cons_zero, List.set_cons_succ]
        refine wpParts_skip ?_ ?_
        · rfl
        simp only [Act.put, List.setIfInBounds_toArray, List.set_cons_zero, List.set_cons_succ]
        refine wpParts_skip ?_ ?_
        · rfl
        simp only [Act.put, List.setIfInBounds_toArray, List.set_cons_zero, List.set_cons_succ]
        refine wpParts_skip ?_ ?_
        · rfl
        simp only [Act.put, List.setIfInBounds_toArray, List.set_cons_zero, List.set_cons_succ]
        refine wpParts_skip ?_ ?_
        · rfl
        simp only [Act.put, List.setIfInBounds_toArray, List.set_cons_zero, List.set_cons_succ]
        refine wpParts_skip ?_ ?_
        · rfl
        simp only [Act.put, List.setIfInBounds_toArray, List.set_cons_zero, List.set_cons_succ]
        refine wpParts_skip ?_ ?_
        · rfl
        simp only [Act.put, List.setIfInBounds_toArray, List.set_cons_zero, List.set_cons_succ]
        refine wpParts_skip ?_ ?_
        · rfl
        simp only [Act.put, List.setIfInBounds_toArray, List.set_cons_zero, List.set_cons_succ]
        refine wpParts_det (by rfl) (fun W hE hN => ?_) ?_
        · go_simp; refine ⟨Below.refl _ _, ?_⟩; rfl
        simp only [Act.put, List.setIfInBounds_toArray, List.set_cons_zero, List.set_cons_succ]
        refine wpParts_end fun W6 hE6 hG6 => ?_
        have hcW6 := fun b o h => hE6.cell (p := ⟨b, o, none⟩) h
        have hfW6 := fun b o h => hE6.frozen (p := ⟨b, o, none⟩) h
        have HK6 := Lib.hid ((hE6.block D hDl).trans HKK.out)
        have hb6 := hE6.mono (show w.heap.size ≤ W.heap.size by omega)
        go_wp2_with fail
        refine ⟨by simp, .inl ⟨_, _, rfl, run_takeDeferred HK6.out, ?_⟩⟩
        refine ⟨.tuple #[.slice none 0 0, .int .i64 0, .int .i64 210], by simp [results, Try.results10, go_sem], .inr ⟨HN.out, rfl, ?_⟩⟩
        exact (HBW.out.trans hb6).trans (belowK_b (w := w) (Nat.le_refl _) W6 D _ _ hDw HK6.out rfl rfl)
    · rw [hlen] at h6 hlt
      by_cases h7 : ys.length = 6
      · have k6 : (ys.length : Int) ≤ 6 := by omega
        have HN := Lib.hid hnone
        have q8 := h8.cells
        have l8 := h8.lt
        have q9 := h9.cells
        have l9 := h9.lt
        obtain ⟨ra, rc, rfl, _⟩ := own_cells hrow
        have HKK := Lib.hid hK
        have hDw : w.heap.size ≤ D := by have := HSZ.out; omega
        have hDl : D < W.heap.size := (Array.getElem?_eq_some_iff.1 hK).1
        have HBW := Lib.hid ((BEL1.out.trans (HBL.out.mono (Nat.le_of_lt hs1))).trans (hB.mono (Nat.le_of_lt hs1)))
        clear h8 h9 h10 hrow hK hB hnone hys hbt hlen hsz
        go_wp2_with fail
        refine' wp_region_seq [.inl _, .inl _, .inl _, .inl _, .inl undef, .inl undef, .inl undef, .inl undef, .inl _, .inl _, .inl undef, .inl undef, .inl undef, .inl undef, .inl undef, .inl undef, .inl undef, .inl _] (by kernel_rfl) (by kernel_rfl) ?main3
        case main3 =>
          refine wpParts_det (by rfl) (fun W hE hN => ?_) ?_
          · have hc := fun b o h => hE.cell (p := ⟨b, o, none⟩) h
            go_simp; refine ⟨Below.refl _ _, ?_⟩; rfl
          simp only [Act.put, List.setIfInBounds_toArray, List.set_cons_zero, List.set_cons_succ]
          refine wpParts_det (by rfl) (fun W hE hN => ?_) ?_
          · go_simp; refine ⟨Below.refl _ _, ?_⟩; rfl
          simp only [Act.put, List.setIfInBounds_toArray, List.set_cons_zero, List.set_cons_succ]
          refine wpParts_det (by rfl) (fun W hE hN => ?_) ?_
          · go_simp; refine ⟨Below.refl _ _, ?_⟩; rfl
          simp only [Act.put, List.setIfInBounds_toArray, List.set_cons_zero, List.set_cons_succ]
          refine wpParts_det (by rfl) (fun W hE hN => ?_) ?_
          · go_simp; refine ⟨Below.refl _ _, ?_⟩; rfl
          simp only [Act.put, List.setIfInBounds_toArray, List.set_cons_zero, List.set_cons_succ]
          refine wpParts_skip ?_ ?_
          · rfl
          simp only [Act.put, List.setIfInBounds_toArray, List.set_cons_zero, List.set_cons_succ]
          refine wpParts_skip ?_ ?_
          · rfl
          simp only [Act.put, List.setIfInBounds_toArray, List.set_cons_zero, List.set_cons_succ]
          refine wpParts_skip ?_ ?_
          · rfl
          simp only [Act.put, List.setIfInBounds_toArray, List.set_cons_zero, List.set_cons_succ]
          refine wpParts_skip ?_ ?_
          · rfl
          simp only [Act.put, List.setIfInBounds_toArray, List.set_cons_zero, List.set_cons_succ]
          refine wpParts_det (by rfl) (fun W hE hN => ?_) ?_
          · go_simp; refine ⟨Below.refl _ _, ?_⟩; rfl
          simp only [Act.put, List.setIfInBounds_toArray, List.set_cons_zero, List.set_cons_succ]
          refine wpParts_det (by rfl) (fun W hE hN => ?_) ?_
          · go_simp; refine ⟨Below.refl _ _, ?_⟩; rfl
          simp only [Act.put, List.setIfInBounds_toArray, List.set_cons_zero, List.set_cons_succ]
          refine wpParts_skip ?_ ?_
          · rfl
          simp only [Act.put, List.setIfInBounds_toArray, List.set_cons_zero, List.set_cons_succ]
          refine wpParts_skip ?_ ?_
          · rfl
          simp only [Act.put, List.setIfInBounds_toArray, List.set_cons_zero, List.set_cons_succ]
          refine wpParts_skip ?_ ?_
          · rfl
          simp only [Act.put, List.setIfInBounds_toArray, List.set_cons_zero, List.set_cons_succ]
          refine wpParts_skip ?_ ?_
          · rfl
          simp only [Act.put, List.setIfInBounds_toArray, List.set_cons_zero, List.set_cons_succ]
          refine wpParts_skip ?_ ?_
          · rfl
          simp only [Act.put, List.setIfInBounds_toArray, List.set_cons_zero, List.set_cons_succ]
          refine wpParts_skip ?_ ?_
          · rfl
          simp only [Act.put, List.setIfInBounds_toArray, List.set_cons_zero, List.set_cons_succ]
          refine wpParts_skip ?_ ?_
          · rfl
          simp only [Act.put, List.setIfInBounds_toArray, List.set_cons_zero, List.set_cons_succ]
          refine wpParts_det (by rfl) (fun W hE hN => ?_) ?_
          · go_simp; refine ⟨Below.refl _ _, ?_⟩; rfl
          simp only [Act.put, List.setIfInBounds_toArray, List.set_cons_zero, List.set_cons_succ]
          refine wpParts_end fun W6 hE6 hG6 => ?_
          have hcW6 := fun b o h => hE6.cell (p := ⟨b, o, none⟩) h
          have hfW6 := fun b o h => hE6.frozen (p := ⟨b, o, none⟩) h
          have HK6 := Lib.hid ((hE6.block D hDl).trans HKK.out)
          have hb6 := hE6.mono (show w.heap.size ≤ W.heap.size by omega)
          go_wp2_with fail
          refine ⟨by simp, .inl ⟨_, _, rfl, run_takeDeferred HK6.out, ?_⟩⟩
          refine ⟨.tuple #[.slice none 0 0, .int .i64 0, .int .i64 210], by simp [results, Try.results10, go_sem], .inr ⟨HN.out, rfl, ?_⟩⟩
          exact (HBW.out.trans hb6).trans (belowK_b (w := w) (Nat.le_refl _) W6 D _ _ hDw HK6.out rfl rfl)
      · have k6 : decide ((ys.length : Int) ≤ 6) = false := decide_eq_false (by omega)
        have k7 : decide (ys.length < want) = true := decide_eq_true (by omega)
        clear hw hmay h6 hlt h7
        have HN := Lib.hid hnone
        have q8 := h8.cells
        have l8 := h8.lt
        have q9 := h9.cells
        have l9 := h9.lt
        obtain ⟨ra, rc, rfl, _⟩ := own_cells hrow
        have HKK := Lib.hid hK
        have hDw : w.heap.size ≤ D := by have := HSZ.out; omega
        have hDl : D < W.heap.size := (Array.getElem?_eq_some_iff.1 hK).1
        have HBW := Lib.hid ((BEL1.out.trans (HBL.out.mono (Nat.le_of_lt hs1))).trans (hB.mono (Nat.le_of_lt hs1)))
        clear h8 h9 h10 hrow hK hB hnone hys hbt hlen hsz
        go_wp2_with fail
        refine' wp_region_seq [.inl _, .inl _, .inl _, .inl _, .inl _, .inl _, .inl _, .inl _, .inl _, .inl _, .inl undef, .inl undef, .inl undef, .inl undef, .inl undef, .inl undef, .inl undef, .inl _] (by kernel_rfl) (by kernel_rfl) ?main4
        case main4 =>
          refine wpParts_det (by rfl) (fun W hE hN => ?_) ?_
          · have hc := fun b o h => hE.cell (p := ⟨b, o, none⟩) h
            go_simp; refine ⟨Below.refl _ _, ?_⟩; rfl
          simp only [Act.put, List.setIfInBounds_toArray, List.set_cons_zero, List.set_cons_succ]
          refine wpParts_det (by rfl) (fun W hE hN => ?_) ?_
          · go_simp; refine ⟨Below.refl _ _, ?_⟩; rfl
          simp only [Act.put, List.setIfInBounds_toArray, List.set_cons_zero, List.set_cons_succ]
          refine wpParts_det (by rfl) (fun W hE hN => ?_) ?_
          · go_simp; refine ⟨Below.refl _ _, ?_⟩; rfl
          simp only [Act.put, List.setIfInBounds_toArray, List.set_cons_zero, List.set_cons_succ]
          refine wpParts_det (by rfl) (fun W hE hN => ?_) ?_
          · go_simp; refine ⟨Below.refl _ _, ?_⟩; rfl
          simp only [Act.put, List.setIfInBounds_toArray, List.set_cons_zero, List.set_cons_succ]
          refine wpParts_det (by rfl) (fun W hE hN => ?_) ?_
          · have hc := fun b o h => hE.cell (p := ⟨b, o, none⟩) h
            go_simp; refine ⟨Below.refl _ _, ?_⟩; rfl
          simp only [Act.put, List.setIfInBounds_toArray, List.set_cons_zero, List.set_cons_succ]
          refine wpParts_det (by rfl) (fun W hE hN => ?_) ?_
          · go_simp; refine ⟨Below.refl _ _, ?_⟩; rfl
          simp only [Act.put, List.setIfInBounds_toArray, List.set_cons_zero, List.set_cons_succ]
          refine wpParts_det (by rfl) (fun W hE hN => ?_) ?_
          · have hc := fun b o h => hE.cell (p := ⟨b, o, none⟩) h
            go_simp; refine ⟨Below.refl _ _, ?_⟩; rfl
          simp only [Act.put, List.setIfInBounds_toArray, List.set_cons_zero, List.set_cons_succ]
          refine wpParts_det (by rfl) (fun W hE hN => ?_) ?_
          · go_simp; refine ⟨Below.refl _ _, ?_⟩; rfl
          simp only [Act.put, List.setIfInBounds_toArray, List.set_cons_zero, List.set_cons_succ]
          refine wpParts_det (by rfl) (fun W hE hN => ?_) ?_
          · go_simp; refine ⟨Below.refl _ _, ?_⟩; rfl
          simp only [Act.put, List.setIfInBounds_toArray, List.set_cons_zero, List.set_cons_succ]
          refine wpParts_det (by rfl) (fun W hE hN => ?_) ?_
          · go_simp; refine ⟨Below.refl _ _, ?_⟩; rfl
          simp only [Act.put, List.setIfInBounds_toArray, List.set_cons_zero, List.set_cons_succ]
          refine wpParts_skip ?_ ?_
          · rfl
          simp only [Act.put, List.setIfInBounds_toArray, List.set_cons_zero, List.set_cons_succ]
          refine wpParts_skip ?_ ?_
          · rfl
          simp only [Act.put, List.setIfInBounds_toArray, List.set_cons_zero, List.set_cons_succ]
          refine wpParts_skip ?_ ?_
          · rfl
          simp only [Act.put, List.setIfInBounds_toArray, List.set_cons_zero, List.set_cons_succ]
          refine wpParts_skip ?_ ?_
          · rfl
          simp only [Act.put, List.setIfInBounds_toArray, List.set_cons_zero, List.set_cons_succ]
          refine wpParts_skip ?_ ?_
          · rfl
          simp only [Act.put, List.setIfInBounds_toArray, List.set_cons_zero, List.set_cons_succ]
          refine wpParts_skip ?_ ?_
          · rfl
          simp only [Act.put, List.setIfInBounds_toArray, List.set_cons_zero, List.set_cons_succ]
          refine wpParts_skip ?_ ?_
          · rfl
          simp only [Act.put, List.setIfInBounds_toArray, List.set_cons_zero, List.set_cons_succ]
          refine wpParts_det (by rfl) (fun W hE hN => ?_) ?_
          · go_simp; refine ⟨Below.refl _ _, ?_⟩; rfl
          simp only [Act.put, List.setIfInBounds_toArray, List.set_cons_zero, List.set_cons_succ]
          refine wpParts_end fun W6 hE6 hG6 => ?_
          have hcW6 := fun b o h => hE6.cell (p := ⟨b, o, none⟩) h
          have hfW6 := fun b o h => hE6.frozen (p := ⟨b, o, none⟩) h
          have HK6 := Lib.hid ((hE6.block D hDl).trans HKK.out)
          have hb6 := hE6.mono (show w.heap.size ≤ W.heap.size by omega)
          go_wp2_with fail
          refine ⟨by simp, .inl ⟨_, _, rfl, run_takeDeferred HK6.out, ?_⟩⟩
          refine ⟨.tuple #[.slice none 0 0, .int .i64 0, .int .i64 210], by simp [results, Try.results10, go_sem], .inr ⟨HN.out, rfl, ?_⟩⟩
          exact (HBW.out.trans hb6).trans (belowK_b (w := w) (Nat.le_refl _) W6 D _ _ hDw HK6.out rfl rfl)
  case stop =>
    rintro D c ys W hD hys ⟨⟨rfl, ⟨v, want, h8, hrow, h9, h10, hal, hsz⟩⟩, hB⟩ hK
    refine wpIn_wide.2 ?_
    obtain ⟨rr, hrr⟩ : ∃ rr, (pastAll F.all at_).map (·.2) = bytesOf ys ++ rr := by
      obtain ⟨r, hr⟩ := hys
      exact ⟨r.map (·.2), by rw [← hr, List.map_append, List.map_map]; rfl⟩
    have hlen := bytesOf_len ys
    obtain ⟨h6, hw, ⟨h6', hm⟩ | ⟨hln, hm⟩⟩ := hal
    · have hnone : frameOf (pastAll F.all at_) = none := frameOf_six hrr h6' hm
      rw [hlen] at h6'
      have k6 : (ys.length : Int) ≤ 6 := by omega
      clear hrr hw hm h6 h6'
      have hbt : True := trivial
      have HN := Lib.hid hnone
      have q8 := h8.cells
      have l8 := h8.lt
      have q9 := h9.cells
      have l9 := h9.lt
      obtain ⟨ra, rc, rfl, _⟩ := own_cells hrow
      have HKK := Lib.hid hK
      have hDw : w.heap.size ≤ D := by have := HSZ.out; omega
      have hDl : D < W.heap.size := (Array.getElem?_eq_some_iff.1 hK).1
      have HBW := Lib.hid ((BEL1.out.trans (HBL.out.mono (Nat.le_of_lt hs1))).trans (hB.mono (Nat.le_of_lt hs1)))
      clear h8 h9 h10 hrow hK hB hnone hys hbt hlen hsz
      go_wp2_with fail
      refine' wp_region_seq [.inl _, .inl _, .inl _, .inl _, .inl undef, .inl undef, .inl undef, .inl undef, .inl _, .inl _, .inl undef, .inl undef, .inl undef, .inl undef, .inl undef, .inl undef, .inl undef, .inl _] (by kernel_rfl) (by kernel_rfl) ?main5
      case main5 =>
        refine wpParts_det (by rfl) (fun W hE hN => ?_) ?_
        · have hc := fun b o h => hE.cell (p := ⟨b, o, none⟩) h
          go_simp; refine ⟨Below.refl _ _, ?_⟩; rfl
        simp only [Act.put, List.setIfInBounds_toArray, List.set_cons_zero, List.set_cons_succ]
        refine wpParts_det (by rfl) (fun W hE hN => ?_) ?_
        · go_simp; refine ⟨Below.refl _ _, ?_⟩; rfl
        simp only [Act.put, List.setIfInBounds_toArray, List.set_cons_zero, List.set_cons_succ]
        refine wpParts_det (by rfl) (fun W hE hN => ?_) ?_
        · go_simp; refine ⟨Below.refl _ _, ?_⟩; rfl
        simp only [Act.put, List.setIfInBounds_toArray, List.set_cons_zero, List.set_cons_succ]
        refine wpParts_det (by rfl) (fun W hE hN => ?_) ?_
        · go_simp; refine ⟨Below.refl _ _, ?_⟩; rfl
        simp only [Act.put, List.setIfInBounds_toArray, List.set_cons_zero, List.set_cons_succ]
        refine wpParts_skip ?_ ?_
        · rfl
        simp only [Act.put, List.setIfInBounds_toArray, List.set_cons_zero, List.set_cons_succ]
        refine wpParts_skip ?_ ?_
        · rfl
        simp only [Act.put, List.setIfInBounds_toArray, List.set_cons_zero, List.set_cons_succ]
        refine wpParts_skip ?_ ?_
        · rfl
        simp only [Act.put, List.setIfInBounds_toArray, List.set_cons_zero, List.set_cons_succ]
        refine wpParts_skip ?_ ?_
        · rfl
        simp only [Act.put, List.setIfInBounds_toArray, List.set_cons_zero, List.set_cons_succ]
        refine wpParts_det (by rfl) (fun W hE hN => ?_) ?_
        · go_simp; refine ⟨Below.refl _ _, ?_⟩; rfl
        simp only [Act.put, List.setIfInBounds_toArray, List.set_cons_zero, List.set_cons_succ]
        refine wpParts_det (by rfl) (fun W hE hN => ?_) ?_
        · go_simp; refine ⟨Below.refl _ _, ?_⟩; rfl
        simp only [Act.put, List.setIfInBounds_toArray, List.set_cons_zero, List.set_cons_succ]
        refine wpParts_skip ?_ ?_
        · rfl
        simp only [Act.put, List.setIfInBounds_toArray, List.set_cons_zero, List.set_cons_succ]
        refine wpParts_skip ?_ ?_
        · rfl
        simp only [Act.put, List.setIfInBounds_toArray, List.set_cons_zero, List.set_cons_succ]
        refine wpParts_skip ?_ ?_
        · rfl
        simp only [Act.put, List.setIfInBounds_toArray, List.set_cons_zero, List.set_cons_succ]
        refine wpParts_skip ?_ ?_
        · rfl
        simp only [Act.put, List.setIfInBounds_toArray, List.set_cons_zero, List.set_cons_succ]
        refine wpParts_skip ?_ ?_
        · rfl
        simp only [Act.put, List.setIfInBounds_toArray, List.set_cons_zero, List.set_cons_succ]
        refine wpParts_skip ?_ ?_
        · rfl
        simp only [Act.put, List.setIfInBounds_toArray, List.set_cons_zero, List.set_cons_succ]
        refine wpParts_skip ?_ ?_
        · rfl
        simp only [Act.put, List.setIfInBounds_toArray, List.set_cons_zero, List.set_cons_succ]
        refine wpParts_det (by rfl) (fun W hE hN => ?_) ?_
        · go_simp; refine ⟨Below.refl _ _, ?_⟩; rfl
        simp only [Act.put, List.setIfInBounds_toArray, List.set_cons_zero, List.set_cons_succ]
        refine wpParts_end fun W6 hE6 hG6 => ?_
        have hcW6 := fun b o h => hE6.cell (p := ⟨b, o, none⟩) h
        have hfW6 := fun b o h => hE6.frozen (p := ⟨b, o, none⟩) h
        have HK6 := Lib.hid ((hE6.block D hDl).trans HKK.out)
        have hb6 := hE6.mono (show w.heap.size ≤ W.heap.size by omega)
        go_wp2_with fail
        refine ⟨by simp, .inl ⟨_, _, rfl, run_takeDeferred HK6.out, ?_⟩⟩
        refine ⟨.tuple #[.slice none 0 0, .int .i64 0, .int .i64 210], by simp [results, Try.results10, go_sem], .inr ⟨HN.out, rfl, ?_⟩⟩
        exact (HBW.out.trans hb6).trans (belowK_b (w := w) (Nat.le_refl _) W6 D _ _ hDw HK6.out rfl rfl)
    · have hfw := frameOf_whole hrr hln hm hw
      have hmx := hm.2
      have hm1 := hm.1
      rw [hlen] at hln h6
      have hnx := next_whole hys (by omega)
      rw [hln] at hnx
      rw [hnx] at hfw
      obtain ⟨ga, cap, ee, hz1, hz2, hz3, hz4⟩ := own_cells hrow
      subst ee
      rw [hln] at hz1 hz4 hlen
      rw [hln] at h8
      obtain ⟨g, go, rfl⟩ : ∃ g o, ga = some ⟨g, o, none⟩ := by
        obtain ⟨c0, hc0⟩ : ∃ c0, (bytesOf ys)[0]? = some c0 := ⟨_, List.getElem?_eq_getElem (by omega)⟩
        obtain ⟨b, o, e1, _⟩ := hz4.at_ 0 _ (u8s_get hc0)
        exact ⟨b, o, e1⟩
      obtain ⟨l, hl⟩ : ∃ l, bytesOf ys = l := ⟨_, rfl⟩
      obtain ⟨nx, hnx'⟩ : ∃ nx, nextOf ys = nx := ⟨_, rfl⟩
      rw [hl] at hz4 hfw hlen
      rw [hnx'] at hfw h10
      have hcs0 := hz4.ne_obj hK rfl
      have hB0 := BytesS.of_cells hcs0 hz1 hz2 (by omega) hz3
      have hcs1 := hcs0.part (lo := 6) (hi := want) (by omega) (Nat.le_refl _)
      rw [u8s_part, List.take_of_length_le (by omega)] at hcs1
      have hB1 := BytesS.of_cells hcs1 (cap := cap - 6) (by omega) (by omega) (by omega) (fun e => by cases e)
      have hB2 := BytesS.of_cells hcs1 (cap := want - 6) (by omega) (by omega) (by omega) (fun e => by cases e)
      have hpl : (l.drop 6).length = want - 6 := by rw [List.length_drop]; omega
      obtain ⟨p, hp⟩ : ∃ p, l.drop 6 = p := ⟨_, rfl⟩
      rw [hp] at hB1 hB2 hfw hpl
      have q8 := h8.cells
      have l8 := h8.lt
      have q9 := h9.cells
      have l9 := h9.lt
      have q10 := h10.cells
      have l10 := h10.lt
      have HKK := Lib.hid hK
      have hDw : w.heap.size ≤ D := by have := HSZ.out; omega
      have hDl : D < W.heap.size := (Array.getElem?_eq_some_iff.1 hK).1
      have HBW := Lib.hid ((BEL1.out.trans (HBL.out.mono (Nat.le_of_lt hs1))).trans (hB.mono (Nat.le_of_lt hs1)))
      have HL0 := Lib.hid hB0
      have HL1 := Lib.hid hB1
      have HL2 := Lib.hid hB2
      have HFW := Lib.hid hfw
      have hkm : want ≤ 4102 := by omega
      have HOUT := Lib.hid (fun W1 T (h : BytesS W1 T (some ⟨g, go + 6, none⟩) (want - 6) (cap - 6) p) => Try_out _ _ _ p W1 T h (by omega))
      have HOL := Lib.hid (show (outOf p).length = want by rw [outOf_len, hpl]; omega)
      obtain ⟨r, hr⟩ : ∃ r, outOf p = r := ⟨_, rfl⟩
      rw [hr] at HFW HOUT HOL
      have k6 : decide ((want : Int) ≤ 6) = false := decide_eq_false (by omega)
      have k1 : (6 : Int) ≤ (want : Int) := by omega
      have k2 : 6 ≤ want := by omega
      have k3 : (want : Int) ≤ (cap : Int) := by omega
      have k4 : ¬ cap = 6 := by omega
      have k5 : ¬ want = 6 := by omega
      clear h8 h9 h10 hrow hK hB hrr hsz hw hm hmx hm1 hln h6 hfw hnx hnx' hlen hz2 hz3 hz4 hcs0 hB0 hcs1 hB1 hB2 hpl hp hl hys
      by_cases heq : r = l
      · subst heq
        go_wp2_with fail
        refine' wp_region_seq [.inl _, .inl _, .inl _, .inl _, .inl _, .inl _, .inl _, .inl _, .inl _, .inl _, .inl _, .inl _, .inr (AnyRow1 r), .inl _, .inl _, .inl _, .inl _, .inl _] (by kernel_rfl) (by kernel_rfl) ?main6
        case main6 =>
          refine wpParts_det (by rfl) (fun W hE hN => ?_) ?_
          · have hc := fun b o h => hE.cell (p := ⟨b, o, none⟩) h
            go_simp; refine ⟨Below.refl _ _, ?_⟩; rfl
          simp only [Act.put, List.setIfInBounds_toArray, List.set_cons_zero, List.set_cons_succ]
          refine wpParts_det (by rfl) (fun W hE hN => ?_) ?_
          · go_simp; refine ⟨Below.refl _ _, ?_⟩; rfl
          simp only [Act.put, List.setIfInBounds_toArray, List.set_cons_zero, List.set_cons_succ]
          refine wpParts_det (by rfl) (fun W hE hN => ?_) ?_
          · go_simp; refine ⟨Below.refl _ _, ?_⟩; rfl
          simp only [Act.put, List.setIfInBounds_toArray, List.set_cons_zero, List.set_cons_succ]
          refine wpParts_det (by rfl) (fun W hE hN => ?_) ?_
          · go_simp; refine ⟨Below.refl _ _, ?_⟩; rfl
          simp only [Act.put, List.setIfInBounds_toArray, List.set_cons_zero, List.set_cons_succ]
          refine wpParts_det (by rfl) (fun W hE hN => ?_) ?_
          · have hc := fun b o h => hE.cell (p := ⟨b, o, none⟩) h
            go_simp; refine ⟨Below.refl _ _, ?_⟩; rfl
          simp only [Act.put, List.setIfInBounds_toArray, List.set_cons_zero, List.set_cons_succ]
          refine wpParts_det (by rfl) (fun W hE hN => ?_) ?_
          · go_simp; refine ⟨Below.refl _ _, ?_⟩; rfl
          simp only [Act.put, List.setIfInBounds_toArray, List.set_cons_zero, List.set_cons_succ]
          refine wpParts_det (by rfl) (fun W hE hN => ?_) ?_
          · have hc := fun b o h => hE.cell (p := ⟨b, o, none⟩) h
            go_simp; refine ⟨Below.refl _ _, ?_⟩; rfl
          simp only [Act.put, List.setIfInBounds_toArray, List.set_cons_zero, List.set_cons_succ]
          refine wpParts_det (by rfl) (fun W hE hN => ?_) ?_
          · go_simp; refine ⟨Below.refl _ _, ?_⟩; rfl
          simp only [Act.put, List.setIfInBounds_toArray, List.set_cons_zero, List.set_cons_succ]
          refine wpParts_det (by rfl) (fun W hE hN => ?_) ?_
          · go_simp; refine ⟨Below.refl _ _, ?_⟩; rfl
          simp only [Act.put, List.setIfInBounds_toArray, List.set_cons_zero, List.set_cons_succ]
          refine wpParts_det (by rfl) (fun W hE hN => ?_) ?_
          · go_simp; refine ⟨Below.refl _ _, ?_⟩; rfl
          simp only [Act.put, List.setIfInBounds_toArray, List.set_cons_zero, List.set_cons_succ]
          refine wpParts_det (by rfl) (fun W hE hN => ?_) ?_
          · have hc := fun b o h => hE.cell (p := ⟨b, o, none⟩) h
            go_simp; refine ⟨Below.refl _ _, ?_⟩; rfl
          simp only [Act.put, List.setIfInBounds_toArray, List.set_cons_zero, List.set_cons_succ]
          refine wpParts_det (by rfl) (fun W hE hN => ?_) ?_
          · go_simp; refine ⟨Below.refl _ _, ?_⟩; rfl
          simp only [Act.put, List.setIfInBounds_toArray, List.set_cons_zero, List.set_cons_succ]
          refine wpParts_any rfl (AnyRow1.later) (by rfl) (fun W hE hN => ?_) (fun u12 => ?_)
          · go_simp; refine ⟨Below.refl _ _, ?_⟩; refine (HOUT.out W _ (HL1.out.ext hE)).mono ?_; rintro e w' ⟨v, rfl, ho, hb⟩; obtain ⟨ra, rc, rfl, hB⟩ := own_bytes ho (by omega); exact ⟨_, rfl, hb, ra, _, rc, rfl, hB.mono fun _ _ => trivial⟩
          simp only [Act.put, List.setIfInBounds_toArray, List.set_cons_zero, List.set_cons_succ]
          refine wpParts_det (by rfl) (fun W hE hN => ?_) ?_
          · simp [near, Oper.looksAt, Op.operands] at hN; obtain ⟨ra, rl, rc, rfl, hR⟩ := hN; have kc := conv_bytes hR.at_ 22 9 5 Try.underlying22 Try.underlying5 Try.underlying9; go_simp; refine ⟨Below.refl _ _, ?_⟩; rfl
          simp only [Act.put, List.setIfInBounds_toArray, List.set_cons_zero, List.set_cons_succ]
          refine wpParts_det (by rfl) (fun W hE hN => ?_) ?_
          · have hc := fun b o h => hE.cell (p := ⟨b, o, none⟩) h
            go_simp; refine ⟨Below.refl _ _, ?_⟩; rfl
          simp only [Act.put, List.setIfInBounds_toArray, List.set_cons_zero, List.set_cons_succ]
          refine wpParts_det (by rfl) (fun W hE hN => ?_) ?_
          · have kc := conv_bytes (HL0.out.ext hE).at_ 22 9 5 Try.underlying22 Try.underlying5 Try.underlying9; go_simp; refine ⟨Below.refl _ _, ?_⟩; rfl
          simp only [Act.put, List.setIfInBounds_toArray, List.set_cons_zero, List.set_cons_succ]
          refine wpParts_det (by rfl) (fun W hE hN => ?_) ?_
          · go_simp; refine ⟨Below.refl _ _, ?_⟩; rfl
          simp only [Act.put, List.setIfInBounds_toArray, List.set_cons_zero, List.set_cons_succ]
          refine wpParts_det (by rfl) (fun W hE hN => ?_) ?_
          · go_simp; refine ⟨Below.refl _ _, ?_⟩; rfl
          simp only [Act.put, List.setIfInBounds_toArray, List.set_cons_zero, List.set_cons_succ]
          refine wpParts_end fun W6 hE6 hG6 => ?_
          have hcW6 := fun b o h => hE6.cell (p := ⟨b, o, none⟩) h
          have hfW6 := fun b o h => hE6.frozen (p := ⟨b, o, none⟩) h
          have HK6 := Lib.hid ((hE6.block D hDl).trans HKK.out)
          have HL6 := Lib.hid (HL2.out.ext hE6)
          have hb6 := hE6.mono (show w.heap.size ≤ W.heap.size by omega)
          have s6 := hE6.size
          have HBW6 := Lib.hid (HBW.out.trans hb6)
          have q8' := fun i => (hE6.cell (p := ⟨w1.heap.size, i, none⟩) l8).trans (q8 i)
          have q10' := fun i => (hE6.cell (p := ⟨w1.heap.size + 1 + 1, i, none⟩) l10).trans (q10 i)
          have l8' : w1.heap.size < W6.heap.size := by omega
          have l10' : w1.heap.size + 1 + 1 < W6.heap.size := by omega
          clear hE6 hG6 hcW6 hfW6 hb6 q8 q9 q10 l8 l9 l10
          go_wp2_with fail
          refine' wp_region_seq [.inl _, .inl _, .inl _, .inl _, .inl _, .inl _, .inl _, .inl _, .inl _, .inl _] (by kernel_rfl) (by kernel_rfl) ?main7
          case main7 =>
            refine wpParts_det (by rfl) (fun W hE hN => ?_) ?_
            · have hc := fun b o h => hE.cell (p := ⟨b, o, none⟩) h
              go_simp; refine ⟨Below.refl _ _, ?_⟩; rfl
            simp only [Act.put, List.setIfInBounds_toArray, List.set_cons_zero, List.set_cons_succ]
            refine wpParts_det (by rfl) (fun W hE hN => ?_) ?_
            · have hc := fun b o h => hE.cell (p := ⟨b, o, none⟩) h
              go_simp; refine ⟨Below.refl _ _, ?_⟩; rfl
            simp only [Act.put, List.setIfInBounds_toArray, List.set_cons_zero, List.set_cons_succ]
            refine wpParts_det (by rfl) (fun W hE hN => ?_) ?_
            · go_simp; refine ⟨Below.refl _ _, ?_⟩; rfl
            simp only [Act.put, List.setIfInBounds_toArray, List.set_cons_zero, List.set_cons_succ]
            refine wpParts_det (by rfl) (fun W hE hN => ?_) ?_
            · have hc := fun b o h => hE.cell (p := ⟨b, o, none⟩) h
              go_simp; refine ⟨Below.refl _ _, ?_⟩; rfl
            simp only [Act.put, List.setIfInBounds_toArray, List.set_cons_zero, List.set_cons_succ]
            refine wpParts_det (by rfl) (fun W hE hN => ?_) ?_
            · go_simp; refine ⟨Below.refl _ _, ?_⟩; rfl
            simp only [Act.put, List.setIfInBounds_toArray, List.set_cons_zero, List.set_cons_succ]
            refine wpParts_det (by rfl) (fun W hE hN => ?_) ?_
            · go_simp; refine ⟨Below.refl _ _, ?_⟩; rfl
            simp only [Act.put, List.setIfInBounds_toArray, List.set_cons_zero, List.set_cons_succ]
            refine wpParts_det (by rfl) (fun W hE hN => ?_) ?_
            · have hc := fun b o h => hE.cell (p := ⟨b, o, none⟩) h
              go_simp; refine ⟨Below.refl _ _, ?_⟩; rfl
            simp only [Act.put, List.setIfInBounds_toArray, List.set_cons_zero, List.set_cons_succ]
            refine wpParts_det (by rfl) (fun W hE hN => ?_) ?_
            · go_simp; refine ⟨Below.refl _ _, ?_⟩; rfl
            simp only [Act.put, List.setIfInBounds_toArray, List.set_cons_zero, List.set_cons_succ]
            refine wpParts_det (by rfl) (fun W hE hN => ?_) ?_
            · go_simp; refine ⟨Below.refl _ _, ?_⟩; rfl
            simp only [Act.put, List.setIfInBounds_toArray, List.set_cons_zero, List.set_cons_succ]
            refine wpParts_det (by rfl) (fun W hE hN => ?_) ?_
            · go_simp; refine ⟨Below.refl _ _, ?_⟩; rfl
            simp only [Act.put, List.setIfInBounds_toArray, List.set_cons_zero, List.set_cons_succ]
            refine wpParts_end fun W7 hE7 hG7 => ?_
            have hcW7 := fun b o h => hE7.cell (p := ⟨b, o, none⟩) h
            have hfW7 := fun b o h => hE7.frozen (p := ⟨b, o, none⟩) h
            have HK7 := Lib.hid ((hE7.block D (by omega)).trans HK6.out)
            have hb7 := hE7.mono (show w.heap.size ≤ W6.heap.size by have := HBW6.out.size; omega)
            have HL7 := Lib.hid (HL6.out.ext hE7)
            go_wp2_with fail
            refine ⟨by simp, .inl ⟨_, _, rfl, run_takeDeferred HK7.out, ?_⟩⟩
            refine ⟨.tuple #[.slice (some ⟨g, go + 6, none⟩) (want - 6) (want - 6), .int .i64 (nx : Int), .int .i64 0], by simp [results, Try.results10, go_sem], .inl ⟨p, nx, HFW.out.1 (by first | rfl | trivial), _, _, _, rfl, ?_, ?_⟩⟩
            · exact ((HL7.out.same (by simp) fun b h hlt => putObj_block hlt h.2).at_)
            · exact (HBW6.out.trans hb7).trans (belowK_b (w := w) (Nat.le_refl _) W7 D _ _ hDw HK7.out rfl rfl)
      · have kq : (r == l) = false := by simpa using heq
        go_wp2_with fail
        refine' wp_region_seq [.inl _, .inl _, .inl _, .inl _, .inl _, .inl _, .inl _, .inl _, .inl _, .inl _, .inl _, .inl _, .inr (AnyRow1 r), .inl _, .inl _, .inl _, .inl _, .inl _] (by kernel_rfl) (by kernel_rfl) ?main8
        case main8 =>
          refine wpParts_det (by rfl) (fun W hE hN => ?_) ?_
          · have hc := fun b o h => hE.cell (p := ⟨b, o, none⟩) h
            go_simp; refine ⟨Below.refl _ _, ?_⟩; rfl
          simp only [Act.put, List.setIfInBounds_toArray, List.set_cons_zero, List.set_cons_succ]
          refine wpParts_det (by rfl) (fun W hE hN => ?_) ?_
          · go_simp; refine ⟨Below.refl _ _, ?_⟩; rfl
          simp only [Act.put, List.setIfInBounds_toArray, List.set_cons_zero, List.set_cons_succ]
          refine wpParts_det (by rfl) (fun W hE hN => ?_) ?_
          · go_simp; refine ⟨Below.refl _ _, ?_⟩; rfl
          simp only [Act.put, List.setIfInBounds_toArray, List.set_cons_zero, List.set_cons_succ]
          refine wpParts_det (by rfl) (fun W hE hN => ?_) ?_
          · go_simp; refine ⟨Below.refl _ _, ?_⟩; rfl
          simp only [Act.put, List.setIfInBounds_toArray, List.set_cons_zero, List.set_cons_succ]
          refine wpParts_det (by rfl) (fun W hE hN => ?_) ?_
          · have hc := fun b o h => hE.cell (p := ⟨b, o, none⟩) h
            go_simp; refine ⟨Below.refl _ _, ?_⟩; rfl
          simp only [Act.put, List.setIfInBounds_toArray, List.set_cons_zero, List.set_cons_succ]
          refine wpParts_det (by rfl) (fun W hE hN => ?_) ?_
          · go_simp; refine ⟨Below.refl _ _, ?_⟩; rfl
          simp only [Act.put, List.setIfInBounds_toArray, List.set_cons_zero, List.set_cons_succ]
          refine wpParts_det (by rfl) (fun W hE hN => ?_) ?_
          · have hc := fun b o h => hE.cell (p := ⟨b, o, none⟩) h
            go_simp; refine ⟨Below.refl _ _, ?_⟩; rfl
          simp only [Act.put, List.setIfInBounds_toArray, List.set_cons_zero, List.set_cons_succ]
          refine wpParts_det (by rfl) (fun W hE hN => ?_) ?_
          · go_simp; refine ⟨Below.refl _ _, ?_⟩; rfl
          simp only [Act.put, List.setIfInBounds_toArray, List.set_cons_zero, List.set_cons_succ]
          refine wpParts_det (by rfl) (fun W hE hN => ?_) ?_
          · go_simp; refine ⟨Below.refl _ _, ?_⟩; rfl
          simp only [Act.put, List.setIfInBounds_toArray, List.set_cons_zero, List.set_cons_succ]
          refine wpParts_det (by rfl) (fun W hE hN => ?_) ?_
          · go_simp; refine ⟨Below.refl _ _, ?_⟩; rfl
          simp only [Act.put, List.setIfInBounds_toArray, List.set_cons_zero, List.set_cons_succ]
          refine wpParts_det (by rfl) (fun W hE hN => ?_) ?_
          · have hc := fun b o h => hE.cell (p := ⟨b, o, none⟩) h
            go_simp; refine ⟨Below.refl _ _, ?_⟩; rfl
          simp only [Act.put, List.setIfInBounds_toArray, List.set_cons_zero, List.set_cons_succ]
          refine wpParts_det (by rfl) (fun W hE hN => ?_) ?_
          · go_simp; refine ⟨Below.refl _ _, ?_⟩; rfl
          simp only [Act.put, List.setIfInBounds_toArray, List.set_cons_zero, List.set_cons_succ]
          refine wpParts_any rfl (AnyRow1.later) (by rfl) (fun W hE hN => ?_) (fun u12 => ?_)
          · go_simp; refine ⟨Below.refl _ _, ?_⟩; refine (HOUT.out W _ (HL1.out.ext hE)).mono ?_; rintro e w' ⟨v, rfl, ho, hb⟩; obtain ⟨ra, rc, rfl, hB⟩ := own_bytes ho (by omega); exact ⟨_, rfl, hb, ra, _, rc, rfl, hB.mono fun _ _ => trivial⟩
          simp only [Act.put, List.setIfInBounds_toArray, List.set_cons_zero, List.set_cons_succ]
          refine wpParts_det (by rfl) (fun W hE hN => ?_) ?_
          · simp [near, Oper.looksAt, Op.operands] at hN; obtain ⟨ra, rl, rc, rfl, hR⟩ := hN; have kc := conv_bytes hR.at_ 22 9 5 Try.underlying22 Try.underlying5 Try.underlying9; go_simp; refine ⟨Below.refl _ _, ?_⟩; rfl
          simp only [Act.put, List.setIfInBounds_toArray, List.set_cons_zero, List.set_cons_succ]
          refine wpParts_det (by rfl) (fun W hE hN => ?_) ?_
          · have hc := fun b o h => hE.cell (p := ⟨b, o, none⟩) h
            go_simp; refine ⟨Below.refl _ _, ?_⟩; rfl
          simp only [Act.put, List.setIfInBounds_toArray, List.set_cons_zero, List.set_cons_succ]
          refine wpParts_det (by rfl) (fun W hE hN => ?_) ?_
          · have kc := conv_bytes (HL0.out.ext hE).at_ 22 9 5 Try.underlying22 Try.underlying5 Try.underlying9; go_simp; refine ⟨Below.refl _ _, ?_⟩; rfl
          simp only [Act.put, List.setIfInBounds_toArray, List.set_cons_zero, List.set_cons_succ]
          refine wpParts_det (by rfl) (fun W hE hN => ?_) ?_
          · go_simp; refine ⟨Below.refl _ _, ?_⟩; rfl
          simp only [Act.put, List.setIfInBounds_toArray, List.set_cons_zero, List.set_cons_succ]
          refine wpParts_det (by rfl) (fun W hE hN => ?_) ?_
          · go_simp; refine ⟨Below.refl _ _, ?_⟩; rfl
          simp only [Act.put, List.setIfInBounds_toArray, List.set_cons_zero, List.set_cons_succ]
          refine wpParts_end fun W6 hE6 hG6 => ?_
          have hcW6 := fun b o h => hE6.cell (p := ⟨b, o, none⟩) h
          have hfW6 := fun b o h => hE6.frozen (p := ⟨b, o, none⟩) h
          have hnone : frameOf (pastAll F.all at_) = none := HFW.out.2 heq
          have HN := Lib.hid hnone
          have HK6 := Lib.hid ((hE6.block D hDl).trans HKK.out)
          have hb6 := hE6.mono (show w.heap.size ≤ W.heap.size by omega)
          go_wp2_with fail
          refine ⟨by simp, .inl ⟨_, _, rfl, run_takeDeferred HK6.out, ?_⟩⟩
          refine ⟨.tuple #[.slice none 0 0, .int .i64 0, .int .i64 210], by simp [results, Try.results10, go_sem], .inr ⟨HN.out, rfl, ?_⟩⟩
          exact (HBW.out.trans hb6).trans (belowK_b (w := w) (Nat.le_refl _) W6 D _ _ hDw HK6.out rfl rfl)
end Go.Proofs.Ytafigbomcgncnaa
