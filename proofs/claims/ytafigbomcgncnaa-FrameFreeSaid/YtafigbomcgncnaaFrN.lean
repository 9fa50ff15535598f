/-
  Layer 11, the law's parts: few and some.
-/
import Derived.Test.YtafigbomcgncnaaFrM
namespace Go.Dav
set_option linter.unusedVariables false
set_option linter.unusedSimpArgs false
open Go Go.RowKit
def FileD.some (F : FileD) : FileD := { F with firm := F.firm.take 1000, loose := (F.loose.take 6).map fun p => p.take 300 }
/-- Pieces, each a row of bytes in memory that is new since a world. -/
def OwnPieces (W : World) (base e : Nat) (vs : List Value) (L : List (List UInt8)) : Prop :=
  vs.length = L.length ∧ ∀ (k : Nat) (p : List UInt8), L[k]? = some p → ∃ v, vs[k]? = some v ∧ W.ownsRow base e 1 v p.length (u8s p)
theorem OwnPieces.nil_ {W : World} {base e : Nat} : OwnPieces W base e [] [] := ⟨rfl, fun k p hk => by simp at hk⟩
theorem OwnPieces.ext {W W' : World} {base e : Nat} {vs : List Value} {L : List (List UInt8)} (h : OwnPieces W base e vs L) (hb : Below W.heap.size W W') : OwnPieces W' base e vs L :=
  ⟨h.1, fun k p hk => by obtain ⟨v, h1, h2⟩ := h.2 k p hk; exact ⟨v, h1, ownsRow_ext h2 hb⟩⟩
theorem OwnPieces.other {W W' : World} {base base' e e' n' : Nat} {v' : Value} {vs xs' : List Value} {L : List (List UInt8)} (h : OwnPieces W base e vs L) (h' : W.ownsRow base' e' 1 v' n' xs') (hne : e ≠ e') (hg : W.grownBy W' v'.ownBlock) : OwnPieces W' base e vs L :=
  ⟨h.1, fun k p hk => by obtain ⟨v, h1, h2⟩ := h.2 k p hk; exact ⟨v, h1, own_other h2 h' hne hg⟩⟩
theorem OwnPieces.snoc {W : World} {base base' e : Nat} {vs : List Value} {L : List (List UInt8)} {v : Value} {p : List UInt8} (h : OwnPieces W base e vs L) (h2 : W.ownsRow base' e 1 v p.length (u8s p)) (hb : base ≤ base') : OwnPieces W base e (vs ++ [v]) (L ++ [p]) := by
  refine ⟨by simp [h.1], fun k q hk => ?_⟩
  by_cases hkl : k < L.length
  · rw [List.getElem?_append_left hkl] at hk
    obtain ⟨u, h3, h4⟩ := h.2 k q hk
    exact ⟨u, by rw [List.getElem?_append_left (by rw [h.1]; exact hkl)]; exact h3, h4⟩
  · rw [List.getElem?_append_right (by omega)] at hk
    have hlt := (List.getElem?_eq_some_iff.1 hk).1
    simp at hlt
    rw [hlt] at hk
    cases hk
    exact ⟨v, by rw [List.getElem?_append_right (by rw [h.1]; omega), h.1, hlt]; rfl, h2.mono hb⟩
theorem BytesS.take {W : World} {S : Nat → Prop} {a : Option Addr} {len cap n : Nat} {l : List UInt8} (h : BytesS W S a len cap l) (hn : n ≤ len) : BytesS W S a n cap (l.take n) := by
  refine ⟨⟨by rw [List.length_take, h.at_.hlen]; omega, Nat.le_trans hn h.at_.hcap, h.at_.hmax, Nat.le_trans hn h.at_.hfew, fun k x hk => ?_, h.at_.hnil⟩, fun k x hk => ?_⟩
  · rw [List.getElem?_take] at hk
    split at hk
    · exact h.at_.hat k x hk
    · cases hk
  · rw [List.getElem?_take] at hk
    split at hk
    · exact h.in_ k x hk
    · cases hk
end Go.Dav
namespace Go.Proofs.Ytafigbomcgncnaa
set_option linter.unusedVariables false
set_option linter.unusedSimpArgs false
open Go.RowKit Go.Dav Go.Shelf
attribute [local go_sem] Gives ite_val ite_val_true

theorem ownPieces_cells {W : World} {base e : Nat} {vs : List Value} {L : List (List UInt8)} (h : OwnPieces W base e vs L) (hl : ∀ p ∈ L, p.length ≤ 1048576) : PieceCells W (fun b => base ≤ b) vs L :=
  ⟨h.1, fun k p hk => by
    obtain ⟨v, h1, h2⟩ := h.2 k p hk
    obtain ⟨a, c, rfl, hB⟩ := own_bytes h2 (by have := hl p (List.mem_of_getElem? hk); omega)
    exact ⟨a, _, c, h1, hB⟩⟩

set_option maxHeartbeats 1000000 in
theorem Try_CloneOwn1 (a : Option Addr) (al ac : Nat) (x : List UInt8) (S : Nat → Prop) (w : World) (hx : BytesS w S a al ac x) :
    Calls Try.prog 34 #[.slice a al ac] w (GivesOwn 5 w x) := by
  cases a with
  | none =>
    have h0 := hx.at_.hnil rfl
    have h1 := hx.at_.hcap
    obtain rfl : al = 0 := by omega
    subst h0
    have hx0 : x = [] := List.length_eq_zero_iff.1 hx.at_.hlen
    subst hx0
    clear hx h1
    have knil := @Try_eqNil
    go_enter Try.func34, Try.ntmps34
    go_wp2
    go_ret
    exact ⟨_, rfl, World.ownsRow_nil _ _ _ _, (by repeat (first | (with_reducible exact Below.refl _ _) | (with_reducible exact Below.refl _ _) | (with_reducible refine Below.setCell ?_ (by first | omega | (simp; done) | (simp; omega)) _) | (with_reducible refine Below.alloc ?_ (by first | omega | (simp; done) | (simp; omega)) _) | (with_reducible refine Below.drew ?_) | (with_reducible refine below_drewN ?_ _)))⟩
  | some ad =>
    have hc := (hx.cells.ext ((Below.refl _ w).alloc (Nat.le_refl _) (.cells #[] 5)))
    have hf := hx.at_.hfew
    have hl := hx.at_.hlen
    have HX := Lib.hid hc
    clear hx hc
    have knil := @Try_eqNil
    go_enter Try.func34, Try.ntmps34
    have hown := World.ownsRow_made (e := 5) (size := 1) w #[] 0 (Nat.le_refl _) (by unfold maxLen; omega) rfl
    go_wp2_with (at_builtin; refine wpList_append_rowS rfl (.tmp 5) (.tmp 6) 22 rfl Try_elemU8 w.heap.size _ 0 [] rfl hown S (some ad) al ac (u8s x) rfl HX.out (u8s_one x) (fun h => by cases h) (by unfold maxLen; omega) (by omega) (by simp) ?_; intro v' w1 hown1 hgrow)
    rw [Nat.zero_add, List.nil_append] at hown1
    have hbel : Below w.heap.size w w1 := ((Below.refl _ w).alloc (Nat.le_refl _) _).grown hgrow (by simp) (fun k hk => (hown.lt k hk).1)
    have HO := Lib.hid hown1
    clear hown1 hgrow
    go_wp2
    go_ret
    exact ⟨_, rfl, by rw [hl]; exact HO.out, hbel⟩

theorem Try_few (a : Option Addr) (n c most : Nat) (l : List UInt8) (w : World) (S : Nat → Prop) (hl : BytesS w S a n c l) (hm : most ≤ 1048576) :
    Calls Try.prog 15 #[.slice a n c, .int .i64 (most : Int)] w (GivesOwn 5 w (l.take most)) := by
  have hln := hl.at_.hlen
  have hnc := hl.at_.hcap
  by_cases hmn : most < n
  · have e1 : (most : Int) < (n : Int) := by omega
    have hkc : (most : Int) ≤ (c : Int) := by omega
    have HA := Lib.hid (Try_CloneOwn1 a most c (l.take most) S w (hl.take (by omega)))
    cases a with
    | none => have := hl.at_.hnil rfl; omega
    | some ad =>
      clear hl hln hmn
      go_enter Try.func15, Try.ntmps15
      go_wp2_with fail
      refine HA.out.mono ?_; rintro e w1 ⟨v, rfl, ho, hb⟩
      have HO := Lib.hid ho
      have BEL := Lib.hid hb
      clear ho hb HA
      go_wp2
      go_ret
      exact ⟨_, rfl, HO.out, BEL.out⟩
  · have e1 : ¬ (most : Int) < (n : Int) := by omega
    have hkc : (n : Int) ≤ (c : Int) := by omega
    rw [List.take_of_length_le (by omega)]
    have HA := Lib.hid (Try_CloneOwn1 a n c l S w hl)
    cases a with
    | none =>
      have h0 := hl.at_.hnil rfl
      subst h0
      obtain rfl : n = 0 := by omega
      clear hl hln hmn hkc
      go_enter Try.func15, Try.ntmps15
      go_wp2_with fail
      refine HA.out.mono ?_; rintro e w1 ⟨v, rfl, ho, hb⟩
      have HO := Lib.hid ho
      have BEL := Lib.hid hb
      clear ho hb HA
      go_wp2
      go_ret
      exact ⟨_, rfl, HO.out, BEL.out⟩
    | some ad =>
      clear hl hln hmn
      go_enter Try.func15, Try.ntmps15
      go_wp2_with fail
      refine HA.out.mono ?_; rintro e w1 ⟨v, rfl, ho, hb⟩
      have HO := Lib.hid ho
      have BEL := Lib.hid hb
      clear ho hb HA
      go_wp2
      go_ret
      exact ⟨_, rfl, HO.out, BEL.out⟩
def GivesNewFile (w : World) (F : FileD) (e : Ending) (w' : World) : Prop :=
  ∃ fa fl fc la ll lc, e = .returned (.agg #[.slice fa fl fc, .slice la ll lc, .int .i64 F.fuse, .int .i64 F.fault, .bool F.off]) ∧ FileS w' (fun b => w.heap.size ≤ b) fa fl fc la ll lc F ∧ Below w.heap.size w w'

def TrySomeRel (w Wf : World) (F : FileD) (ff : List UInt8) (vf : Value) (ix v : Value) (k : Nat) (wr : World) : Prop :=
  ix = .int .i64 (k : Int) ∧ ∃ vs, wr.ownsRow (w.heap.size + 2) 22 1 v k vs ∧ OwnPieces wr (w.heap.size + 2) 5 vs ((F.loose.take k).map fun p => p.take 300) ∧ wr.ownsRow (w.heap.size + 2) 5 1 vf ff.length (u8s ff) ∧ Below (w.heap.size + 2) Wf wr

set_option maxRecDepth 100000 in
set_option maxHeartbeats 8000000 in
theorem Try_some (F : FileD) (fa la : Option Addr) (fl fc ll lc : Nat) (w : World) (S : Nat → Prop) (hF : FileS w S fa fl fc la ll lc F) :
    Calls Try.prog 9 #[.agg #[.slice fa fl fc, .slice la ll lc, .int .i64 F.fuse, .int .i64 F.fault, .bool F.off]] w (GivesNewFile w F.some) := by
  have HF := Lib.hid hF
  have hlc := hF.loose.hcap
  have HLL := Lib.hid hF.loose.hlen
  have HLN := Lib.hid hF.loose.hnil
  clear hF
  go_enter Try.func9, Try.ntmps9
  go_wp2_with fail
  obtain ⟨W1, hW1⟩ : ∃ W1, (w.alloc (.cells [.slice fa fl fc, .slice la ll lc, .int .i64 F.fuse, .int .i64 F.fault, .bool F.off].toArray 25)).alloc (.cells #[.slice none 0 0, .slice none 0 0, .int .i64 0, .int .i64 0, .bool false] 25) = W1 := ⟨_, rfl⟩
  have hb1 : Below w.heap.size w W1 := by rw [← hW1]; exact (by repeat (first | (with_reducible exact Below.refl _ _) | (with_reducible exact Below.refl _ _) | (with_reducible refine Below.setCell ?_ (by first | omega | (simp; done) | (simp; omega)) _) | (with_reducible refine Below.alloc ?_ (by first | omega | (simp; done) | (simp; omega)) _) | (with_reducible refine Below.drew ?_) | (with_reducible refine below_drewN ?_ _)))
  have hs1 : W1.heap.size = w.heap.size + 2 := by rw [← hW1]; simp
  have HB1 := Lib.hid (show Blk W1 w.heap.size [.slice fa fl fc, .slice la ll lc, .int .i64 F.fuse, .int .i64 F.fault, .bool F.off] 25 by rw [← hW1]; exact (Blk.new w [.slice fa fl fc, .slice la ll lc, .int .i64 F.fuse, .int .i64 F.fault, .bool F.off] _).alloc _)
  have HB2 := Lib.hid (show Blk W1 (w.heap.size + 1) [.slice none 0 0, .slice none 0 0, .int .i64 0, .int .i64 0, .bool false] 25 by rw [← hW1]; exact Blk.new' _ _ _ (by simp))
  have HBEL1 := Lib.hid hb1
  rw [hW1]
  clear hW1 hb1
  refine (show Calls Try.prog 15 #[.slice fa fl fc, .int .i64 1000] W1 _ from Try_few fa fl fc 1000 F.firm W1 S (HF.out.firm.ext HBEL1.out) (by omega)).mono ?_; rintro e w2 ⟨vf, rfl, hof, hb2⟩
  obtain ⟨ff, hff⟩ : ∃ ff, F.firm.take 1000 = ff := ⟨_, rfl⟩
  have HFF := Lib.hid hff
  rw [hff] at hof
  clear hff
  obtain ⟨na, nc, rfl, _⟩ := own_cells hof
  rw [hs1] at hof
  have HOF := Lib.hid hof
  have k1 := HB1.out.ext hb2
  have k2 := HB2.out.ext hb2
  have BEL2 := Lib.hid (HBEL1.out.trans (hb2.mono HBEL1.out.size))
  have q1 := k1.cells
  have m1 := k1.marks
  have l1 := k1.lt
  have l2 := k2.lt
  obtain ⟨W3, hW3⟩ : ∃ W3, w2.setCell ⟨w.heap.size, 0, none⟩ (.slice na ff.length nc) = W3 := ⟨_, rfl⟩
  have o3 : Only w.heap.size w2 W3 := by rw [← hW3]; exact (by repeat (first | (with_reducible exact Only.refl _ _) | (with_reducible refine Only.set ?_ _ _) | (with_reducible refine Only.alloc ?_ _) | (with_reducible refine Only.drew ?_)))
  have HK1 := Lib.hid (show Blk W3 w.heap.size [.slice na ff.length nc, .slice la ll lc, .int .i64 F.fuse, .int .i64 F.fault, .bool F.off] 25 by rw [← hW3]; exact k1.set 0 _)
  have HK2 := Lib.hid (k2.only o3 (by omega))
  have HOF3 := Lib.hid (show W3.ownsRow (w.heap.size + 2) 5 1 (.slice na ff.length nc) ff.length (u8s ff) by rw [← hW3]; exact ownsRow_set_other HOF.out k1 (by decide))
  have BEL3 := Lib.hid (below_only BEL2.out o3 BEL2.out.size (Nat.le_refl _))
  have hs3 : w.heap.size + 2 ≤ W3.heap.size := by have h1 := o3.size; have h2 := hb2.size; omega
  have HW3 := Lib.hid hW3
  have HO3 := Lib.hid o3
  clear hof hb2 k1 k2 hW3 o3 HB1 HB2 HOF HBEL1
  by_cases h6 : 6 < ll
  · have e1 : (6 : Int) < (ll : Int) := by omega
    have e2 : (6 : Int) ≤ (lc : Int) := by omega
    cases la with
    | none => have := HLN.out rfl; omega
    | some ad =>
      go_wp2_with fail
      rw [HW3.out]
      have HMM := Lib.hid (show 6 ≤ ll ∧ 6 ≤ 6 ∧ F.loose.take 6 = F.loose.take 6 from ⟨by omega, by omega, by first | rfl | (rw [List.take_of_length_le (by have := HLL.out; omega), List.take_of_length_le (by have := HLL.out; omega)])⟩)
      clear q1 m1 l1 l2 HW3 HO3
      go_loopg [3, 18] 6 (fun g v ix wr => ∃ k : Nat, k ≤ 6 ∧ g = 6 - k ∧ TrySomeRel w W3 F ff (.slice na ff.length nc) ix v k wr)
      case atStart => exact ⟨0, Nat.zero_le _, rfl, by go_num, [], World.ownsRow_nil _ _ _ _, OwnPieces.nil_, HOF3.out, Below.refl _ _⟩
      case round =>
        obtain ⟨k, hk, rfl, rfl, vs, hov, hpc, hfo, hbl⟩ := hrel
        have hwr : Below w.heap.size w wr := BEL3.out.trans (hbl.mono (by omega))
        obtain ⟨va, vc, rfl, hv1, hv2, hv3, hv4⟩ := own_cells hov
        have hsr := hbl.size
        by_cases hkm : k < 6
        ·
          obtain ⟨p, hp⟩ : ∃ p, F.loose[k]? = some p := ⟨_, List.getElem?_eq_getElem (by have := HLL.out; omega)⟩
          obtain ⟨b, o, pa, pl, pc, e0, hb, _, hc, hP⟩ := (HF.out.ext hwr).loose.hat k p hp
          cases e0
          have hkl : (k : Int) < (6 : Int) := by omega
          have HPW := Lib.hid hP
          have HOV := Lib.hid hov
          have HPC := Lib.hid hpc
          have HFO := Lib.hid hfo
          have HBL := Lib.hid hbl
          have HPK := Lib.hid hp
          clear hP hov hpc hfo hbl hp hv4 hwr
          go_wp2_with fail
          refine (show Calls Try.prog 15 #[.slice pa pl pc, .int .i64 300] wr _ from Try_few pa pl pc 300 p wr S HPW.out (by omega)).mono ?_; rintro e w5 ⟨vp, rfl, hop, hb5⟩
          obtain ⟨pp, hpp⟩ : ∃ pp, p.take 300 = pp := ⟨_, rfl⟩
          rw [hpp] at hop
          obtain ⟨pna, pnc, rfl, _⟩ := own_cells hop
          have hs5 := hb5.size
          have HOV5 := Lib.hid (ownsRow_ext HOV.out hb5)
          have HPC5 := Lib.hid ((HPC.out.ext hb5).snoc hop (by omega))
          have HFO5 := Lib.hid (ownsRow_ext HFO.out hb5)
          have HBL5 := Lib.hid (HBL.out.trans (hb5.mono (by omega)))
          have HCX := Lib.hid (cells_one (S := fun b => b = w5.heap.size) (g := w5.heap.size) (v := .slice pna pp.length pnc) rfl (by simp) (Blk.new w5 [.slice pna pp.length pnc] 22 |>.cell 0 rfl))
          have HPP := Lib.hid hpp
          have hk6 : k ≤ 6 := by have := HMM.out; omega
          clear hop hpp hb5 hc HOV HPC HFO HBL HPW
          go_wp2_with (at_builtin; refine wpList_append_rowS rfl (.tmp 22) (.tmp 25) 23 rfl Try_elemBytes (w.heap.size + 2) _ k vs rfl (HOV5.out.alloc _) (fun b => b = w5.heap.size) (some ⟨w5.heap.size, 0, none⟩) 1 1 [.slice pna pp.length pnc] rfl HCX.out (fun u hu => by simp at hu; subst hu; rfl) (fun h => by cases h) (by unfold maxLen; omega) (by omega) (by simp; omega) ?_; intro v6 w6 hown6 hgrow6; have HBL6 := Lib.hid (below_own (HBL5.out.alloc (by omega) _) (by simp; omega) (HOV5.out.alloc _) (Nat.le_refl _) hgrow6); have HPC6 := Lib.hid (OwnPieces.other (HPC5.out.ext ((Below.refl _ w5).alloc (Nat.le_refl _) _)) (HOV5.out.alloc (.cells #[.slice pna pp.length pnc] 22)) (by decide) hgrow6); have HFO6 := Lib.hid (own_other (HFO5.out.alloc _) (HOV5.out.alloc (.cells #[.slice pna pp.length pnc] 22)) (by decide) hgrow6); have HO6 := Lib.hid hown6; clear HOV5 HPC5 HFO5 HBL5 HCX hown6 hgrow6)
          go_roundg (6 - (k + 1))
          case measure => omega
          case rel =>
            refine ⟨k + 1, hkm, rfl, by go_num, _, HO6.out, ?_, HFO6.out, HBL6.out⟩
            have h := HPC6.out
            rw [List.take_add_one, HPK.out, Option.toList_some, List.map_append, List.map_singleton, HPP.out]
            exact h
        · obtain rfl : 6 = k := by omega
          have hkl : ¬ ((6 : Nat) : Int) < (6 : Int) := by omega
          have hpcl : PieceCells wr (fun b => w.heap.size + 2 ≤ b) vs F.some.loose := by
            have h := ownPieces_cells hpc (fun q hq => by
              obtain ⟨r, _, rfl⟩ := List.mem_map.1 hq
              rw [List.length_take]; omega)
            rw [HMM.out.2.2] at h
            exact h
          have hlo := LooseS.shut_ hv4 hpcl hv1 hv2 (by have := HMM.out; omega) hv3
          obtain ⟨_, _, ee, hfi⟩ := own_bytes hfo (by rw [← HFF.out, List.length_take]; omega)
          cases ee
          have hfile : FileS wr (fun b => w.heap.size + 2 ≤ b) na ff.length nc va 6 vc F.some := ⟨by show BytesS wr _ na ff.length nc (F.firm.take 1000); rw [HFF.out]; exact hfi, hlo, HF.out.fuse, HF.out.fault⟩
          have HFILE := Lib.hid hfile
          have k1 := HK1.out.below hbl (by omega)
          have k2 := HK2.out.below hbl (by omega)
          have HBW := Lib.hid hwr
          have q1 := k1.cells
          have m1 := k1.marks
          have l1 := k1.lt
          have hk2 := k2.other (q := w.heap.size) (by omega) 1 (.slice va 6 vc)
          have hr2 := ((((hk2.set 0 (.slice na ff.length nc)).set 1 (.slice va 6 vc)).set 2 (.int .i64 F.fuse)).set 3 (.int .i64 F.fault)).set 4 (.bool F.off)
          have c2 := hr2.cells
          simp only [List.set_cons_zero, List.set_cons_succ] at c2
          have q2 := k2.cells
          have m2 := k2.marks
          have l2 := k2.lt
          clear hov hpc hfo hbl hwr hv1 hv2 hv3 hv4 hpcl hlo hfi hfile k1 k2 hk2 hr2 hkm hk
          go_wp2
          have o1 : Only w.heap.size wr (wr.setCell ⟨w.heap.size, 1, none⟩ (.slice va 6 vc)) := (by repeat (first | (with_reducible exact Only.refl _ _) | (with_reducible refine Only.set ?_ _ _) | (with_reducible refine Only.alloc ?_ _) | (with_reducible refine Only.drew ?_)))
          obtain ⟨W6, hW6⟩ : ∃ W6, wr.setCell ⟨w.heap.size, 1, none⟩ (.slice va 6 vc) = W6 := ⟨_, rfl⟩
          rw [hW6] at o1 c2 ⊢
          have o2 : Only (w.heap.size + 1) W6 (((((W6.setCell ⟨w.heap.size + 1, 0, none⟩ (.slice na ff.length nc)).setCell ⟨w.heap.size + 1, 1, none⟩ (.slice va 6 vc)).setCell ⟨w.heap.size + 1, 2, none⟩ (.int .i64 F.fuse)).setCell ⟨w.heap.size + 1, 3, none⟩ (.int .i64 F.fault)).setCell ⟨w.heap.size + 1, 4, none⟩ (.bool F.off)) := (by repeat (first | (with_reducible exact Only.refl _ _) | (with_reducible refine Only.set ?_ _ _) | (with_reducible refine Only.alloc ?_ _) | (with_reducible refine Only.drew ?_)))
          refine bodyPost_ret (v := .agg #[.slice na ff.length nc, .slice va 6 vc, .int .i64 F.fuse, .int .i64 F.fault, .bool F.off]) (by simp [results, Try.results9, go_sem, c2]) rfl ⟨na, ff.length, nc, va, 6, vc, rfl, ?_, ?_⟩
          · exact (((HFILE.out.same o1.size (fun b h hlt => o1.block b hlt (by omega))).same o2.size (fun b h hlt => o2.block b hlt (by omega))).mono fun b h => by omega)
          · exact below_only (below_only HBW.out o1 HBW.out.size (Nat.le_refl _)) o2 (Nat.le_trans HBW.out.size o1.size) (Nat.le_succ _)
  · have e1 : ¬ (6 : Int) < (ll : Int) := by omega
    have e2 : (ll : Int) ≤ (lc : Int) := by omega
    cases la with
    | none =>
      have h0 := HLN.out rfl
      subst h0
      obtain rfl : ll = 0 := by omega
      go_wp2_with fail
      rw [HW3.out]
      have HMM := Lib.hid (show 0 ≤ 0 ∧ 0 ≤ 6 ∧ F.loose.take 0 = F.loose.take 6 from ⟨by omega, by omega, by first | rfl | (rw [List.take_of_length_le (by have := HLL.out; omega), List.take_of_length_le (by have := HLL.out; omega)])⟩)
      clear q1 m1 l1 l2 HW3 HO3
      go_loopg [3, 18] 0 (fun g v ix wr => ∃ k : Nat, k ≤ 0 ∧ g = 0 - k ∧ TrySomeRel w W3 F ff (.slice na ff.length nc) ix v k wr)
      case atStart => exact ⟨0, Nat.zero_le _, rfl, by go_num, [], World.ownsRow_nil _ _ _ _, OwnPieces.nil_, HOF3.out, Below.refl _ _⟩
      case round =>
        obtain ⟨k, hk, rfl, rfl, vs, hov, hpc, hfo, hbl⟩ := hrel
        have hwr : Below w.heap.size w wr := BEL3.out.trans (hbl.mono (by omega))
        obtain ⟨va, vc, rfl, hv1, hv2, hv3, hv4⟩ := own_cells hov
        have hsr := hbl.size
        by_cases hkm : k < 0
        ·
          exact absurd hkm (Nat.not_lt_zero _)
        · obtain rfl : 0 = k := by omega
          have hkl : ¬ ((0 : Nat) : Int) < (0 : Int) := by omega
          have hpcl : PieceCells wr (fun b => w.heap.size + 2 ≤ b) vs F.some.loose := by
            have h := ownPieces_cells hpc (fun q hq => by
              obtain ⟨r, _, rfl⟩ := List.mem_map.1 hq
              rw [List.length_take]; omega)
            rw [HMM.out.2.2] at h
            exact h
          have hlo := LooseS.shut_ hv4 hpcl hv1 hv2 (by have := HMM.out; omega) hv3
          obtain ⟨_, _, ee, hfi⟩ := own_bytes hfo (by rw [← HFF.out, List.length_take]; omega)
          cases ee
          have hfile : FileS wr (fun b => w.heap.size + 2 ≤ b) na ff.length nc va 0 vc F.some := ⟨by show BytesS wr _ na ff.length nc (F.firm.take 1000); rw [HFF.out]; exact hfi, hlo, HF.out.fuse, HF.out.fault⟩
          have HFILE := Lib.hid hfile
          have k1 := HK1.out.below hbl (by omega)
          have k2 := HK2.out.below hbl (by omega)
          have HBW := Lib.hid hwr
          have q1 := k1.cells
          have m1 := k1.marks
          have l1 := k1.lt
          have hk2 := k2.other (q := w.heap.size) (by omega) 1 (.slice va 0 vc)
          have hr2 := ((((hk2.set 0 (.slice na ff.length nc)).set 1 (.slice va 0 vc)).set 2 (.int .i64 F.fuse)).set 3 (.int .i64 F.fault)).set 4 (.bool F.off)
          have c2 := hr2.cells
          simp only [List.set_cons_zero, List.set_cons_succ] at c2
          have q2 := k2.cells
          have m2 := k2.marks
          have l2 := k2.lt
          clear hov hpc hfo hbl hwr hv1 hv2 hv3 hv4 hpcl hlo hfi hfile k1 k2 hk2 hr2 hkm hk
          go_wp2
          have o1 : Only w.heap.size wr (wr.setCell ⟨w.heap.size, 1, none⟩ (.slice va 0 vc)) := (by repeat (first | (with_reducible exact Only.refl _ _) | (with_reducible refine Only.set ?_ _ _) | (with_reducible refine Only.alloc ?_ _) | (with_reducible refine Only.drew ?_)))
          obtain ⟨W6, hW6⟩ : ∃ W6, wr.setCell ⟨w.heap.size, 1, none⟩ (.slice va 0 vc) = W6 := ⟨_, rfl⟩
          rw [hW6] at o1 c2 ⊢
          have o2 : Only (w.heap.size + 1) W6 (((((W6.setCell ⟨w.heap.size + 1, 0, none⟩ (.slice na ff.length nc)).setCell ⟨w.heap.size + 1, 1, none⟩ (.slice va 0 vc)).setCell ⟨w.heap.size + 1, 2, none⟩ (.int .i64 F.fuse)).setCell ⟨w.heap.size + 1, 3, none⟩ (.int .i64 F.fault)).setCell ⟨w.heap.size + 1, 4, none⟩ (.bool F.off)) := (by repeat (first | (with_reducible exact Only.refl _ _) | (with_reducible refine Only.set ?_ _ _) | (with_reducible refine Only.alloc ?_ _) | (with_reducible refine Only.drew ?_)))
          refine bodyPost_ret (v := .agg #[.slice na ff.length nc, .slice va 0 vc, .int .i64 F.fuse, .int .i64 F.fault, .bool F.off]) (by simp [results, Try.results9, go_sem, c2]) rfl ⟨na, ff.length, nc, va, 0, vc, rfl, ?_, ?_⟩
          · exact (((HFILE.out.same o1.size (fun b h hlt => o1.block b hlt (by omega))).same o2.size (fun b h hlt => o2.block b hlt (by omega))).mono fun b h => by omega)
          · exact below_only (below_only HBW.out o1 HBW.out.size (Nat.le_refl _)) o2 (Nat.le_trans HBW.out.size o1.size) (Nat.le_succ _)
    | some ad =>
      go_wp2_with fail
      rw [HW3.out]
      have HMM := Lib.hid (show ll ≤ ll ∧ ll ≤ 6 ∧ F.loose.take ll = F.loose.take 6 from ⟨by omega, by omega, by first | rfl | (rw [List.take_of_length_le (by have := HLL.out; omega), List.take_of_length_le (by have := HLL.out; omega)])⟩)
      clear q1 m1 l1 l2 HW3 HO3
      go_loopg [3, 18] ll (fun g v ix wr => ∃ k : Nat, k ≤ ll ∧ g = ll - k ∧ TrySomeRel w W3 F ff (.slice na ff.length nc) ix v k wr)
      case atStart => exact ⟨0, Nat.zero_le _, rfl, by go_num, [], World.ownsRow_nil _ _ _ _, OwnPieces.nil_, HOF3.out, Below.refl _ _⟩
      case round =>
        obtain ⟨k, hk, rfl, rfl, vs, hov, hpc, hfo, hbl⟩ := hrel
        have hwr : Below w.heap.size w wr := BEL3.out.trans (hbl.mono (by omega))
        obtain ⟨va, vc, rfl, hv1, hv2, hv3, hv4⟩ := own_cells hov
        have hsr := hbl.size
        by_cases hkm : k < ll
        ·
          obtain ⟨p, hp⟩ : ∃ p, F.loose[k]? = some p := ⟨_, List.getElem?_eq_getElem (by have := HLL.out; omega)⟩
          obtain ⟨b, o, pa, pl, pc, e0, hb, _, hc, hP⟩ := (HF.out.ext hwr).loose.hat k p hp
          cases e0
          have hkl : (k : Int) < (ll : Int) := by omega
          have HPW := Lib.hid hP
          have HOV := Lib.hid hov
          have HPC := Lib.hid hpc
          have HFO := Lib.hid hfo
          have HBL := Lib.hid hbl
          have HPK := Lib.hid hp
          clear hP hov hpc hfo hbl hp hv4 hwr
          go_wp2_with fail
          refine (show Calls Try.prog 15 #[.slice pa pl pc, .int .i64 300] wr _ from Try_few pa pl pc 300 p wr S HPW.out (by omega)).mono ?_; rintro e w5 ⟨vp, rfl, hop, hb5⟩
          obtain ⟨pp, hpp⟩ : ∃ pp, p.take 300 = pp := ⟨_, rfl⟩
          rw [hpp] at hop
          obtain ⟨pna, pnc, rfl, _⟩ := own_cells hop
          have hs5 := hb5.size
          have HOV5 := Lib.hid (ownsRow_ext HOV.out hb5)
          have HPC5 := Lib.hid ((HPC.out.ext hb5).snoc hop (by omega))
          have HFO5 := Lib.hid (ownsRow_ext HFO.out hb5)
          have HBL5 := Lib.hid (HBL.out.trans (hb5.mono (by omega)))
          have HCX := Lib.hid (cells_one (S := fun b => b = w5.heap.size) (g := w5.heap.size) (v := .slice pna pp.length pnc) rfl (by simp) (Blk.new w5 [.slice pna pp.length pnc] 22 |>.cell 0 rfl))
          have HPP := Lib.hid hpp
          have hk6 : k ≤ 6 := by have := HMM.out; omega
          clear hop hpp hb5 hc HOV HPC HFO HBL HPW
          go_wp2_with (at_builtin; refine wpList_append_rowS rfl (.tmp 22) (.tmp 25) 23 rfl Try_elemBytes (w.heap.size + 2) _ k vs rfl (HOV5.out.alloc _) (fun b => b = w5.heap.size) (some ⟨w5.heap.size, 0, none⟩) 1 1 [.slice pna pp.length pnc] rfl HCX.out (fun u hu => by simp at hu; subst hu; rfl) (fun h => by cases h) (by unfold maxLen; omega) (by omega) (by simp; omega) ?_; intro v6 w6 hown6 hgrow6; have HBL6 := Lib.hid (below_own (HBL5.out.alloc (by omega) _) (by simp; omega) (HOV5.out.alloc _) (Nat.le_refl _) hgrow6); have HPC6 := Lib.hid (OwnPieces.other (HPC5.out.ext ((Below.refl _ w5).alloc (Nat.le_refl _) _)) (HOV5.out.alloc (.cells #[.slice pna pp.length pnc] 22)) (by decide) hgrow6); have HFO6 := Lib.hid (own_other (HFO5.out.alloc _) (HOV5.out.alloc (.cells #[.slice pna pp.length pnc] 22)) (by decide) hgrow6); have HO6 := Lib.hid hown6; clear HOV5 HPC5 HFO5 HBL5 HCX hown6 hgrow6)
          go_roundg (ll - (k + 1))
          case measure => omega
          case rel =>
            refine ⟨k + 1, hkm, rfl, by go_num, _, HO6.out, ?_, HFO6.out, HBL6.out⟩
            have h := HPC6.out
            rw [List.take_add_one, HPK.out, Option.toList_some, List.map_append, List.map_singleton, HPP.out]
            exact h
        · obtain rfl : ll = k := by omega
          have hkl : ¬ ((ll : Nat) : Int) < (ll : Int) := by omega
          have hpcl : PieceCells wr (fun b => w.heap.size + 2 ≤ b) vs F.some.loose := by
            have h := ownPieces_cells hpc (fun q hq => by
              obtain ⟨r, _, rfl⟩ := List.mem_map.1 hq
              rw [List.length_take]; omega)
            rw [HMM.out.2.2] at h
            exact h
          have hlo := LooseS.shut_ hv4 hpcl hv1 hv2 (by have := HMM.out; omega) hv3
          obtain ⟨_, _, ee, hfi⟩ := own_bytes hfo (by rw [← HFF.out, List.length_take]; omega)
          cases ee
          have hfile : FileS wr (fun b => w.heap.size + 2 ≤ b) na ff.length nc va ll vc F.some := ⟨by show BytesS wr _ na ff.length nc (F.firm.take 1000); rw [HFF.out]; exact hfi, hlo, HF.out.fuse, HF.out.fault⟩
          have HFILE := Lib.hid hfile
          have k1 := HK1.out.below hbl (by omega)
          have k2 := HK2.out.below hbl (by omega)
          have HBW := Lib.hid hwr
          have q1 := k1.cells
          have m1 := k1.marks
          have l1 := k1.lt
          have hk2 := k2.other (q := w.heap.size) (by omega) 1 (.slice va ll vc)
          have hr2 := ((((hk2.set 0 (.slice na ff.length nc)).set 1 (.slice va ll vc)).set 2 (.int .i64 F.fuse)).set 3 (.int .i64 F.fault)).set 4 (.bool F.off)
          have c2 := hr2.cells
          simp only [List.set_cons_zero, List.set_cons_succ] at c2
          have q2 := k2.cells
          have m2 := k2.marks
          have l2 := k2.lt
          clear hov hpc hfo hbl hwr hv1 hv2 hv3 hv4 hpcl hlo hfi hfile k1 k2 hk2 hr2 hkm hk
          go_wp2
          have o1 : Only w.heap.size wr (wr.setCell ⟨w.heap.size, 1, none⟩ (.slice va ll vc)) := (by repeat (first | (with_reducible exact Only.refl _ _) | (with_reducible refine Only.set ?_ _ _) | (with_reducible refine Only.alloc ?_ _) | (with_reducible refine Only.drew ?_)))
          obtain ⟨W6, hW6⟩ : ∃ W6, wr.setCell ⟨w.heap.size, 1, none⟩ (.slice va ll vc) = W6 := ⟨_, rfl⟩
          rw [hW6] at o1 c2 ⊢
          have o2 : Only (w.heap.size + 1) W6 (((((W6.setCell ⟨w.heap.size + 1, 0, none⟩ (.slice na ff.length nc)).setCell ⟨w.heap.size + 1, 1, none⟩ (.slice va ll vc)).setCell ⟨w.heap.size + 1, 2, none⟩ (.int .i64 F.fuse)).setCell ⟨w.heap.size + 1, 3, none⟩ (.int .i64 F.fault)).setCell ⟨w.heap.size + 1, 4, none⟩ (.bool F.off)) := (by repeat (first | (with_reducible exact Only.refl _ _) | (with_reducible refine Only.set ?_ _ _) | (with_reducible refine Only.alloc ?_ _) | (with_reducible refine Only.drew ?_)))
          refine bodyPost_ret (v := .agg #[.slice na ff.length nc, .slice va ll vc, .int .i64 F.fuse, .int .i64 F.fault, .bool F.off]) (by simp [results, Try.results9, go_sem, c2]) rfl ⟨na, ff.length, nc, va, ll, vc, rfl, ?_, ?_⟩
          · exact (((HFILE.out.same o1.size (fun b h hlt => o1.block b hlt (by omega))).same o2.size (fun b h hlt => o2.block b hlt (by omega))).mono fun b h => by omega)
          · exact below_only (below_only HBW.out o1 HBW.out.size (Nat.le_refl _)) o2 (Nat.le_trans HBW.out.size o1.size) (Nat.le_succ _)
end Go.Proofs.Ytafigbomcgncnaa
