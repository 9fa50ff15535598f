/-
  Layer 12: the block of a header that may be, walked.
-/
import Derived.Test.YtmjmjjakhmeogaaHdC
import Derived.RegionTactic
namespace Go.Dav
set_option linter.unusedVariables false
set_option linter.unusedSimpArgs false
open Go Go.RowKit
/-- What stands ahead of the sum. -/
def headOf (g a : Nat) : List UInt8 := [1] ++ highOf g 8 ++ highOf a 4
def bodyOf (g a : Nat) : List UInt8 := headOf g a ++ List.replicate 46 0
def blockOf (g a : Nat) : List UInt8 := crcLay (bodyOf g a) ++ [165]
theorem headOf_len (g a : Nat) : (headOf g a).length = 13 := by simp [headOf, highOf_len]
theorem bodyOf_len (g a : Nat) : (bodyOf g a).length = 59 := by simp [bodyOf, headOf_len]
theorem crcLay_len (l : List UInt8) : (crcLay l).length = l.length + 4 := by simp [crcLay, crcFour]
theorem blockOf_len (g a : Nat) : (blockOf g a).length = 64 := by simp [blockOf, crcLay_len, bodyOf_len]
/-- A slice over a new block. -/
def Sl (B : Nat) (cs : List Value) (t : TypeId) (v : Value) (W : World) : Prop := ∃ p, v = .slice (some ⟨p, 0, none⟩) cs.length cs.length ∧ B ≤ p ∧ Blk W p cs t
theorem Sl.later {B : Nat} {cs : List Value} {t : TypeId} : ∀ v W W', Sl B cs t v W → Below W.heap.size W W' → Sl B cs t v W' := fun _ _ _ ⟨p, h1, h2, h3⟩ hb => ⟨p, h1, h2, h3.ext hb⟩
theorem Sl.new {B : Nat} {W : World} (cs : List Value) (t : TypeId) (h : B ≤ W.heap.size) : Sl B cs t (.slice (some ⟨W.heap.size, 0, none⟩) cs.length cs.length) (W.alloc (.cells cs.toArray t)) := ⟨_, rfl, h, Blk.new _ _ _⟩
def OwnIs (B : Nat) (e : TypeId) (l : List UInt8) (v : Value) (W : World) : Prop := W.ownsRow B e 1 v l.length (u8s l)
theorem OwnIs.later {B : Nat} {e : TypeId} {l : List UInt8} : ∀ v W W', OwnIs B e l v W → Below W.heap.size W W' → OwnIs B e l v W' := fun _ _ _ h hb => ownsRow_ext h hb
theorem ownsRow_less {W : World} {B B' e n : Nat} {v : Value} {xs : List Value} (h : W.ownsRow B e 1 v n xs) (hb : B' ≤ B) : W.ownsRow B' e 1 v n xs := by
  refine ⟨h.1, ?_⟩
  rcases h.2 with k | ⟨g, cap, cur, k1, k2, k3⟩
  · exact .inl k
  · exact .inr ⟨g, cap, cur, k1, Nat.le_trans hb k2, k3⟩
theorem firm_of_blk {W : World} {e p B : Nat} {l : List UInt8} (h : Blk W p (u8s l) e) : FirmOf e (fun b => b = p) B (.slice (some ⟨p, 0, none⟩) l.length l.length) l W :=
  .inl ⟨_, rfl, ⟨u8s_len l, fun k v hk => ⟨p, 0, rfl, h.lt, rfl, by rw [Nat.zero_add]; exact h.cell k hk⟩⟩, fun e => by cases e⟩
theorem own_bytes {W : World} {B e n : Nat} {v : Value} {l : List UInt8} (h : W.ownsRow B e 1 v n (u8s l)) (hn : n ≤ 140737488355328) : ∃ a c, v = .slice a n c ∧ BytesAt W a n c l := by
  obtain ⟨a, c, h1, h2, h3, h4, h5⟩ := own_cells h
  exact ⟨a, c, h1, (BytesS.of_cells h5 h2 h3 hn h4).at_⟩
/-- A full slice. -/
def Full (B : Nat) (l : List UInt8) (v : Value) (W : World) : Prop := ∃ p, v = .slice (some ⟨p, 0, none⟩) l.length l.length ∧ CellsS W (fun b => B ≤ b) (some ⟨p, 0, none⟩) l.length (u8s l)
theorem Full.later {B : Nat} {l : List UInt8} : ∀ v W W', Full B l v W → Below W.heap.size W W' → Full B l v W' := fun _ _ _ ⟨p, h1, h2⟩ hb => ⟨p, h1, h2.ext hb⟩
def RowOf (B : Nat) (l : List UInt8) (v : Value) (W : World) : Prop := ∃ a c, v = .slice a l.length c ∧ CellsS W (fun _ => True) a l.length (u8s l)
theorem RowOf.later {B : Nat} {l : List UInt8} : ∀ v W W', RowOf B l v W → Below W.heap.size W W' → RowOf B l v W' := fun _ _ _ ⟨a, c, h1, h2⟩ hb => ⟨a, c, h1, h2.ext hb⟩
end Go.Dav
namespace Go.Proofs.Ytmjmjjakhmeogaa
set_option linter.unusedVariables false
set_option linter.unusedSimpArgs false
open Go.RowKit Go.Dav
attribute [local go_sem] Gives ite_val ite_val_true

theorem Try_append165 (B g a p6 p5 : Nat) (W : World) (ty : TypeId) (hc6 : CellsS W (fun b => B ≤ b) (some ⟨p6, 0, none⟩) (crcLay (bodyOf g a)).length (u8s (crcLay (bodyOf g a)))) (hk5 : Blk W p5 [.int .u8 165] 5) :
    ∃ v' w', (Builtin.append_ #[22, 22] ty #[.slice (some ⟨p6, 0, none⟩) (crcLay (bodyOf g a)).length (crcLay (bodyOf g a)).length, .slice (some ⟨p5, 0, none⟩) 1 1]).run Try.prog W = .ok v' w' ∧ Below W.heap.size W w' ∧ RowOf B (blockOf g a) v' w' := by
  have hl : (crcLay (bodyOf g a)).length = 63 := by rw [crcLay_len, bodyOf_len]
  obtain ⟨a', c', w', hr, h2, h3, h4, h5, h6⟩ := run_append_fullS (P := Try.prog) (W := W) Try_elemU8 ty (fun b => B ≤ b) (some ⟨p6, 0, none⟩) (crcLay (bodyOf g a)).length (u8s (crcLay (bodyOf g a))) hc6 (fun b => b = p5) (some ⟨p5, 0, none⟩) 1 1 [.int .u8 165] (cells_one rfl hk5.lt (hk5.cell 0 rfl)) (fun u hu => by simp at hu; subst hu; rfl) (fun h => by cases h) (by rw [hl]; unfold maxLen; omega) (by rw [hl]; omega)
  have e : u8s (blockOf g a) = u8s (crcLay (bodyOf g a)) ++ [.int .u8 165] := by unfold blockOf; rw [u8s_append]; rfl
  have e2 : (blockOf g a).length = (crcLay (bodyOf g a)).length + 1 := by rw [blockOf_len, hl]
  refine ⟨_, w', hr, h6, a', c', by rw [e2], ?_⟩
  rw [e2, e]
  exact h2.mono fun b _ => trivial

set_option maxRecDepth 100000 in
set_option maxHeartbeats 8000000 in
theorem Try_BlockYes (g a : Nat) (w : World) (hg : g < 18446744073709551616) (ha : a < 524288) (hr : (HeadD.mk g (a : Int)).right = true) : Calls Try.prog 41 #[.agg #[.int .u64 (g : Int), .int .i64 (a : Int)]] w fun e w' => e = .returned (.agg (u8s (blockOf g a)).toArray) ∧ Below w.heap.size w w' := by
  have HE := Lib.hid (show (HeadD.mk g (a : Int)).err = 0 by unfold HeadD.err; rw [if_pos hr])
  obtain ⟨W0, hW0⟩ : ∃ W0, (w.alloc (.cells #[.int .u64 (g : Int), .int .i64 (a : Int)] 56)).alloc (.cells #[.int .u8 0, .int .u8 0, .int .u8 0, .int .u8 0, .int .u8 0, .int .u8 0, .int .u8 0, .int .u8 0, .int .u8 0, .int .u8 0, .int .u8 0, .int .u8 0, .int .u8 0, .int .u8 0, .int .u8 0, .int .u8 0, .int .u8 0, .int .u8 0, .int .u8 0, .int .u8 0, .int .u8 0, .int .u8 0, .int .u8 0, .int .u8 0, .int .u8 0, .int .u8 0, .int .u8 0, .int .u8 0, .int .u8 0, .int .u8 0, .int .u8 0, .int .u8 0, .int .u8 0, .int .u8 0, .int .u8 0, .int .u8 0, .int .u8 0, .int .u8 0, .int .u8 0, .int .u8 0, .int .u8 0, .int .u8 0, .int .u8 0, .int .u8 0, .int .u8 0, .int .u8 0, .int .u8 0, .int .u8 0, .int .u8 0, .int .u8 0, .int .u8 0, .int .u8 0, .int .u8 0, .int .u8 0, .int .u8 0, .int .u8 0, .int .u8 0, .int .u8 0, .int .u8 0, .int .u8 0, .int .u8 0, .int .u8 0, .int .u8 0, .int .u8 0] 57) = W0 := ⟨_, rfl⟩
  have hb2 : Blk W0 (w.heap.size + 1) (u8s (List.replicate 64 0)) 57 := by rw [← hW0]; exact Blk.new' _ _ _ (by simp)
  have bel0 : Below w.heap.size w W0 := by rw [← hW0]; exact (by repeat (first | (with_reducible exact Below.refl _ _) | (with_reducible exact Below.refl _ _) | (with_reducible refine Below.setCell ?_ (by first | omega | (simp; done) | (simp; omega)) _) | (with_reducible refine Below.alloc ?_ (by first | omega | (simp; done) | (simp; omega)) _) | (with_reducible refine Below.drew ?_) | (with_reducible refine below_drewN ?_ _)))
  have hb1 : Blk W0 w.heap.size [.int .u64 (g : Int), .int .i64 (a : Int)] 56 := by rw [← hW0]; exact (Blk.new w _ _).alloc _
  have HW0 := Lib.hid hW0
  have HB2 := Lib.hid hb2
  have HB1 := Lib.hid hb1
  have BEL0 := Lib.hid bel0
  have HG := Lib.hid hg
  have HA := Lib.hid ha
  have hac : (a : Int) % 18446744073709551616 = (a : Int) := by omega
  have HWR := Lib.hid (show IntKind.u64.wrap (a : Int) = (a : Int) by rw [IntKind.wrap_u64]; omega)
  clear hr hW0 hb2 bel0 hb1 hg ha
  go_enter Try.func41, Try.ntmps41
  go_wp2_with fail
  rw [HW0.out]
  refine (Try_hCheck ⟨g, a⟩ W0).mono ?_; rintro e w1 ⟨rfl, hb⟩
  rw [HE.out]
  have HB21 := Lib.hid (HB2.out.ext hb)
  have HB11 := Lib.hid (HB1.out.ext hb)
  have BEL1 := Lib.hid (BEL0.out.trans (hb.mono BEL0.out.size))
  have l21 := (HB2.out.ext hb).lt
  have q1 := (HB1.out.ext hb).cells
  have l1 := (HB1.out.ext hb).lt
  clear hb
  go_wp2_with fail
  refine' wp_region_seq [.inr (Sl w1.heap.size [.int .u8 1] 5), .inl _, .inl _, .inr (Sl w1.heap.size [.int .u64 (g : Int)] 54), .inr (OwnIs w1.heap.size 5 ([1] ++ highOf g 8)), .inl _, .inl _, .inl _, .inr (Sl w1.heap.size [.int .u64 (a : Int)] 54)] (by kernel_rfl) (by kernel_rfl) ?main1
  case main1 =>
    refine wpParts_any rfl (Sl.later) (by rfl) (fun W hE hN => ?_) (fun u0 => ?_)
    · go_simp; exact ⟨(Below.refl _ _).alloc (Nat.le_refl _) _, Sl.new _ _ hE.size⟩
    simp only [Act.put, List.setIfInBounds_toArray, List.set_cons_zero, List.set_cons_succ]
    refine wpParts_det (by rfl) (fun W hE hN => ?_) ?_
    · go_simp; refine ⟨Below.refl _ _, ?_⟩; rfl
    simp only [Act.put, List.setIfInBounds_toArray, List.set_cons_zero, List.set_cons_succ]
    refine wpParts_det (by rfl) (fun W hE hN => ?_) ?_
    · have hc := fun b o h => hE.cell (p := ⟨b, o, none⟩) h
      go_simp; refine ⟨Below.refl _ _, ?_⟩; rfl
    simp only [Act.put, List.setIfInBounds_toArray, List.set_cons_zero, List.set_cons_succ]
    refine wpParts_any rfl (Sl.later) (by rfl) (fun W hE hN => ?_) (fun u3 => ?_)
    · go_simp; exact ⟨(Below.refl _ _).alloc (Nat.le_refl _) _, Sl.new _ _ hE.size⟩
    simp only [Act.put, List.setIfInBounds_toArray, List.set_cons_zero, List.set_cons_succ]
    refine wpParts_any rfl (OwnIs.later) (by rfl) (fun W hE hN => ?_) (fun u4 => ?_)
    · simp [near, Oper.looksAt, Op.operands, Call.operands] at hN; obtain ⟨⟨p2, rfl, hp2, hk2⟩, ⟨p1, rfl, hp1, hk1⟩⟩ := hN; go_simp; refine ⟨Below.refl _ _, ?_⟩; refine (Try_lay (fun b => b = p1) W.heap.size p2 g 8 _ [1] W hk2 (firm_of_blk (l := [1]) hk1) (Nat.le_refl _) (by simp) (by omega) HG.out).mono ?_; rintro e w' ⟨v', rfl, _, ho, hgr⟩; exact ⟨_, rfl, hgr.below (Nat.le_refl _), ownsRow_less (ho (by omega)) hE.size⟩
    simp only [Act.put, List.setIfInBounds_toArray, List.set_cons_zero, List.set_cons_succ]
    refine wpParts_det (by rfl) (fun W hE hN => ?_) ?_
    · go_simp; refine ⟨Below.refl _ _, ?_⟩; rfl
    simp only [Act.put, List.setIfInBounds_toArray, List.set_cons_zero, List.set_cons_succ]
    refine wpParts_det (by rfl) (fun W hE hN => ?_) ?_
    · have hc := fun b o h => hE.cell (p := ⟨b, o, none⟩) h
      go_simp; refine ⟨Below.refl _ _, ?_⟩; rfl
    simp only [Act.put, List.setIfInBounds_toArray, List.set_cons_zero, List.set_cons_succ]
    refine wpParts_det (by rfl) (fun W hE hN => ?_) ?_
    · go_simp; refine ⟨Below.refl _ _, ?_⟩; rfl
    simp only [Act.put, List.setIfInBounds_toArray, List.set_cons_zero, List.set_cons_succ]
    refine wpParts_any rfl (Sl.later) (by rfl) (fun W hE hN => ?_) (fun u8 => ?_)
    · go_simp; rw [HWR.out]; exact ⟨(Below.refl _ _).alloc (Nat.le_refl _) _, Sl.new _ _ hE.size⟩
    simp only [Act.put, List.setIfInBounds_toArray, List.set_cons_zero, List.set_cons_succ]
    refine wpParts_end fun W2 hE2 hG2 => ?_
    have hcW2 := fun b o h => hE2.cell (p := ⟨b, o, none⟩) h
    have hfW2 := fun b o h => hE2.frozen (p := ⟨b, o, none⟩) h
    obtain ⟨⟨p4, rfl, hp4, hk4⟩, ho, _⟩ := hG2
    have s2 := hE2.size
    have HK4 := Lib.hid hk4
    have HO := Lib.hid ho
    have HB22 := Lib.hid (HB21.out.ext hE2)
    have BEL2 := Lib.hid (BEL1.out.trans (hE2.mono BEL1.out.size))
    have HE2 := Lib.hid s2
    clear hk4 ho hE2 hcW2 hfW2 q1 l1 l21 HB1 HB11 hac s2
    go_wp2_with fail
    refine (Try_lay (fun _ => False) w1.heap.size p4 a 4 _ ([1] ++ highOf g 8) W2 HK4.out (.inr HO.out) HE2.out (by simp [highOf_len]) (by omega) (by have := HA.out; omega)).mono ?_
    rintro e w3 ⟨v3, rfl, _, ho3, hgr⟩
    have e13 : ([1] ++ highOf g 8).length + 4 = 13 := by simp [highOf_len]
    have hown3 : w3.ownsRow w1.heap.size 5 1 v3 13 (u8s (headOf g a)) := (congrArg (fun m => w3.ownsRow w1.heap.size 5 1 v3 m (u8s (headOf g a))) e13).mp (ho3 (by omega))
    have HO3 := Lib.hid hown3
    have HB23 := Lib.hid (hgr.blk HB22.out (by decide))
    have BEL3 := Lib.hid (BEL2.out.trans ((hgr.below HE2.out).mono (by have := BEL1.out.size; omega)))
    have S3 := Lib.hid (show w1.heap.size ≤ w3.heap.size by have := hgr.size; have := HE2.out; omega)
    clear hown3 ho3 hgr e13 HK4 HO HB22 BEL2
    go_wp2_with fail
    go_loopg [3] 46 (fun m vx wr => ∃ k : Nat, k ≤ 46 ∧ m = 46 - k ∧ wr.ownsRow w1.heap.size 5 1 vx (13 + k) (u8s (headOf g a ++ List.replicate k 0)) ∧ Blk wr (w.heap.size + 1) (u8s (List.replicate 64 0)) 57 ∧ Below w.heap.size w wr ∧ w1.heap.size ≤ wr.heap.size)
    case atStart => exact ⟨0, by omega, rfl, by simpa using HO3.out, HB23.out, BEL3.out, S3.out⟩
    case round =>
      obtain ⟨k, hk, rfl, ho, hb2, hbl, hs⟩ := hrel
      have HOR := Lib.hid ho
      obtain ⟨ra, rc, rfl, hrb⟩ := own_bytes ho (by omega)
      have HRB := Lib.hid hrb.at_
      have HBR := Lib.hid hb2
      have HBL := Lib.hid hbl
      have HS := Lib.hid hs
      clear ho hb2 hbl hs hrb HO3 HB23 BEL3 S3
      by_cases hk4 : k < 46
      · have hk4' : (13 : Int) + (k : Int) < 59 := by omega
        have HOx := Lib.hid (ownsRow_ext HOR.out ((Below.refl _ wr).alloc (Nat.le_refl _) (.cells #[.int .u8 0] 5)))
        have HCx := Lib.hid (cells_one (S := fun b => b = wr.heap.size) (g := wr.heap.size) (v := .int .u8 0) rfl (by simp) (Blk.new wr [.int .u8 0] 5 |>.cell 0 rfl))
        have HSx := Lib.hid (show w1.heap.size ≤ (wr.alloc (.cells #[.int .u8 0] 5)).heap.size by have := HS.out; simp; omega)
        go_wp2_with (at_builtin; refine wpList_append_rowS rfl (.tmp 21) (.tmp 22) 22 rfl Try_elemU8 w1.heap.size _ (13 + k) (u8s (headOf g a ++ List.replicate k 0)) rfl HOx.out (fun b => b = wr.heap.size) (some ⟨wr.heap.size, 0, none⟩) 1 1 [.int .u8 0] rfl HCx.out (fun u hu => by simp at hu; subst hu; rfl) (fun h => by cases h) (by unfold maxLen; omega) (by omega) HSx.out ?_; intro v' w' hown' hgrow)
        go_wp2_with fail
        have e1 : u8s (headOf g a ++ List.replicate (k + 1) 0) = u8s (headOf g a ++ List.replicate k 0) ++ [.int .u8 0] := by rw [List.replicate_succ', ← List.append_assoc, u8s_append]; rfl
        have hgw := Grew.of_own HOx.out hgrow
        go_roundg (46 - (k + 1))
        case measure => omega
        case rel =>
          refine ⟨k + 1, by omega, rfl, by rw [e1]; exact hown', hgw.blk (HBR.out.alloc _) (by decide), ?_, Nat.le_trans HSx.out hgw.size⟩
          exact below_own (HBL.out.alloc HBL.out.size _) (by have := HBL.out.size; simp; omega) HOx.out (by have := BEL1.out.size; omega) hgrow
      · obtain rfl : k = 46 := by omega
        clear hk4
        have lb := HBR.out.lt
        have hbody : headOf g a ++ List.replicate 46 0 = bodyOf g a := rfl
        rw [hbody] at HRB
        go_wp2_with fail
        refine' wp_region_seq [.inl _, .inl _, .inr (Full w1.heap.size (crcLay (bodyOf g a))), .inr (Sl w1.heap.size [.int .u8 165] 5), .inr (RowOf w1.heap.size (blockOf g a))] (by kernel_rfl) (by kernel_rfl) ?main2
        case main2 =>
          refine wpParts_det (by rfl) (fun W hE hN => ?_) ?_
          · go_simp; refine ⟨Below.refl _ _, ?_⟩; rfl
          simp only [Act.put, List.setIfInBounds_toArray, List.set_cons_zero, List.set_cons_succ]
          refine wpParts_det (by rfl) (fun W hE hN => ?_) ?_
          · go_simp; refine ⟨Below.refl _ _, ?_⟩; rfl
          simp only [Act.put, List.setIfInBounds_toArray, List.set_cons_zero, List.set_cons_succ]
          refine wpParts_any rfl (Full.later) (by rfl) (fun W hE hN => ?_) (fun u2 => ?_)
          · go_simp; refine ⟨Below.refl _ _, ?_⟩; refine (Try_crcLay ra 59 rc (bodyOf g a) W (HRB.out.ext hE) (by omega)).mono ?_; rintro e w' ⟨p6, rfl, hc, hb⟩; exact ⟨_, rfl, hb, p6, by rw [crcLay_len, bodyOf_len], by rw [crcLay_len, bodyOf_len]; exact hc.mono fun b h => Nat.le_trans (Nat.le_trans HS.out hE.size) h⟩
          simp only [Act.put, List.setIfInBounds_toArray, List.set_cons_zero, List.set_cons_succ]
          refine wpParts_any rfl (Sl.later) (by rfl) (fun W hE hN => ?_) (fun u3 => ?_)
          · go_simp; exact ⟨(Below.refl _ _).alloc (Nat.le_refl _) _, Sl.new _ _ (Nat.le_trans HS.out hE.size)⟩
          simp only [Act.put, List.setIfInBounds_toArray, List.set_cons_zero, List.set_cons_succ]
          refine wpParts_any rfl (RowOf.later) (by rfl) (fun W hE hN => ?_) (fun u4 => ?_)
          · simp [near, Oper.looksAt, Op.operands, Call.operands] at hN; obtain ⟨⟨p5, rfl, hp5, hk5⟩, ⟨p6, rfl, hc6⟩⟩ := hN; obtain ⟨v', w', hr, h6, h7⟩ := Try_append165 w1.heap.size g a p6 p5 W 22 hc6 hk5; exact gives_append rfl rfl rfl hr h6 h7
          simp only [Act.put, List.setIfInBounds_toArray, List.set_cons_zero, List.set_cons_succ]
          refine wpParts_end fun W4 hE4 hG4 => ?_
          have hcW4 := fun b o h => hE4.cell (p := ⟨b, o, none⟩) h
          have hfW4 := fun b o h => hE4.frozen (p := ⟨b, o, none⟩) h
          obtain ⟨⟨a5, c5, rfl, hc5⟩, _⟩ := hG4
          have HB24 := Lib.hid (HBR.out.ext hE4)
          have BEL4 := Lib.hid (HBL.out.trans (hE4.mono HBL.out.size))
          have HC5 := Lib.hid hc5
          have hlen : (u8s (blockOf g a)).length = Nat.min 64 64 := by rw [u8s_len, blockOf_len]; rfl
          have hpos : 0 < (u8s (blockOf g a)).length → (some (⟨w.heap.size + 1, 0, none⟩ : Addr)) = some ⟨w.heap.size + 1, 0, none⟩ ∧ ∃ ad, a5 = some ad ∧ ∀ j v, (u8s (blockOf g a))[j]? = some v → W4.cell? (ad.add j) = some v := by
            intro h0
            refine ⟨rfl, ?_⟩
            obtain ⟨b, o, rfl, _⟩ := hc5.at_ 0 _ (List.getElem?_eq_getElem h0)
            exact ⟨_, rfl, hc5.from_⟩
          have hspl : splice (u8s (List.replicate 64 0)) 0 (u8s (blockOf g a)) = u8s (blockOf g a) := by
            unfold splice
            rw [List.take_zero, List.nil_append, hlen, List.drop_of_length_le (by rw [u8s_len]; simp), List.append_nil]
          have HPOS := Lib.hid hpos
          have HLEN := Lib.hid hlen
          simp only [blockOf_len]
          clear hE4 hc5 hcW4 hfW4 lb hpos hlen
          refine wpList_copy_splice rfl (.tmp 24) (.tmp 28) 22 22 rfl 5 Try.underlying22 (by kernel_rfl) (some ⟨w.heap.size + 1, 0, none⟩) a5 64 64 64 c5 rfl rfl (w.heap.size + 1) 0 (u8s (List.replicate 64 0)) 57 HB24.out (u8s (blockOf g a)) HLEN.out HPOS.out (by rw [u8s_len, u8s_len, blockOf_len]; simp) (u8s_one _) w.heap.size w BEL4.out (by omega) ?_
          intro w5 hcell hb5
          rw [hspl] at hcell
          have HBX : Hid (Blk w5 (w.heap.size + 1) (u8s (blockOf g a)) 57) := hcell
          have HB5 := Lib.hid hb5
          clear hb5 hcell hspl
          go_wp2_with (first | (refine wpList_load_row rfl 57 (.tmp 2) rfl (w.heap.size + 1) rfl 57 (u8s (blockOf g a)).toArray (0, 0) _ HBX.out Try.underlying57 rfl (Try_size64_of (blockOf_len g a)) ?_) | (refine wpList_store_row rfl 57 (.tmp 2) (.tmp 30) rfl (w.heap.size + 1) (u8s (blockOf g a)).toArray rfl rfl 57 (u8s (blockOf g a)).toArray HBX.out (Try_size64_of (blockOf_len g a)) rfl (u8s_all _) ?_))
          refine bodyPost_ret (results_cell_row rfl _ _ (w.heap.size + 1) 57 (u8s (blockOf g a)).toArray (0, 0) _ rfl (blk_row HBX.out) Try.underlying57 rfl (Try_size64_of (blockOf_len g a))) rfl ⟨rfl, ?_⟩
          exact below_only HB5.out (only_row _ _ _) HB5.out.size (by omega)
end Go.Proofs.Ytmjmjjakhmeogaa
