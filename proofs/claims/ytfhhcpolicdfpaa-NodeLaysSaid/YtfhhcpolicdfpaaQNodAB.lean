/-
  Layer 14: own, walked.
-/
import Derived.Test.YtfhhcpolicdfpaaQNodAA
import Derived.Laws.OwnMore
namespace Go.Dav
set_option linter.unusedVariables false
set_option linter.unusedSimpArgs false
open Go Go.RowKit
theorem ownsRow_ptr {w : World} {base e size n c : Nat} {p : Addr} {xs : List Value} (h : w.ownsRow base e size (.slice (some p) n c) n xs) : ∃ g, p = ⟨g, 0, none⟩ := by
  rcases h.2 with ⟨a, _⟩ | ⟨g, cap, cur, a, _⟩
  · cases a
  · cases a; exact ⟨g, rfl⟩
theorem OnlyS.mono {p q : Nat → Prop} {w w' : World} (h : OnlyS p w w') (hpq : ∀ b, p b → q b) : OnlyS q w w' := ⟨h.os, h.tape, h.output, h.size, fun k hk hn => h.block k hk fun hp => hn (hpq k hp)⟩
theorem ItemsS.takeC {W : World} {S : Nat → Prop} {a : Option Addr} {n c k : Nat} {l : List ItemD} (h : ItemsS W S a n c l) (hk : k ≤ n) : ItemsS W S a k c (l.take k) := by
  have h1 := h.hcap
  refine ⟨by rw [List.length_take, h.hlen]; omega, by omega, h.hmax, by have := h.hfew; omega, fun j x hx => ?_, h.hnil⟩
  rw [List.getElem?_take] at hx
  split at hx
  · exact h.hat j x hx
  · cases hx
theorem KidsS.takeC {W : World} {S : Nat → Prop} {a : Option Addr} {n c k : Nat} {l : List KidD} (h : KidsS W S a n c l) (hk : k ≤ n) : KidsS W S a k c (l.take k) := by
  have h1 := h.hcap
  refine ⟨by rw [List.length_take, h.hlen]; omega, by omega, h.hmax, by have := h.hfew; omega, fun j x hx => ?_, h.hnil⟩
  rw [List.getElem?_take] at hx
  split at hx
  · exact h.hat j x hx
  · cases hx
end Go.Dav
namespace Go.Proofs.Ytfhhcpolicdfpaa
set_option linter.unusedVariables false
set_option linter.unusedSimpArgs false
open Go.RowKit Go.Dav
attribute [local go_sem] Gives GivesK ite_val ite_val_true

def TryOwnK (w w2 w3 : World) (S : Nat → Prop) (sa : Option Addr) (mk sc : Nat) (M : List KidD) (ix : Value) (wr : World) : Prop :=
  ∃ (k : Nat) (ds : List Value), k ≤ mk ∧ ix = .int .i64 k ∧ wr.ownsRow (w.heap.size + 2) 58 8 (.slice sa mk sc) mk ds ∧ MixK wr S (fun b => w2.heap.size ≤ b) ds (turnK M k) k ∧ OnlyS (fun b => sa = some ⟨b, 0, none⟩) w3 wr
def TryOwnI (w w2 : World) (S : Nat → Prop) (ra : Option Addr) (mi rc : Nat) (L : List ItemD) (ix : Value) (wr : World) : Prop :=
  ∃ (k : Nat) (cs : List Value), k ≤ mi ∧ ix = .int .i64 k ∧ wr.ownsRow (w.heap.size + 2) 56 4 (.slice ra mi rc) mi cs ∧ MixI wr S (fun b => w2.heap.size ≤ b) cs (turnI L k) k ∧ OnlyS (fun b => ra = some ⟨b, 0, none⟩) w2 wr
set_option maxRecDepth 8000 in
set_option maxHeartbeats 8000000 in
theorem Try_own (N : NodeD) (ia ka : Option Addr) (il ic kl kc : Nat) (S : Nat → Prop) (w : World) (hN : NodeS w S ia il ic ka kl kc N) (hS : ∀ b, S b → b < w.heap.size) :
    Calls Try.prog 16 #[.agg #[.bool N.leaf, .slice ia il ic, .slice ka kl kc]] w fun e w' => ∃ ja jl jc la ll lc, e = .returned (.agg #[.bool N.leaf, .slice ja jl jc, .slice la ll lc]) ∧ NodeS w' (fun b => w.heap.size ≤ b) ja jl jc la ll lc (ownN N) ∧ Below w.heap.size w w' := by
  obtain ⟨f, hf⟩ : ∃ f, N.leaf = f := ⟨_, rfl⟩
  rw [hf]
  obtain ⟨w0, hw0⟩ : ∃ w0, (w.alloc (.cells #[.bool f, .slice ia il ic, .slice ka kl kc] 28)).alloc (.cells #[.bool false, .slice none 0 0, .slice none 0 0] 28) = w0 := ⟨_, rfl⟩
  have hb0 : Below w.heap.size w w0 := by rw [← hw0]; exact (by repeat (first | (with_reducible exact Below.refl _ _) | (with_reducible exact Below.refl _ _) | (with_reducible refine Below.setCell ?_ (by first | omega | (simp; done) | (simp; omega)) _) | (with_reducible refine Below.alloc ?_ (by first | omega | (simp; done) | (simp; omega)) _) | (with_reducible refine Below.drew ?_) | (with_reducible refine below_drewN ?_ _)))
  have Q0 : Blk w0 w.heap.size [.bool f, .slice ia il ic, .slice ka kl kc] 28 := by rw [← hw0]; exact (Blk.new w _ _).alloc _
  have R0 : Blk w0 (w.heap.size + 1) [.bool false, .slice none 0 0, .slice none 0 0] 28 := by rw [← hw0]; exact Blk.new' _ [_, _, _] _ (by simp)
  have hsz : w0.heap.size = w.heap.size + 2 := by rw [← hw0]; simp
  have hI := hN.items.hcap
  have hK := hN.kids.hcap
  have hlI := hN.items.hlen
  have hlK := hN.kids.hlen
  have c0 := Q0.cells
  have m0 := Q0.marks
  have l0 := Q0.lt
  have c1 := R0.cells
  have m1 := R0.marks
  have l1 := R0.lt
  have HN := Lib.hid (hN.ext hb0)
  have HB0 := Lib.hid hb0
  have HQ0 := Lib.hid Q0
  have HR0 := Lib.hid R0
  have HSZ := Lib.hid hsz
  have HF := Lib.hid hf
  have HS := Lib.hid hS
  clear hN hb0 Q0 R0 hsz hf hS
  obtain ⟨mi, hmi⟩ : ∃ m, m = min il 7 := ⟨_, rfl⟩
  obtain ⟨mk, hmk⟩ : ∃ m, m = min kl 7 := ⟨_, rfl⟩
  have HMI := Lib.hid (show (if 7 < (il : Int) then 7 else (il : Int)) = ((mi : Nat) : Int) by split <;> omega)
  have HMK := Lib.hid (show (if 7 < (kl : Int) then 7 else (kl : Int)) = ((mk : Nat) : Int) by split <;> omega)
  have hi1 : ¬ ((mi : Nat) : Int) < 0 := by omega
  have hi2 : ((mi : Nat) : Int) ≤ (ic : Int) := by omega
  have hk1 : ¬ ((mk : Nat) : Int) < 0 := by omega
  have hk2 : ((mk : Nat) : Int) ≤ (kc : Int) := by omega
  have HMI2 := Lib.hid (show mi ≤ il ∧ mi ≤ 7 ∧ mi = (N.items.take 7).length by rw [List.length_take]; omega)
  have HMK2 := Lib.hid (show mk ≤ kl ∧ mk ≤ 7 ∧ mk = (N.kids.take 7).length by rw [List.length_take]; omega)
  have HTI := Lib.hid (show N.items.take mi = N.items.take 7 by apply List.take_eq_take_iff.2; omega)
  have HTK := Lib.hid (show N.kids.take mk = N.kids.take 7 by apply List.take_eq_take_iff.2; omega)
  have HLI := Lib.hid hlI
  have HLK := Lib.hid hlK
  clear hmi hmk hI hK hlI hlK
  go_enter Try.func16, Try.ntmps16
  go_wp2_with fail
  refine' wp_region_seq [.inl _, .inl _, .inl _, .inl _, .inl _, .inl _, .inl _, .inr (ItemRow 56 (w.heap.size + 2) S (N.items.take 7)), .inl _, .inl _, .inl _, .inl _, .inl _, .inl _, .inl _, .inr (KidRow 58 (w.heap.size + 2) S (N.kids.take 7)), .inl _] (by kernel_rfl) (by kernel_rfl) ?main1
  case main1 =>
    refine wpParts_det (by rfl) (fun W hE hN => ?_) ?_
    · go_simp; refine ⟨Below.refl _ _, ?_⟩; rfl
    simp only [Act.put, List.setIfInBounds_toArray, List.set_cons_zero, List.set_cons_succ]
    refine wpParts_det (by rfl) (fun W hE hN => ?_) ?_
    · have hc := fun b o h => hE.cell (p := ⟨b, o, none⟩) h
      go_simp; refine ⟨Below.refl _ _, ?_⟩; rfl
    simp only [Act.put, List.setIfInBounds_toArray, List.set_cons_zero, List.set_cons_succ]
    refine wpParts_det (by rfl) (fun W hE hN => ?_) ?_
    · go_simp; refine ⟨Below.refl _ _, ?_⟩; rfl
    simp only [Act.put, List.setIfInBounds_toArray, List.set_cons_zero, List.set_cons_succ]
    refine wpParts_det (by rfl) (fun W hE hN => ?_) ?_
    · have hc := fun b o h => hE.cell (p := ⟨b, o, none⟩) h
      go_simp; refine ⟨Below.refl _ _, ?_⟩; rfl
    simp only [Act.put, List.setIfInBounds_toArray, List.set_cons_zero, List.set_cons_succ]
    refine wpParts_det (by rfl) (fun W hE hN => ?_) ?_
    · go_simp; refine ⟨Below.refl _ _, ?_⟩; rfl
    simp only [Act.put, List.setIfInBounds_toArray, List.set_cons_zero, List.set_cons_succ]
    refine wpParts_det (by rfl) (fun W hE hN => ?_) ?_
    · go_simp; refine ⟨Below.refl _ _, ?_⟩; rw [HMI.out]
    simp only [Act.put, List.setIfInBounds_toArray, List.set_cons_zero, List.set_cons_succ]
    refine wpParts_det (by rfl) (fun W hE hN => ?_) ?_
    · go_simp; refine ⟨Below.refl _ _, ?_⟩; rfl
    simp only [Act.put, List.setIfInBounds_toArray, List.set_cons_zero, List.set_cons_succ]
    refine wpParts_any rfl (ItemRow.later) (by rfl) (fun W hE hN => ?_) (fun u7 => ?_)
    · go_simp; refine ⟨Below.refl _ _, ?_⟩; refine (Try_cloneItems S ia mi ic _ W ((HN.out.ext hE).items.takeC HMI2.out.1) (by have := HMI2.out.2.1; omega)).mono ?_; rintro e w' ⟨v, cs, rfl, h1, h2, h3⟩; rw [HTI.out] at h1 h2; exact ⟨v, rfl, h3, cs, h1.mono (by have := hE.size; have := HSZ.out; omega), h2⟩
    simp only [Act.put, List.setIfInBounds_toArray, List.set_cons_zero, List.set_cons_succ]
    refine wpParts_det (by rfl) (fun W hE hN => ?_) ?_
    · go_simp; refine ⟨Below.refl _ _, ?_⟩; rfl
    simp only [Act.put, List.setIfInBounds_toArray, List.set_cons_zero, List.set_cons_succ]
    refine wpParts_det (by rfl) (fun W hE hN => ?_) ?_
    · have hc := fun b o h => hE.cell (p := ⟨b, o, none⟩) h
      go_simp; refine ⟨Below.refl _ _, ?_⟩; rfl
    simp only [Act.put, List.setIfInBounds_toArray, List.set_cons_zero, List.set_cons_succ]
    refine wpParts_det (by rfl) (fun W hE hN => ?_) ?_
    · go_simp; refine ⟨Below.refl _ _, ?_⟩; rfl
    simp only [Act.put, List.setIfInBounds_toArray, List.set_cons_zero, List.set_cons_succ]
    refine wpParts_det (by rfl) (fun W hE hN => ?_) ?_
    · have hc := fun b o h => hE.cell (p := ⟨b, o, none⟩) h
      go_simp; refine ⟨Below.refl _ _, ?_⟩; rfl
    simp only [Act.put, List.setIfInBounds_toArray, List.set_cons_zero, List.set_cons_succ]
    refine wpParts_det (by rfl) (fun W hE hN => ?_) ?_
    · go_simp; refine ⟨Below.refl _ _, ?_⟩; rfl
    simp only [Act.put, List.setIfInBounds_toArray, List.set_cons_zero, List.set_cons_succ]
    refine wpParts_det (by rfl) (fun W hE hN => ?_) ?_
    · go_simp; refine ⟨Below.refl _ _, ?_⟩; rw [HMK.out]
    simp only [Act.put, List.setIfInBounds_toArray, List.set_cons_zero, List.set_cons_succ]
    refine wpParts_det (by rfl) (fun W hE hN => ?_) ?_
    · go_simp; refine ⟨Below.refl _ _, ?_⟩; rfl
    simp only [Act.put, List.setIfInBounds_toArray, List.set_cons_zero, List.set_cons_succ]
    refine wpParts_any rfl (KidRow.later) (by rfl) (fun W hE hN => ?_) (fun u15 => ?_)
    · go_simp; refine ⟨Below.refl _ _, ?_⟩; refine (Try_cloneKids S ka mk kc _ W ((HN.out.ext hE).kids.takeC HMK2.out.1) (by have := HMK2.out.2.1; omega)).mono ?_; rintro e w' ⟨v, cs, rfl, h1, h2, h3⟩; rw [HTK.out] at h1 h2; exact ⟨v, rfl, h3, cs, h1.mono (by have := hE.size; have := HSZ.out; omega), h2⟩
    simp only [Act.put, List.setIfInBounds_toArray, List.set_cons_zero, List.set_cons_succ]
    refine wpParts_det (by rfl) (fun W hE hN => ?_) ?_
    · go_simp; refine ⟨Below.refl _ _, ?_⟩; rfl
    simp only [Act.put, List.setIfInBounds_toArray, List.set_cons_zero, List.set_cons_succ]
    refine wpParts_end fun W1 hE1 hG1 => ?_
    have hcW1 := fun b o h => hE1.cell (p := ⟨b, o, none⟩) h
    have hfW1 := fun b o h => hE1.frozen (p := ⟨b, o, none⟩) h
    obtain ⟨⟨ds, hd1, hd2⟩, ⟨cs, hs1, hs2⟩, _⟩ := (show KidRow 58 (w.heap.size + 2) S (N.kids.take 7) u15 W1 ∧ ItemRow 56 (w.heap.size + 2) S (N.items.take 7) u7 W1 ∧ True from hG1)
    rw [← HMK2.out.2.2] at hd1
    rw [← HMI2.out.2.2] at hs1
    obtain ⟨ra, rc, rfl, hra⟩ := ownsRow_shape hs1
    obtain ⟨sa, sc, rfl, hsa⟩ := ownsRow_shape hd1
    obtain ⟨w2, hw2⟩ : ∃ w2, (W1.setCell ⟨w.heap.size, 1, none⟩ (.slice ra mi rc)).setCell ⟨w.heap.size, 2, none⟩ (.slice sa mk sc) = w2 := ⟨_, rfl⟩
    have hb2 : Below w.heap.size w w2 := by rw [← hw2]; have h := HB0.out.trans (hE1.mono (by have := HSZ.out; omega)); exact (by repeat (first | (with_reducible exact Below.refl _ _) | (with_reducible exact Below.refl _ _) | (with_reducible refine Below.setCell ?_ (by first | omega | (simp; done) | (simp; omega)) _) | (with_reducible refine Below.alloc ?_ (by first | omega | (simp; done) | (simp; omega)) _) | (with_reducible refine Below.drew ?_) | (with_reducible refine below_drewN ?_ _) | (with_reducible refine Below.trans ?_ (h.mono (by first | omega | (simp; done) | (simp; omega))))))
    have Q2 : Blk w2 w.heap.size [.bool f, .slice ra mi rc, .slice sa mk sc] 28 := by rw [← hw2]; exact ((HQ0.out.ext hE1).set 1 _).set 2 _
    have R2 : Blk w2 (w.heap.size + 1) [.bool false, .slice none 0 0, .slice none 0 0] 28 := by rw [← hw2]; have h := HR0.out.ext hE1; exact (by repeat (first | (with_reducible exact h) | (with_reducible refine Blk.alloc ?_ _) | (with_reducible refine Blk.drew ?_) | (with_reducible refine Blk.other ?_ (by omega) _ _)))
    have hs3 : w2.ownsRow (w.heap.size + 2) 56 4 (.slice ra mi rc) mi cs := by rw [← hw2]; exact ownsRow_setCell_below (ownsRow_setCell_below hs1 (by simp) _) (by simp) _
    have hd3 : w2.ownsRow (w.heap.size + 2) 58 8 (.slice sa mk sc) mk ds := by rw [← hw2]; exact ownsRow_setCell_below (ownsRow_setCell_below hd1 (by simp) _) (by simp) _
    have ho2 : OnlyS (fun b => b = w.heap.size) W1 w2 := by rw [← hw2]; exact ((OnlyS.refl (fun b => b = w.heap.size) W1).set _ _ _ rfl).set _ _ _ rfl
    have hs4 : ItemCells w2 S cs (N.items.take 7) := hs2.same ho2.size fun b h1 h2 => ho2.block b h2 (by have := HS.out b h1; omega)
    have hd4 : KidCells w2 S ds (N.kids.take 7) := hd2.same ho2.size fun b h1 h2 => ho2.block b h2 (by have := HS.out b h1; omega)
    have HB2 := Lib.hid hb2
    have HQ2 := Lib.hid Q2
    have HR2 := Lib.hid R2
    have HS3 := Lib.hid hs3
    have HD3 := Lib.hid hd3
    have HS4 := Lib.hid hs4
    have HD4 := Lib.hid hd4
    have hra' : (0 < mi → ∃ g, ra = some ⟨g, 0, none⟩) ∧ ∀ g, ra = some ⟨g, 0, none⟩ → w.heap.size + 2 ≤ g ∧ g < w2.heap.size := ⟨hra.1, fun g h => by have := hra.2 g h; have := ho2.size; omega⟩
    have hsa' : (0 < mk → ∃ g, sa = some ⟨g, 0, none⟩) ∧ ∀ g, sa = some ⟨g, 0, none⟩ → w.heap.size + 2 ≤ g ∧ g < w2.heap.size := ⟨hsa.1, fun g h => by have := hsa.2 g h; have := ho2.size; omega⟩
    have HRA := Lib.hid hra'
    have HSA := Lib.hid hsa'
    have q1 := (HQ0.out.ext hE1).cells
    have n1 := (HQ0.out.ext hE1).marks
    have k1 := (HQ0.out.ext hE1).lt
    have c2 := HQ2.out.cells
    have m2 := HQ2.out.marks
    have l2 := HQ2.out.lt
    clear hs1 hd1 hs2 hd2 hs3 hd3 hs4 hd4 ho2 hra hsa hra' hsa' hb2 hE1 hG1 hcW1 hfW1 c0 m0 l0 c1 m1 l1 hi1 hi2 hk1 hk2
    go_wp2_with fail
    clear hw2 q1 n1 k1
    go_loopw [29] (fun ix wr => TryOwnI w w2 S ra mi rc (N.items.take 7) ix wr) (fun ix _ => mi - (intOf ix).toNat)
    case atStart => exact ⟨0, cs, Nat.zero_le _, rfl, HS3.out, MixI.start HS4.out, OnlyS.refl _ _⟩
    clear c2 m2 l2
    case round =>
      obtain ⟨k, cs, hk, rfl, hown, hmix, hon⟩ := hrel
      have B1 := HQ2.out.onlyS hon (fun e => by have := HRA.out.2 _ e; omega)
      have c3 := B1.cells
      have m3 := B1.marks
      have l3 := B1.lt
      have HB1 := Lib.hid B1
      have HOWN := Lib.hid hown
      have HMIX := Lib.hid hmix
      have HON := Lib.hid hon
      clear hown hmix hon B1
      by_cases hlt : k < mi
      · obtain ⟨g, rfl⟩ := HRA.out.1 (by omega)
        have hg := HRA.out.2 g rfl
        obtain ⟨x, hx⟩ : ∃ x, (N.items.take 7)[k]? = some x := ⟨_, List.getElem?_eq_getElem (by have := HMI2.out.2.2; omega)⟩
        obtain ⟨xa, xl, xc, va, vl, vc, e0, e1, e2, e3, h4, h5, h6⟩ := HMIX.out.2 k x (turnI_get hx)
        have hcl : ∀ j, j < 4 → wr.cell? ⟨g, k * 4 + j, none⟩ = cs[k * 4 + j]? := fun j hj => HOWN.out.cellAt _ (by omega)
        have d0 := (hcl 0 (by omega)).trans e0
        have d1 := (hcl 1 (by omega)).trans e1
        have d2 := (hcl 2 (by omega)).trans e2
        have d3 := (hcl 3 (by omega)).trans e3
        rw [Nat.add_zero] at d0
        have hlt' : (k : Int) < (mi : Int) := by omega
        have hk0 : ¬ (k : Int) < 0 := by omega
        have H4 := Lib.hid (show BytesS wr S xa xl xc x.key by simpa using h4)
        have H5 := Lib.hid (show BytesS wr S va vl vc x.value by simpa using h5)
        have HX := Lib.hid hx
        have HLT := Lib.hid hlt
        have HG := Lib.hid hg
        have HE0 := Lib.hid e0
        have HE1 := Lib.hid e1
        have HL4 := Lib.hid (show k * 4 < mi * 4 ∧ k * 4 + 1 < mi * 4 by omega)
        clear h4 h5 hx hcl e0 e1 e2 e3 hlt hk hg h6
        go_wp2_with fail
        obtain ⟨wx, hwx⟩ : ∃ wx, wr.alloc (.cells #[.slice xa xl xc, .slice va vl vc, .bool x.int, .int .i64 x.n] 56) = wx := ⟨_, rfl⟩
        rw [hwx]
        have hbx : Below wr.heap.size wr wx := by rw [← hwx]; exact (Below.refl _ _).alloc (Nat.le_refl _) _
        have HBX := Lib.hid hbx
        have HX5 := Lib.hid (show Blk wx wr.heap.size [.slice xa xl xc, .slice va vl vc, .bool x.int, .int .i64 x.n] 56 by rw [← hwx]; exact Blk.new wr _ _)
        have HX1 := Lib.hid (HB1.out.ext hbx)
        have H4x := Lib.hid (H4.out.ext hbx)
        have H5x := Lib.hid (H5.out.ext hbx)
        have HOX := Lib.hid (ownsRow_ext HOWN.out hbx)
        have HSX := Lib.hid (show wr.heap.size ≤ wx.heap.size ∧ w2.heap.size ≤ wr.heap.size from ⟨hbx.size, HON.out.size⟩)
        have HSS := Lib.hid (show ∀ b, S b → b < w.heap.size from HS.out)
        have hgn : ¬ w.heap.size = g := by have := HG.out.1; omega
        have hgx : ¬ wr.heap.size = g := by have := HG.out.2; have := HSX.out.2; omega
        clear hwx hbx c3 m3 l3 d0 d1 d2 d3
        refine' wp_region_seqL (OnlyS (fun b => b = g)) (goes_only _) 16 (fun W => ∃ a n c, BytesS W (fun b => w2.heap.size ≤ b) a n c (x.key.take 121) ∧ W.ownsRow (w.heap.size + 2) 56 4 (.slice (some ⟨g, 0, none⟩) mi rc) mi (cs.set (k * 4) (.slice a n c))) [.inl _, .inl _, .inl _, .inl _, .inl _, .inl _, .inl _, .inl _, .inl _, .inr (NewBytes w2.heap.size (x.key.take 121)), .inl _, .inl _, .inl _, .inr (NewBytes w2.heap.size (x.value.take 121)), .inl _, .inl _, .inr (fun _ W => ∃ a n c, BytesS W (fun b => w2.heap.size ≤ b) a n c (x.key.take 121) ∧ W.ownsRow (w.heap.size + 2) 56 4 (.slice (some ⟨g, 0, none⟩) mi rc) mi (cs.set (k * 4) (.slice a n c)))] (by kernel_rfl) (by kernel_rfl) ⟨_, rfl, fun _ _ h => h⟩ ?main2
        case main2 =>
          refine wpPartsL_det (by decide) (by rfl) (fun W hE hN => ?_) ?_
          · go_simp; refine ⟨Below.refl _ _, ?_⟩; rfl
          simp only [Act.put, List.setIfInBounds_toArray, List.set_cons_zero, List.set_cons_succ]
          refine wpPartsL_det (by decide) (by rfl) (fun W hE hN => ?_) ?_
          · have q1 := (HX1.out.onlyS hE hgn).cells; have q5 := (HX5.out.onlyS hE hgx).cells; go_simp; refine ⟨Below.refl _ _, ?_⟩; rfl
          simp only [Act.put, List.setIfInBounds_toArray, List.set_cons_zero, List.set_cons_succ]
          refine wpPartsL_det (by decide) (by rfl) (fun W hE hN => ?_) ?_
          · go_simp; refine ⟨Below.refl _ _, ?_⟩; rfl
          simp only [Act.put, List.setIfInBounds_toArray, List.set_cons_zero, List.set_cons_succ]
          refine wpPartsL_det (by decide) (by rfl) (fun W hE hN => ?_) ?_
          · go_simp; refine ⟨Below.refl _ _, ?_⟩; rfl
          simp only [Act.put, List.setIfInBounds_toArray, List.set_cons_zero, List.set_cons_succ]
          refine wpPartsL_det (by decide) (by rfl) (fun W hE hN => ?_) ?_
          · have q1 := (HX1.out.onlyS hE hgn).cells; have q5 := (HX5.out.onlyS hE hgx).cells; go_simp; refine ⟨Below.refl _ _, ?_⟩; rfl
          simp only [Act.put, List.setIfInBounds_toArray, List.set_cons_zero, List.set_cons_succ]
          refine wpPartsL_det (by decide) (by rfl) (fun W hE hN => ?_) ?_
          · go_simp; refine ⟨Below.refl _ _, ?_⟩; rfl
          simp only [Act.put, List.setIfInBounds_toArray, List.set_cons_zero, List.set_cons_succ]
          refine wpPartsL_det (by decide) (by rfl) (fun W hE hN => ?_) ?_
          · go_simp; refine ⟨Below.refl _ _, ?_⟩; rfl
          simp only [Act.put, List.setIfInBounds_toArray, List.set_cons_zero, List.set_cons_succ]
          refine wpPartsL_det (by decide) (by rfl) (fun W hE hN => ?_) ?_
          · go_simp; refine ⟨Below.refl _ _, ?_⟩; rfl
          simp only [Act.put, List.setIfInBounds_toArray, List.set_cons_zero, List.set_cons_succ]
          refine wpPartsL_det (by decide) (by rfl) (fun W hE hN => ?_) ?_
          · have q1 := (HX1.out.onlyS hE hgn).cells; have q5 := (HX5.out.onlyS hE hgx).cells; go_simp; refine ⟨Below.refl _ _, ?_⟩; rfl
          simp only [Act.put, List.setIfInBounds_toArray, List.set_cons_zero, List.set_cons_succ]
          refine wpPartsL_any (by decide) rfl (NewBytes.later) (NewBytes.onlyS HG.out.2) (by rfl) (fun W hE hN => ?_) (fun u9 => ?_)
          · go_simp; refine ⟨Below.refl _ _, ?_⟩; refine (Try_few14 xa xl xc x.key W (H4x.out.onlyS hE (fun b h e => by have := HSS.out b h; have := HG.out.1; omega)).at_).mono ?_; rintro e w' ⟨a, n, c, rfl, hB, hb⟩; exact ⟨_, rfl, hb, a, n, c, rfl, hB.mono (fun b h => by have := hE.size; have := HSX.out; omega)⟩
          simp only [Act.put, List.setIfInBounds_toArray, List.set_cons_zero, List.set_cons_succ]
          refine wpPartsL_det (by decide) (by rfl) (fun W hE hN => ?_) ?_
          · go_simp; refine ⟨Below.refl _ _, ?_⟩; rfl
          simp only [Act.put, List.setIfInBounds_toArray, List.set_cons_zero, List.set_cons_succ]
          refine wpPartsL_det (by decide) (by rfl) (fun W hE hN => ?_) ?_
          · go_simp; refine ⟨Below.refl _ _, ?_⟩; rfl
          simp only [Act.put, List.setIfInBounds_toArray, List.set_cons_zero, List.set_cons_succ]
          refine wpPartsL_det (by decide) (by rfl) (fun W hE hN => ?_) ?_
          · have q1 := (HX1.out.onlyS hE hgn).cells; have q5 := (HX5.out.onlyS hE hgx).cells; go_simp; refine ⟨Below.refl _ _, ?_⟩; rfl
          simp only [Act.put, List.setIfInBounds_toArray, List.set_cons_zero, List.set_cons_succ]
          refine wpPartsL_any (by decide) rfl (NewBytes.later) (NewBytes.onlyS HG.out.2) (by rfl) (fun W hE hN => ?_) (fun u13 => ?_)
          · go_simp; refine ⟨Below.refl _ _, ?_⟩; refine (Try_few14 va vl vc x.value W (H5x.out.onlyS hE (fun b h e => by have := HSS.out b h; have := HG.out.1; omega)).at_).mono ?_; rintro e w' ⟨a, n, c, rfl, hB, hb⟩; exact ⟨_, rfl, hb, a, n, c, rfl, hB.mono (fun b h => by have := hE.size; have := HSX.out; omega)⟩
          simp only [Act.put, List.setIfInBounds_toArray, List.set_cons_zero, List.set_cons_succ]
          refine wpPartsL_det (by decide) (by rfl) (fun W hE hN => ?_) ?_
          · go_simp; refine ⟨Below.refl _ _, ?_⟩; rfl
          simp only [Act.put, List.setIfInBounds_toArray, List.set_cons_zero, List.set_cons_succ]
          refine wpPartsL_det (by decide) (by rfl) (fun W hE hN => ?_) ?_
          · go_simp; refine ⟨Below.refl _ _, ?_⟩; rfl
          simp only [Act.put, List.setIfInBounds_toArray, List.set_cons_zero, List.set_cons_succ]
          refine wpPartsL_writes (by decide) rfl (fun _ W W' ⟨a, n, c, h1, h2⟩ hb => ⟨a, n, c, h1.ext hb, ownsRow_ext h2 hb⟩) (by rfl) (fun W hE hN => ?_) (fun u16 => ?_)
          · obtain ⟨⟨a, n, c, rfl, hB⟩, _⟩ := (show NewBytes w2.heap.size (x.key.take 121) u9 W ∧ True from hN); have hrow := ownsRow_ext HOX.out hE; have hfz := hrow.frozenAt (k * 4); have hcl := (hrow.cellAt (k * 4) HL4.out.1).trans HE0.out; go_simp; exact ⟨(OnlyS.refl (fun b => b = g) W).set g _ _ rfl, a, n, c, hB.onlyS ((OnlyS.refl (fun b => b = g) W).set g _ _ rfl) (fun b h e => by have := HG.out.2; omega), (hrow.stored _ _).1⟩
          simp only [Act.put, List.setIfInBounds_toArray, List.set_cons_zero, List.set_cons_succ]
          refine wpPartsL_end fun W1 hE1 hG1 hX1 => ?_
          obtain ⟨⟨va', vl', vc', rfl, hV⟩, _⟩ := (show NewBytes w2.heap.size (x.value.take 121) u13 W1 ∧ NewBytes w2.heap.size (x.key.take 121) u9 W1 ∧ True from hG1)
          obtain ⟨a, n, c, hB, hrow⟩ := hX1
          have hfz := hrow.frozenAt (k * 4 + 1)
          have hcl := (hrow.cellAt (k * 4 + 1) HL4.out.2).trans (show (cs.set (k * 4) (.slice a n c))[k * 4 + 1]? = some (.slice va vl vc) by rw [List.getElem?_set_ne (by omega)]; exact HE1.out)
          have HV := Lib.hid hV
          have HB := Lib.hid hB
          have HR := Lib.hid hrow
          have HON1 := Lib.hid ((OnlyS.of_below HBX.out).trans hE1)
          clear hV hB hrow hE1 hG1
          have hk7 : (k : Int) < 7 := by have := HLT.out; have := HMI2.out.2.1; omega
          go_wp2_with fail
          go_roundw
          case rel =>
            have hw6 : OnlyS (fun b => b = g) W1 (W1.setCell ⟨g, k * 4 + 1, none⟩ (.slice va' vl' vc')) := (OnlyS.refl _ _).set _ _ _ rfl
            have hT : ∀ b, w2.heap.size ≤ b → ¬ b = g := fun b h e => by have := HG.out.2; omega
            have hall := HON1.out.trans hw6
            exact ⟨k + 1, _, HLT.out, by go_num, (HR.out.stored _ _).1, (HMIX.out.onlyS hall (fun b h e => by have := HSS.out b h; have := HG.out.1; omega) hT).step HX.out (HB.out.onlyS hw6 hT) (HV.out.onlyS hw6 hT), HON.out.trans (hall.mono fun b h => by rw [h])⟩
          case measure => simp [intOf]; have := HLT.out; omega
      · obtain rfl : k = mi := by omega
        have hlt' : ¬ (k : Int) < (k : Int) := by omega
        have hcI := HMIX.out
        rw [HMI2.out.2.2] at hcI
        have hcI := hcI.done
        have HCI := Lib.hid hcI
        have hdk : wr.ownsRow (w.heap.size + 2) 58 8 (.slice sa mk sc) mk ds := ownsRow_keep HD3.out (fun b hb => by
          cases sa with
          | none => cases hb
          | some ad =>
            cases hb
            obtain ⟨g, hg⟩ := (ownsRow_ptr HD3.out)
            cases hg
            exact HON.out.block _ (HSA.out.2 _ rfl).2 (fun e => by subst e; exact ownsRow_apart HS3.out HD3.out (by decide) rfl))
        have HDK := Lib.hid hdk
        have HDC := Lib.hid (HD4.out.same HON.out.size fun b h1 h2 => HON.out.block b h2 (fun e => by have := HRA.out.2 _ e; have := HS.out b h1; omega))
        have HI7 := Lib.hid (show k ≤ 7 from HMI2.out.2.1)
        clear hcI hdk hlt hlt' hk
        have hlt' : ¬ (k : Int) < (k : Int) := by omega
        go_wp2_with fail
        clear hlt'
        obtain ⟨w3, hw3⟩ : ∃ w3, w3 = wr := ⟨_, rfl⟩
        subst hw3
        have HSZ3 := Lib.hid (show w2.heap.size ≤ w3.heap.size from HON.out.size)
        go_loopw [56] (fun ix wq => TryOwnK w w2 w3 S sa mk sc (N.kids.take 7) ix wq) (fun ix _ => mk - (intOf ix).toNat)
        case atStart => exact ⟨0, ds, Nat.zero_le _, rfl, HDK.out, MixK.start HDC.out, OnlyS.refl _ _⟩
        clear c3 m3 l3
        case round =>
          obtain ⟨q, ds, hq, rfl, hown, hmix, hon⟩ := hrel
          have B2 := HB1.out.onlyS hon (fun e => by have := HSA.out.2 _ e; omega)
          have c4 := B2.cells
          have m4 := B2.marks
          have l4 := B2.lt
          have HB2' := Lib.hid B2
          have HOWN2 := Lib.hid hown
          have HMIX2 := Lib.hid hmix
          have HON2 := Lib.hid hon
          clear hown hmix hon B2
          by_cases hlt : q < mk
          · obtain ⟨g, rfl⟩ := HSA.out.1 (by omega)
            have hg := HSA.out.2 g rfl
            obtain ⟨x, hx⟩ : ∃ x, (N.kids.take 7)[q]? = some x := ⟨_, List.getElem?_eq_getElem (by have := HMK2.out.2.2; omega)⟩
            obtain ⟨xa, xl, xc, e0, h4, h5, h6⟩ := HMIX2.out.2 q x (turnK_get hx)
            have hcl : ∀ j u, (Value.slice xa xl xc :: kidVals x)[j]? = some u → wr.cell? ⟨g, q * 8 + j, none⟩ = some u := fun j u hu => (HOWN2.out.cellAt _ (by have := (List.getElem?_eq_some_iff.1 hu).1; simp [kidVals] at this; omega)).trans (e0 j u hu)
            have d0 : wr.cell? ⟨g, q * 8 + 0, none⟩ = some (.slice xa xl xc) := hcl 0 _ rfl
            have d1 : wr.cell? ⟨g, q * 8 + 1, none⟩ = some (.int .i64 x.at_) := hcl 1 _ rfl
            have d2 : wr.cell? ⟨g, q * 8 + 2, none⟩ = some (.int .i64 x.red.c) := hcl 2 _ rfl
            have d3 : wr.cell? ⟨g, q * 8 + 3, none⟩ = some (.int .i64 x.red.n) := hcl 3 _ rfl
            have d4 : wr.cell? ⟨g, q * 8 + 4, none⟩ = some (.int .i64 (hi x.red.s)) := hcl 4 _ rfl
            have d5 : wr.cell? ⟨g, q * 8 + 5, none⟩ = some (.int .u64 (lo x.red.s)) := hcl 5 _ rfl
            have d6 : wr.cell? ⟨g, q * 8 + 6, none⟩ = some (.int .i64 x.red.l) := hcl 6 _ rfl
            have d7 : wr.cell? ⟨g, q * 8 + 7, none⟩ = some (.int .i64 x.red.m) := hcl 7 _ rfl
            rw [Nat.add_zero] at d0
            have hlt' : (q : Int) < (mk : Int) := by omega
            have hk0 : ¬ (q : Int) < 0 := by omega
            have hq7 : (q : Int) < 7 := by have := HMK2.out.2.1; omega
            have H4 := Lib.hid (show BytesS wr S xa xl xc x.key by simpa using h4)
            have HX := Lib.hid hx
            have HLT := Lib.hid hlt
            have HG := Lib.hid hg
            have HL8 := Lib.hid (show q * 8 < mk * 8 by omega)
            have HE0 := Lib.hid (show ds[q * 8]? = some (.slice xa xl xc) from e0 0 _ rfl)
            clear h4 hx hcl e0 hlt hq hg h5 h6
            go_wp2_with fail
            obtain ⟨wx, hwx⟩ : ∃ wx, wr.alloc (.cells #[.slice xa xl xc, .int .i64 x.at_, .int .i64 x.red.c, .int .i64 x.red.n, .int .i64 (hi x.red.s), .int .u64 (lo x.red.s), .int .i64 x.red.l, .int .i64 x.red.m] 58) = wx := ⟨_, rfl⟩
            rw [hwx]
            have hbx : Below wr.heap.size wr wx := by rw [← hwx]; exact (Below.refl _ _).alloc (Nat.le_refl _) _
            have HBX := Lib.hid hbx
            have HX5 := Lib.hid (show Blk wx wr.heap.size [.slice xa xl xc, .int .i64 x.at_, .int .i64 x.red.c, .int .i64 x.red.n, .int .i64 (hi x.red.s), .int .u64 (lo x.red.s), .int .i64 x.red.l, .int .i64 x.red.m] 58 by rw [← hwx]; exact Blk.new wr _ _)
            have HX1 := Lib.hid (HB2'.out.ext hbx)
            have H4x := Lib.hid (H4.out.ext hbx)
            have HOX := Lib.hid (ownsRow_ext HOWN2.out hbx)
            have HSX := Lib.hid (show wr.heap.size ≤ wx.heap.size ∧ w2.heap.size ≤ wr.heap.size from ⟨hbx.size, by have := HON2.out.size; have := HSZ3.out; omega⟩)
            clear hwx hbx c4 m4 l4 d0 d1 d2 d3 d4 d5 d6 d7
  
            refine' wp_region_seq [.inl _, .inl _, .inl _, .inl _, .inl _, .inl _, .inr (NewBytes w2.heap.size (x.key.take 121)), .inl _, .inl _] (by kernel_rfl) (by kernel_rfl) ?main3
            case main3 =>
              refine wpParts_det (by rfl) (fun W hE hN => ?_) ?_
              · go_simp; refine ⟨Below.refl _ _, ?_⟩; rfl
              simp only [Act.put, List.setIfInBounds_toArray, List.set_cons_zero, List.set_cons_succ]
              refine wpParts_det (by rfl) (fun W hE hN => ?_) ?_
              · have q1 := (HX1.out.ext hE).cells; go_simp; refine ⟨Below.refl _ _, ?_⟩; rfl
              simp only [Act.put, List.setIfInBounds_toArray, List.set_cons_zero, List.set_cons_succ]
              refine wpParts_det (by rfl) (fun W hE hN => ?_) ?_
              · go_simp; refine ⟨Below.refl _ _, ?_⟩; rfl
              simp only [Act.put, List.setIfInBounds_toArray, List.set_cons_zero, List.set_cons_succ]
              refine wpParts_det (by rfl) (fun W hE hN => ?_) ?_
              · go_simp; refine ⟨Below.refl _ _, ?_⟩; rfl
              simp only [Act.put, List.setIfInBounds_toArray, List.set_cons_zero, List.set_cons_succ]
              refine wpParts_det (by rfl) (fun W hE hN => ?_) ?_
              · go_simp; refine ⟨Below.refl _ _, ?_⟩; rfl
              simp only [Act.put, List.setIfInBounds_toArray, List.set_cons_zero, List.set_cons_succ]
              refine wpParts_det (by rfl) (fun W hE hN => ?_) ?_
              · have q5 := (HX5.out.ext hE).cells; go_simp; refine ⟨Below.refl _ _, ?_⟩; rfl
              simp only [Act.put, List.setIfInBounds_toArray, List.set_cons_zero, List.set_cons_succ]
              refine wpParts_any rfl (NewBytes.later) (by rfl) (fun W hE hN => ?_) (fun u6 => ?_)
              · go_simp; refine ⟨Below.refl _ _, ?_⟩; refine (Try_few14 xa xl xc x.key W (H4x.out.ext hE).at_).mono ?_; rintro e w' ⟨a, n, c, rfl, hB, hb⟩; exact ⟨_, rfl, hb, a, n, c, rfl, hB.mono (fun b h => by have := hE.size; have := HSX.out; omega)⟩
              simp only [Act.put, List.setIfInBounds_toArray, List.set_cons_zero, List.set_cons_succ]
              refine wpParts_det (by rfl) (fun W hE hN => ?_) ?_
              · go_simp; refine ⟨Below.refl _ _, ?_⟩; rfl
              simp only [Act.put, List.setIfInBounds_toArray, List.set_cons_zero, List.set_cons_succ]
              refine wpParts_det (by rfl) (fun W hE hN => ?_) ?_
              · go_simp; refine ⟨Below.refl _ _, ?_⟩; rfl
              simp only [Act.put, List.setIfInBounds_toArray, List.set_cons_zero, List.set_cons_succ]
              refine wpParts_end fun W1 hE1 hG1 => ?_
              have hcW1 := fun b o h => hE1.cell (p := ⟨b, o, none⟩) h
              have hfW1 := fun b o h => hE1.frozen (p := ⟨b, o, none⟩) h
              obtain ⟨⟨a, n, c, rfl, hB⟩, _⟩ := (show NewBytes w2.heap.size (x.key.take 121) u6 W1 ∧ True from hG1)
              have hrow := ownsRow_ext HOX.out hE1
              have hfz := hrow.frozenAt (q * 8)
              have hcl := (hrow.cellAt (q * 8) HL8.out).trans HE0.out
              have HB := Lib.hid hB
              have HR := Lib.hid hrow
              have HONQ := Lib.hid (HBX.out.trans (hE1.mono HBX.out.size))
              clear hB hrow hE1 hG1 hcW1 hfW1
              go_wp2_with fail
              go_roundw
              case rel =>
                have hw6 : OnlyS (fun b => b = g) W1 (W1.setCell ⟨g, q * 8, none⟩ (.slice a n c)) := (OnlyS.refl _ _).set _ _ _ rfl
                have hT : ∀ b, w2.heap.size ≤ b → ¬ b = g := fun b h e => by have := HG.out.2; omega
                have hall := (OnlyS.of_below (p := fun b => b = g) HONQ.out).trans hw6
                exact ⟨q + 1, _, HLT.out, by go_num, (HR.out.stored _ _).1, (HMIX2.out.same hall.size (fun b h1 h2 => hall.block b h2 (fun e => by rcases h1 with h1 | h1; (have := HS.out b h1; have := HG.out.1; omega); exact hT b h1 e))).step HX.out (HB.out.onlyS hw6 hT), HON2.out.trans (hall.mono fun b h => by rw [h])⟩
              case measure => simp [intOf]; have := HLT.out; omega
  
          · obtain rfl : q = mk := by omega
            have hlt' : ¬ (q : Int) < (q : Int) := by omega
            have hck := HMIX2.out
            rw [HMK2.out.2.2] at hck
            have hck := hck.done
            obtain ⟨ta, tc, et, hTK⟩ := hck.shut HOWN2.out (by have := HMK2.out.2.1; omega)
            cases et
            have hci := HCI.out.same HON2.out.size (fun b h1 h2 => HON2.out.block b h2 (fun e => by have := HSA.out.2 _ e; omega))
            have hri : wr.ownsRow (w.heap.size + 2) 56 4 (.slice ra k rc) k cs := ownsRow_keep HOWN.out (fun b hb => by
              cases ra with
              | none => cases hb
              | some ad =>
                cases hb
                obtain ⟨g, hg⟩ := (ownsRow_ptr HOWN.out)
                cases hg
                exact HON2.out.block g (by have := (HRA.out.2 g rfl).2; have := HSZ3.out; omega) (fun e => by subst e; exact ownsRow_apart HOWN.out HDK.out (by decide) rfl))
            obtain ⟨ta, tc, et, hTI⟩ := hci.shut hri (by have := HI7.out; omega)
            cases et
            have R5 := (HR2.out.onlyS HON.out (fun e => by have := HRA.out.2 _ e; omega)).onlyS HON2.out (fun e => by have := HSA.out.2 _ e; omega)
            have c5 := R5.cells
            have m5 := R5.marks
            have l5 := R5.lt
            have HTK := Lib.hid hTK
            have HTI := Lib.hid hTI
            have HBF := Lib.hid (HB2.out.trans ((HON.out.below (n := w.heap.size) (by have := HB2.out.size; omega) (fun b hb => by have := HRA.out.2 _ hb; omega)).trans (HON2.out.below (n := w.heap.size) (by have := HB2.out.size; have := HSZ3.out; omega) (fun b hb => by have := HSA.out.2 _ hb; omega))))
            have HR5 := Lib.hid R5
            clear hck hci hri hTK hTI R5 hlt hq
            go_wp2
            have c6 := ((HR5.out.set 0 (.bool f)).set 1 (.slice ra k rc)).set 2 (.slice sa q sc) |>.cells
            have hbz : Below (w.heap.size + 1) wr (((wr.setCell ⟨w.heap.size + 1, 0, none⟩ (.bool f)).setCell ⟨w.heap.size + 1, 1, none⟩ (.slice ra k rc)).setCell ⟨w.heap.size + 1, 2, none⟩ (.slice sa q sc)) := (by repeat (first | (with_reducible exact Below.refl _ _) | (with_reducible exact Below.refl _ _) | (with_reducible refine Below.setCell ?_ (by first | omega | (simp; done) | (simp; omega)) _) | (with_reducible refine Below.alloc ?_ (by first | omega | (simp; done) | (simp; omega)) _) | (with_reducible refine Below.drew ?_) | (with_reducible refine below_drewN ?_ _)))
            have hoz : OnlyS (fun b => b = w.heap.size + 1) wr (((wr.setCell ⟨w.heap.size + 1, 0, none⟩ (.bool f)).setCell ⟨w.heap.size + 1, 1, none⟩ (.slice ra k rc)).setCell ⟨w.heap.size + 1, 2, none⟩ (.slice sa q sc)) := (((OnlyS.refl (fun b => b = w.heap.size + 1) wr).set _ _ _ rfl).set _ _ _ rfl).set _ _ _ rfl
            refine bodyPost_ret (v := .agg #[.bool f, .slice ra k rc, .slice sa q sc]) (by simp [results, Try.results16, go_sem, c6]) rfl ⟨ra, k, rc, sa, q, sc, rfl, ?_, ?_⟩
            · have hin : ∀ b, ((w2.heap.size ≤ b) ∨ w.heap.size + 2 ≤ b) → ¬ b = w.heap.size + 1 := fun b h e => by have := HB2.out.size; have := HR2.out.lt; omega
              have hmn : ∀ b, ((w2.heap.size ≤ b) ∨ w.heap.size + 2 ≤ b) → w.heap.size ≤ b := fun b h => by have := HR2.out.lt; omega
              exact ⟨(HTI.out.same hoz.size (fun b h1 h2 => hoz.block b h2 (hin b h1))).mono hmn, (HTK.out.same hoz.size (fun b h1 h2 => hoz.block b h2 (hin b h1))).mono hmn⟩
            · exact HBF.out.trans (hbz.mono (by omega))
end Go.Proofs.Ytfhhcpolicdfpaa
