/-
  Layer 14: Encode, walked.
-/
import Derived.Test.YtfhhcpolicdfpaaNdD
import Derived.Test.YtfhhcpolicdfpaaNdE
namespace Go.Dav
set_option linter.unusedVariables false
set_option linter.unusedSimpArgs false
open Go Go.RowKit
theorem own_blk {W : World} {p e base : Nat} {cs : List Value} (h : Blk W p cs e) (hm : cs.length ≤ maxLen) (hb : base ≤ p) : W.ownsRow base e 1 (.slice (some ⟨p, 0, none⟩) cs.length cs.length) cs.length cs :=
  ⟨by simp, .inr ⟨p, cs.length, cs.toArray, rfl, hb, h, Nat.le_refl _, hm, by simp, by simp⟩⟩
def headOf (n : NodeD) : List UInt8 := [if n.leaf then 1 else 2, UInt8.ofNat (partsOf n).length]
/-- What has been laid of the first k parts. -/
def laidTo (n : NodeD) (k : Nat) : List UInt8 := headOf n ++ ((partsOf n).take k).flatMap pBytes
theorem laidTo_succ {n : NodeD} {k : Nat} {x : PartD} (h : (partsOf n)[k]? = some x) : laidTo n (k + 1) = laidTo n k ++ pBytes x := by
  unfold laidTo; rw [List.take_add_one, h]; simp
theorem laidTo_all (n : NodeD) : laidTo n (partsOf n).length = nodeBytes n := by
  unfold laidTo nodeBytes headOf; rw [List.take_length]
theorem itemBytes_len (x : ItemD) : (itemBytes x).length = x.key.length + x.value.length + 11 := by
  unfold itemBytes; simp [highOf_len]; omega
theorem kidBytes_len (x : KidD) : (kidBytes x).length = x.key.length + 45 := by
  unfold kidBytes; simp [highOf_len]
theorem pBytes_len {x : PartD} (h : pOk x = true) : (pBytes x).length ≤ 231 := by
  obtain ⟨h1, h2⟩ := pOk_sizes h
  cases x with
  | inl i => have := h2 i rfl; unfold pBytes; dsimp only; rw [itemBytes_len]; unfold pKey at h1; dsimp only at h1; omega
  | inr i => unfold pBytes; dsimp only; rw [kidBytes_len]; unfold pKey at h1; dsimp only at h1; omega
theorem parts_len_le : ∀ {l : List PartD}, (∀ x ∈ l, pOk x = true) → (l.flatMap pBytes).length ≤ 231 * l.length
  | [], _ => by simp
  | x :: l, h => by
    have h1 := pBytes_len (h x (by simp))
    have h2 := parts_len_le (l := l) fun y hy => h y (by simp [hy])
    simp only [List.flatMap_cons, List.length_append, List.length_cons]
    omega
theorem nodeOk_check {n : NodeD} (h : nodeOk n = true) : shapeB n = true ∧ leastOf n ≤ (partsOf n).length ∧ stepsTo (partsOf n) (partsOf n).length = true ∧ ∀ x ∈ partsOf n, pOk x = true := by
  rw [← checkB_eq] at h
  unfold checkB at h
  simp only [Bool.and_eq_true, decide_eq_true_eq] at h
  refine ⟨h.1, h.2.1, h.2.2, ?_⟩
  have h2 := h.2.2
  rw [steps_split] at h2
  simp only [Bool.and_eq_true] at h2
  exact List.all_eq_true.1 h2.1
theorem laidTo_len {n : NodeD} (h : nodeOk n = true) (k : Nat) : (laidTo n k).length ≤ 1388 := by
  obtain ⟨h1, _, _, h4⟩ := nodeOk_check h
  have h6 := (shape_few h1).2.2
  have := parts_len_le (l := (partsOf n).take k) fun x hx => h4 x (List.mem_of_mem_take hx)
  unfold laidTo headOf
  rw [List.length_append]
  have h7 : ((partsOf n).take k).length ≤ 6 := by rw [List.length_take]; omega
  simp only [List.length_cons, List.length_nil]
  omega
/-- What Encode answers. -/
def GivesEnc (w : World) (N : NodeD) (e : Ending) (w' : World) : Prop :=
  ∃ a n c, e = .returned (.tuple #[.slice a n c, .int .i64 (nodeE N)]) ∧ BytesS w' (fun b => w.heap.size ≤ b) a n c (if nodeOk N then nodeBytes N else []) ∧ Below w.heap.size w w'
theorem nodeE_0 {N : NodeD} (h : nodeOk N = true) : nodeE N = 0 := by unfold nodeE; rw [h]; rfl
theorem nodeE_240 {N : NodeD} (h : nodeOk N = false) : nodeE N = 240 := by unfold nodeE; rw [h]; rfl
end Go.Dav
namespace Go.Proofs.Ytfhhcpolicdfpaa
set_option linter.unusedVariables false
set_option linter.unusedSimpArgs false
open Go.RowKit Go.Dav
attribute [local go_sem] Gives GivesK ite_val ite_val_true

set_option maxRecDepth 8000 in
set_option maxHeartbeats 4000000 in
theorem Try_Encode_no (N : NodeD) (ia ka : Option Addr) (il ic kl kc : Nat) (S : Nat → Prop) (w : World) (hN : NodeS w S ia il ic ka kl kc N) (hok : nodeOk N = false) :
    Calls Try.prog 14 #[.agg #[.bool N.leaf, .slice ia il ic, .slice ka kl kc]] w (GivesEnc w N) := by
  have hb0 : Below w.heap.size w (w.alloc (.cells #[.bool N.leaf, .slice ia il ic, .slice ka kl kc] 28)) := (by repeat (first | (with_reducible exact Below.refl _ _) | (with_reducible exact Below.refl _ _) | (with_reducible refine Below.setCell ?_ (by first | omega | (simp; done) | (simp; omega)) _) | (with_reducible refine Below.alloc ?_ (by first | omega | (simp; done) | (simp; omega)) _) | (with_reducible refine Below.drew ?_) | (with_reducible refine below_drewN ?_ _)))
  have hN0 := hN.ext hb0
  have hc := Try_nCheck N ia ka il ic kl kc S _ hN0
  rw [nodeE_240 hok] at hc
  have HC := Lib.hid hc
  have HOK := Lib.hid hok
  clear hc hN hN0 hok hb0
  go_enter Try.func14, Try.ntmps14
  go_wp2_with fail
  (with_reducible refine HC.out.mono ?_); rintro e w1 ⟨rfl, hb1⟩
  go_wp2
  go_ret2
  exact ⟨none, 0, 0, by rw [nodeE_240 HOK.out]; rfl, by rw [HOK.out]; exact BytesS.nil_, (by repeat (first | (with_reducible exact Below.refl _ _) | (with_reducible exact Below.refl _ _) | (with_reducible refine Below.setCell ?_ (by first | omega | (simp; done) | (simp; omega)) _) | (with_reducible refine Below.alloc ?_ (by first | omega | (simp; done) | (simp; omega)) _) | (with_reducible refine Below.drew ?_) | (with_reducible refine below_drewN ?_ _) | (with_reducible refine Below.trans ?_ (hb1.mono (by first | omega | (simp; done) | (simp; omega))))))⟩

set_option maxRecDepth 8000 in
set_option maxHeartbeats 8000000 in
theorem Try_Encode_yes (N : NodeD) (ia ka : Option Addr) (il ic kl kc : Nat) (S : Nat → Prop) (w : World) (hN : NodeS w S ia il ic ka kl kc N) (hS : ∀ b, S b → b < w.heap.size) (hok : nodeOk N = true) :
    Calls Try.prog 14 #[.agg #[.bool N.leaf, .slice ia il ic, .slice ka kl kc]] w (GivesEnc w N) := by
  have hb0 : Below w.heap.size w (w.alloc (.cells #[.bool N.leaf, .slice ia il ic, .slice ka kl kc] 28)) := (by repeat (first | (with_reducible exact Below.refl _ _) | (with_reducible exact Below.refl _ _) | (with_reducible refine Below.setCell ?_ (by first | omega | (simp; done) | (simp; omega)) _) | (with_reducible refine Below.alloc ?_ (by first | omega | (simp; done) | (simp; omega)) _) | (with_reducible refine Below.drew ?_) | (with_reducible refine below_drewN ?_ _)))
  have hN0 := hN.ext hb0
  have hc := Try_nCheck N ia ka il ic kl kc S _ hN0
  rw [nodeE_0 hok] at hc
  have hq0 := Blk.new w [.bool N.leaf, .slice ia il ic, .slice ka kl kc] 28
  obtain ⟨h1, _, _, h4⟩ := nodeOk_check hok
  have h6 := (shape_few h1).2.2
  have HC := Lib.hid hc
  have HOK := Lib.hid hok
  have HN0 := Lib.hid hN0
  have HQ0 := Lib.hid hq0
  have H6 := Lib.hid h6
  have H4 := Lib.hid h4
  have HS := Lib.hid hS
  have HB0 := Lib.hid hb0
  obtain ⟨f, hf⟩ : ∃ f, N.leaf = f := ⟨_, rfl⟩
  have HF := Lib.hid hf
  rw [hf] at HC HQ0 HN0 HB0
  rw [hf]
  clear hc hN hN0 hok hq0 h1 h4 h6 hS hb0 hf
  go_enter Try.func14, Try.ntmps14
  go_wp2_with fail
  (with_reducible refine HC.out.mono ?_); rintro e w1 ⟨rfl, hb1⟩
  have hq1 := (HQ0.out.ext hb1).cells
  have ha1 := (HQ0.out.ext hb1).lt
  have HQ1 := Lib.hid (HQ0.out.ext hb1)
  have hp := Try_parts N ia ka il ic kl kc S w1 (HN0.out.ext hb1) H6.out
  rw [HF.out] at hp
  have HP := Lib.hid hp
  have HB1 := Lib.hid (HB0.out.trans (hb1.mono (by simp)))
  clear hp hb1
  go_wp2_with fail
  (with_reducible refine HP.out.mono ?_); rintro e w2 ⟨pa, pn, pc, rfl, hPS, hb2⟩
  have hpl := hPS.hlen
  have hp6 : (pn : Int) ≤ 6 := by have := H6.out; omega
  have hpn6 : pn ≤ 6 := by omega
  have HPN6 := Lib.hid hpn6
  have hq2 := (HQ1.out.ext hb2).cells
  have hlt2 := (HQ1.out.ext hb2).lt
  have HPS := Lib.hid hPS
  have HPL := Lib.hid hpl
  have HB2 := Lib.hid (HB1.out.trans (hb2.mono (by have := HB1.out.size; omega)))
  have hs2 := hb2.size
  have hs1 := HB1.out.size
  clear hPS hpl hb2 hq1 hpn6
  cases f with
  | true =>
    go_wp2_with fail
    have hcs : u8s (headOf N) = [.int .u8 1, .int .u8 (pn : Int)] := by
      unfold headOf; rw [HF.out, HPL.out]; simp [u8s]; have := HPN6.out; omega
    have HCS := Lib.hid hcs
    obtain ⟨w3, hw3⟩ : ∃ w3, w2.alloc (.cells #[.int .u8 1, .int .u8 (pn : Int)] 5) = w3 := ⟨_, rfl⟩
    have hB3 : Blk w3 w2.heap.size [.int .u8 1, .int .u8 (pn : Int)] 5 := by rw [← hw3]; exact Blk.new _ _ _
    have HR0 := Lib.hid (show w3.ownsRow w2.heap.size 5 1 (.slice (some ⟨w2.heap.size, 0, none⟩) 2 2) (headOf N).length (u8s (headOf N)) by
      have h := own_blk hB3 (by simp [maxLen]) (Nat.le_refl _)
      rw [hcs, show (headOf N).length = 2 from rfl]
      exact h)
    have HBa := Lib.hid (show Below w2.heap.size w2 w3 by rw [← hw3]; exact (Below.refl _ _).alloc (Nat.le_refl _) _)
    have HS3 := Lib.hid (show w3.heap.size = w2.heap.size + 1 by rw [← hw3]; simp)
    clear hcs hB3
    rw [hw3]
    clear hw3
    go_loopg [30, 7] pn (fun g ix vx wr => ∃ k : Nat, k ≤ pn ∧ g = pn - k ∧ ix = .int .i64 k ∧ wr.ownsRow w2.heap.size 5 1 vx (laidTo N k).length (u8s (laidTo N k)) ∧ Grew w2.heap.size 5 w3 wr)
    case atStart =>
      refine ⟨0, Nat.zero_le _, rfl, rfl, ?_, Grew.refl _ _ _⟩
      have h := HR0.out
      have e : laidTo N 0 = headOf N := by unfold laidTo; simp
      rw [e]
      exact h
    case round =>
      obtain ⟨k, hk, rfl, rfl, hown, hgr⟩ := hrel
      have HO := Lib.hid hown
      have HG := Lib.hid hgr
      have hsw := hgr.size
      have HPW := Lib.hid (HPS.out.same (W' := wr) (by have := HS3.out; omega) (fun b h1 h2 => (HG.out.block b (by have := HS3.out; omega) (.inl h2)).trans (HBa.out.block b h2)) (fun b h1 h2 => (HG.out.block b (by have := HS3.out; omega) (.inl h2)).trans (HBa.out.block b h2)))
      clear hown hgr
      by_cases hkn : k < pn
      · obtain ⟨x, hx⟩ : ∃ x, (partsOf N)[k]? = some x := ⟨_, List.getElem?_eq_getElem (by have := HPL.out; omega)⟩
        obtain ⟨b, o, u, rfl, hb, _, hcell, hu⟩ := HPW.out.hat k x hx
        have hml := fun W => Try_meth_lay x u W
        have hel := fun args W => Try_en_lay x args W
        have HX := Lib.hid hx
        have HU := Lib.hid hu
        have HKN := Lib.hid hkn
        have hkn' : (k : Int) < (pn : Int) := by omega
        have hlay := Try_layPart w2.heap.size S x u u7 (laidTo N k) wr HU.out (fun b h => by have := HS.out b h; omega) HO.out (by have := HS3.out; omega) (by have := laidTo_len HOK.out k; omega) (H4.out x (List.mem_of_getElem? HX.out))
        rw [← laidTo_succ HX.out] at hlay
        have HL := Lib.hid hlay
        clear hx hu hkn hk hlay
        go_wp2_with fail
        (with_reducible refine HL.out.mono ?_); rintro e w4 ⟨v4, rfl, ho4, hg4⟩
        have HO4 := Lib.hid ho4
        have HG4 := Lib.hid hg4
        clear ho4 hg4
        go_wp2_with fail
        go_roundg (pn - (k + 1))
        case measure => have := HKN.out; omega
        case rel => exact ⟨k + 1, HKN.out, rfl, by go_num, HO4.out, HG.out.trans HG4.out⟩
      · obtain rfl : k = pn := by omega
        have hk3 : ¬ (k : Int) < (k : Int) := by omega
        have hown := HO.out
        rw [← HPL.out, laidTo_all] at hown
        obtain ⟨a', c', rfl, hB⟩ := own_bytes hown (by have := laidTo_len HOK.out (partsOf N).length; rw [laidTo_all] at this; omega)
        have HBB := Lib.hid hB
        clear hkn hown hB
        go_wp2
        go_ret2
        refine ⟨a', _, c', by rw [nodeE_0 HOK.out]; rfl, by rw [if_pos HOK.out]; exact HBB.out.mono fun b h => by omega, ?_⟩
        exact HB2.out.trans ((HBa.out.trans (HG.out.below (by have := HS3.out; omega))).mono (by omega))
  | false =>
    go_wp2_with fail
    have hcs : u8s (headOf N) = [.int .u8 2, .int .u8 (pn : Int)] := by
      unfold headOf; rw [HF.out, HPL.out]; simp [u8s]; have := HPN6.out; omega
    have HCS := Lib.hid hcs
    obtain ⟨w3, hw3⟩ : ∃ w3, w2.alloc (.cells #[.int .u8 2, .int .u8 (pn : Int)] 5) = w3 := ⟨_, rfl⟩
    have hB3 : Blk w3 w2.heap.size [.int .u8 2, .int .u8 (pn : Int)] 5 := by rw [← hw3]; exact Blk.new _ _ _
    have HR0 := Lib.hid (show w3.ownsRow w2.heap.size 5 1 (.slice (some ⟨w2.heap.size, 0, none⟩) 2 2) (headOf N).length (u8s (headOf N)) by
      have h := own_blk hB3 (by simp [maxLen]) (Nat.le_refl _)
      rw [hcs, show (headOf N).length = 2 from rfl]
      exact h)
    have HBa := Lib.hid (show Below w2.heap.size w2 w3 by rw [← hw3]; exact (Below.refl _ _).alloc (Nat.le_refl _) _)
    have HS3 := Lib.hid (show w3.heap.size = w2.heap.size + 1 by rw [← hw3]; simp)
    clear hcs hB3
    rw [hw3]
    clear hw3
    go_loopg [30, 7] pn (fun g ix vx wr => ∃ k : Nat, k ≤ pn ∧ g = pn - k ∧ ix = .int .i64 k ∧ wr.ownsRow w2.heap.size 5 1 vx (laidTo N k).length (u8s (laidTo N k)) ∧ Grew w2.heap.size 5 w3 wr)
    case atStart =>
      refine ⟨0, Nat.zero_le _, rfl, rfl, ?_, Grew.refl _ _ _⟩
      have h := HR0.out
      have e : laidTo N 0 = headOf N := by unfold laidTo; simp
      rw [e]
      exact h
    case round =>
      obtain ⟨k, hk, rfl, rfl, hown, hgr⟩ := hrel
      have HO := Lib.hid hown
      have HG := Lib.hid hgr
      have hsw := hgr.size
      have HPW := Lib.hid (HPS.out.same (W' := wr) (by have := HS3.out; omega) (fun b h1 h2 => (HG.out.block b (by have := HS3.out; omega) (.inl h2)).trans (HBa.out.block b h2)) (fun b h1 h2 => (HG.out.block b (by have := HS3.out; omega) (.inl h2)).trans (HBa.out.block b h2)))
      clear hown hgr
      by_cases hkn : k < pn
      · obtain ⟨x, hx⟩ : ∃ x, (partsOf N)[k]? = some x := ⟨_, List.getElem?_eq_getElem (by have := HPL.out; omega)⟩
        obtain ⟨b, o, u, rfl, hb, _, hcell, hu⟩ := HPW.out.hat k x hx
        have hml := fun W => Try_meth_lay x u W
        have hel := fun args W => Try_en_lay x args W
        have HX := Lib.hid hx
        have HU := Lib.hid hu
        have HKN := Lib.hid hkn
        have hkn' : (k : Int) < (pn : Int) := by omega
        have hlay := Try_layPart w2.heap.size S x u u7 (laidTo N k) wr HU.out (fun b h => by have := HS.out b h; omega) HO.out (by have := HS3.out; omega) (by have := laidTo_len HOK.out k; omega) (H4.out x (List.mem_of_getElem? HX.out))
        rw [← laidTo_succ HX.out] at hlay
        have HL := Lib.hid hlay
        clear hx hu hkn hk hlay
        go_wp2_with fail
        (with_reducible refine HL.out.mono ?_); rintro e w4 ⟨v4, rfl, ho4, hg4⟩
        have HO4 := Lib.hid ho4
        have HG4 := Lib.hid hg4
        clear ho4 hg4
        go_wp2_with fail
        go_roundg (pn - (k + 1))
        case measure => have := HKN.out; omega
        case rel => exact ⟨k + 1, HKN.out, rfl, by go_num, HO4.out, HG.out.trans HG4.out⟩
      · obtain rfl : k = pn := by omega
        have hk3 : ¬ (k : Int) < (k : Int) := by omega
        have hown := HO.out
        rw [← HPL.out, laidTo_all] at hown
        obtain ⟨a', c', rfl, hB⟩ := own_bytes hown (by have := laidTo_len HOK.out (partsOf N).length; rw [laidTo_all] at this; omega)
        have HBB := Lib.hid hB
        clear hkn hown hB
        go_wp2
        go_ret2
        refine ⟨a', _, c', by rw [nodeE_0 HOK.out]; rfl, by rw [if_pos HOK.out]; exact HBB.out.mono fun b h => by omega, ?_⟩
        exact HB2.out.trans ((HBa.out.trans (HG.out.below (by have := HS3.out; omega))).mono (by omega))
theorem Try_Encode (N : NodeD) (ia ka : Option Addr) (il ic kl kc : Nat) (S : Nat → Prop) (w : World) (hN : NodeS w S ia il ic ka kl kc N) (hS : ∀ b, S b → b < w.heap.size) :
    Calls Try.prog 14 #[.agg #[.bool N.leaf, .slice ia il ic, .slice ka kl kc]] w (GivesEnc w N) := by
  cases hok : nodeOk N with
  | true => exact Try_Encode_yes N ia ka il ic kl kc S w hN hS hok
  | false => exact Try_Encode_no N ia ka il ic kl kc S w hN hok
end Go.Proofs.Ytfhhcpolicdfpaa
