/-
  The reference of layer 14: Bytes of a right node, walked.
-/
import Derived.Test.YtfhhcpolicdfpaaQNodBG
import Derived.Test.YtfhhcpolicdfpaaNdF
import Derived.Test.YtfhhcpolicdfpaaNdM
import Derived.Test.YtfhhcpolicdfpaaQLawNB
namespace Go.Dav
set_option linter.unusedVariables false
set_option linter.unusedSimpArgs false
open Go Go.RowKit
theorem flat_le {α : Type} {f : α → List UInt8} {m : Nat} : ∀ {l : List α}, (∀ x ∈ l, (f x).length ≤ m) → (l.flatMap f).length ≤ l.length * m
  | [], _ => by simp
  | x :: l, h => by
    have ih := flat_le (l := l) fun y hy => h y (by simp [hy])
    have h0 := h x (by simp)
    simp only [List.flatMap_cons, List.length_append, List.length_cons, Nat.add_mul, Nat.one_mul]
    omega
theorem itemBytes_le {x : ItemD} (h : itemOk x = true) : (itemBytes x).length ≤ 400 := by
  unfold itemOk at h
  simp only [Bool.and_eq_true, decide_eq_true_eq] at h
  unfold itemBytes
  have h1 := highOf_len (x.n % 18446744073709551616).toNat 8
  simp only [List.length_append, List.length_cons, h1, List.length_nil]
  omega
theorem kidBytes_le {x : KidD} (h : kidOk x = true) : (kidBytes x).length ≤ 400 := by
  unfold kidOk at h
  simp only [Bool.and_eq_true, decide_eq_true_eq] at h
  unfold kidBytes
  simp only [List.length_append, List.length_cons, highOf_len]
  omega
/-- What the reference has laid of the first k items, of the first k kids. -/
def laidI (n : Nat) (l : List ItemD) (k : Nat) : List UInt8 := [1, UInt8.ofNat n] ++ (l.take k).flatMap itemBytes
def laidK (n : Nat) (l : List KidD) (k : Nat) : List UInt8 := [2, UInt8.ofNat n] ++ (l.take k).flatMap kidBytes
theorem laidI_succ {n : Nat} {l : List ItemD} {k : Nat} {x : ItemD} (h : l[k]? = some x) : laidI n l (k + 1) = laidI n l k ++ [UInt8.ofNat x.key.length] ++ x.key ++ [UInt8.ofNat x.value.length] ++ x.value ++ [if x.int then 1 else 0] ++ highOf (x.n % 18446744073709551616).toNat 8 := by
  unfold laidI; rw [List.take_add_one, h]
  simp [itemBytes, List.append_assoc]
theorem laidK_succ {n : Nat} {l : List KidD} {k : Nat} {x : KidD} (h : l[k]? = some x) : laidK n l (k + 1) = laidK n l k ++ [UInt8.ofNat x.key.length] ++ x.key ++ highOf (x.at_ % 18446744073709551616).toNat 4 ++ highOf (x.red.c % 18446744073709551616).toNat 4 ++ highOf (x.red.n % 18446744073709551616).toNat 4 ++ highOf (hi x.red.s % 18446744073709551616).toNat 8 ++ highOf (lo x.red.s).toNat 8 ++ highOf (x.red.l % 18446744073709551616).toNat 8 ++ highOf (x.red.m % 18446744073709551616).toNat 8 := by
  unfold laidK; rw [List.take_add_one, h]
  simp [kidBytes, List.append_assoc]
theorem laidI_len {n : Nat} {l : List ItemD} (h : l.all itemOk = true) (h6 : l.length ≤ 6) (k : Nat) : (laidI n l k).length ≤ 2402 := by
  unfold laidI
  have := flat_le (f := itemBytes) (m := 400) (l := l.take k) fun x hx => itemBytes_le (List.all_eq_true.1 h x (List.mem_of_mem_take hx))
  have h2 : (l.take k).length * 400 ≤ 6 * 400 := Nat.mul_le_mul_right _ (by rw [List.length_take]; omega)
  simp only [List.length_append, List.length_cons, List.length_nil]
  omega
theorem laidK_len {n : Nat} {l : List KidD} (h : l.all kidOk = true) (h6 : l.length ≤ 6) (k : Nat) : (laidK n l k).length ≤ 2402 := by
  unfold laidK
  have := flat_le (f := kidBytes) (m := 400) (l := l.take k) fun x hx => kidBytes_le (List.all_eq_true.1 h x (List.mem_of_mem_take hx))
  have h2 : (l.take k).length * 400 ≤ 6 * 400 := Nat.mul_le_mul_right _ (by rw [List.length_take]; omega)
  simp only [List.length_append, List.length_cons, List.length_nil]
  omega
theorem OnlyS.grew {base : Nat} {e : TypeId} {l : List UInt8} {v : Value} {W W' : World} (h : OnlyS (OwnB v) W W') (ho : OwnIs base e l v W) : Grew base e W W' := Grew.of_own ho ⟨h.os, h.tape, h.output, h.size, fun k hk hn => h.block k hk fun e => hn e.symm⟩
theorem BytesS.grewT {W W' : World} {S : Nat → Prop} {a : Option Addr} {n c base : Nat} {e : TypeId} {l : List UInt8} (h : BytesS W S a n c l) (hS : ∀ b, S b → b < base) (hg : Grew base e W W') : BytesS W' S a n c l := h.same hg.size fun b h1 h2 => hg.block b h2 (.inl (hS b h1))
theorem u8_wrap (n : Nat) : IntKind.u8.wrap (n : Int) = ((UInt8.ofNat n).toNat : Int) := by
  rw [show IntKind.u8.wrap (n : Int) = (n : Int) % 256 from rfl]; simp
end Go.Dav
namespace Go.Proofs.Ytfhhcpolicdfpaa
set_option linter.unusedVariables false
set_option linter.unusedSimpArgs false
open Go.RowKit Go.Dav
attribute [local go_sem] Gives GivesK ite_val ite_val_true

def TryRbI (B p0 : Nat) (W0 : World) (cs : List Value) (n : Nat) (l : List ItemD) (ov ix : Value) (wr : World) : Prop :=
  ∃ k : Nat, k ≤ n ∧ ix = .int .i64 k ∧ OwnIs B 5 (laidI n l k) ov wr ∧ Blk wr p0 cs 28 ∧ Grew B 5 W0 wr
def TryRbK (B p0 : Nat) (W0 : World) (cs : List Value) (n : Nat) (l : List KidD) (ov ix : Value) (wr : World) : Prop :=
  ∃ k : Nat, k ≤ n ∧ ix = .int .i64 k ∧ OwnIs B 5 (laidK n l k) ov wr ∧ Blk wr p0 cs 28 ∧ Grew B 5 W0 wr
theorem Try_high14_4 (x : Nat) (w : World) (hx : x < 18446744073709551616) : Calls Try.prog 46 #[.int .u64 (x : Int), .int .i64 4] w fun e w' => ∃ p, e = .returned (.slice (some ⟨p, 0, none⟩) 4 4) ∧ w.heap.size ≤ p ∧ Blk w' p (u8s (highOf x 4)) 5 ∧ Below w.heap.size w w' := Try_high14 x 4 w (by omega) hx
theorem Try_high14_8 (x : Nat) (w : World) (hx : x < 18446744073709551616) : Calls Try.prog 46 #[.int .u64 (x : Int), .int .i64 8] w fun e w' => ∃ p, e = .returned (.slice (some ⟨p, 0, none⟩) 8 8) ∧ w.heap.size ≤ p ∧ Blk w' p (u8s (highOf x 8)) 5 ∧ Below w.heap.size w w' := Try_high14 x 8 w (by omega) hx
set_option maxRecDepth 8000 in
set_option maxHeartbeats 16000000 in
theorem Try_rBytes (N : NodeD) (ia ka : Option Addr) (il ic kl kc : Nat) (S : Nat → Prop) (w : World) (hN : NodeS w S ia il ic ka kl kc N) (hS : ∀ b, S b → b < w.heap.size) (hok : nodeOk N = true) :
    Calls Try.prog 18 #[.agg #[.bool N.leaf, .slice ia il ic, .slice ka kl kc]] w (GivesBytes w (nodeBytes N)) := by
  obtain ⟨f, hfl⟩ : ∃ f, N.leaf = f := ⟨_, rfl⟩
  rw [hfl]
  obtain ⟨W0, hW0⟩ : ∃ W0, w.alloc (.cells #[.bool f, .slice ia il ic, .slice ka kl kc] 28) = W0 := ⟨_, rfl⟩
  have hb0 : Below w.heap.size w W0 := by rw [← hW0]; exact (by repeat (first | (with_reducible exact Below.refl _ _) | (with_reducible exact Below.refl _ _) | (with_reducible refine Below.setCell ?_ (by first | omega | (simp; done) | (simp; omega)) _) | (with_reducible refine Below.alloc ?_ (by first | omega | (simp; done) | (simp; omega)) _) | (with_reducible refine Below.drew ?_) | (with_reducible refine below_drewN ?_ _)))
  have hq0 : Blk W0 w.heap.size [.bool f, .slice ia il ic, .slice ka kl kc] 28 := by rw [← hW0]; exact Blk.new w _ _
  obtain ⟨B, hB⟩ : ∃ B, W0.heap.size = B := ⟨_, rfl⟩
  have hBw : w.heap.size + 1 = B := by rw [← hB, ← hW0]; simp
  have e1 := hN.items.hlen
  have e2 := hN.kids.hlen
  have h6 := shape_few (nodeOk_check hok).1
  have b1 : (il : Int) ≤ 6 := by omega
  have b2 : (kl : Int) ≤ 6 := by omega
  have HN := Lib.hid (hN.ext hb0)
  have HQ0 := Lib.hid hq0
  have HB0 := Lib.hid hb0
  have E1 := Lib.hid e1
  have E2 := Lib.hid e2
  have HS := Lib.hid (show ∀ b, S b → b < B from fun b h => by have := hS b h; omega)
  have HBS := Lib.hid hB
  have HBW := Lib.hid hBw
  have HW0 := Lib.hid hW0
  have HOK := Lib.hid hok
  have HF := Lib.hid hfl
  have c0 := hq0.cells
  have m0 := hq0.marks
  have l0 := hq0.lt
  clear hN hb0 hq0 hB hBw e1 e2 h6 hS hok hfl hW0
  cases f with
  | true =>
    have HALL := Lib.hid (show N.items.all itemOk = true by
      have h := HOK.out; unfold nodeOk at h; rw [if_pos HF.out, Bool.and_eq_true] at h; exact h.1)
    have HNB := Lib.hid (show nodeBytes N = laidI il N.items il by
      unfold nodeBytes partsOf laidI
      rw [HF.out, if_pos rfl, if_pos rfl, List.length_map, E1.out, List.take_of_length_le (by rw [E1.out]; exact Nat.le_refl _), List.flatMap_map]
      rfl)
    go_enter Try.func18, Try.ntmps18
    go_wp2_with fail
    obtain ⟨W2, hW2⟩ : ∃ W2, (w.alloc (.cells #[.bool true, .slice ia il ic, .slice ka kl kc] 28)).alloc (.cells #[.int .u8 1, .int .u8 (il : Int)] 5) = W2 := ⟨_, rfl⟩
    rw [HW0.out] at hW2
    have hb2 : Below W0.heap.size W0 W2 := by rw [← hW2]; exact (Below.refl _ _).alloc (Nat.le_refl _) _
    have hu : ((UInt8.ofNat il).toNat : Int) = (il : Int) := by simp; omega
    have hO2 : OwnIs B 5 (laidI il N.items 0) (.slice (some ⟨w.heap.size + 1, 0, none⟩) 2 2) W2 := by
      have h1 : Blk W2 (w.heap.size + 1) (u8s (laidI il N.items 0)) 5 := by
        rw [← hW2, show u8s (laidI il N.items 0) = [.int .u8 1, .int .u8 (il : Int)] by unfold laidI u8s; simp; omega]
        exact Blk.new' _ _ _ (by rw [HBS.out, ← HBW.out])
      exact ownsRow_blk (n := 2) h1 (by rw [HBW.out]; exact Nat.le_refl _) (by rw [u8s_len]; simp [laidI]) (by unfold maxLen; omega)
    have HO2 := Lib.hid hO2
    have HQ2 := Lib.hid (HQ0.out.ext hb2)
    have HG2 := Lib.hid (show Grew B 5 W0 W2 from Grew.of_below hb2)
    have HW2 := Lib.hid hW2
    clear hW2 hb2 hu hO2 c0 m0 l0
    rw [HW0.out, HW2.out]
    clear HW2
    go_loopw [3, 4] (fun ov ix wr => TryRbI B w.heap.size W0 [.bool true, .slice ia il ic, .slice ka kl kc] il N.items ov ix wr) (fun _ ix _ => il - (intOf ix).toNat)
    case atStart => exact ⟨0, Nat.zero_le _, rfl, HO2.out, HQ2.out, HG2.out⟩
    case round =>
      obtain ⟨k, hk, rfl, hown, hq, hgr⟩ := hrel
      have HO := Lib.hid hown
      have HQ := Lib.hid hq
      have HG := Lib.hid hgr
      have c0 := hq.cells
      have m0 := hq.marks
      have l0 := hq.lt
      clear hown hq
      by_cases hlt : k < il
      · obtain ⟨x, hx⟩ : ∃ x, N.items[k]? = some x := ⟨_, List.getElem?_eq_getElem (by have := E1.out; omega)⟩
        obtain ⟨b, o, xa, xl, xc, va, vl, vc, rfl, hb1, hs1, d0, d1, d2, d3, h4, h5, h6⟩ := (HN.out.items.same (W' := wr) hgr.size (fun b h1 h2 => hgr.block b h2 (.inl (HS.out b h1)))).hat k x hx
        have HLL := Lib.hid (laidI_len (n := il) HALL.out (by have := E1.out; omega) k)
        have HNX := Lib.hid (laidI_succ (n := il) hx)
        have hxo := List.all_eq_true.1 HALL.out x (List.mem_of_getElem? hx)
        unfold itemOk at hxo
        simp only [Bool.and_eq_true, decide_eq_true_eq] at hxo
        have hk1 := h4.at_.hlen
        have hv1 := h5.at_.hlen
        have HXL := Lib.hid (show xl ≤ 120 by omega)
        have HVL := Lib.hid (show vl ≤ 100 by omega)
        have hlt' : (k : Int) < (il : Int) := by omega
        have HLT := Lib.hid hlt
        have hk0 : ¬ (k : Int) < 0 := by omega
        obtain ⟨l, hl⟩ : ∃ l, laidI il N.items k = l := ⟨_, rfl⟩
        rw [hl] at HLL HNX HO
        rw [hk1, hv1] at HNX
        have HK := Lib.hid h4
        have HV := Lib.hid h5
        have hI := h6
        obtain ⟨w3, hw3⟩ : ∃ w3, wr.alloc (.cells #[.slice xa xl xc, .slice va vl vc, .bool x.int, .int .i64 x.n] 56) = w3 := ⟨_, rfl⟩
        have hb3 : Below wr.heap.size wr w3 := by rw [← hw3]; exact (Below.refl _ _).alloc (Nat.le_refl _) _
        have HX3 := Lib.hid (show Blk w3 wr.heap.size [.slice xa xl xc, .slice va vl vc, .bool x.int, .int .i64 x.n] 56 by rw [← hw3]; exact Blk.new wr _ _)
        have HO3 := Lib.hid (OwnIs.later' _ _ _ HO.out hb3)
        have HK3 := Lib.hid (HK.out.ext hb3)
        have HV3 := Lib.hid (HV.out.ext hb3)
        have HQ3 := Lib.hid (HQ.out.ext hb3)
        have HG3 := Lib.hid (HG.out.trans (Grew.of_below hb3))
        have HBB := Lib.hid (show B ≤ w3.heap.size by have := HG3.out.size; have := HBS.out; omega)
        have HW3 := Lib.hid hw3
        clear hx hxo hk1 hv1 h4 h5 h6 hs1 hk hlt hgr hl hw3 hb3 HO HK HV HQ HG
        go_wp2_with fail
        rw [HW3.out]
        clear HW3 c0 m0 l0 d0 d1 d2 d3 hb1
        refine' wp_region_seqK (OnlyS (OwnB u3)) (goes_only _) 6 [.inl _, .inl _, .inl _, .inl _, .inl _, .inr (RowV w3.heap.size [UInt8.ofNat xl]), .inr (OwnIs B 5 (l ++ [UInt8.ofNat xl])), .inl _, .inl _] (by kernel_rfl) (by kernel_rfl) ?main1
        case main1 =>
          refine wpPartsK_det (by decide) (by rfl) (fun W hE hN => ?_) ?_
          · go_simp; refine ⟨Below.refl _ _, ?_⟩; rfl
          simp only [Act.put, List.setIfInBounds_toArray, List.set_cons_zero, List.set_cons_succ]
          refine wpPartsK_det (by decide) (by rfl) (fun W hE hN => ?_) ?_
          · go_simp; refine ⟨Below.refl _ _, ?_⟩; rfl
          simp only [Act.put, List.setIfInBounds_toArray, List.set_cons_zero, List.set_cons_succ]
          refine wpPartsK_det (by decide) (by rfl) (fun W hE hN => ?_) ?_
          · have q := (HX3.out.onlyS hE (HO3.out.apart HX3.out (by decide))).cells; go_simp; refine ⟨Below.refl _ _, ?_⟩; rfl
          simp only [Act.put, List.setIfInBounds_toArray, List.set_cons_zero, List.set_cons_succ]
          refine wpPartsK_det (by decide) (by rfl) (fun W hE hN => ?_) ?_
          · go_simp; refine ⟨Below.refl _ _, ?_⟩; rfl
          simp only [Act.put, List.setIfInBounds_toArray, List.set_cons_zero, List.set_cons_succ]
          refine wpPartsK_det (by decide) (by rfl) (fun W hE hN => ?_) ?_
          · go_simp; refine ⟨Below.refl _ _, ?_⟩; rw [u8_wrap]
          simp only [Act.put, List.setIfInBounds_toArray, List.set_cons_zero, List.set_cons_succ]
          refine wpPartsK_any (by decide) rfl (RowV.later) (RowV.onlyB (fun b hb => (HO3.out.lt hb).2)) (by rfl) (fun W hE hN => ?_) (fun u5 => ?_)
          · have h := row_one (W := W) (t := 5) (UInt8.ofNat xl) hE.size; rw [show ((UInt8.ofNat xl).toNat : Int) = (xl : Int) % 256 by simp] at h; (go_simp <;> exact h)
          simp only [Act.put, List.setIfInBounds_toArray, List.set_cons_zero, List.set_cons_succ]
          refine wpPartsK_writes (by decide) rfl (OwnIs.later') (by rfl) (fun W hE hN => ?_) (fun u6 => ?_)
          · obtain ⟨⟨a1, n1, c1', rfl, hB⟩, _⟩ := (show RowV w3.heap.size [UInt8.ofNat xl] u5 W ∧ True from hN); exact givesK_append rfl Try_elemU8 rfl rfl (OwnIs.later' _ _ _ HO3.out hE) hB (by have h1 := hB.at_.hlen; have h2 := HLL.out; simp at h1 h2 ⊢; omega) (by have := hE.size; have := HBB.out; omega)
          simp only [Act.put, List.setIfInBounds_toArray, List.set_cons_zero, List.set_cons_succ]
          refine wpPartsK_det (by decide) (by rfl) (fun W hE hN => ?_) ?_
          · go_simp; refine ⟨Below.refl _ _, ?_⟩; rfl
          simp only [Act.put, List.setIfInBounds_toArray, List.set_cons_zero, List.set_cons_succ]
          refine wpPartsK_det (by decide) (by rfl) (fun W hE hN => ?_) ?_
          · have q := (HX3.out.onlyS hE (HO3.out.apart HX3.out (by decide))).cells; go_simp; refine ⟨Below.refl _ _, ?_⟩; rfl
          simp only [Act.put, List.setIfInBounds_toArray, List.set_cons_zero, List.set_cons_succ]
          refine wpPartsK_end fun W4 hE1 hG1 => ?_
          have HO1 := Lib.hid (show OwnIs B 5 (l ++ [UInt8.ofNat xl]) u6 W4 from hG1.1)
          have HX1 := Lib.hid (HX3.out.onlyS hE1 (HO3.out.apart HX3.out (by decide)))
          have HK1 := Lib.hid (HK3.out.onlyS hE1 (fun b hb e => by have := HS.out b hb; have := (HO3.out.lt e).1; omega))
          have hV1 := HV3.out.onlyS hE1 (fun b hb e => by have := HS.out b hb; have := (HO3.out.lt e).1; omega)
          have HQ4 := Lib.hid (HQ3.out.onlyS hE1 (HO3.out.apart HQ3.out (by decide)))
          have HG4 := Lib.hid (HG3.out.trans (OnlyS.grew hE1 HO3.out))
          have HB4 := Lib.hid (show B ≤ W4.heap.size by have := HBB.out; have := hE1.size; omega)
          have HV4 := Lib.hid hV1
          clear hV1 hE1 hG1 HO3 HX3 HK3 HV3 HQ3 HG3 HBB
          refine wpList_append_bytes rfl rfl Try_elemU8 rfl rfl HO1.out HK1.out (by have h1 := HLL.out; have h2 := HXL.out; simp; omega) HB4.out fun v5 w5 ho5 hg5 => ?_
          have HO5 := Lib.hid ho5
          have HX5 := Lib.hid (hg5.blk HX1.out (by decide))
          have HV5 := Lib.hid (HV4.out.grewT HS.out hg5)
          have HQ5 := Lib.hid (hg5.blk HQ4.out (by decide))
          have HG5 := Lib.hid (HG4.out.trans hg5)
          have HB5 := Lib.hid (show B ≤ w5.heap.size by have := HB4.out; have := hg5.size; omega)
          obtain ⟨l2, hl2⟩ : ∃ l2, l ++ [UInt8.ofNat xl] ++ x.key = l2 := ⟨_, rfl⟩
          have HLL2 := Lib.hid (show l2.length ≤ 2600 by have h1 := HLL.out; have h2 := HXL.out; have h3 := HK1.out.at_.hlen; rw [← hl2]; simp; omega)
          rw [hl2] at HO5 HNX
          clear ho5 hg5 HO1 HX1 HV4 HQ4 HG4 HB4 HK1 HLL hl2
          have HLL := HLL2
          have x5 := HX5.out.cells
          have y5 := HX5.out.marks
          have z5 := HX5.out.lt
          go_wp2_with fail
          clear x5 y5 z5
          refine' wp_region_seqK (OnlyS (OwnB v5)) (goes_only _) 6 [.inl _, .inl _, .inl _, .inl _, .inl _, .inr (RowV w5.heap.size [UInt8.ofNat vl]), .inr (OwnIs B 5 (l2 ++ [UInt8.ofNat vl])), .inl _, .inl _] (by kernel_rfl) (by kernel_rfl) ?main2
          case main2 =>
            refine wpPartsK_det (by decide) (by rfl) (fun W hE hN => ?_) ?_
            · go_simp; refine ⟨Below.refl _ _, ?_⟩; rfl
            simp only [Act.put, List.setIfInBounds_toArray, List.set_cons_zero, List.set_cons_succ]
            refine wpPartsK_det (by decide) (by rfl) (fun W hE hN => ?_) ?_
            · go_simp; refine ⟨Below.refl _ _, ?_⟩; rfl
            simp only [Act.put, List.setIfInBounds_toArray, List.set_cons_zero, List.set_cons_succ]
            refine wpPartsK_det (by decide) (by rfl) (fun W hE hN => ?_) ?_
            · have q := (HX5.out.onlyS hE (HO5.out.apart HX5.out (by decide))).cells; go_simp; refine ⟨Below.refl _ _, ?_⟩; rfl
            simp only [Act.put, List.setIfInBounds_toArray, List.set_cons_zero, List.set_cons_succ]
            refine wpPartsK_det (by decide) (by rfl) (fun W hE hN => ?_) ?_
            · go_simp; refine ⟨Below.refl _ _, ?_⟩; rfl
            simp only [Act.put, List.setIfInBounds_toArray, List.set_cons_zero, List.set_cons_succ]
            refine wpPartsK_det (by decide) (by rfl) (fun W hE hN => ?_) ?_
            · go_simp; refine ⟨Below.refl _ _, ?_⟩; rw [u8_wrap]
            simp only [Act.put, List.setIfInBounds_toArray, List.set_cons_zero, List.set_cons_succ]
            refine wpPartsK_any (by decide) rfl (RowV.later) (RowV.onlyB (fun b hb => (HO5.out.lt hb).2)) (by rfl) (fun W hE hN => ?_) (fun u5 => ?_)
            · have h := row_one (W := W) (t := 5) (UInt8.ofNat vl) hE.size; rw [show ((UInt8.ofNat vl).toNat : Int) = (vl : Int) % 256 by simp] at h; (go_simp <;> exact h)
            simp only [Act.put, List.setIfInBounds_toArray, List.set_cons_zero, List.set_cons_succ]
            refine wpPartsK_writes (by decide) rfl (OwnIs.later') (by rfl) (fun W hE hN => ?_) (fun u6 => ?_)
            · obtain ⟨⟨a1, n1, c1', rfl, hB⟩, _⟩ := (show RowV w5.heap.size [UInt8.ofNat vl] u5 W ∧ True from hN); exact givesK_append rfl Try_elemU8 rfl rfl (OwnIs.later' _ _ _ HO5.out hE) hB (by have h1 := hB.at_.hlen; have h2 := HLL.out; simp at h1 h2 ⊢; omega) (by have := hE.size; have := HB5.out; omega)
            simp only [Act.put, List.setIfInBounds_toArray, List.set_cons_zero, List.set_cons_succ]
            refine wpPartsK_det (by decide) (by rfl) (fun W hE hN => ?_) ?_
            · go_simp; refine ⟨Below.refl _ _, ?_⟩; rfl
            simp only [Act.put, List.setIfInBounds_toArray, List.set_cons_zero, List.set_cons_succ]
            refine wpPartsK_det (by decide) (by rfl) (fun W hE hN => ?_) ?_
            · have q := (HX5.out.onlyS hE (HO5.out.apart HX5.out (by decide))).cells; go_simp; refine ⟨Below.refl _ _, ?_⟩; rfl
            simp only [Act.put, List.setIfInBounds_toArray, List.set_cons_zero, List.set_cons_succ]
            refine wpPartsK_end fun W6 hE1 hG1 => ?_
            have HO1 := Lib.hid (show OwnIs B 5 (l2 ++ [UInt8.ofNat vl]) u6 W6 from hG1.1)
            have HX1 := Lib.hid (HX5.out.onlyS hE1 (HO5.out.apart HX5.out (by decide)))
            have HK1 := Lib.hid (HV5.out.onlyS hE1 (fun b hb e => by have := HS.out b hb; have := (HO5.out.lt e).1; omega))
            have HQ6 := Lib.hid (HQ5.out.onlyS hE1 (HO5.out.apart HQ5.out (by decide)))
            have HG6 := Lib.hid (HG5.out.trans (OnlyS.grew hE1 HO5.out))
            have HB6 := Lib.hid (show B ≤ W6.heap.size by have := HB5.out; have := hE1.size; omega)
            clear hE1 hG1 HO5 HX5 HV5 HQ5 HG5 HB5
            refine wpList_append_bytes rfl rfl Try_elemU8 rfl rfl HO1.out HK1.out (by have h1 := HLL.out; have h2 := HVL.out; simp; omega) HB6.out fun v7 w7 ho7 hg7 => ?_
            have HO7 := Lib.hid ho7
            have HX7 := Lib.hid (hg7.blk HX1.out (by decide))
            have HQ7 := Lib.hid (hg7.blk HQ6.out (by decide))
            have HG7 := Lib.hid (HG6.out.trans hg7)
            have HB7 := Lib.hid (show B ≤ w7.heap.size by have := HB6.out; have := hg7.size; omega)
            obtain ⟨l3, hl3⟩ : ∃ l3, l2 ++ [UInt8.ofNat vl] ++ x.value = l3 := ⟨_, rfl⟩
            have HLL3 := Lib.hid (show l3.length ≤ 2800 by have h1 := HLL.out; have h2 := HVL.out; have h3 := HK1.out.at_.hlen; rw [← hl3]; simp; omega)
            rw [hl3] at HO7 HNX
            clear ho7 hg7 HO1 HX1 HQ6 HG6 HB6 HK1 HLL HLL2 hl3
            have HLL := HLL3
            have x7 := HX7.out.cells
            have y7 := HX7.out.marks
            have z7 := HX7.out.lt
            obtain ⟨xi, hxi⟩ : ∃ b, x.int = b := ⟨_, rfl⟩
            rw [hxi] at HX7 HNX x7
            have HNN := Lib.hid (show IntKind.u64.wrap x.n = (((x.n % 18446744073709551616).toNat : Nat) : Int) by rw [wrap_u64, Int.toNat_of_nonneg (by omega)])
            obtain ⟨y, hy⟩ : ∃ y, (x.n % 18446744073709551616).toNat = y := ⟨_, rfl⟩
            have HYB := Lib.hid (show y < 18446744073709551616 by omega)
            rw [hy] at HNX HNN
            clear hxi hy
            cases xi with
            | true =>
              rw [if_pos rfl] at HNX
              go_wp2_with fail
              clear x7 y7 z7
              refine' wp_region_seqK (OnlyS (OwnB v7)) (goes_only _) 3 [.inl _, .inl _, .inr (RowV w7.heap.size [1]), .inr (OwnIs B 5 (l3 ++ [1])), .inl _, .inl _, .inl _, .inr (RowV w7.heap.size (highOf y 8))] (by kernel_rfl) (by kernel_rfl) ?main3
              case main3 =>
                refine wpPartsK_det (by decide) (by rfl) (fun W hE hN => ?_) ?_
                · go_simp; refine ⟨Below.refl _ _, ?_⟩; rfl
                simp only [Act.put, List.setIfInBounds_toArray, List.set_cons_zero, List.set_cons_succ]
                refine wpPartsK_det (by decide) (by rfl) (fun W hE hN => ?_) ?_
                · go_simp; refine ⟨Below.refl _ _, ?_⟩; rfl
                simp only [Act.put, List.setIfInBounds_toArray, List.set_cons_zero, List.set_cons_succ]
                refine wpPartsK_any (by decide) rfl (RowV.later) (RowV.onlyB (fun b hb => (HO7.out.lt hb).2)) (by rfl) (fun W hE hN => ?_) (fun u2 => ?_)
                · have h := row_one (W := W) (t := 5) 1 hE.size; (go_simp <;> exact h)
                simp only [Act.put, List.setIfInBounds_toArray, List.set_cons_zero, List.set_cons_succ]
                refine wpPartsK_writes (by decide) rfl (OwnIs.later') (by rfl) (fun W hE hN => ?_) (fun u3 => ?_)
                · obtain ⟨⟨a1, n1, c1', rfl, hB⟩, _⟩ := (show RowV w7.heap.size [1] u2 W ∧ True from hN); exact givesK_append rfl Try_elemU8 rfl rfl (OwnIs.later' _ _ _ HO7.out hE) hB (by have h1 := hB.at_.hlen; have h2 := HLL.out; simp at h1 h2 ⊢; omega) (by have := hE.size; have := HB7.out; omega)
                simp only [Act.put, List.setIfInBounds_toArray, List.set_cons_zero, List.set_cons_succ]
                refine wpPartsK_det (by decide) (by rfl) (fun W hE hN => ?_) ?_
                · go_simp; refine ⟨Below.refl _ _, ?_⟩; rfl
                simp only [Act.put, List.setIfInBounds_toArray, List.set_cons_zero, List.set_cons_succ]
                refine wpPartsK_det (by decide) (by rfl) (fun W hE hN => ?_) ?_
                · have q := (HX7.out.onlyS hE (HO7.out.apart HX7.out (by decide))).cells; go_simp; refine ⟨Below.refl _ _, ?_⟩; rfl
                simp only [Act.put, List.setIfInBounds_toArray, List.set_cons_zero, List.set_cons_succ]
                refine wpPartsK_det (by decide) (by rfl) (fun W hE hN => ?_) ?_
                · go_simp; refine ⟨Below.refl _ _, ?_⟩; rw [HNN.out]
                simp only [Act.put, List.setIfInBounds_toArray, List.set_cons_zero, List.set_cons_succ]
                refine wpPartsK_any (by decide) rfl (RowV.later) (RowV.onlyB (fun b hb => (HO7.out.lt hb).2)) (by rfl) (fun W hE hN => ?_) (fun u7 => ?_)
                · go_simp; refine ⟨Below.refl _ _, ?_⟩; refine (Try_high14 y 8 W (by omega) HYB.out).mono ?_; rintro e w' ⟨p, rfl, hp, hbk, hb⟩; exact ⟨_, rfl, hb, _, _, _, rfl, (blk_bytes hbk (highOf_len _ _) (by omega)).mono (fun b e => by have := hE.size; omega)⟩
                simp only [Act.put, List.setIfInBounds_toArray, List.set_cons_zero, List.set_cons_succ]
                refine wpPartsK_end fun W8 hE1 hG1 => ?_
                obtain ⟨⟨a8, n8, c8, rfl, hB8⟩, hO8, _⟩ := (show RowV w7.heap.size (highOf y 8) u7 W8 ∧ OwnIs B 5 (l3 ++ [1]) u3 W8 ∧ _ from hG1)
                have HQ8 := Lib.hid (HQ7.out.onlyS hE1 (HO7.out.apart HQ7.out (by decide)))
                have HG8 := Lib.hid (HG7.out.trans (OnlyS.grew hE1 HO7.out))
                have HB8 := Lib.hid (show B ≤ W8.heap.size by have := HB7.out; have := hE1.size; omega)
                have HR8 := Lib.hid hB8
                have HO8 := Lib.hid hO8
                clear hE1 hG1 hB8 hO8 HO7 HX7 HQ7 HG7 HB7
                refine wpList_append_bytes rfl rfl Try_elemU8 rfl rfl HO8.out HR8.out (by have h1 := HLL.out; have h2 := HR8.out.at_.hlen; rw [highOf_len] at h2; simp; omega) HB8.out fun v9 w9 ho9 hg9 => ?_
                rw [← HNX.out] at ho9
                have HO9 := Lib.hid ho9
                have HQ9 := Lib.hid (hg9.blk HQ8.out (by decide))
                have HG9 := Lib.hid (HG8.out.trans hg9)
                clear ho9 hg9 HO8 HQ8 HG8
                go_wp2_with fail
                go_roundw
                case rel => exact ⟨k + 1, HLT.out, by go_num, HO9.out, HQ9.out, HG9.out⟩
                case measure => simp [intOf]; have := HLT.out; omega
            | false =>
              rw [if_neg Bool.false_ne_true] at HNX
              go_wp2_with fail
              clear x7 y7 z7
              refine' wp_region_seqK (OnlyS (OwnB v7)) (goes_only _) 3 [.inl _, .inl _, .inr (RowV w7.heap.size [0]), .inr (OwnIs B 5 (l3 ++ [0])), .inl _, .inl _, .inl _, .inr (RowV w7.heap.size (highOf y 8))] (by kernel_rfl) (by kernel_rfl) ?main4
              case main4 =>
                refine wpPartsK_det (by decide) (by rfl) (fun W hE hN => ?_) ?_
                · go_simp; refine ⟨Below.refl _ _, ?_⟩; rfl
                simp only [Act.put, List.setIfInBounds_toArray, List.set_cons_zero, List.set_cons_succ]
                refine wpPartsK_det (by decide) (by rfl) (fun W hE hN => ?_) ?_
                · go_simp; refine ⟨Below.refl _ _, ?_⟩; rfl
                simp only [Act.put, List.setIfInBounds_toArray, List.set_cons_zero, List.set_cons_succ]
                refine wpPartsK_any (by decide) rfl (RowV.later) (RowV.onlyB (fun b hb => (HO7.out.lt hb).2)) (by rfl) (fun W hE hN => ?_) (fun u2 => ?_)
                · have h := row_one (W := W) (t := 5) 0 hE.size; (go_simp <;> exact h)
                simp only [Act.put, List.setIfInBounds_toArray, List.set_cons_zero, List.set_cons_succ]
                refine wpPartsK_writes (by decide) rfl (OwnIs.later') (by rfl) (fun W hE hN => ?_) (fun u3 => ?_)
                · obtain ⟨⟨a1, n1, c1', rfl, hB⟩, _⟩ := (show RowV w7.heap.size [0] u2 W ∧ True from hN); exact givesK_append rfl Try_elemU8 rfl rfl (OwnIs.later' _ _ _ HO7.out hE) hB (by have h1 := hB.at_.hlen; have h2 := HLL.out; simp at h1 h2 ⊢; omega) (by have := hE.size; have := HB7.out; omega)
                simp only [Act.put, List.setIfInBounds_toArray, List.set_cons_zero, List.set_cons_succ]
                refine wpPartsK_det (by decide) (by rfl) (fun W hE hN => ?_) ?_
                · go_simp; refine ⟨Below.refl _ _, ?_⟩; rfl
                simp only [Act.put, List.setIfInBounds_toArray, List.set_cons_zero, List.set_cons_succ]
                refine wpPartsK_det (by decide) (by rfl) (fun W hE hN => ?_) ?_
                · have q := (HX7.out.onlyS hE (HO7.out.apart HX7.out (by decide))).cells; go_simp; refine ⟨Below.refl _ _, ?_⟩; rfl
                simp only [Act.put, List.setIfInBounds_toArray, List.set_cons_zero, List.set_cons_succ]
                refine wpPartsK_det (by decide) (by rfl) (fun W hE hN => ?_) ?_
                · go_simp; refine ⟨Below.refl _ _, ?_⟩; rw [HNN.out]
                simp only [Act.put, List.setIfInBounds_toArray, List.set_cons_zero, List.set_cons_succ]
                refine wpPartsK_any (by decide) rfl (RowV.later) (RowV.onlyB (fun b hb => (HO7.out.lt hb).2)) (by rfl) (fun W hE hN => ?_) (fun u7 => ?_)
                · go_simp; refine ⟨Below.refl _ _, ?_⟩; refine (Try_high14 y 8 W (by omega) HYB.out).mono ?_; rintro e w' ⟨p, rfl, hp, hbk, hb⟩; exact ⟨_, rfl, hb, _, _, _, rfl, (blk_bytes hbk (highOf_len _ _) (by omega)).mono (fun b e => by have := hE.size; omega)⟩
                simp only [Act.put, List.setIfInBounds_toArray, List.set_cons_zero, List.set_cons_succ]
                refine wpPartsK_end fun W8 hE1 hG1 => ?_
                obtain ⟨⟨a8, n8, c8, rfl, hB8⟩, hO8, _⟩ := (show RowV w7.heap.size (highOf y 8) u7 W8 ∧ OwnIs B 5 (l3 ++ [0]) u3 W8 ∧ _ from hG1)
                have HQ8 := Lib.hid (HQ7.out.onlyS hE1 (HO7.out.apart HQ7.out (by decide)))
                have HG8 := Lib.hid (HG7.out.trans (OnlyS.grew hE1 HO7.out))
                have HB8 := Lib.hid (show B ≤ W8.heap.size by have := HB7.out; have := hE1.size; omega)
                have HR8 := Lib.hid hB8
                have HO8 := Lib.hid hO8
                clear hE1 hG1 hB8 hO8 HO7 HX7 HQ7 HG7 HB7
                refine wpList_append_bytes rfl rfl Try_elemU8 rfl rfl HO8.out HR8.out (by have h1 := HLL.out; have h2 := HR8.out.at_.hlen; rw [highOf_len] at h2; simp; omega) HB8.out fun v9 w9 ho9 hg9 => ?_
                rw [← HNX.out] at ho9
                have HO9 := Lib.hid ho9
                have HQ9 := Lib.hid (hg9.blk HQ8.out (by decide))
                have HG9 := Lib.hid (HG8.out.trans hg9)
                clear ho9 hg9 HO8 HQ8 HG8
                go_wp2_with fail
                go_roundw
                case rel => exact ⟨k + 1, HLT.out, by go_num, HO9.out, HQ9.out, HG9.out⟩
                case measure => simp [intOf]; have := HLT.out; omega
      · obtain rfl : k = il := by omega
        have hlt' : ¬ (k : Int) < (k : Int) := by omega
        have ho := HO.out
        rw [← HNB.out] at ho
        obtain ⟨a, c, rfl, hBy⟩ := own_bytes ho (by have := bytes_few HOK.out; omega)
        have HBY := Lib.hid hBy
        clear hlt hk ho hBy
        go_wp2
        go_ret
        exact ⟨a, _, c, rfl, HBY.out.mono (fun b h => by have := HBW.out; omega), HB0.out.trans ((HG.out.below (by rw [HBS.out]; exact Nat.le_refl _)).mono (by have := HBW.out; omega))⟩
  | false =>
    have HSP := Lib.hid (show 2 ≤ N.kids.length ∧ N.kids.all kidOk = true by
      have h := HOK.out; unfold nodeOk at h; rw [HF.out, if_neg Bool.false_ne_true] at h; simp only [Bool.and_eq_true, decide_eq_true_eq] at h; exact ⟨h.1, h.2.2.2.1⟩)
    have HALL := Lib.hid HSP.out.2
    have HNB := Lib.hid (show nodeBytes N = laidK kl N.kids kl by
      unfold nodeBytes partsOf laidK
      rw [HF.out, if_neg Bool.false_ne_true, if_neg Bool.false_ne_true, List.length_map, E2.out, List.take_of_length_le (by rw [E2.out]; exact Nat.le_refl _), List.flatMap_map]
      rfl)
    clear HSP
    go_enter Try.func18, Try.ntmps18
    go_wp2_with fail
    obtain ⟨W2, hW2⟩ : ∃ W2, (w.alloc (.cells #[.bool false, .slice ia il ic, .slice ka kl kc] 28)).alloc (.cells #[.int .u8 2, .int .u8 (kl : Int)] 5) = W2 := ⟨_, rfl⟩
    rw [HW0.out] at hW2
    have hb2 : Below W0.heap.size W0 W2 := by rw [← hW2]; exact (Below.refl _ _).alloc (Nat.le_refl _) _
    have hO2 : OwnIs B 5 (laidK kl N.kids 0) (.slice (some ⟨w.heap.size + 1, 0, none⟩) 2 2) W2 := by
      have h1 : Blk W2 (w.heap.size + 1) (u8s (laidK kl N.kids 0)) 5 := by
        rw [← hW2, show u8s (laidK kl N.kids 0) = [.int .u8 2, .int .u8 (kl : Int)] by unfold laidK u8s; simp; omega]
        exact Blk.new' _ _ _ (by rw [HBS.out, ← HBW.out])
      exact ownsRow_blk (n := 2) h1 (by rw [HBW.out]; exact Nat.le_refl _) (by rw [u8s_len]; simp [laidK]) (by unfold maxLen; omega)
    have HO2 := Lib.hid hO2
    have HQ2 := Lib.hid (HQ0.out.ext hb2)
    have HG2 := Lib.hid (show Grew B 5 W0 W2 from Grew.of_below hb2)
    have HW2 := Lib.hid hW2
    clear hW2 hb2 hO2 c0 m0 l0
    rw [HW0.out, HW2.out]
    clear HW2
    go_loopw [7, 8] (fun ov ix wr => TryRbK B w.heap.size W0 [.bool false, .slice ia il ic, .slice ka kl kc] kl N.kids ov ix wr) (fun _ ix _ => kl - (intOf ix).toNat)
    case atStart => exact ⟨0, Nat.zero_le _, rfl, HO2.out, HQ2.out, HG2.out⟩
    case round =>
      obtain ⟨k, hk, rfl, hown, hq, hgr⟩ := hrel
      have HO := Lib.hid hown
      have HQ := Lib.hid hq
      have HG := Lib.hid hgr
      have c0 := hq.cells
      have m0 := hq.marks
      have l0 := hq.lt
      clear hown hq
      by_cases hlt : k < kl
      · obtain ⟨x, hx⟩ : ∃ x, N.kids[k]? = some x := ⟨_, List.getElem?_eq_getElem (by have := E2.out; omega)⟩
        obtain ⟨b, o, xa, xl, xc, rfl, hb1, hs1, d0, d1, d2, d3, d4, d5, d6, d7, h4, h5, h6⟩ := (HN.out.kids.same (W' := wr) hgr.size (fun b h1 h2 => hgr.block b h2 (.inl (HS.out b h1)))).hat k x hx
        have HLL := Lib.hid (laidK_len (n := kl) HALL.out (by have := E2.out; omega) k)
        have hnx := laidK_succ (n := kl) hx
        have hxo := List.all_eq_true.1 HALL.out x (List.mem_of_getElem? hx)
        unfold kidOk at hxo
        simp only [Bool.and_eq_true, decide_eq_true_eq] at hxo
        have hk1 := h4.at_.hlen
        have HXL := Lib.hid (show xl ≤ 120 by omega)
        have hlt' : (k : Int) < (kl : Int) := by omega
        have HLT := Lib.hid hlt
        have hk0 : ¬ (k : Int) < 0 := by omega
        obtain ⟨l, hl⟩ : ∃ l, laidK kl N.kids k = l := ⟨_, rfl⟩
        obtain ⟨key, hkey⟩ : ∃ l, x.key = l := ⟨_, rfl⟩
        have hlo0 : 0 ≤ lo x.red.s ∧ lo x.red.s < 18446744073709551616 := by unfold lo; omega
        obtain ⟨z1, hz1⟩ : ∃ z, x.at_ = z := ⟨_, rfl⟩
        obtain ⟨z2, hz2⟩ : ∃ z, x.red.c = z := ⟨_, rfl⟩
        obtain ⟨z3, hz3⟩ : ∃ z, x.red.n = z := ⟨_, rfl⟩
        obtain ⟨z4, hz4⟩ : ∃ z, hi x.red.s = z := ⟨_, rfl⟩
        obtain ⟨z5, hz5⟩ : ∃ z, lo x.red.s = z := ⟨_, rfl⟩
        obtain ⟨z6, hz6⟩ : ∃ z, x.red.l = z := ⟨_, rfl⟩
        obtain ⟨z7, hz7⟩ : ∃ z, x.red.m = z := ⟨_, rfl⟩
        rw [hkey, hz1, hz2, hz3, hz4, hz5, hz6, hz7] at hnx
        rw [hkey] at hk1
        rw [hz1] at d1
        rw [hz2] at d2
        rw [hz3] at d3
        rw [hz4] at d4
        rw [hz5] at d5 hlo0
        rw [hz6] at d6
        rw [hz7] at d7
        obtain ⟨y1, hy1⟩ : ∃ y, (z1 % 18446744073709551616).toNat = y := ⟨_, rfl⟩
        obtain ⟨y2, hy2⟩ : ∃ y, (z2 % 18446744073709551616).toNat = y := ⟨_, rfl⟩
        obtain ⟨y3, hy3⟩ : ∃ y, (z3 % 18446744073709551616).toNat = y := ⟨_, rfl⟩
        obtain ⟨y4, hy4⟩ : ∃ y, (z4 % 18446744073709551616).toNat = y := ⟨_, rfl⟩
        obtain ⟨y5, hy5⟩ : ∃ y : Nat, z5 = (y : Int) := ⟨z5.toNat, by omega⟩
        obtain ⟨y6, hy6⟩ : ∃ y, (z6 % 18446744073709551616).toNat = y := ⟨_, rfl⟩
        obtain ⟨y7, hy7⟩ : ∃ y, (z7 % 18446744073709551616).toNat = y := ⟨_, rfl⟩
        subst hy5
        have Y1 := Lib.hid (show y1 < 18446744073709551616 by omega)
        have Y2 := Lib.hid (show y2 < 18446744073709551616 by omega)
        have Y3 := Lib.hid (show y3 < 18446744073709551616 by omega)
        have Y4 := Lib.hid (show y4 < 18446744073709551616 by omega)
        have Y5 := Lib.hid (show y5 < 18446744073709551616 by omega)
        have Y6 := Lib.hid (show y6 < 18446744073709551616 by omega)
        have Y7 := Lib.hid (show y7 < 18446744073709551616 by omega)
        rw [hl, hk1, hy1, hy2, hy3, hy4, hy6, hy7, Int.toNat_natCast] at hnx
        have HNX := Lib.hid hnx
        rw [hl] at HLL HO
        have v1 : IntKind.u64.wrap z1 = (y1 : Int) := by rw [wrap_u64]; omega
        have v2 : IntKind.u64.wrap z2 = (y2 : Int) := by rw [wrap_u64]; omega
        have v3 : IntKind.u64.wrap z3 = (y3 : Int) := by rw [wrap_u64]; omega
        have v4 : IntKind.u64.wrap z4 = (y4 : Int) := by rw [wrap_u64]; omega
        have v6 : IntKind.u64.wrap z6 = (y6 : Int) := by rw [wrap_u64]; omega
        have v7 : IntKind.u64.wrap z7 = (y7 : Int) := by rw [wrap_u64]; omega
        rw [hkey] at h4
        have HK := Lib.hid h4
        obtain ⟨w3, hw3⟩ : ∃ w3, wr.alloc (.cells #[.slice xa xl xc, .int .i64 z1, .int .i64 z2, .int .i64 z3, .int .i64 z4, .int .u64 (y5 : Int), .int .i64 z6, .int .i64 z7] 58) = w3 := ⟨_, rfl⟩
        have hb3 : Below wr.heap.size wr w3 := by rw [← hw3]; exact (Below.refl _ _).alloc (Nat.le_refl _) _
        have HX3 := Lib.hid (show Blk w3 wr.heap.size [.slice xa xl xc, .int .i64 z1, .int .i64 z2, .int .i64 z3, .int .i64 z4, .int .u64 (y5 : Int), .int .i64 z6, .int .i64 z7] 58 by rw [← hw3]; exact Blk.new wr _ _)
        have HO3 := Lib.hid (OwnIs.later' _ _ _ HO.out hb3)
        have HK3 := Lib.hid (HK.out.ext hb3)
        have HQ3 := Lib.hid (HQ.out.ext hb3)
        have HG3 := Lib.hid (HG.out.trans (Grew.of_below hb3))
        have HBB := Lib.hid (show B ≤ w3.heap.size by have := HG3.out.size; have := HBS.out; omega)
        have HW3 := Lib.hid hw3
        clear hx hxo hk1 h4 h5 h6 hs1 hk hlt hgr hw3 hb3 HO HK HQ HG hnx hl hkey hz1 hz2 hz3 hz4 hz5 hz6 hz7 hy1 hy2 hy3 hy4 hy6 hy7 hlo0
        go_wp2_with fail
        rw [HW3.out]
        clear HW3 c0 m0 l0 d0 d1 d2 d3 d4 d5 d6 d7 hb1
        refine' wp_region_seqK (OnlyS (OwnB u7)) (goes_only _) 6 [.inl _, .inl _, .inl _, .inl _, .inl _, .inr (RowV w3.heap.size [UInt8.ofNat xl]), .inr (OwnIs B 5 (l ++ [UInt8.ofNat xl])), .inl _, .inl _] (by kernel_rfl) (by kernel_rfl) ?main5
        case main5 =>
          refine wpPartsK_det (by decide) (by rfl) (fun W hE hN => ?_) ?_
          · go_simp; refine ⟨Below.refl _ _, ?_⟩; rfl
          simp only [Act.put, List.setIfInBounds_toArray, List.set_cons_zero, List.set_cons_succ]
          refine wpPartsK_det (by decide) (by rfl) (fun W hE hN => ?_) ?_
          · go_simp; refine ⟨Below.refl _ _, ?_⟩; rfl
          simp only [Act.put, List.setIfInBounds_toArray, List.set_cons_zero, List.set_cons_succ]
          refine wpPartsK_det (by decide) (by rfl) (fun W hE hN => ?_) ?_
          · have q := (HX3.out.onlyS hE (HO3.out.apart HX3.out (by decide))).cells; go_simp; refine ⟨Below.refl _ _, ?_⟩; rfl
          simp only [Act.put, List.setIfInBounds_toArray, List.set_cons_zero, List.set_cons_succ]
          refine wpPartsK_det (by decide) (by rfl) (fun W hE hN => ?_) ?_
          · go_simp; refine ⟨Below.refl _ _, ?_⟩; rfl
          simp only [Act.put, List.setIfInBounds_toArray, List.set_cons_zero, List.set_cons_succ]
          refine wpPartsK_det (by decide) (by rfl) (fun W hE hN => ?_) ?_
          · go_simp; refine ⟨Below.refl _ _, ?_⟩; rw [u8_wrap]
          simp only [Act.put, List.setIfInBounds_toArray, List.set_cons_zero, List.set_cons_succ]
          refine wpPartsK_any (by decide) rfl (RowV.later) (RowV.onlyB (fun b hb => (HO3.out.lt hb).2)) (by rfl) (fun W hE hN => ?_) (fun u5 => ?_)
          · have h := row_one (W := W) (t := 5) (UInt8.ofNat xl) hE.size; rw [show ((UInt8.ofNat xl).toNat : Int) = (xl : Int) % 256 by simp] at h; (go_simp <;> exact h)
          simp only [Act.put, List.setIfInBounds_toArray, List.set_cons_zero, List.set_cons_succ]
          refine wpPartsK_writes (by decide) rfl (OwnIs.later') (by rfl) (fun W hE hN => ?_) (fun u6 => ?_)
          · obtain ⟨⟨a1, n1, c1', rfl, hB⟩, _⟩ := (show RowV w3.heap.size [UInt8.ofNat xl] u5 W ∧ True from hN); exact givesK_append rfl Try_elemU8 rfl rfl (OwnIs.later' _ _ _ HO3.out hE) hB (by have h1 := hB.at_.hlen; have h2 := HLL.out; simp at h1 h2 ⊢; omega) (by have := hE.size; have := HBB.out; omega)
          simp only [Act.put, List.setIfInBounds_toArray, List.set_cons_zero, List.set_cons_succ]
          refine wpPartsK_det (by decide) (by rfl) (fun W hE hN => ?_) ?_
          · go_simp; refine ⟨Below.refl _ _, ?_⟩; rfl
          simp only [Act.put, List.setIfInBounds_toArray, List.set_cons_zero, List.set_cons_succ]
          refine wpPartsK_det (by decide) (by rfl) (fun W hE hN => ?_) ?_
          · have q := (HX3.out.onlyS hE (HO3.out.apart HX3.out (by decide))).cells; go_simp; refine ⟨Below.refl _ _, ?_⟩; rfl
          simp only [Act.put, List.setIfInBounds_toArray, List.set_cons_zero, List.set_cons_succ]
          refine wpPartsK_end fun W4 hE1 hG1 => ?_
          have HO1 := Lib.hid (show OwnIs B 5 (l ++ [UInt8.ofNat xl]) u6 W4 from hG1.1)
          have HX1 := Lib.hid (HX3.out.onlyS hE1 (HO3.out.apart HX3.out (by decide)))
          have HK1 := Lib.hid (HK3.out.onlyS hE1 (fun b hb e => by have := HS.out b hb; have := (HO3.out.lt e).1; omega))
          have HQ4 := Lib.hid (HQ3.out.onlyS hE1 (HO3.out.apart HQ3.out (by decide)))
          have HG4 := Lib.hid (HG3.out.trans (OnlyS.grew hE1 HO3.out))
          have HB4 := Lib.hid (show B ≤ W4.heap.size by have := HBB.out; have := hE1.size; omega)
          clear hE1 hG1 HO3 HX3 HK3 HQ3 HG3 HBB
          refine wpList_append_bytes rfl rfl Try_elemU8 rfl rfl HO1.out HK1.out (by have h1 := HLL.out; have h2 := HXL.out; simp; omega) HB4.out fun v5 w5 ho5 hg5 => ?_
          obtain ⟨l2, hl2⟩ : ∃ l2, l ++ [UInt8.ofNat xl] ++ key = l2 := ⟨_, rfl⟩
          have HLL2 := Lib.hid (show l2.length ≤ 2600 by have h1 := HLL.out; have h2 := HXL.out; have h3 := HK1.out.at_.hlen; rw [← hl2]; simp; omega)
          rw [hl2] at ho5 HNX
          have HO := Lib.hid ho5
          have HX := Lib.hid (hg5.blk HX1.out (by decide))
          have HQ := Lib.hid (hg5.blk HQ4.out (by decide))
          have HG := Lib.hid (HG4.out.trans hg5)
          have HB := Lib.hid (show B ≤ w5.heap.size by have := HB4.out; have := hg5.size; omega)
          clear ho5 hg5 HO1 HX1 HQ4 HG4 HB4 HK1 HLL hl2
          have HLL := HLL2
          clear HLL2
          have x5 := HX.out.cells
          have y5' := HX.out.marks
          have z5' := HX.out.lt
          go_wp2_with fail
          (with_reducible refine (Try_high14_4 y1 _ Y1.out).mono ?_); rintro e wa ⟨p, rfl, hp, hbk, hb⟩
          have HR := Lib.hid (blk_bytes hbk (highOf_len _ _) (by omega))
          have HOa := Lib.hid (OwnIs.later' _ _ _ HO.out hb)
          have HXa := Lib.hid (HX.out.ext hb)
          have HQa := Lib.hid (HQ.out.ext hb)
          have HGa := Lib.hid (HG.out.trans (Grew.of_below hb))
          have HBa := Lib.hid (show B ≤ wa.heap.size by have := HB.out; have := hb.size; omega)
          obtain ⟨l3, hln⟩ : ∃ z, l2 ++ highOf y1 4 = z := ⟨_, rfl⟩
          have HLLa := Lib.hid (show l3.length ≤ 2610 by have h1 := HLL.out; have h2 := highOf_len y1 4; rw [← hln]; simp only [List.length_append]; omega)
          rw [hln] at HNX
          have HLN := Lib.hid hln
          clear hp hbk hb hln HO HX HQ HG HB x5 y5' z5'
          go_wp2_with (at_builtin; refine wpList_append_bytes rfl rfl Try_elemU8 rfl rfl HOa.out HR.out (by have h1 := HLL.out; omega) HBa.out ?_; intro vb wb hob hgb; rw [HLN.out] at hob; have HO := Lib.hid hob; have HX := Lib.hid (hgb.blk HXa.out (by decide)); have HQ := Lib.hid (hgb.blk HQa.out (by decide)); have HG := Lib.hid (HGa.out.trans hgb); have HB := Lib.hid (show B ≤ wb.heap.size by have := HBa.out; have := hgb.size; omega); have qa1 := HX.out.cells; have qa2 := HX.out.marks; have qa3 := HX.out.lt; clear hob hgb HOa HXa HQa HGa HBa HR HLN)
          have HLL := HLLa
          clear HLLa
          (with_reducible refine (Try_high14_4 y2 _ Y2.out).mono ?_); rintro e wa ⟨p, rfl, hp, hbk, hb⟩
          have HR := Lib.hid (blk_bytes hbk (highOf_len _ _) (by omega))
          have HOa := Lib.hid (OwnIs.later' _ _ _ HO.out hb)
          have HXa := Lib.hid (HX.out.ext hb)
          have HQa := Lib.hid (HQ.out.ext hb)
          have HGa := Lib.hid (HG.out.trans (Grew.of_below hb))
          have HBa := Lib.hid (show B ≤ wa.heap.size by have := HB.out; have := hb.size; omega)
          obtain ⟨l4, hln⟩ : ∃ z, l3 ++ highOf y2 4 = z := ⟨_, rfl⟩
          have HLLa := Lib.hid (show l4.length ≤ 2620 by have h1 := HLL.out; have h2 := highOf_len y2 4; rw [← hln]; simp only [List.length_append]; omega)
          rw [hln] at HNX
          have HLN := Lib.hid hln
          clear hp hbk hb hln HO HX HQ HG HB qa1 qa2 qa3
          go_wp2_with (at_builtin; refine wpList_append_bytes rfl rfl Try_elemU8 rfl rfl HOa.out HR.out (by have h1 := HLL.out; omega) HBa.out ?_; intro vb wb hob hgb; rw [HLN.out] at hob; have HO := Lib.hid hob; have HX := Lib.hid (hgb.blk HXa.out (by decide)); have HQ := Lib.hid (hgb.blk HQa.out (by decide)); have HG := Lib.hid (HGa.out.trans hgb); have HB := Lib.hid (show B ≤ wb.heap.size by have := HBa.out; have := hgb.size; omega); have qb1 := HX.out.cells; have qb2 := HX.out.marks; have qb3 := HX.out.lt; clear hob hgb HOa HXa HQa HGa HBa HR HLN)
          have HLL := HLLa
          clear HLLa
          (with_reducible refine (Try_high14_4 y3 _ Y3.out).mono ?_); rintro e wa ⟨p, rfl, hp, hbk, hb⟩
          have HR := Lib.hid (blk_bytes hbk (highOf_len _ _) (by omega))
          have HOa := Lib.hid (OwnIs.later' _ _ _ HO.out hb)
          have HXa := Lib.hid (HX.out.ext hb)
          have HQa := Lib.hid (HQ.out.ext hb)
          have HGa := Lib.hid (HG.out.trans (Grew.of_below hb))
          have HBa := Lib.hid (show B ≤ wa.heap.size by have := HB.out; have := hb.size; omega)
          obtain ⟨l5, hln⟩ : ∃ z, l4 ++ highOf y3 4 = z := ⟨_, rfl⟩
          have HLLa := Lib.hid (show l5.length ≤ 2630 by have h1 := HLL.out; have h2 := highOf_len y3 4; rw [← hln]; simp only [List.length_append]; omega)
          rw [hln] at HNX
          have HLN := Lib.hid hln
          clear hp hbk hb hln HO HX HQ HG HB qb1 qb2 qb3
          go_wp2_with (at_builtin; refine wpList_append_bytes rfl rfl Try_elemU8 rfl rfl HOa.out HR.out (by have h1 := HLL.out; omega) HBa.out ?_; intro vb wb hob hgb; rw [HLN.out] at hob; have HO := Lib.hid hob; have HX := Lib.hid (hgb.blk HXa.out (by decide)); have HQ := Lib.hid (hgb.blk HQa.out (by decide)); have HG := Lib.hid (HGa.out.trans hgb); have HB := Lib.hid (show B ≤ wb.heap.size by have := HBa.out; have := hgb.size; omega); have qc1 := HX.out.cells; have qc2 := HX.out.marks; have qc3 := HX.out.lt; clear hob hgb HOa HXa HQa HGa HBa HR HLN)
          have HLL := HLLa
          clear HLLa
          (with_reducible refine (Try_high14_8 y4 _ Y4.out).mono ?_); rintro e wa ⟨p, rfl, hp, hbk, hb⟩
          have HR := Lib.hid (blk_bytes hbk (highOf_len _ _) (by omega))
          have HOa := Lib.hid (OwnIs.later' _ _ _ HO.out hb)
          have HXa := Lib.hid (HX.out.ext hb)
          have HQa := Lib.hid (HQ.out.ext hb)
          have HGa := Lib.hid (HG.out.trans (Grew.of_below hb))
          have HBa := Lib.hid (show B ≤ wa.heap.size by have := HB.out; have := hb.size; omega)
          obtain ⟨l6, hln⟩ : ∃ z, l5 ++ highOf y4 8 = z := ⟨_, rfl⟩
          have HLLa := Lib.hid (show l6.length ≤ 2640 by have h1 := HLL.out; have h2 := highOf_len y4 8; rw [← hln]; simp only [List.length_append]; omega)
          rw [hln] at HNX
          have HLN := Lib.hid hln
          clear hp hbk hb hln HO HX HQ HG HB qc1 qc2 qc3
          go_wp2_with (at_builtin; refine wpList_append_bytes rfl rfl Try_elemU8 rfl rfl HOa.out HR.out (by have h1 := HLL.out; omega) HBa.out ?_; intro vb wb hob hgb; rw [HLN.out] at hob; have HO := Lib.hid hob; have HX := Lib.hid (hgb.blk HXa.out (by decide)); have HQ := Lib.hid (hgb.blk HQa.out (by decide)); have HG := Lib.hid (HGa.out.trans hgb); have HB := Lib.hid (show B ≤ wb.heap.size by have := HBa.out; have := hgb.size; omega); have qd1 := HX.out.cells; have qd2 := HX.out.marks; have qd3 := HX.out.lt; clear hob hgb HOa HXa HQa HGa HBa HR HLN)
          have HLL := HLLa
          clear HLLa
          (with_reducible refine (Try_high14_8 y5 _ Y5.out).mono ?_); rintro e wa ⟨p, rfl, hp, hbk, hb⟩
          have HR := Lib.hid (blk_bytes hbk (highOf_len _ _) (by omega))
          have HOa := Lib.hid (OwnIs.later' _ _ _ HO.out hb)
          have HXa := Lib.hid (HX.out.ext hb)
          have HQa := Lib.hid (HQ.out.ext hb)
          have HGa := Lib.hid (HG.out.trans (Grew.of_below hb))
          have HBa := Lib.hid (show B ≤ wa.heap.size by have := HB.out; have := hb.size; omega)
          obtain ⟨l7, hln⟩ : ∃ z, l6 ++ highOf y5 8 = z := ⟨_, rfl⟩
          have HLLa := Lib.hid (show l7.length ≤ 2650 by have h1 := HLL.out; have h2 := highOf_len y5 8; rw [← hln]; simp only [List.length_append]; omega)
          rw [hln] at HNX
          have HLN := Lib.hid hln
          clear hp hbk hb hln HO HX HQ HG HB qd1 qd2 qd3
          go_wp2_with (at_builtin; refine wpList_append_bytes rfl rfl Try_elemU8 rfl rfl HOa.out HR.out (by have h1 := HLL.out; omega) HBa.out ?_; intro vb wb hob hgb; rw [HLN.out] at hob; have HO := Lib.hid hob; have HX := Lib.hid (hgb.blk HXa.out (by decide)); have HQ := Lib.hid (hgb.blk HQa.out (by decide)); have HG := Lib.hid (HGa.out.trans hgb); have HB := Lib.hid (show B ≤ wb.heap.size by have := HBa.out; have := hgb.size; omega); have qe1 := HX.out.cells; have qe2 := HX.out.marks; have qe3 := HX.out.lt; clear hob hgb HOa HXa HQa HGa HBa HR HLN)
          have HLL := HLLa
          clear HLLa
          (with_reducible refine (Try_high14_8 y6 _ Y6.out).mono ?_); rintro e wa ⟨p, rfl, hp, hbk, hb⟩
          have HR := Lib.hid (blk_bytes hbk (highOf_len _ _) (by omega))
          have HOa := Lib.hid (OwnIs.later' _ _ _ HO.out hb)
          have HXa := Lib.hid (HX.out.ext hb)
          have HQa := Lib.hid (HQ.out.ext hb)
          have HGa := Lib.hid (HG.out.trans (Grew.of_below hb))
          have HBa := Lib.hid (show B ≤ wa.heap.size by have := HB.out; have := hb.size; omega)
          obtain ⟨l8, hln⟩ : ∃ z, l7 ++ highOf y6 8 = z := ⟨_, rfl⟩
          have HLLa := Lib.hid (show l8.length ≤ 2660 by have h1 := HLL.out; have h2 := highOf_len y6 8; rw [← hln]; simp only [List.length_append]; omega)
          rw [hln] at HNX
          have HLN := Lib.hid hln
          clear hp hbk hb hln HO HX HQ HG HB qe1 qe2 qe3
          go_wp2_with (at_builtin; refine wpList_append_bytes rfl rfl Try_elemU8 rfl rfl HOa.out HR.out (by have h1 := HLL.out; omega) HBa.out ?_; intro vb wb hob hgb; rw [HLN.out] at hob; have HO := Lib.hid hob; have HX := Lib.hid (hgb.blk HXa.out (by decide)); have HQ := Lib.hid (hgb.blk HQa.out (by decide)); have HG := Lib.hid (HGa.out.trans hgb); have HB := Lib.hid (show B ≤ wb.heap.size by have := HBa.out; have := hgb.size; omega); have qf1 := HX.out.cells; have qf2 := HX.out.marks; have qf3 := HX.out.lt; clear hob hgb HOa HXa HQa HGa HBa HR HLN)
          have HLL := HLLa
          clear HLLa
          (with_reducible refine (Try_high14_8 y7 _ Y7.out).mono ?_); rintro e wa ⟨p, rfl, hp, hbk, hb⟩
          have HR := Lib.hid (blk_bytes hbk (highOf_len _ _) (by omega))
          have HOa := Lib.hid (OwnIs.later' _ _ _ HO.out hb)
          have HXa := Lib.hid (HX.out.ext hb)
          have HQa := Lib.hid (HQ.out.ext hb)
          have HGa := Lib.hid (HG.out.trans (Grew.of_below hb))
          have HBa := Lib.hid (show B ≤ wa.heap.size by have := HB.out; have := hb.size; omega)
          obtain ⟨l9, hln⟩ : ∃ z, l8 ++ highOf y7 8 = z := ⟨_, rfl⟩
          have HLLa := Lib.hid (show l9.length ≤ 2670 by have h1 := HLL.out; have h2 := highOf_len y7 8; rw [← hln]; simp only [List.length_append]; omega)
          rw [hln] at HNX
          have HLN := Lib.hid hln
          clear hp hbk hb hln HO HX HQ HG HB qf1 qf2 qf3
          go_wp2_with (at_builtin; refine wpList_append_bytes rfl rfl Try_elemU8 rfl rfl HOa.out HR.out (by have h1 := HLL.out; omega) HBa.out ?_; intro vb wb hob hgb; rw [HLN.out] at hob; have HO := Lib.hid hob; have HX := Lib.hid (hgb.blk HXa.out (by decide)); have HQ := Lib.hid (hgb.blk HQa.out (by decide)); have HG := Lib.hid (HGa.out.trans hgb); have HB := Lib.hid (show B ≤ wb.heap.size by have := HBa.out; have := hgb.size; omega); have qg1 := HX.out.cells; have qg2 := HX.out.marks; have qg3 := HX.out.lt; clear hob hgb HOa HXa HQa HGa HBa HR HLN)
          have HLL := HLLa
          clear HLLa
          go_roundw
          case rel => exact ⟨k + 1, HLT.out, by go_num, by rw [HNX.out]; exact HO.out, HQ.out, HG.out⟩
          case measure => simp [intOf]; have := HLT.out; omega
      · obtain rfl : k = kl := by omega
        have hlt' : ¬ (k : Int) < (k : Int) := by omega
        have ho := HO.out
        rw [← HNB.out] at ho
        obtain ⟨a, c, rfl, hBy⟩ := own_bytes ho (by have := bytes_few HOK.out; omega)
        have HBY := Lib.hid hBy
        clear hlt hk ho hBy
        go_wp2
        go_ret
        exact ⟨a, _, c, rfl, HBY.out.mono (fun b h => by have := HBW.out; omega), HB0.out.trans ((HG.out.below (by rw [HBS.out]; exact Nat.le_refl _)).mono (by have := HBW.out; omega))⟩
end Go.Proofs.Ytfhhcpolicdfpaa
