/-
  The reference of layer 14: First and Red of right nodes, walked.
-/
import Derived.Test.YtfhhcpolicdfpaaQNodBE
namespace Go.Dav
set_option linter.unusedVariables false
set_option linter.unusedSimpArgs false
open Go Go.RowKit
def kidsFrom (R : Red) (l : List KidD) (k : Nat) : Red := ((l.take k).map (·.red)).foldl Red.both R
theorem kidsFrom_succ {R : Red} {l : List KidD} {k : Nat} {x : KidD} (h : l[k]? = some x) : kidsFrom R l (k + 1) = (kidsFrom R l k).both x.red := by
  unfold kidsFrom; rw [List.take_add_one, h, List.map_append, List.foldl_append]; rfl
theorem KidsS.ext1 {W W' : World} {S : Nat → Prop} {a : Option Addr} {len cap : Nat} {l : List KidD} (h : KidsS W S a len cap l) (hb : Below W.heap.size W W') : KidsS W' S a len cap l := h.same hb.size fun b _ h2 => hb.block b h2
theorem kidsFrom_spec {N : NodeD} (hok : nodeOk N = true) (hf : nodeFine N) :
    kidsFrom (rowsTo' N.items N.items.length) N.kids 0 = rowsTo' N.items N.items.length ∧ (redN N).1 = kidsFrom (rowsTo' N.items N.items.length) N.kids N.kids.length ∧
    ∀ k x, N.kids[k]? = some x → (0 ≤ (kidsFrom (rowsTo' N.items N.items.length) N.kids k).n ∧ (kidsFrom (rowsTo' N.items N.items.length) N.kids k).n ≤ (kidsFrom (rowsTo' N.items N.items.length) N.kids k).c ∧ (kidsFrom (rowsTo' N.items N.items.length) N.kids k).c ≤ 7516192768 ∧ (kidsFrom (rowsTo' N.items N.items.length) N.kids k).blank) ∧
      (0 ≤ x.red.n ∧ x.red.n ≤ x.red.c ∧ x.red.c ≤ 7516192768) ∧ (x.red.n = 0 → x.red.s = 0) := by
  obtain ⟨h1, h2⟩ := refRed_eq hok hf.1
  refine ⟨by simp [kidsFrom], ?_, fun k x hx => ?_⟩
  · cases hl : N.leaf with
    | true =>
      obtain ⟨e1, e2⟩ := h1 hl
      rw [e2, e1]; simp [kidsFrom]
    | false =>
      obtain ⟨e1, e2⟩ := h2 hl
      rw [e2, e1]; rfl
  · cases hl : N.leaf with
    | true =>
      obtain ⟨e1, _⟩ := h1 hl
      rw [e1] at hx; simp at hx
    | false =>
      obtain ⟨e1, _⟩ := h2 hl
      have hsp := nodeOk_check hok
      have hall : N.kids.all kidOk = true := by
        rw [List.all_eq_true]; intro y hy
        have := hsp.2.2.2 (.inr y) (by unfold partsOf; rw [hl, if_neg Bool.false_ne_true]; exact List.mem_map.2 ⟨y, hy, rfl⟩)
        rw [← kidOk_p]; exact this
      have h6 := (shape_few hsp.1).2.1
      have hk := (List.getElem?_eq_some_iff.1 hx).1
      obtain ⟨g1, g2, g3, g4⟩ := kidsRed_fine hall k (by omega)
      have g5 := countTo_le hall h6 k (by omega)
      have ho := List.all_eq_true.1 hall x (List.mem_of_getElem? hx)
      unfold kidOk at ho
      simp only [Bool.and_eq_true, decide_eq_true_eq] at ho
      have hr := Red.ok_spec ho.2.2.2.2.2
      have hfx := hf.2 x (List.mem_of_getElem? hx)
      have hkf : kidsFrom (rowsTo' N.items N.items.length) N.kids k = kidsRed N.kids k := by rw [e1]; rfl
      rw [hkf]
      exact ⟨⟨g2, g3, by omega, g4⟩, ⟨hr.1, hr.2.1, by omega⟩, fun h0 => Red.ok_zero ho.2.2.2.2.2 hfx.2.2 h0⟩
end Go.Dav
namespace Go.Proofs.Ytfhhcpolicdfpaa
set_option linter.unusedVariables false
set_option linter.unusedSimpArgs false
open Go.RowKit Go.Dav
attribute [local go_sem] Gives ite_val ite_val_true
def TryRRd (w : World) (p3 : Nat) (cs : List Value) (R : Red) (l : List KidD) (n : Nat) (ix : Value) (wr : World) : Prop :=
  ∃ k : Nat, k ≤ n ∧ ix = .int .i64 k ∧ Blk wr w.heap.size cs 28 ∧ Blk wr (w.heap.size + 1) zeroR 47 ∧ Blk wr p3 (kidsFrom R l k).cells 47 ∧ Below w.heap.size w wr
set_option maxRecDepth 8000 in
set_option maxHeartbeats 8000000 in
theorem Try_rRed (N : NodeD) (ia ka : Option Addr) (il ic kl kc : Nat) (S : Nat → Prop) (w : World) (hN : NodeS w S ia il ic ka kl kc N) (hok : nodeOk N = true) (hf : nodeFine N) :
    Calls Try.prog 32 #[.agg #[.bool N.leaf, .slice ia il ic, .slice ka kl kc]] w fun e w' => e = .returned (redV (redN N).1) ∧ Below w.heap.size w w' := by
  obtain ⟨f, hfl⟩ : ∃ f, N.leaf = f := ⟨_, rfl⟩
  rw [hfl]
  have h6 := (shape_few (nodeOk_check hok).1)
  obtain ⟨s1, s2, s3⟩ := kidsFrom_spec hok hf
  have e1 := hN.items.hlen
  have e2 := hN.kids.hlen
  rw [e1] at s1 s2 s3
  rw [e2] at s2
  rw [s2]
  have b1 : il ≤ 6 := by omega
  have b2 : (kl : Int) ≤ 6 := by omega
  have hb0 : Below w.heap.size w ((w.alloc (.cells #[.bool f, .slice ia il ic, .slice ka kl kc] 28)).alloc (.cells #[.int .i64 0, .int .i64 0, .int .i64 0, .int .u64 0, .int .i64 0, .int .i64 0] 47)) := (by repeat (first | (with_reducible exact Below.refl _ _) | (with_reducible exact Below.refl _ _) | (with_reducible refine Below.setCell ?_ (by first | omega | (simp; done) | (simp; omega)) _) | (with_reducible refine Below.alloc ?_ (by first | omega | (simp; done) | (simp; omega)) _) | (with_reducible refine Below.drew ?_) | (with_reducible refine below_drewN ?_ _)))
  have HQ0 := Lib.hid ((Blk.new w [.bool f, .slice ia il ic, .slice ka kl kc] 28).alloc (.cells #[.int .i64 0, .int .i64 0, .int .i64 0, .int .u64 0, .int .i64 0, .int .i64 0] 47))
  have HZ0 := Lib.hid (Blk.new' (w.alloc (.cells #[.bool f, .slice ia il ic, .slice ka kl kc] 28)) zeroR 47 (p := w.heap.size + 1) (by simp))
  have HN := Lib.hid hN
  have HB0 := Lib.hid hb0
  have HA := Lib.hid (Try_rAll ia il ic N.items S _ (hN.ext hb0).items b1)
  have E2 := Lib.hid e2
  have S1 := Lib.hid s1
  have S3 := Lib.hid s3
  clear hN hok hf h6 s1 s2 s3 e1 e2 b1 hb0 hfl
  go_enter Try.func32, Try.ntmps32
  go_wp2_with fail
  (with_reducible refine HA.out.mono ?_); rintro e w1 ⟨rfl, hb1⟩
  obtain ⟨R, hR⟩ : ∃ R, rowsTo' N.items il = R := ⟨_, rfl⟩
  rw [hR] at S1 S3 ⊢
  have HR := Lib.hid hR
  have hs1 : w.heap.size + 2 ≤ w1.heap.size := by have := hb1.size; simp at this; omega
  obtain ⟨w2, hw2⟩ : ∃ w2, w1.alloc (.cells #[.int .i64 R.c, .int .i64 R.n, .int .i64 (hi R.s), .int .u64 (lo R.s), .int .i64 R.l, .int .i64 R.m] 47) = w2 := ⟨_, rfl⟩
  have hb2 : Below w1.heap.size w1 w2 := by rw [← hw2]; exact (by repeat (first | (with_reducible exact Below.refl _ _) | (with_reducible exact Below.refl _ _) | (with_reducible refine Below.setCell ?_ (by first | omega | (simp; done) | (simp; omega)) _) | (with_reducible refine Below.alloc ?_ (by first | omega | (simp; done) | (simp; omega)) _) | (with_reducible refine Below.drew ?_) | (with_reducible refine below_drewN ?_ _)))
  have K3 : Blk w2 w1.heap.size R.cells 47 := by rw [← hw2]; exact Blk.new w1 _ _
  have hb12 := hb1.trans (hb2.mono hb1.size)
  have HQ2 := Lib.hid ((HQ0.out.ext hb12))
  have HZ2 := Lib.hid ((HZ0.out.ext hb12))
  have HB2 := Lib.hid (HB0.out.trans (hb12.mono HB0.out.size))
  have HK3 := Lib.hid K3
  have q0 := HQ0.out.ext hb1
  have c0 := q0.cells
  have l0 := q0.lt
  have HW2 := Lib.hid hw2
  clear hw2 hb2 K3 hb12 hb1 HA HQ0 HZ0 HB0 hR q0
  simp only [redV]
  go_wp2_with fail
  rw [HW2.out]
  clear HW2 c0 l0
  obtain ⟨p3, hp3⟩ : ∃ p, w1.heap.size = p := ⟨_, rfl⟩
  rw [hp3] at HK3 hs1 ⊢
  clear hp3
  go_loopw [4] (fun ix wr => TryRRd w p3 [.bool f, .slice ia il ic, .slice ka kl kc] R N.kids kl ix wr) (fun ix _ => kl - (intOf ix).toNat)
  case atStart => exact ⟨0, Nat.zero_le _, rfl, HQ2.out, HZ2.out, by rw [S1.out]; exact HK3.out, HB2.out⟩
  case round =>
    obtain ⟨k, hk, rfl, hq, hz, h3, hbel⟩ := hrel
    have HB := Lib.hid hbel
    have HQ := Lib.hid hq
    have HZ := Lib.hid hz
    have HT := Lib.hid h3
    have c0 := hq.cells
    have l0 := hq.lt
    have c3 := h3.cells
    have m3 := h3.marks
    have l3 := h3.lt
    have lz := hz.lt
    simp only [Red.cells] at c3
    by_cases hlt : k < kl
    · obtain ⟨x, hx⟩ : ∃ x, N.kids[k]? = some x := ⟨_, List.getElem?_eq_getElem (by have := E2.out; omega)⟩
      obtain ⟨b, o, xa, xl, xc, rfl, hb1, hsb, d0, d1, d2, d3, d4, d5, d6, d7, h4, h5, h6⟩ := (HN.out.ext hbel).kids.hat k x hx
      have hlt' : (k : Int) < (kl : Int) := by omega
      have HLT := Lib.hid hlt
      have hk0 : ¬ (k : Int) < 0 := by omega
      obtain ⟨t1, t2, t3⟩ := S3.out k x hx
      have HBT := Lib.hid (fun W => Try_rBothR (kidsFrom R N.kids k) x.red W t1 t2 t3)
      have HNX := Lib.hid (kidsFrom_succ (R := R) hx)
      obtain ⟨A, hA⟩ : ∃ A, kidsFrom R N.kids k = A := ⟨_, rfl⟩
      obtain ⟨B, hB⟩ : ∃ B, x.red = B := ⟨_, rfl⟩
      rw [hA] at c3 HBT HNX HT
      rw [hB] at HBT HNX d2 d3 d4 d5 d6 d7
      clear t1 t2 t3 h4 h5 h6 hsb hx hk hlt hbel hq hz h3 hA hB d0 d1
      go_wp2_with fail
      refine' wp_region_seq [.inl _, .inl _, .inl _, .inl _, .inl _, .inl _, .inl _, .inl _] (by kernel_rfl) (by kernel_rfl) ?main1
      case main1 =>
        refine wpParts_det (by rfl) (fun W hE hN => ?_) ?_
        · have hc := fun b o h => hE.cell (p := ⟨b, o, none⟩) h
          go_simp; refine ⟨Below.refl _ _, ?_⟩; rfl
        simp only [Act.put, List.setIfInBounds_toArray, List.set_cons_zero, List.set_cons_succ]
        refine wpParts_det (by rfl) (fun W hE hN => ?_) ?_
        · go_simp; refine ⟨Below.refl _ _, ?_⟩; rfl
        simp only [Act.put, List.setIfInBounds_toArray, List.set_cons_zero, List.set_cons_succ]
        refine wpParts_det (by rfl) (fun W hE hN => ?_) ?_
        · have hc := fun b o h => hE.cell (p := ⟨b, o, none⟩) h
          go_simp; refine ⟨Below.refl _ _, ?_⟩; rfl
        simp only [Act.put, List.setIfInBounds_toArray, List.set_cons_zero, List.set_cons_succ]
        refine wpParts_det (by rfl) (fun W hE hN => ?_) ?_
        · go_simp; refine ⟨Below.refl _ _, ?_⟩; rfl
        simp only [Act.put, List.setIfInBounds_toArray, List.set_cons_zero, List.set_cons_succ]
        refine wpParts_det (by rfl) (fun W hE hN => ?_) ?_
        · go_simp; refine ⟨Below.refl _ _, ?_⟩; rfl
        simp only [Act.put, List.setIfInBounds_toArray, List.set_cons_zero, List.set_cons_succ]
        refine wpParts_det (by rfl) (fun W hE hN => ?_) ?_
        · go_simp; refine ⟨Below.refl _ _, ?_⟩; rfl
        simp only [Act.put, List.setIfInBounds_toArray, List.set_cons_zero, List.set_cons_succ]
        refine wpParts_det (by rfl) (fun W hE hN => ?_) ?_
        · have hc := fun b o h => hE.cell (p := ⟨b, o, none⟩) h
          go_simp; refine ⟨Below.refl _ _, ?_⟩; rfl
        simp only [Act.put, List.setIfInBounds_toArray, List.set_cons_zero, List.set_cons_succ]
        refine wpParts_det (by rfl) (fun W hE hN => ?_) ?_
        · go_simp; refine ⟨Below.refl _ _, ?_⟩; refine (HBT.out W).mono ?_; rintro e w' ⟨rfl, hb⟩; refine ⟨?_, hb⟩; rfl
        simp only [Act.put, List.setIfInBounds_toArray, List.set_cons_zero, List.set_cons_succ]
        refine wpParts_end fun W1 hE1 hG1 => ?_
        have hcW1 := fun b o h => hE1.cell (p := ⟨b, o, none⟩) h
        have hfW1 := fun b o h => hE1.frozen (p := ⟨b, o, none⟩) h
        have HB1 := Lib.hid (HB.out.trans (hE1.mono HB.out.size))
        have hp1 := HQ.out.ext hE1
        have hz1 := HZ.out.ext hE1
        have ho1 := HT.out.ext hE1
        have q1 := ho1.cells
        have qm := ho1.marks
        have ql := ho1.lt
        have HP1 := Lib.hid hp1
        have HZ1 := Lib.hid hz1
        have HO1 := Lib.hid ho1
        have hs3 := hs1
        simp only [redV, Red.cells] at *
        clear hE1 hG1 c3 m3 l3 lz l0 c0 hcW1 hfW1 hz1 ho1 hp1
        go_wp2_with fail
        go_roundw
        case rel =>
          refine ⟨k + 1, HLT.out, by go_num, ?_, ?_, ?_, ?_⟩
          · exact (((((HP1.out.other (by omega) _ _).other (by omega) _ _).other (by omega) _ _).other (by omega) _ _).other (by omega) _ _).other (by omega) _ _
          · exact (((((HZ1.out.other (by omega) _ _).other (by omega) _ _).other (by omega) _ _).other (by omega) _ _).other (by omega) _ _).other (by omega) _ _
          · rw [HNX.out]
            exact (((((HO1.out.set 0 _).set 1 _).set 2 _).set 3 _).set 4 _).set 5 _
          · have h := HB1.out; exact (by repeat (first | (with_reducible exact Below.refl _ _) | (with_reducible exact Below.refl _ _) | (with_reducible refine Below.setCell ?_ (by first | omega | (simp; done) | (simp; omega)) _) | (with_reducible refine Below.alloc ?_ (by first | omega | (simp; done) | (simp; omega)) _) | (with_reducible refine Below.drew ?_) | (with_reducible refine below_drewN ?_ _) | (with_reducible refine Below.trans ?_ (h.mono (by first | omega | (simp; done) | (simp; omega))))))
        case measure => simp [intOf]; have := HLT.out; omega
    · obtain rfl : k = kl := by omega
      have hlt' : ¬ (k : Int) < (k : Int) := by omega
      have oc := hz.cells
      have om := hz.marks
      unfold zeroR at oc
      obtain ⟨A, hA⟩ : ∃ A, kidsFrom R N.kids k = A := ⟨_, rfl⟩
      have HA := Lib.hid hA
      rw [hA] at c3
      clear hlt hk hq hz h3 hbel HT hA
      go_wp2_with fail
      refine bodyPost_ret (v := redV A) (by simp [results, Try.results32, go_sem, redV, *]) rfl ⟨by rw [HR.out, HA.out], ?_⟩
      have h := HB.out; exact (by repeat (first | (with_reducible exact Below.refl _ _) | (with_reducible exact Below.refl _ _) | (with_reducible refine Below.setCell ?_ (by first | omega | (simp; done) | (simp; omega)) _) | (with_reducible refine Below.alloc ?_ (by first | omega | (simp; done) | (simp; omega)) _) | (with_reducible refine Below.drew ?_) | (with_reducible refine below_drewN ?_ _) | (with_reducible refine Below.trans ?_ (h.mono (by first | omega | (simp; done) | (simp; omega))))))
/-- A right node's first key is handed back. -/
def GivesKey (w : World) (S : Nat → Prop) (x : List UInt8) (e : Ending) (w' : World) : Prop := ∃ a n c, e = .returned (.slice a n c) ∧ BytesS w' S a n c x ∧ Below w.heap.size w w'
set_option maxHeartbeats 1000000 in
theorem Try_rFirst (N : NodeD) (ia ka : Option Addr) (il ic kl kc : Nat) (S : Nat → Prop) (w : World) (hN : NodeS w S ia il ic ka kl kc N) (hok : nodeOk N = true) :
    Calls Try.prog 31 #[.agg #[.bool N.leaf, .slice ia il ic, .slice ka kl kc]] w (GivesKey w S (firstKey N)) := by
  have h2 := (nodeOk_check hok).2.1
  have hpos := leastOf_pos N
  obtain ⟨f, hfl⟩ : ∃ f, N.leaf = f := ⟨_, rfl⟩
  rw [hfl]
  have hb0 : Below w.heap.size w (w.alloc (.cells #[.bool f, .slice ia il ic, .slice ka kl kc] 28)) := (by repeat (first | (with_reducible exact Below.refl _ _) | (with_reducible exact Below.refl _ _) | (with_reducible refine Below.setCell ?_ (by first | omega | (simp; done) | (simp; omega)) _) | (with_reducible refine Below.alloc ?_ (by first | omega | (simp; done) | (simp; omega)) _) | (with_reducible refine Below.drew ?_) | (with_reducible refine below_drewN ?_ _)))
  cases f with
  | true =>
    have ep : partsOf N = N.items.map .inl := by unfold partsOf; rw [if_pos hfl]
    rw [ep, List.length_map] at h2
    obtain ⟨x, hx⟩ : ∃ x, N.items[0]? = some x := ⟨_, List.getElem?_eq_getElem (by omega)⟩
    have hfk : firstKey N = x.key := by unfold firstKey; rw [ep, List.getElem?_map, hx]; rfl
    have hl := hN.items.hlen
    obtain ⟨b, o, xa, xl, xc, va, vl, vc, rfl, hb1, hs1, d0, d1, d2, d3, h4, h5, h6⟩ := (hN.ext hb0).items.hat 0 x hx
    rw [hfk]
    have hpos' : (0 : Int) < (il : Int) := by omega
    have h0 : 0 < il := by omega
    have H4 := Lib.hid h4
    have HB0 := Lib.hid hb0
    simp only [Nat.zero_mul, Nat.add_zero] at d0
    clear h2 hpos ep hx hfk hl hN h4 h5 h6 hs1 d1 d2 d3 hok hfl hb0
    go_enter Try.func31, Try.ntmps31
    go_wp2
    go_ret
    exact ⟨_, _, _, rfl, H4.out, HB0.out⟩
  | false =>
    have ep : partsOf N = N.kids.map .inr := by unfold partsOf; rw [hfl, if_neg Bool.false_ne_true]
    rw [ep, List.length_map] at h2
    obtain ⟨x, hx⟩ : ∃ x, N.kids[0]? = some x := ⟨_, List.getElem?_eq_getElem (by omega)⟩
    have hfk : firstKey N = x.key := by unfold firstKey; rw [ep, List.getElem?_map, hx]; rfl
    have hl := hN.kids.hlen
    obtain ⟨b, o, xa, xl, xc, rfl, hb1, hs1, d0, d1, d2, d3, d4, d5, d6, d7, h4, h5, h6⟩ := (hN.ext hb0).kids.hat 0 x hx
    rw [hfk]
    have hpos' : (0 : Int) < (kl : Int) := by omega
    have h0 : 0 < kl := by omega
    have H4 := Lib.hid h4
    have HB0 := Lib.hid hb0
    simp only [Nat.zero_mul, Nat.add_zero] at d0
    clear h2 hpos ep hx hfk hl hN h4 h5 h6 hs1 d1 d2 d3 d4 d5 d6 d7 hok hfl hb0
    go_enter Try.func31, Try.ntmps31
    go_wp2
    go_ret
    exact ⟨_, _, _, rfl, H4.out, HB0.out⟩
end Go.Proofs.Ytfhhcpolicdfpaa
