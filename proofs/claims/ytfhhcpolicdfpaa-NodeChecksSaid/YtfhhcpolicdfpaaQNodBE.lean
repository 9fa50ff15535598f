/-
  The reference of layers 13 and 14: All, Red, First of right nodes, walked.
-/
import Derived.Test.YtfhhcpolicdfpaaQLawPA
import Derived.Test.YtfhhcpolicdfpaaQLawNB
import Derived.Test.YtfhhcpolicdfpaaQMonRefC
import Derived.Test.YtfhhcpolicdfpaaNdM
import Derived.Test.YtfhhcpolicdfpaaNdN
namespace Go.Dav
set_option linter.unusedVariables false
set_option linter.unusedSimpArgs false
open Go Go.RowKit
theorem rowRed_c1 (b : Bool) (x : Int) : (rowRed b x).c = 1 := by cases b <;> rfl
theorem ItemsS.ext1 {W W' : World} {S : Nat → Prop} {a : Option Addr} {len cap : Nat} {l : List ItemD} (h : ItemsS W S a len cap l) (hb : Below W.heap.size W W') : ItemsS W' S a len cap l := h.same hb.size fun b _ h2 => hb.block b h2
theorem joinL_sum : ∀ (l : List Red) (acc : Red), (∀ r ∈ l, 0 ≤ r.c) → acc.c + (l.map Red.c).sum ≤ 1073741824 → joinL acc l = some (l.foldl Red.both acc)
  | [], _, _, _ => rfl
  | r :: l, acc, h, hs => by
    have h0 : 0 ≤ (l.map Red.c).sum := by
      clear hs
      induction l with
      | nil => simp
      | cons x l ih =>
        have h1 := h x (by simp)
        have h2 := ih fun y hy => h y (by rcases List.mem_cons.1 hy with e | e <;> simp [e])
        simp only [List.map_cons, List.sum_cons]; omega
    simp only [List.map_cons, List.sum_cons] at hs
    unfold joinL
    rw [if_neg (by omega), joinL_sum l (acc.both r) (fun y hy => h y (by simp [hy])) (by show acc.c + r.c + _ ≤ _; omega)]
    rfl
theorem pRed_ok {x : PartD} (h : pOk x = true) (hn : ∀ i, x = .inl i → I64' i.n) : (pRed x).ok = true := by
  cases x with
  | inl i => exact Red.good_ok (rowRed_good _ _ (hn i rfl)) (by show (rowRed _ _).c ≤ _; rw [rowRed_c1]; omega)
  | inr k => unfold pOk pMay at h; simp only [Bool.and_eq_true, decide_eq_true_eq] at h; exact h.2.2.2.2.2
theorem sum_rows (L : List PartD) : ((L.map pRed).map Red.c).sum = rowsTo L L.length := by
  unfold rowsTo; rw [List.take_length, List.map_map]; rfl
/-- What Red answers of a right node. -/
theorem redN_ok {N : NodeD} (hok : nodeOk N = true) (hf : ∀ x ∈ N.items, I64' x.n) : redN N = ((redsOf N).foldl Red.both Red.zero, 0) := by
  obtain ⟨h1, h2, h3, h4⟩ := nodeOk_check hok
  have hall : (redsOf N).all Red.ok = true := by
    rw [List.all_eq_true]
    intro r hr
    obtain ⟨x, hx, rfl⟩ := List.mem_map.1 hr
    refine pRed_ok (h4 x hx) fun i e => ?_
    subst e
    unfold partsOf at hx
    split at hx
    · obtain ⟨y, hy, e⟩ := List.mem_map.1 hx; cases e; exact hf _ hy
    · obtain ⟨y, hy, e⟩ := List.mem_map.1 hx; cases e
  have hc0 : ∀ r ∈ redsOf N, 0 ≤ r.c := fun r hr => by
    obtain ⟨x, hx, rfl⟩ := List.mem_map.1 hr
    exact pOk_c (h4 x hx)
  have hl : (partsOf N).length ≠ 0 := by have := leastOf_pos N; omega
  have hsum : ((redsOf N).map Red.c).sum ≤ 1073741824 := by
    unfold redsOf
    rw [sum_rows]
    have := List.all_eq_true.1 h3 ((partsOf N).length - 1) (List.mem_range.2 (by omega))
    unfold stepB at this
    simp only [Bool.and_eq_true, decide_eq_true_eq] at this
    have h5 := this.2.2
    rwa [show (partsOf N).length - 1 + 1 = (partsOf N).length by omega] at h5
  unfold redN
  rw [if_pos hok]
  unfold joined
  rw [if_pos hall, joinL_sum _ _ hc0 (by simpa [Red.zero] using hsum)]
/-- What the reference has of the first k kids. -/
def kidsRed (l : List KidD) (k : Nat) : Red := ((l.take k).map (·.red)).foldl Red.both Red.zero
theorem kidsRed_succ {l : List KidD} {k : Nat} {x : KidD} (h : l[k]? = some x) : kidsRed l (k + 1) = (kidsRed l k).both x.red := by
  unfold kidsRed; rw [List.take_add_one, h, List.map_append, List.foldl_append]; rfl
def rowsTo' (l : List ItemD) (k : Nat) : Red := redAll (rowsR (l.take k))
theorem rowsTo'_succ {l : List ItemD} {k : Nat} {x : ItemD} (h : l[k]? = some x) : rowsTo' l (k + 1) = (rowsTo' l k).both (rowRed x.int x.n) := by
  unfold rowsTo' redAll rowsR; rw [List.take_add_one, h, List.map_append, List.foldl_append]; rfl
theorem kidsRed_fine {l : List KidD} (h : l.all kidOk = true) : ∀ k, k ≤ l.length → (kidsRed l k).c = countTo l k ∧ 0 ≤ (kidsRed l k).n ∧ (kidsRed l k).n ≤ (kidsRed l k).c ∧ (kidsRed l k).blank
  | 0, _ => by unfold kidsRed; simp [countTo, Red.zero]; exact Red.zero_blank
  | k + 1, hk => by
    obtain ⟨x, hx⟩ : ∃ x, l[k]? = some x := ⟨_, List.getElem?_eq_getElem (by omega)⟩
    obtain ⟨h1, h2, h3, h4⟩ := kidsRed_fine h k (by omega)
    have ho := List.all_eq_true.1 h x (List.mem_of_getElem? hx)
    unfold kidOk at ho
    simp only [Bool.and_eq_true, decide_eq_true_eq] at ho
    have hr := Red.ok_spec ho.2.2.2.2.2
    rw [kidsRed_succ hx]
    refine ⟨?_, ?_, ?_, Red.both_blank h4 h2 hr.1⟩
    · show (kidsRed l k).c + x.red.c = _
      rw [h1]; unfold countTo; rw [List.take_add_one, hx]; simp
    · show 0 ≤ bothN _ _; unfold bothN; split <;> omega
    · show bothN _ _ ≤ (kidsRed l k).c + x.red.c; unfold bothN; split <;> omega
theorem countTo_le {l : List KidD} (h : l.all kidOk = true) (h6 : l.length ≤ 6) : ∀ k, k ≤ l.length → 0 ≤ countTo l k ∧ countTo l k ≤ 1073741824 * k
  | 0, _ => by simp [countTo]
  | k + 1, hk => by
    obtain ⟨x, hx⟩ : ∃ x, l[k]? = some x := ⟨_, List.getElem?_eq_getElem (by omega)⟩
    have ih := countTo_le h h6 k (by omega)
    have ho := List.all_eq_true.1 h x (List.mem_of_getElem? hx)
    unfold kidOk at ho
    simp only [Bool.and_eq_true, decide_eq_true_eq] at ho
    have hr := Red.ok_spec ho.2.2.2.2.2
    have : countTo l (k + 1) = countTo l k + x.red.c := by unfold countTo; rw [List.take_add_one, hx]; simp
    omega
/-- The reference's Red of a right node. -/
theorem refRed_eq {N : NodeD} (hok : nodeOk N = true) (hf : ∀ x ∈ N.items, I64' x.n) :
    (N.leaf = true → N.kids = [] ∧ (redN N).1 = rowsTo' N.items N.items.length) ∧ (N.leaf = false → N.items = [] ∧ (redN N).1 = kidsRed N.kids N.kids.length) := by
  rw [redN_ok hok hf]
  have hsh := (nodeOk_check hok).1
  unfold shapeB at hsh
  simp only [Bool.and_eq_true, decide_eq_true_eq] at hsh
  constructor
  · intro hl
    have hk := hsh.2.2
    rw [if_pos hl, decide_eq_true_eq] at hk
    refine ⟨List.length_eq_zero_iff.1 hk, ?_⟩
    unfold redsOf partsOf rowsTo' redAll rowsR
    rw [if_pos hl, List.take_length, List.map_map]; rfl
  · intro hl
    have hk := hsh.2.2
    rw [hl, if_neg Bool.false_ne_true, decide_eq_true_eq] at hk
    refine ⟨List.length_eq_zero_iff.1 hk, ?_⟩
    unfold redsOf partsOf kidsRed
    rw [hl, if_neg Bool.false_ne_true, List.take_length, List.map_map]; rfl
end Go.Dav
namespace Go.Proofs.Ytfhhcpolicdfpaa
set_option linter.unusedVariables false
set_option linter.unusedSimpArgs false
open Go.RowKit Go.Dav
attribute [local go_sem] Gives ite_val ite_val_true

theorem Try_rOneR (k v : Value) (b : Bool) (x : Int) (w : World) (hx : I64 x) :
    Calls Try.prog 69 #[.agg #[k, v, .bool b, .int .i64 x]] w fun e w' => e = .returned (redV (rowRed b x)) ∧ Below w.heap.size w w' := by
  cases b with
  | true => exact Try_rOne_yes k v x w hx
  | false => exact Try_rOne_no k v x w
theorem Try_rBothR (A B : Red) (w : World) (hA : 0 ≤ A.n ∧ A.n ≤ A.c ∧ A.c ≤ 7516192768 ∧ A.blank) (hB : 0 ≤ B.n ∧ B.n ≤ B.c ∧ B.c ≤ 7516192768) (hz : B.n = 0 → B.s = 0) :
    Calls Try.prog 58 #[redV A, redV B] w fun e w' => e = .returned (redV (A.both B)) ∧ Below w.heap.size w w' :=
  Try_rBoth A.c A.n A.s A.l A.m B.c B.n B.s B.l B.m w hA.1 hB.1 (by rw [i64_wrap_def]; omega) (by rw [i64_wrap_def]; omega) hz hA.2.2.2
def zeroR : List Value := [.int .i64 0, .int .i64 0, .int .i64 0, .int .u64 0, .int .i64 0, .int .i64 0]
def TryRAl (w : World) (l : List ItemD) (n : Nat) (ix : Value) (wr : World) : Prop :=
  ∃ k : Nat, k ≤ n ∧ ix = .int .i64 k ∧ Blk wr w.heap.size zeroR 47 ∧ Blk wr (w.heap.size + 1) (rowsTo' l k).cells 47 ∧ Below w.heap.size w wr
theorem cells_zero : Red.zero.cells = zeroR := by unfold Red.cells Red.zero zeroR; simp [hi_zero, lo_zero]
set_option maxRecDepth 8000 in
set_option maxHeartbeats 8000000 in
theorem Try_rAll (a : Option Addr) (n c : Nat) (l : List ItemD) (S : Nat → Prop) (w : World) (hI : ItemsS w S a n c l) (h6 : n ≤ 6) :
    Calls Try.prog 57 #[.slice a n c] w fun e w' => e = .returned (redV (rowsTo' l n)) ∧ Below w.heap.size w w' := by
  have b1 : (n : Int) ≤ 6 := by omega
  have HI := Lib.hid hI
  have HL := Lib.hid hI.hlen
  have HX := Lib.hid (show ∀ x ∈ l, I64' x.n from fun x hx => by
    obtain ⟨i, hi, e⟩ := List.mem_iff_getElem.1 hx
    obtain ⟨_, _, _, _, _, _, _, _, _, _, _, _, _, _, _, _, _, g⟩ := hI.hat i x (by rw [List.getElem?_eq_getElem hi, e])
    exact g)
  have H6 := Lib.hid h6
  clear hI h6
  go_enter Try.func57, Try.ntmps57
  go_wp2_with fail
  go_loopw [4] (fun ix wr => TryRAl w l n ix wr) (fun ix _ => n - (intOf ix).toNat)
  case atStart =>
    refine ⟨0, Nat.zero_le _, rfl, (Blk.new _ zeroR _).alloc _, ?_, (by repeat (first | (with_reducible exact Below.refl _ _) | (with_reducible exact Below.refl _ _) | (with_reducible refine Below.setCell ?_ (by first | omega | (simp; done) | (simp; omega)) _) | (with_reducible refine Below.alloc ?_ (by first | omega | (simp; done) | (simp; omega)) _) | (with_reducible refine Below.drew ?_) | (with_reducible refine below_drewN ?_ _)))⟩
    have e : (rowsTo' l 0).cells = zeroR := by unfold rowsTo' redAll rowsR; simp [cells_zero]
    rw [e]
    exact Blk.new' _ zeroR _ (by simp)
  case round =>
    obtain ⟨k, hk, rfl, hbz, hbo, hbel⟩ := hrel
    have HB := Lib.hid hbel
    have HBZ := Lib.hid hbz
    have HBO := Lib.hid hbo
    have pc := hbo.cells
    have pm := hbo.marks
    have lo1 := hbo.lt
    have lz := hbz.lt
    simp only [Red.cells] at pc
    by_cases hlt : k < n
    · obtain ⟨x, hx⟩ : ∃ x, l[k]? = some x := ⟨_, List.getElem?_eq_getElem (by have := HL.out; omega)⟩
      obtain ⟨b, o, xa, xl, xc, va, vl, vc, rfl, hb1, hs1, d0, d1, d2, d3, h4, h5, h6⟩ := (HI.out.ext1 hbel).hat k x hx
      have hlt' : (k : Int) < (n : Int) := by omega
      have HLT := Lib.hid hlt
      have hk0 : ¬ (k : Int) < 0 := by omega
      have hgd : (rowsTo' l k).good := redAll_good (rowsR_good fun y hy => HX.out y (List.mem_of_mem_take hy))
      have hcc : (rowsTo' l k).c = (l.take k).length := red_c
      have hcl : (l.take k).length ≤ 6 := by rw [List.length_take]; have := HL.out; have := H6.out; omega
      have hxg := rowRed_good x.int x.n h6
      have hxc := rowRed_c1 x.int x.n
      have HON := Lib.hid (fun (u v : Value) W => Try_rOneR u v x.int x.n W h6)
      have HBT := Lib.hid (fun W => Try_rBothR (rowsTo' l k) (rowRed x.int x.n) W ⟨hgd.n0, hgd.nc, by omega, fun h => (hgd.none h).2⟩ ⟨hxg.n0, hxg.nc, by omega⟩ (fun h => (hxg.none h).1))
      have HNX := Lib.hid (rowsTo'_succ hx)
      obtain ⟨A, hA⟩ : ∃ A, rowsTo' l k = A := ⟨_, rfl⟩
      obtain ⟨B, hB⟩ : ∃ B, rowRed x.int x.n = B := ⟨_, rfl⟩
      rw [hA] at pc HBT HNX HBO
      rw [hB] at HBT HNX HON
      clear hgd hcc hcl hxg hxc h4 h5 h6 hs1 hx hk hlt hbel hbz hbo hA hB
      go_wp2_with fail
      refine' wp_region_seq [.inl _, .inl _, .inl _, .inl _, .inl _, .inl _, .inl _] (by kernel_rfl) (by kernel_rfl) ?main1
      case main1 =>
        refine wpParts_det (by rfl) (fun W hE hN => ?_) ?_
        · have hc := fun b o h => hE.cell (p := ⟨b, o, none⟩) h
          go_simp; refine ⟨Below.refl _ _, ?_⟩; rfl
        simp only [Act.put, List.setIfInBounds_toArray, List.set_cons_zero, List.set_cons_succ]
        refine wpParts_det (by rfl) (fun W hE hN => ?_) ?_
        · go_simp; refine ⟨Below.refl _ _, ?_⟩; rfl
        simp only [Act.put, List.setIfInBounds_toArray, List.set_cons_zero, List.set_cons_succ]
        refine wpParts_det (by rfl) (fun W hE hN => ?_) ?_
        · go_simp; refine ⟨Below.refl _ _, ?_⟩; rfl
        simp only [Act.put, List.setIfInBounds_toArray, List.set_cons_zero, List.set_cons_succ]
        refine wpParts_det (by rfl) (fun W hE hN => ?_) ?_
        · go_simp; refine ⟨Below.refl _ _, ?_⟩; rfl
        simp only [Act.put, List.setIfInBounds_toArray, List.set_cons_zero, List.set_cons_succ]
        refine wpParts_det (by rfl) (fun W hE hN => ?_) ?_
        · have hc := fun b o h => hE.cell (p := ⟨b, o, none⟩) h
          go_simp; refine ⟨Below.refl _ _, ?_⟩; rfl
        simp only [Act.put, List.setIfInBounds_toArray, List.set_cons_zero, List.set_cons_succ]
        refine wpParts_det (by rfl) (fun W hE hN => ?_) ?_
        · go_simp; refine ⟨Below.refl _ _, ?_⟩; refine (HON.out _ _ W).mono ?_; rintro e w' ⟨rfl, hb⟩; refine ⟨?_, hb⟩; rfl
        simp only [Act.put, List.setIfInBounds_toArray, List.set_cons_zero, List.set_cons_succ]
        refine wpParts_det (by rfl) (fun W hE hN => ?_) ?_
        · go_simp; refine ⟨Below.refl _ _, ?_⟩; refine (HBT.out W).mono ?_; rintro e w' ⟨rfl, hb⟩; refine ⟨?_, hb⟩; rfl
        simp only [Act.put, List.setIfInBounds_toArray, List.set_cons_zero, List.set_cons_succ]
        refine wpParts_end fun W1 hE1 hG1 => ?_
        have hcW1 := fun b o h => hE1.cell (p := ⟨b, o, none⟩) h
        have hfW1 := fun b o h => hE1.frozen (p := ⟨b, o, none⟩) h
        have HB1 := Lib.hid (HB.out.trans (hE1.mono HB.out.size))
        have hz1 := HBZ.out.ext hE1
        have ho1 := HBO.out.ext hE1
        have q1 := ho1.cells
        have qm := ho1.marks
        have ql := ho1.lt
        have q0 := hz1.cells
        have HZ1 := Lib.hid hz1
        have HO1 := Lib.hid ho1
        simp only [redV, Red.cells] at *
        clear hE1 hG1 pc pm lz lo1 hcW1 hfW1 hz1 ho1
        go_wp2_with fail
        go_roundw
        case rel =>
          refine ⟨k + 1, HLT.out, by go_num, ?_, ?_, ?_⟩
          · exact (((((HZ1.out.other (by omega) _ _).other (by omega) _ _).other (by omega) _ _).other (by omega) _ _).other (by omega) _ _).other (by omega) _ _
          · rw [HNX.out]
            exact (((((HO1.out.set 0 _).set 1 _).set 2 _).set 3 _).set 4 _).set 5 _
          · have h := HB1.out; exact (by repeat (first | (with_reducible exact Below.refl _ _) | (with_reducible exact Below.refl _ _) | (with_reducible refine Below.setCell ?_ (by first | omega | (simp; done) | (simp; omega)) _) | (with_reducible refine Below.alloc ?_ (by first | omega | (simp; done) | (simp; omega)) _) | (with_reducible refine Below.drew ?_) | (with_reducible refine below_drewN ?_ _) | (with_reducible refine Below.trans ?_ (h.mono (by first | omega | (simp; done) | (simp; omega))))))
        case measure => simp [intOf]; have := HLT.out; omega
    · obtain rfl : k = n := by omega
      have hlt' : ¬ (k : Int) < (k : Int) := by omega
      have oc := hbz.cells
      have om := hbz.marks
      unfold zeroR at oc
      obtain ⟨A, hA⟩ : ∃ A, rowsTo' l k = A := ⟨_, rfl⟩
      have HA := Lib.hid hA
      rw [hA] at pc
      clear hlt hk hbz hbo hbel HBO hA
      go_wp2_with fail
      refine bodyPost_ret (v := redV A) (by simp [results, Try.results57, go_sem, redV, *]) rfl ⟨by rw [HA.out], ?_⟩
      have h := HB.out; exact (by repeat (first | (with_reducible exact Below.refl _ _) | (with_reducible exact Below.refl _ _) | (with_reducible refine Below.setCell ?_ (by first | omega | (simp; done) | (simp; omega)) _) | (with_reducible refine Below.alloc ?_ (by first | omega | (simp; done) | (simp; omega)) _) | (with_reducible refine Below.drew ?_) | (with_reducible refine below_drewN ?_ _) | (with_reducible refine Below.trans ?_ (h.mono (by first | omega | (simp; done) | (simp; omega))))))
end Go.Proofs.Ytfhhcpolicdfpaa
