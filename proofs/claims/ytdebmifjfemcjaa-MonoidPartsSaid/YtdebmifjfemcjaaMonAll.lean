/-
  The law's helpers: few, all.
-/
import Derived.Test.YtdebmifjfemcjaaMonPure
import Derived.Test.YtdebmifjfemcjaaMonWakes
import Derived.Test.YtdebmifjfemcjaaFree
namespace Go.Proofs.Ytdebmifjfemcjaa
set_option linter.unusedVariables false
set_option linter.unusedSimpArgs false
open Go.RowKit Go.Dav
attribute [local go_sem] Gives ite_val ite_val_true

/-- A row: a key, a value (of which only its kind and number matter here). -/
structure TryRow where
  a1 : Option Addr
  l1 : Nat
  c1 : Nat
  a2 : Option Addr
  l2 : Nat
  c2 : Nat
  b : Bool
  x : Int
def TryRow.cells (r : TryRow) : List Value := [.slice r.a1 r.l1 r.c1, .slice r.a2 r.l2 r.c2, .bool r.b, .int .i64 r.x]
def TryRow.red (r : TryRow) : Red := rowRed r.b r.x
/-- From offset o of block b on the rows lie one behind the other. -/
def TryRowsAt (W : World) (b o : Nat) (l : List TryRow) : Prop :=
  ∀ k r, l[k]? = some r → ∀ j v, r.cells[j]? = some v → W.cell? ⟨b, o + k * 4 + j, none⟩ = some v

/-- A slice's rows: those of a slice that is not empty lie in memory that was there before B. -/
def TryRowsIn (W : World) (B : Nat) (a : Option Addr) (l : List TryRow) : Prop :=
  ∀ k r, l[k]? = some r → ∃ b o, a = some ⟨b, o, none⟩ ∧ b < B ∧ ∀ j v, r.cells[j]? = some v → W.cell? ⟨b, o + k * 4 + j, none⟩ = some v

theorem Try_rowsIn_below {W W' : World} {B B' : Nat} {a : Option Addr} {l : List TryRow} (h : TryRowsIn W B a l) (hb : Below B' W W') (hle : B ≤ B') : TryRowsIn W' B a l := fun k r hk => by
  obtain ⟨b, o, h1, h2, h3⟩ := h k r hk
  exact ⟨b, o, h1, h2, fun j v hj => by rw [hb.cell (p := ⟨b, o + k * 4 + j, none⟩) (show b < B' by omega)]; exact h3 j v hj⟩

theorem Try_rowsIn_later {W : World} {B B' : Nat} {a : Option Addr} {l : List TryRow} (h : TryRowsIn W B a l) (hle : B ≤ B') : TryRowsIn W B' a l := fun k r hk => by
  obtain ⟨b, o, h1, h2, h3⟩ := h k r hk
  exact ⟨b, o, h1, by omega, h3⟩

theorem Try_rows_below {W W' : World} {B b o : Nat} {l : List TryRow} (h : TryRowsAt W b o l) (hb : Below B W W') (hlt : b < B) : TryRowsAt W' b o l := fun i r hi j v hj => by
  rw [hb.cell (p := ⟨b, o + i * 4 + j, none⟩) hlt]; exact h i r hi j v hj

theorem Try_One' (a1 a2 : Option Addr) (l1 c1 l2 c2 : Nat) (b : Bool) (x : Int) (w : World) (hx : I64 x) :
    Calls Try.prog 11 #[.agg #[.slice a1 l1 c1, .slice a2 l2 c2, .bool b, .int .i64 x]] w fun e w' =>
      e = .returned (.agg #[.int .i64 (rowRed b x).c, .int .i64 (rowRed b x).n, .int .i64 (hi (rowRed b x).s), .int .u64 (lo (rowRed b x).s), .int .i64 (rowRed b x).l, .int .i64 (rowRed b x).m]) ∧ Below w.heap.size w w' := by
  cases b
  · exact Try_One_no _ _ x w rfl rfl
  · exact Try_One_yes _ _ x w hx

/-- A slice of two reductions, made above B. -/
def TryTwo (B : Nat) (r t : Red) (v : Value) (W : World) : Prop := ∃ g, v = .slice (some ⟨g, 0, none⟩) 2 2 ∧ B ≤ g ∧ g < W.heap.size ∧ TryRedsAt W g 0 [r, t]
theorem TryTwo.later {B : Nat} {r t : Red} : ∀ v W W', TryTwo B r t v W → Below W.heap.size W W' → TryTwo B r t v W' :=
  fun _ _ _ ⟨g, h1, h2, h3, h4⟩ hb => ⟨g, h1, h2, Nat.lt_of_lt_of_le h3 hb.size, Try_reds_below h4 hb h3⟩
theorem Try_two_new {B : Nat} {r t : Red} {W : World} (h : B ≤ W.heap.size) :
    Below W.heap.size W (W.alloc (.cells #[.int .i64 r.c, .int .i64 r.n, .int .i64 (hi r.s), .int .u64 (lo r.s), .int .i64 r.l, .int .i64 r.m, .int .i64 t.c, .int .i64 t.n, .int .i64 (hi t.s), .int .u64 (lo t.s), .int .i64 t.l, .int .i64 t.m] 24)) ∧
    TryTwo B r t (.slice (some ⟨W.heap.size, 0, none⟩) 2 2) (W.alloc (.cells #[.int .i64 r.c, .int .i64 r.n, .int .i64 (hi r.s), .int .u64 (lo r.s), .int .i64 r.l, .int .i64 r.m, .int .i64 t.c, .int .i64 t.n, .int .i64 (hi t.s), .int .u64 (lo t.s), .int .i64 t.l, .int .i64 t.m] 24)) :=
  ⟨(Below.refl _ _).alloc (Nat.le_refl _) _, _, rfl, h, by simp, Try_RedsAt_flat (Blk.new _ [_, _, _, _, _, _, _, _, _, _, _, _] _) rfl⟩

set_option maxRecDepth 8000 in
set_option maxHeartbeats 4000000 in
theorem Try_few (a : Option Addr) (len cap : Nat) (w : World) (h1 : len ≤ cap) (h2 : cap ≤ maxLen) :
    Calls Try.prog 15 #[.slice a len cap] w fun e w' => e = .returned (.slice a (min len 60) cap) ∧ Below w.heap.size w w' := by
  unfold maxLen at h2
  by_cases h : len ≤ 60
  · have hi1 : (len : Int) ≤ 60 := by omega
    have hi2 : (len : Int) ≤ (cap : Int) := by omega
    rw [Nat.min_eq_left h]
    go_enter Try.func15, Try.ntmps15
    go_wp2
    go_ret
    exact ⟨rfl, (by repeat (first | (with_reducible exact Below.refl _ _) | (with_reducible exact Below.refl _ _) | (with_reducible refine Below.setCell ?_ (by first | omega | (simp; done) | (simp; omega)) _) | (with_reducible refine Below.alloc ?_ (by first | omega | (simp; done) | (simp; omega)) _) | (with_reducible refine Below.drew ?_)))⟩
  · have hi1 : ¬ (len : Int) ≤ 60 := by omega
    have hi2 : (60 : Int) ≤ (cap : Int) := by omega
    have hi3 : (60 : Int) < (len : Int) := by omega
    rw [Nat.min_eq_right (by omega)]
    go_enter Try.func15, Try.ntmps15
    go_wp2
    go_ret
    exact ⟨rfl, (by repeat (first | (with_reducible exact Below.refl _ _) | (with_reducible exact Below.refl _ _) | (with_reducible refine Below.setCell ?_ (by first | omega | (simp; done) | (simp; omega)) _) | (with_reducible refine Below.alloc ?_ (by first | omega | (simp; done) | (simp; omega)) _) | (with_reducible refine Below.drew ?_)))⟩

/-- What is joined after k rows. -/
def TrySum (l : List TryRow) (k : Nat) : Red := redAll ((l.take k).map TryRow.red)

theorem TrySum_good (l : List TryRow) (k : Nat) (h : ∀ r ∈ l, I64 r.x) : (TrySum l k).good :=
  redAll_good fun r hr => by
    obtain ⟨x, hx, rfl⟩ := List.mem_map.1 hr
    exact rowRed_good _ _ (h x (List.mem_of_mem_take hx))

theorem TrySum_succ (l : List TryRow) (k : Nat) (r : TryRow) (h : l[k]? = some r) : TrySum l (k + 1) = (TrySum l k).both r.red := by
  unfold TrySum redAll
  rw [List.take_add_one, h]
  simp

theorem rowRed_c (b : Bool) (x : Int) : (rowRed b x).c = 1 := by cases b <;> rfl

theorem TrySum_c (l : List TryRow) (k : Nat) (hk : k ≤ l.length) : (TrySum l k).c = k := by
  induction k with
  | zero => rfl
  | succ k ih =>
    rw [TrySum_succ l k _ (List.getElem?_eq_getElem (show k < l.length by omega))]
    simp only [Red.both, TryRow.red, rowRed_c]
    rw [ih (by omega)]
    omega

theorem two_joined {r t : Red} (hr : r.good) (ht : t.good) (hc : r.c + t.c ≤ 1073741824) : joined [r, t] = (r.both t, 0) := by
  rw [joined_good (by intro x hx; rcases List.mem_cons.1 hx with h | h; (subst h; assumption); (have h := List.mem_singleton.1 h; subst h; assumption)) (by simp only [List.map_cons, List.map_nil, List.sum_cons, List.sum_nil]; omega)]
  unfold redAll
  simp only [List.foldl_cons, List.foldl_nil, Red.zero_both hr]

theorem Red.good_fits {r : Red} (h : r.good) (hc : r.c ≤ 1073741824) : r.fits := by
  obtain ⟨a1, a2, a3, a4, a5, a6, a7, a8⟩ := h
  unfold Red.fits I64; omega

def TryAllRel (w : World) (l : List TryRow) (b o : Nat) (ix : Value) (wr : World) : Prop :=
  ∃ k : Nat, k ≤ l.length ∧ ix = .int .i64 k ∧ Blk wr w.heap.size [.int .i64 0, .int .i64 0, .int .i64 0, .int .u64 0, .int .i64 0, .int .i64 0] 24 ∧
    Blk wr (w.heap.size + 1) (TrySum l k).cells 24 ∧ Below w.heap.size w wr

set_option maxRecDepth 8000 in
set_option maxHeartbeats 8000000 in
theorem Try_all (a : Option Addr) (cap : Nat) (l : List TryRow) (n : Nat) (w : World) (hlen : l.length = n) (h60 : n ≤ 60) (hat : TryRowsIn w w.heap.size a l) (hx : ∀ r ∈ l, I64 r.x) :
    Calls Try.prog 16 #[.slice a n cap] w fun e w' =>
      e = .returned (.tuple #[.agg #[.int .i64 (TrySum l n).c, .int .i64 (TrySum l n).n, .int .i64 (hi (TrySum l n).s), .int .u64 (lo (TrySum l n).s), .int .i64 (TrySum l n).l, .int .i64 (TrySum l n).m], .bool true]) ∧ Below w.heap.size w w' := by
  have z1 := hi_zero
  have z2 := lo_zero
  have hi2 : (n : Int) ≤ 60 := by omega
  have HLEN := Lib.hid hlen; clear hlen
  have HX := Lib.hid hx; clear hx
  have HAT := Lib.hid hat; clear hat
  have H60 := Lib.hid h60; clear h60
  go_enter Try.func16, Try.ntmps16
  go_wp2_with fail
  go_loopw [12] (fun ix wr => TryAllRel w l 0 0 ix wr) (fun ix _ => n - (intOf ix).toNat)
  case atStart =>
    refine ⟨0, Nat.zero_le _, rfl, ?_, ?_, ?_⟩
    · exact (Blk.new _ [_, _, _, _, _, _] _).alloc _
    · have e : (TrySum l 0).cells = [.int .i64 0, .int .i64 0, .int .i64 0, .int .u64 0, .int .i64 0, .int .i64 0] := by
        unfold TrySum redAll; simp [Red.zero, Red.cells, hi_zero, lo_zero]
      rw [e]
      exact Blk.new' _ [_, _, _, _, _, _] _ (by simp)
    · exact (by repeat (first | (with_reducible exact Below.refl _ _) | (with_reducible exact Below.refl _ _) | (with_reducible refine Below.setCell ?_ (by first | omega | (simp; done) | (simp; omega)) _) | (with_reducible refine Below.alloc ?_ (by first | omega | (simp; done) | (simp; omega)) _) | (with_reducible refine Below.drew ?_)))
  case round =>
    obtain ⟨k, hk, rfl, hbz, hbo, hbel⟩ := hrel
    have hbs := hbel.size
    have lz := hbz.lt
    have lo1 := hbo.lt
    have HG := Lib.hid (TrySum_good l k HX.out)
    have HC := Lib.hid (TrySum_c l k hk)
    by_cases hlt : k < l.length
    · obtain ⟨r, hrk⟩ : ∃ r, l[k]? = some r := ⟨_, List.getElem?_eq_getElem hlt⟩
      have hmem := List.mem_of_getElem? hrk
      have HS := Lib.hid (TrySum_succ l k r hrk)
      have HRX := Lib.hid (HX.out r hmem)
      obtain ⟨b, o, rfl, hb, hrw⟩ := Try_rowsIn_below HAT.out hbel (Nat.le_refl _) k r hrk
      have q0 := hrw 0 _ rfl
      have q1 := hrw 1 _ rfl
      have q2 := hrw 2 _ rfl
      have q3 := hrw 3 _ rfl
      rw [Nat.add_zero] at q0
      clear hrw hmem
      have hkl : (k : Int) < (n : Int) := by have := HLEN.out; omega
      have HR := Lib.hid hrk; clear hrk
      have HLT := Lib.hid hlt; clear hlt
      have HK := Lib.hid hk; clear hk
      have hc2 : (TrySum l k).c + r.red.c ≤ 1073741824 := by rw [HC.out, show r.red.c = 1 from rowRed_c r.b r.x]; have := HLEN.out; have := H60.out; have := HLT.out; omega
      have hrg : r.red.good := rowRed_good r.b r.x HRX.out
      have hr1 : r.red.c = 1 := rowRed_c r.b r.x
      have HJ := Lib.hid (two_joined HG.out hrg hc2)
      have HF := Lib.hid (show ∀ t ∈ [TrySum l k, r.red], t.fits from fun t ht => by
        simp only [List.mem_cons, List.not_mem_nil, or_false] at ht
        rcases ht with rfl | rfl
        · exact Red.good_fits HG.out (by have := HC.out; have := HLEN.out; have := H60.out; have := HLT.out; omega)
        · exact Red.good_fits hrg (by omega))
      clear hc2 hrg hr1
      generalize hA : TrySum l k = A at *
      have HA := Lib.hid hA; clear hA
      have pc := hbo.cells
      have pm := hbo.marks
      simp only [Red.cells] at pc
      go_wp2_with fail
      refine' wp_region_seqF [7] [.inl _, .inl _, .inl _, .inr (TryTwo (wr.heap.size + 1) A r.red), .inl _, .inl _, .inl _, .inl _, .inr (NewBlk (wr.heap.size + 1) [.int .i64 0, .int .i64 0, .int .i64 0, .int .u64 0, .int .i64 0, .int .i64 0] 24)] (by kernel_rfl) (by kernel_rfl) ?main
      case main =>
        refine wpParts_det (by rfl) (fun W hE hN => ?_) ?_
        · have hc := fun b o h => hE.cell (p := ⟨b, o, none⟩) h
          go_simp; refine ⟨Below.refl _ _, ?_⟩; rfl
        simp only [Act.put, List.setIfInBounds_toArray, List.set_cons_zero, List.set_cons_succ]
        refine wpParts_det (by rfl) (fun W hE hN => ?_) ?_
        · have hc := fun b o h => hE.cell (p := ⟨b, o, none⟩) h
          go_simp; refine ⟨Below.refl _ _, ?_⟩; rfl
        simp only [Act.put, List.setIfInBounds_toArray, List.set_cons_zero, List.set_cons_succ]
        refine wpParts_det (by rfl) (fun W hE hN => ?_) ?_
        · go_simp; refine ⟨Below.refl _ _, ?_⟩; refine (Try_One' _ _ _ _ _ _ _ _ _ HRX.out).mono ?_; rintro e w' ⟨rfl, hb⟩; refine ⟨?_, hb⟩; rfl
        simp only [Act.put, List.setIfInBounds_toArray, List.set_cons_zero, List.set_cons_succ]
        refine wpParts_any rfl (TryTwo.later) (by rfl) (fun W hE hN => ?_) (fun u3 => ?_)
        · go_simp; exact Try_two_new (t := r.red) (by have := hE.size; simp at this; omega)
        simp only [Act.put, List.setIfInBounds_toArray, List.set_cons_zero, List.set_cons_succ]
        refine wpParts_det (by rfl) (fun W hE hN => ?_) ?_
        · simp [near, Oper.looksAt, Op.operands] at hN; obtain ⟨g, rfl, hg, hgl, hrg⟩ := hN (.tmp 20) (by simp [Call.operands]) rfl; go_simp; refine ⟨Below.refl _ _, ?_⟩; refine (Try_Join' g 0 2 2 [A, r.red] _ rfl (by omega) hgl hrg HF.out).mono ?_; rintro e w' ⟨rfl, hb⟩; refine ⟨?_, hb⟩; rw [HJ.out, show ((A.both r.red, (0 : Int)).1.cells.toArray) = #[.int .i64 (A.both r.red).c, .int .i64 (A.both r.red).n, .int .i64 (hi (A.both r.red).s), .int .u64 (lo (A.both r.red).s), .int .i64 (A.both r.red).l, .int .i64 (A.both r.red).m] from rfl]
        simp only [Act.put, List.setIfInBounds_toArray, List.set_cons_zero, List.set_cons_succ]
        refine wpParts_det (by rfl) (fun W hE hN => ?_) ?_
        · go_simp; refine ⟨Below.refl _ _, ?_⟩; rfl
        simp only [Act.put, List.setIfInBounds_toArray, List.set_cons_zero, List.set_cons_succ]
        refine wpParts_det (by rfl) (fun W hE hN => ?_) ?_
        · go_simp; refine ⟨Below.refl _ _, ?_⟩; rfl
        simp only [Act.put, List.setIfInBounds_toArray, List.set_cons_zero, List.set_cons_succ]
        refine wpParts_det (by rfl) (fun W hE hN => ?_) ?_
        · go_simp; refine ⟨Below.refl _ _, ?_⟩; rfl
        simp only [Act.put, List.setIfInBounds_toArray, List.set_cons_zero, List.set_cons_succ]
        refine wpParts_any rfl (NewBlk.later) (by rfl) (fun W hE hN => ?_) (fun u8 => ?_)
        · go_simp; exact newBlk_alloc (cs := [.int .i64 0, .int .i64 0, .int .i64 0, .int .u64 0, .int .i64 0, .int .i64 0]) (by have := hE.size; simp at this; omega)
        simp only [Act.put, List.setIfInBounds_toArray, List.set_cons_zero, List.set_cons_succ]
        refine wpParts_end fun W2 hE2 hG2 => ?_
        have hcW2 := fun b o h => hE2.cell (p := ⟨b, o, none⟩) h
        have hfW2 := fun b o h => hE2.frozen (p := ⟨b, o, none⟩) h
        obtain ⟨p, rfl, hp, hblk⟩ := hG2.1
        have s2 := hE2.size
        simp at s2
        have hbz2 := (hbz.alloc _).ext hE2
        have hbo2 := (hbo.alloc _).ext hE2
        have bel2 : Below w.heap.size w W2 := (by repeat (first | (with_reducible exact Below.refl _ _) | (with_reducible exact Below.refl _ _) | (with_reducible refine Below.setCell ?_ (by first | omega | (simp; done) | (simp; omega)) _) | (with_reducible refine Below.alloc ?_ (by first | omega | (simp; done) | (simp; omega)) _) | (with_reducible refine Below.drew ?_) | (with_reducible refine Below.trans ?_ (hE2.mono (by first | omega | (simp; done) | (simp; omega)))) | (with_reducible refine Below.trans ?_ (hbel.mono (by first | omega | (simp; done) | (simp; omega))))))
        have cc := hblk.cells
        have cf := hblk.marks
        have gg := hbo2.marks
        have lp := hblk.lt
        have nwp : w.heap.size ≠ p := by omega
        have nwp1 : w.heap.size + 1 ≠ p := by omega
        have lt_W2_0_0 : w.heap.size < W2.heap.size := by omega
        have lt_W2_0_1 : w.heap.size < W2.heap.size + 1 := by omega
        have lt_W2_1_0 : w.heap.size + 1 < W2.heap.size := by omega
        have lt_W2_1_1 : w.heap.size + 1 < W2.heap.size + 1 := by omega
        have lt_W2_2_0 : p < W2.heap.size := by omega
        have lt_W2_2_1 : p < W2.heap.size + 1 := by omega
        go_wp2_with fail
        refine noPanic_normal ?_
        go_wp2_with fail
        go_roundw
        case rel =>
          refine ⟨k + 1, HLT.out, by go_num, ?_, ?_, ?_⟩
          · exact ((((((((((((hbz2.other (by omega) _ _).other (by omega) _ _).other (by omega) _ _).other (by omega) _ _).other (by omega) _ _).other (by omega) _ _).other (by omega) _ _).other (by omega) _ _).other (by omega) _ _).other (by omega) _ _).other (by omega) _ _).other (by omega) _ _)
          · rw [HS.out]
            exact (((((((((((hbo2.other (by omega) _ _).other (by omega) _ _).other (by omega) _ _).other (by omega) _ _).other (by omega) _ _).other (by omega) _ _).set 0 _).set 1 _).set 2 _).set 3 _).set 4 _).set 5 _
          · exact (by repeat (first | (with_reducible exact Below.refl _ _) | (with_reducible exact Below.refl _ _) | (with_reducible refine Below.setCell ?_ (by first | omega | (simp; done) | (simp; omega)) _) | (with_reducible refine Below.alloc ?_ (by first | omega | (simp; done) | (simp; omega)) _) | (with_reducible refine Below.drew ?_) | (with_reducible refine Below.trans ?_ (bel2.mono (by first | omega | (simp; done) | (simp; omega))))))
        case measure => have := HLT.out; have := HLEN.out; simp [intOf]; omega
    · have hkl : k = l.length := by omega
      have hkn : k = n := hkl.trans HLEN.out
      clear hkl
      subst hkn
      have hkl : ¬ ((k : Int) < (k : Int)) := by omega
      clear hlt hk
      have pc := hbo.cells
      have oc := hbz.cells
      have om := hbz.marks
      simp only [Red.cells] at pc
      go_wp2_with fail
      refine bodyPost_ret (v := .tuple #[.agg #[.int .i64 (TrySum l k).c, .int .i64 (TrySum l k).n, .int .i64 (hi (TrySum l k).s), .int .u64 (lo (TrySum l k).s), .int .i64 (TrySum l k).l, .int .i64 (TrySum l k).m], .bool true]) (by simp [results, Try.results16, go_sem, *]) rfl ⟨rfl, ?_⟩
      exact (by repeat (first | (with_reducible exact Below.refl _ _) | (with_reducible exact Below.refl _ _) | (with_reducible refine Below.setCell ?_ (by first | omega | (simp; done) | (simp; omega)) _) | (with_reducible refine Below.alloc ?_ (by first | omega | (simp; done) | (simp; omega)) _) | (with_reducible refine Below.drew ?_) | (with_reducible refine Below.trans ?_ (hbel.mono (by first | omega | (simp; done) | (simp; omega))))))

end Go.Proofs.Ytdebmifjfemcjaa
