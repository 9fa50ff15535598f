/-
  MonoidComes, walked.
  MonoidSmall, walked.
  How a row that lists the variable utf.none is opened; slices of numbers as arguments.
  MonoidSmall: for every slice of numbers the law answers true, and leaves what it was given as it was; its card (utf.none holds what the program's text lays).
-/
import Derived.Test.YtmcmknndhppljaaDoorMonoidSmallF
import Derived.Test.YtmcmknndhppljaaDoorMonoidSmallI
import Derived.BigQuiet
import Derived.Test.YtmcmknndhppljaaDoorMonoidSmallG
import Derived.LaidLaws
import Derived.Deep.DeepHandedRow
import Derived.Lib.LaidTab
import Derived.ChangeSlices
import Derived.Lib.SmallJoins
import Derived.WalkKit
import Derived.ProofKit
import Derived.OpenShut
import Derived.Test.YtmcmknndhppljaaDoorCards
import Derived.Test.YtmcmknndhppljaaDoorTie
import Derived.ShutString
import Derived.ChangeOld
import Derived.Below
namespace Go.Dav
set_option linter.unusedVariables false
set_option linter.unusedSimpArgs false
open Go Go.RowKit
/-- A number, but for the least. -/
def clamp (x : Int) : Int := if x < -9223372036854775807 then -9223372036854775807 else x
theorem clamp_i64 {x : Int} (h : I64 x) : I64 (clamp x) ∧ I64 (-(clamp x)) := by unfold I64 clamp at *; constructor <;> split <;> omega
theorem clamp_neg {x : Int} (h : I64 x) : IntKind.i64.wrap (-(clamp x)) = -(clamp x) := by
  have := clamp_i64 h
  exact IntWalk.i64_in _ (by unfold I64 at this; omega)
theorem sg_zero0 : sg 0 = 0 := by unfold sg; rw [hi_zero, lo_zero]; rfl
theorem over_zero (k : Int) (r : Red) (h : r.s = 0) : overB k r = false := by
  unfold overB fitsB
  rw [h, sg_zero0]
  simp
theorem append_ne {W : World} {B e size n : Nat} {t r r' : Value} {xs : List Value} (h : t.ownBlock = none ∨ t.ownBlock ≠ r.ownBlock) (ho : W.ownsRow B e size t n xs) (hat : r'.ownBlock = r.ownBlock ∨ r'.ownBlock = some W.heap.size) : t.ownBlock = none ∨ t.ownBlock ≠ r'.ownBlock := by
  rcases h with h | h
  · exact .inl h
  · refine .inr fun e1 => ?_
    rcases hat with h1 | h1
    · rw [h1] at e1; exact h e1
    · rw [h1] at e1
      have := (ho.lt _ e1).2
      omega
theorem ne_swap {t r : Value} (h : t.ownBlock = none ∨ t.ownBlock ≠ r.ownBlock) : r.ownBlock = none ∨ r.ownBlock ≠ t.ownBlock := by
  cases hr : r.ownBlock with
  | none => exact .inl rfl
  | some k =>
    refine .inr fun e => ?_
    rcases h with h | h
    · rw [h] at e; cases e
    · rw [hr, ← e] at h; exact h rfl
end Go.Dav
namespace Go.Proofs.YtmcmknndhppljaaDoor
set_option linter.unusedVariables false
set_option linter.unusedSimpArgs false
open Go.RowKit Go.Dav
attribute [local go_sem] Gives ite_val ite_val_true

/-- Two slices of rows that grow. -/
structure TrydTwoRows (W : World) (B : Nat) (rv tv : Value) (k : Nat) (X Y : List Int) : Prop where
  r : W.ownsRow B 27 4 rv k ((X.map TrydNum).flatMap TrydRow.cells)
  t : W.ownsRow B 27 4 tv k ((Y.map TrydNum).flatMap TrydRow.cells)
  ne : tv.ownBlock = none ∨ tv.ownBlock ≠ rv.ownBlock

set_option maxRecDepth 8000 in
set_option maxHeartbeats 8000000 in
theorem Tryd_MonoidComes (a : Option Addr) (len cap : Nat) (L : List Int) (w : World) (hlen : L.length = len) (h1 : len ≤ cap) (h2 : cap ≤ maxLen) (hat : IntsAt w w.heap.size .i64 a L) (hx : ∀ x ∈ L, I64 x) (hN : GlobAt w 0 [.int .i64 0, .int .i64 0] 143) :
    Calls Tryd.prog 3 #[.slice a len cap] w fun e w' => e = .returned (.bool true) ∧ Below w.heap.size w w' := by
  obtain ⟨N, hNN⟩ : ∃ N, N = min len 60 := ⟨_, rfl⟩
  have hN60 : N ≤ 60 := by omega
  have hNl : N ≤ len := by omega
  have hmin : (if (60 : Int) < (len : Int) then (60 : Int) else (len : Int)) = (N : Int) := by split <;> omega
  have hmin2 : (if (len : Int) < 60 then (len : Int) else (60 : Int)) = (N : Int) := by split <;> omega
  have hNc : (N : Int) ≤ (cap : Int) := by omega
  have HAT := Lib.hid hat
  have HX := Lib.hid hx
  have HL := Lib.hid hlen
  have HN := Lib.hid hN
  have HNN := Lib.hid hNN
  clear hat hx hlen hN hNN
  obtain ⟨i0, hi0, hz0, hz1, hz2⟩ := info_parts Tryd_infoItem
  have HI := Lib.hid (And.intro hi0 (And.intro hz0 (And.intro hz1 hz2)))
  clear hi0 hz0 hz1 hz2
  go_enter Tryd.func3, Tryd.ntmps3
  go_wp2_with fail
  refine (Tryd_wakes _).mono ?_; rintro e w1 ⟨rfl, hb1⟩
  have HB1 := Lib.hid hb1
  have hs1 := hb1.size
  clear hb1
  go_wp2_with fail
  go_loopw [25, 4, 5] (fun ix rv tv wr => ∃ k : Nat, k ≤ N ∧ ix = .int .i64 (k : Int) ∧ TrydTwoRows wr w1.heap.size rv tv k ((L.take k).map clamp) ((L.take k).map (fun x => -(clamp x))) ∧ Below w1.heap.size w1 wr) (fun ix _ _ _ => N - (intOf ix).toNat)
  case atStart => exact ⟨0, Nat.zero_le _, by go_num, ⟨World.ownsRow_nil _ _ _ _, World.ownsRow_nil _ _ _ _, .inl rfl⟩, Below.refl _ _⟩
  case round =>
    obtain ⟨k, hk, rfl, htr, hbel⟩ := hrel
    have HTR := Lib.hid htr
    have HBE := Lib.hid hbel
    have hsr := hbel.size
    obtain ⟨ra, rc, rfl⟩ := own_sliceV htr.r
    obtain ⟨ta, tc, rfl⟩ := own_sliceV htr.t
    by_cases hlt : k < N
    · have g1 : (k : Int) < (N : Int) := by omega
      obtain ⟨x, hxk⟩ : ∃ x, L[k]? = some x := ⟨_, List.getElem?_eq_getElem (by have := HL.out; omega)⟩
      obtain ⟨b, o, rfl, hb, hcell⟩ := HAT.out k x hxk
      have hcw := ((HB1.out.trans (hbel.mono hs1)).cell (p := ⟨b, o + k, none⟩) hb).trans hcell
      have hxi := HX.out x (List.mem_of_getElem? hxk)
      obtain ⟨y, hy⟩ : ∃ y, clamp x = y := ⟨_, rfl⟩
      have hcl : (if x < -9223372036854775807 then -9223372036854775807 else x) = y := hy
      obtain ⟨z, hz⟩ : ∃ z, -y = z := ⟨_, rfl⟩
      have hneg : IntKind.i64.wrap (-y) = z := by rw [← hz, ← hy]; exact clamp_neg hxi
      have HT1 := Lib.hid (show (L.take (k + 1)).map clamp = (L.take k).map clamp ++ [y] by rw [List.take_add_one, hxk]; simp [hy])
      have HT2 := Lib.hid (show (L.take (k + 1)).map (fun x => -(clamp x)) = (L.take k).map (fun x => -(clamp x)) ++ [z] by rw [List.take_add_one, hxk]; simp [hy, hz])
      have HLT := Lib.hid hlt
      have HR1 := Lib.hid (htr.r.alloc (.cells #[.slice none 0 0, .slice none 0 0, .bool true, .int .i64 y] 27))
      clear hxk hb hcell hxi hy hz hlt hk htr hbel
      obtain ⟨hi0, hz0, hz1, hz2⟩ := HI.out
      have HNE := Lib.hid HTR.out.ne
      go_wp2_with (first
        | (at_builtin; refine wpList_append_own_at _ rfl (.tmp 31) (.tmp 34) 24 rfl w1.heap.size 27 i0 _ 4 64 Tryd.underlying24 hi0 hz0 hz1 hz2 rfl (by decide) _ k _ rfl HR1.out ⟨wr.heap.size, 0, none⟩ 1 1 [.slice none 0 0, .slice none 0 0, .bool true, .int .i64 y] rfl rfl (Tryd_news_row (Blk.new _ [_, _, _, _] _)) (by simp [Value.oneCell']) (by unfold maxLen; omega) (by omega) ?_ ?_; rotate_left; intro v5 w5 hown5 hgrow5 _ hat5; have HO5 := Lib.hid hown5; have HT5 := Lib.hid ((HTR.out.t.alloc _).kept hgrow5 HTR.out.ne); have HN5 := Lib.hid (append_ne HTR.out.ne (HTR.out.t.alloc _) hat5); have HB5 := Lib.hid (below_own (B := w1.heap.size) (HBE.out.alloc (by omega) _) (by simp; omega) HR1.out (Nat.le_refl _) hgrow5); have hs5 := HB5.out.size; clear HR1 hown5 hgrow5 hat5; rotate_left; (simp; omega); obtain ⟨ra2, rc2, rfl⟩ := own_sliceV HO5.out)
        | (at_builtin; refine wpList_append_own_at _ rfl (.tmp 36) (.tmp 40) 24 rfl w1.heap.size 27 i0 _ 4 64 Tryd.underlying24 hi0 hz0 hz1 hz2 rfl (by decide) _ k _ rfl (HT5.out.alloc _) ⟨w5.heap.size, 0, none⟩ 1 1 [.slice none 0 0, .slice none 0 0, .bool true, .int .i64 z] rfl rfl (Tryd_news_row (Blk.new _ [_, _, _, _] _)) (by simp [Value.oneCell']) (by unfold maxLen; omega) (by omega) ?_ ?_; rotate_left; intro v6 w6 hown6 hgrow6 _ hat6; have HO6 := Lib.hid hown6; have HT6 := Lib.hid ((HO5.out.alloc _).kept hgrow6 (ne_swap HN5.out)); have HN6 := Lib.hid (ne_swap (append_ne (ne_swap HN5.out) (HO5.out.alloc _) hat6)); have HB6 := Lib.hid (below_own (B := w1.heap.size) (HB5.out.alloc (by omega) _) (by simp; omega) (HT5.out.alloc _) (Nat.le_refl _) hgrow6); clear HT5 HO5 hown6 hgrow6 hat6; rotate_left; (simp; omega); obtain ⟨ta2, tc2, rfl⟩ := own_sliceV HO6.out))
      go_roundw
      case rel =>
        refine ⟨k + 1, HLT.out, by go_num, ⟨?_, ?_, HN6.out⟩, HB6.out⟩
        · rw [HT1.out, List.map_append, List.flatMap_append]; exact HT6.out
        · rw [HT2.out, List.map_append, List.flatMap_append]; exact HO6.out
      case measure => have := HLT.out; simp [intOf]; omega
    · have g1 : ¬ (k : Int) < (N : Int) := by omega
      obtain rfl : k = N := by omega
      have hx1 : ∀ y ∈ (L.take k).map clamp, I64 y := fun y hy => by
        obtain ⟨x, hx, rfl⟩ := List.mem_map.1 hy
        exact (clamp_i64 (HX.out x (List.mem_of_mem_take hx))).1
      have hx2 : ∀ y ∈ (L.take k).map (fun x => -(clamp x)), I64 y := fun y hy => by
        obtain ⟨x, hx, rfl⟩ := List.mem_map.1 hy
        exact (clamp_i64 (HX.out x (List.mem_of_mem_take hx))).2
      have hlk : (L.take k).length = k := by rw [List.length_take]; have := HL.out; omega
      obtain ⟨ys, hys⟩ : ∃ ys, (L.take k).map clamp = ys := ⟨_, rfl⟩
      have hzs : (L.take k).map (fun x => -(clamp x)) = ys.map (fun y => -y) := by rw [← hys, List.map_map]; rfl
      have hyl : ys.length = k := by rw [← hys, List.length_map]; exact hlk
      rw [hzs] at htr hx2
      rw [hys] at htr hx1
      have hnum : ∀ (zs : List Int), (∀ y ∈ zs, I64 y) → ∀ r ∈ zs.map TrydNum, I64 r.x := fun zs h r hr => by
        obtain ⟨y, hy, rfl⟩ := List.mem_map.1 hr; exact h y hy
      have hmir := mirror_redAll ys
      have hg1 := TrydSum_good (ys.map TrydNum) k (hnum ys hx1)
      have hg2 := TrydSum_good ((ys.map (fun y => -y)).map TrydNum) k (hnum _ hx2)
      have hc1 := TrydSum_c (ys.map TrydNum) k (by rw [List.length_map, hyl]; omega)
      have hc2 := TrydSum_c ((ys.map (fun y => -y)).map TrydNum) k (by rw [List.length_map, List.length_map, hyl]; omega)
      obtain ⟨ra', rc', e1, hr1⟩ := Tryd_rows_own htr.r
      cases e1
      obtain ⟨ta', tc', e2, hr2⟩ := Tryd_rows_own htr.t
      cases e2
      have HA := Lib.hid (Tryd_all ra rc (ys.map TrydNum) k wr (by rw [List.length_map]; exact hyl) hN60 hr1 (hnum ys hx1))
      have HB := Lib.hid (fun W (hb : Below wr.heap.size wr W) => Tryd_all ta tc ((ys.map (fun y => -y)).map TrydNum) k W (by rw [List.length_map, List.length_map]; exact hyl) hN60 (Tryd_rowsIn_later (Tryd_rowsIn_below hr2 hb (Nat.le_refl _)) hb.size) (hnum _ hx2))
      have e3 := TrydSum_nums ys hyl
      have e4 := TrydSum_nums (ys.map (fun y => -y)) (n := k) (by rw [List.length_map]; exact hyl)
      rw [List.map_map] at e4
      have e4' : TrydSum ((ys.map (fun y => -y)).map TrydNum) k = redAll (ys.map (fun y => rowRed true (-y))) := by rw [List.map_map, e4, List.map_map]; rfl
      rw [← e3, ← e4'] at hmir
      obtain ⟨A, hA⟩ : ∃ A, TrydSum (ys.map TrydNum) k = A := ⟨_, rfl⟩
      obtain ⟨T, hT⟩ : ∃ T, TrydSum ((ys.map (fun y => -y)).map TrydNum) k = T := ⟨_, rfl⟩
      rw [hA] at HA hmir hg1 hc1
      rw [hT] at HB hmir hg2 hc2
      have hj := two_joined hg1 hg2 (by omega)
      have hbg := Red.both_good hg1 hg2
      have hbc : (A.both T).c = A.c + T.c := rfl
      have hb2 := hmir.both hg1
      have HFITS := Lib.hid (show ∀ t ∈ [A, T], t.fits from fun t ht => by
        simp only [List.mem_cons, List.not_mem_nil, or_false] at ht
        rcases ht with rfl | rfl
        · exact Red.good_fits hg1 (by omega)
        · exact Red.good_fits hg2 (by omega))
      obtain ⟨B, hB⟩ : ∃ B, A.both T = B := ⟨_, rfl⟩
      rw [hB] at hj hbg hbc hb2
      have HJ := Lib.hid hj
      have hbok := Red.good_ok hbg (by omega)
      have hbf := Red.good_fits hbg (by omega)
      have HTE := Lib.hid (fun W => Tryd_TellAll 2 B W hbf)
      have htx : toldX 2 B = leafV 1 3 0 := by
        unfold toldX
        rw [hbok, over_zero 2 B hb2.1, if_neg (by simp)]
        unfold tellV
        rw [if_neg (by decide), if_pos (by decide), hb2.1, sg_zero0]
      have hte : toldE 2 B = 0 := by
        unfold toldE
        rw [hbok, over_zero 2 B hb2.1]; simp
      rw [htx, hte] at HTE
      have HB2 := Lib.hid hb2
      have HBM := Lib.hid (show I64 B.m from hbf.2.2.2)
      have HBL := Lib.hid (show I64 B.l from hbf.2.2.1)
      have HBEL := Lib.hid (HB1.out.trans (hbel.mono hs1))
      clear hx1 hx2 hlk hys hzs hyl htr hnum hmir hg1 hg2 hc1 hc2 hr1 hr2 e3 e4 e4' hA hT hj hbg hbc hb2 hB hbok hbf htx hte hbel hlt hk
      go_wp2_with fail
      refine HA.out.mono ?_; rintro e w3 ⟨rfl, hb3⟩
      have HW3 := Lib.hid hb3
      have ba : Below w3.heap.size w3 (w3.alloc (.cells #[.int .i64 A.c, .int .i64 A.n, .int .i64 (hi A.s), .int .u64 (lo A.s), .int .i64 A.l, .int .i64 A.m] 30)) := (by repeat (first | (with_reducible exact Below.refl _ _) | (with_reducible exact Below.refl _ _) | (with_reducible refine Below.setCell ?_ (by first | omega | (simp; done) | (simp; omega)) _) | (with_reducible refine Below.alloc ?_ (by first | omega | (simp; done) | (simp; omega)) _) | (with_reducible refine Below.drew ?_) | (with_reducible refine below_drewN ?_ _)))
      have HBB := Lib.hid (HB.out _ (hb3.trans (ba.mono hb3.size)))
      have HA3 := Lib.hid (Blk.new w3 [.int .i64 A.c, .int .i64 A.n, .int .i64 (hi A.s), .int .u64 (lo A.s), .int .i64 A.l, .int .i64 A.m] 30)
      have HW3 := Lib.hid (hb3.trans (ba.mono hb3.size))
      clear hb3 ba HA HB
      go_wp2_with fail
      refine HBB.out.mono ?_; rintro e w4 ⟨rfl, hb4⟩
      have ha4 := HA3.out.ext hb4
      have q1 := ha4.cells
      have l1 := ha4.lt
      have bt : Below w4.heap.size w4 ((w4.alloc (.cells #[.int .i64 T.c, .int .i64 T.n, .int .i64 (hi T.s), .int .u64 (lo T.s), .int .i64 T.l, .int .i64 T.m] 30)).alloc (.cells #[.int .i64 A.c, .int .i64 A.n, .int .i64 (hi A.s), .int .u64 (lo A.s), .int .i64 A.l, .int .i64 A.m, .int .i64 T.c, .int .i64 T.n, .int .i64 (hi T.s), .int .u64 (lo T.s), .int .i64 T.l, .int .i64 T.m] 30)) := (by repeat (first | (with_reducible exact Below.refl _ _) | (with_reducible exact Below.refl _ _) | (with_reducible refine Below.setCell ?_ (by first | omega | (simp; done) | (simp; omega)) _) | (with_reducible refine Below.alloc ?_ (by first | omega | (simp; done) | (simp; omega)) _) | (with_reducible refine Below.drew ?_) | (with_reducible refine below_drewN ?_ _)))
      have HW4 := Lib.hid (HW3.out.trans ((hb4.mono HW3.out.size).trans (bt.mono (Nat.le_trans HW3.out.size hb4.size))))
      have hjc := Tryd_Join' (w4.heap.size + 1) 0 2 2 [A, T] ((w4.alloc (.cells #[.int .i64 T.c, .int .i64 T.n, .int .i64 (hi T.s), .int .u64 (lo T.s), .int .i64 T.l, .int .i64 T.m] 30)).alloc (.cells #[.int .i64 A.c, .int .i64 A.n, .int .i64 (hi A.s), .int .u64 (lo A.s), .int .i64 A.l, .int .i64 A.m, .int .i64 T.c, .int .i64 T.n, .int .i64 (hi T.s), .int .u64 (lo T.s), .int .i64 T.l, .int .i64 T.m] 30)) rfl (by omega) (by simp) (Tryd_RedsAt_flat (Blk.new' _ [_, _, _, _, _, _, _, _, _, _, _, _] _ (by simp)) rfl) HFITS.out
      rw [HJ.out] at hjc
      have HJC := Lib.hid (show Calls Tryd.prog 14 #[.slice (some ⟨w4.heap.size + 1, 0, none⟩) 2 2] _ (fun e w' => e = .returned (.tuple #[.agg #[.int .i64 B.c, .int .i64 B.n, .int .i64 (hi B.s), .int .u64 (lo B.s), .int .i64 B.l, .int .i64 B.m], .int .i64 0]) ∧ Below _ _ w') from hjc)
      clear hb4 ha4 bt hjc HBB
      go_wp2_with fail
      refine HJC.out.mono ?_; rintro e w5 ⟨rfl, hb5⟩
      have HW5 := Lib.hid (HW4.out.trans (hb5.mono HW4.out.size))
      have b5 : Below w5.heap.size w5 (w5.alloc (.cells #[.int .i64 B.c, .int .i64 B.n, .int .i64 (hi B.s), .int .u64 (lo B.s), .int .i64 B.l, .int .i64 B.m] 30)) := (by repeat (first | (with_reducible exact Below.refl _ _) | (with_reducible exact Below.refl _ _) | (with_reducible refine Below.setCell ?_ (by first | omega | (simp; done) | (simp; omega)) _) | (with_reducible refine Below.alloc ?_ (by first | omega | (simp; done) | (simp; omega)) _) | (with_reducible refine Below.drew ?_) | (with_reducible refine below_drewN ?_ _)))
      have HB5 := Lib.hid (Blk.new w5 [.int .i64 B.c, .int .i64 B.n, .int .i64 (hi B.s), .int .u64 (lo B.s), .int .i64 B.l, .int .i64 B.m] 30)
      have HW5b := Lib.hid (HW5.out.trans (b5.mono HW5.out.size))
      clear hb5 b5 HJC q1 l1 HA3
      go_wp2_with fail
      refine (HTE.out _).mono ?_; rintro e w6 ⟨⟨v, rfl, hv⟩, hb6⟩
      obtain ⟨ka, kl, kc, qa, ql, qc, hvi⟩ := id hv
      have hval : v = .agg #[.int .i64 3, .int .i64 0, .string noStr, .slice ka kl kc, .slice qa ql qc] := hvi.val
      subst hval
      have hb6' := HB5.out.ext hb6
      have q1 := hb6'.cells
      have l1 := hb6'.lt
      have b6 : Below w6.heap.size w6 (w6.alloc (.cells #[.int .i64 3, .int .i64 0, .string noStr, .slice ka kl kc, .slice qa ql qc] 39)) := (by repeat (first | (with_reducible exact Below.refl _ _) | (with_reducible exact Below.refl _ _) | (with_reducible refine Below.setCell ?_ (by first | omega | (simp; done) | (simp; omega)) _) | (with_reducible refine Below.alloc ?_ (by first | omega | (simp; done) | (simp; omega)) _) | (with_reducible refine Below.drew ?_) | (with_reducible refine below_drewN ?_ _)))
      have HW6 := Lib.hid (HW5b.out.trans ((hb6.mono HW5b.out.size).trans (b6.mono (Nat.le_trans HW5b.out.size hb6.size))))
      have hsm := Tryd_vSame 2 1 (leafV 1 3 0) (leafV 0 3 0) _ _ _ (ValAt.ext b6 _ hv) (leaf_at _ 0 (by unfold I64'; omega) (by unfold I64'; omega)) (HN.out.ext (HBEL.out.trans (HW6.out.mono HBEL.out.size)))
      rw [leaf_sameV 3 0 1 0 (.inl rfl)] at hsm
      have HSM := Lib.hid hsm
      have hneg : IntKind.i64.wrap (-B.m) = B.l := by
        rw [← HB2.out.2]; exact IntWalk.i64_in _ (by have := HBL.out; unfold I64 at this; omega)
      have HQ6 := Lib.hid (hb6'.alloc (.cells #[.int .i64 3, .int .i64 0, .string noStr, .slice ka kl kc, .slice qa ql qc] 39))
      clear hb6 hb6' b6 hsm hv hvi HB5
      go_wp2_with fail
      refine HSM.out.mono ?_; rintro e w7 ⟨rfl, hb7⟩
      have hq7 := HQ6.out.ext hb7
      clear q1 l1
      have q1 := hq7.cells
      have l1 := hq7.lt
      have HW7 := Lib.hid (HW6.out.trans (hb7.mono HW6.out.size))
      clear hq7 hb7 HSM HQ6
      go_wp2
      go_ret
      exact ⟨rfl, HBEL.out.trans (HW7.out.mono HBEL.out.size)⟩
end Go.Proofs.YtmcmknndhppljaaDoor

namespace Go.Dav
set_option linter.unusedVariables false
set_option linter.unusedSimpArgs false
open Go Go.RowKit
/-- Numbers of 32 bits. -/
def I32 (x : Int) : Prop := -2147483648 ≤ x ∧ x ≤ 2147483647
theorem I32.i64 {x : Int} (h : I32 x) : I64 x := by unfold I32 at h; unfold I64; omega
theorem sum_small : ∀ (l : List Int), (∀ x ∈ l, I32 x) → -(2147483648 * (l.length : Int)) ≤ l.sum ∧ l.sum ≤ 2147483648 * (l.length : Int)
  | [], _ => by simp
  | x :: l, h => by
    have h1 := h x (List.mem_cons_self ..)
    have h2 := sum_small l fun y hy => h y (List.mem_cons_of_mem _ hy)
    unfold I32 at h1
    rw [List.sum_cons, List.length_cons]
    omega
theorem foldl_nums : ∀ (ys : List Int) (A : Red), ((ys.map (rowRed true)).foldl Red.both A).s = A.s + ys.sum ∧ ((ys.map (rowRed true)).foldl Red.both A).n = A.n + ys.length ∧ ((ys.map (rowRed true)).foldl Red.both A).c = A.c + ys.length
  | [], A => by simp
  | y :: ys, A => by
    have e1 : A.both (rowRed true y) = ⟨A.c + 1, A.n + 1, A.s + y, if 0 < A.n then min A.l y else y, if 0 < A.n then max A.m y else y⟩ := by
      simp [Red.both, rowRed, bothN, bothS, bothL, bothM]
    obtain ⟨h1, h2, h3⟩ := foldl_nums ys (A.both (rowRed true y))
    rw [List.map_cons, List.foldl_cons, h1, h2, h3, e1, List.sum_cons, List.length_cons]
    refine ⟨by show A.s + y + _ = _; omega, by show A.n + 1 + _ = _; omega, by show A.c + 1 + _ = _; omega⟩
theorem redAll_nums (ys : List Int) : (redAll (ys.map (rowRed true))).s = ys.sum ∧ (redAll (ys.map (rowRed true))).n = ys.length ∧ (redAll (ys.map (rowRed true))).c = ys.length := by
  obtain ⟨h1, h2, h3⟩ := foldl_nums ys Red.zero
  unfold redAll
  rw [h1, h2, h3]
  simp [Red.zero]
def smallKs : List Int := [1, 4, 3, 1, 2]
theorem over_small {k : Int} {r : Red} (h1 : -9223372036854775808 ≤ r.s) (h2 : r.s ≤ 9223372036854775807) : overB k r = false ∧ sg r.s = r.s := by
  have e : sg r.s = r.s := sg_of (by omega) (by omega)
  refine ⟨?_, e⟩
  unfold overB fitsB
  rw [e, decide_eq_true (show -9223372036854775808 ≤ r.s ∧ r.s < 9223372036854775808 by omega)]
  simp
theorem told_stats {r : Red} (hok : r.ok = true) (h1 : -9223372036854775808 ≤ r.s) (h2 : r.s ≤ 9223372036854775807) : toldX 5 r = statsV r ∧ toldE 5 r = 0 := by
  have e := (over_small (k := 5) h1 h2).1
  unfold toldX toldE
  rw [hok, e]
  simp [tellV]
theorem end_sameV (n x : Int) (d e : Nat) : sameV (d + 1) (e + 1) (endV d n x) (endV e n x) = true := by
  unfold endV
  split
  · exact leaf_sameV 3 x d e (.inl rfl)
  · exact leaf_sameV 1 0 d e (.inr ⟨rfl, rfl⟩)
/-- What is told by each kind is what _stats has there. -/
theorem told_kid {r : Red} (hok : r.ok = true) (hn : r.n = r.c) (h1 : -9223372036854775808 ≤ r.s) (h2 : r.s ≤ 9223372036854775807) {i : Nat} {k : Int} {y : ValN 1} (hk : smallKs[i]? = some k) (hy : (statsV r).to.kids[i]? = some y) :
    sameV 2 1 (toldX k r) y = true ∧ toldE k r = 0 := by
  have hi : i < 5 := by have := (List.getElem?_eq_some_iff.1 hk).1; simpa [smallKs] using this
  have hy' : [leafV 0 3 r.c, endV 0 r.n r.m, endV 0 r.n r.l, leafV 0 3 r.n, leafV 0 3 (sg r.s)][i]? = some y := hy
  have ho := fun k => (over_small (k := k) (r := r) h1 h2).1
  rcases (by omega : i = 0 ∨ i = 1 ∨ i = 2 ∨ i = 3 ∨ i = 4) with rfl | rfl | rfl | rfl | rfl
  · cases hk; cases hy'
    have e : toldX 1 r = leafV 1 3 r.c := by unfold toldX; rw [hok, ho]; simp [tellV]
    rw [e]
    exact ⟨leaf_sameV 3 _ 1 0 (.inl rfl), by unfold toldE; rw [hok, ho]; simp⟩
  · cases hk; cases hy'
    have e : toldX 4 r = endV 1 r.n r.m := by unfold toldX; rw [hok, ho]; simp [tellV]
    rw [e]
    exact ⟨end_sameV _ _ 1 0, by unfold toldE; rw [hok, ho]; simp⟩
  · cases hk; cases hy'
    have e : toldX 3 r = endV 1 r.n r.l := by unfold toldX; rw [hok, ho]; simp [tellV]
    rw [e]
    exact ⟨end_sameV _ _ 1 0, by unfold toldE; rw [hok, ho]; simp⟩
  · cases hk; cases hy'
    have e : toldX 1 r = leafV 1 3 r.c := by unfold toldX; rw [hok, ho]; simp [tellV]
    rw [e, hn]
    exact ⟨leaf_sameV 3 _ 1 0 (.inl rfl), by unfold toldE; rw [hok, ho]; simp⟩
  · cases hk; cases hy'
    have e : toldX 2 r = leafV 1 3 (sg r.s) := by unfold toldX; rw [hok, ho]; simp [tellV]
    rw [e]
    exact ⟨leaf_sameV 3 _ 1 0 (.inl rfl), by unfold toldE; rw [hok, ho]; simp⟩
end Go.Dav
namespace Go.Proofs.YtmcmknndhppljaaDoor
set_option linter.unusedVariables false
set_option linter.unusedSimpArgs false
open Go.RowKit Go.Dav
attribute [local go_sem] Gives ite_val ite_val_true

set_option maxRecDepth 8000 in
set_option maxHeartbeats 8000000 in
theorem Tryd_MonoidSmall (a : Option Addr) (len cap : Nat) (L : List Int) (w : World) (hlen : L.length = len) (h1 : len ≤ cap) (h2 : cap ≤ maxLen) (hat : IntsAt w w.heap.size .i32 a L) (hx : ∀ x ∈ L, I32 x) (hN : GlobAt w 0 [.int .i64 0, .int .i64 0] 143) :
    Calls Tryd.prog 4 #[.slice a len cap] w fun e w' => e = .returned (.bool true) ∧ Below w.heap.size w w' := by
  obtain ⟨N, hNN⟩ : ∃ N, N = min len 60 := ⟨_, rfl⟩
  have hN60 : N ≤ 60 := by omega
  have hNl : N ≤ len := by omega
  have hmin : (if (60 : Int) < (len : Int) then (60 : Int) else (len : Int)) = (N : Int) := by split <;> omega
  have hmin2 : (if (len : Int) < 60 then (len : Int) else (60 : Int)) = (N : Int) := by split <;> omega
  have hNc : (N : Int) ≤ (cap : Int) := by omega
  have HAT := Lib.hid hat
  have HX := Lib.hid hx
  have HL := Lib.hid hlen
  have HN := Lib.hid hN
  have HNN := Lib.hid hNN
  clear hat hx hlen hN hNN
  obtain ⟨i0, hi0, hz0, hz1, hz2⟩ := info_parts Tryd_infoItem
  have HI := Lib.hid (And.intro hi0 (And.intro hz0 (And.intro hz1 hz2)))
  clear hi0 hz0 hz1 hz2
  go_enter Tryd.func4, Tryd.ntmps4
  go_wp2_with fail
  refine (Tryd_wakes _).mono ?_; rintro e w1 ⟨rfl, hb1⟩
  have HB1 := Lib.hid hb1
  have hs1 := hb1.size
  clear hb1
  go_wp2_with fail
  go_loopw [25, 4, 5] (fun ix rv sv wr => ∃ k : Nat, k ≤ N ∧ ix = .int .i64 (k : Int) ∧ sv = .int .i64 (L.take k).sum ∧ wr.ownsRow w1.heap.size 27 4 rv k (((L.take k).map TrydNum).flatMap TrydRow.cells) ∧ Below w1.heap.size w1 wr) (fun ix _ _ _ => N - (intOf ix).toNat)
  case atStart => exact ⟨0, Nat.zero_le _, by go_num, rfl, World.ownsRow_nil _ _ _ _, Below.refl _ _⟩
  case round =>
    obtain ⟨k, hk, rfl, rfl, htr, hbel⟩ := hrel
    have HTR := Lib.hid htr
    have HBE := Lib.hid hbel
    have hsr := hbel.size
    obtain ⟨ra, rc, rfl⟩ := own_sliceV htr
    have hsm := sum_small (L.take k) (fun x hx => HX.out x (List.mem_of_mem_take hx))
    have hlk : (L.take k).length = k := by rw [List.length_take]; have := HL.out; omega
    rw [hlk] at hsm
    obtain ⟨S, hS⟩ : ∃ S, (L.take k).sum = S := ⟨_, rfl⟩
    rw [hS] at hsm
    rw [hS]
    by_cases hlt : k < N
    · have g1 : (k : Int) < (N : Int) := by omega
      obtain ⟨x, hxk⟩ : ∃ x, L[k]? = some x := ⟨_, List.getElem?_eq_getElem (by have := HL.out; omega)⟩
      obtain ⟨b, o, rfl, hb, hcell⟩ := HAT.out k x hxk
      have hcw := ((HB1.out.trans (hbel.mono hs1)).cell (p := ⟨b, o + k, none⟩) hb).trans hcell
      have hxi := HX.out x (List.mem_of_getElem? hxk)
      have hcv : IntKind.i64.wrap x = x := IntWalk.i64_in _ (by unfold I32 at hxi; omega)
      have hadd : IntKind.i64.wrap (S + x) = S + x := IntWalk.i64_in _ (by unfold I32 at hxi; omega)
      have HT0 := Lib.hid (show (L.take (k + 1)).sum = S + x by rw [List.take_add_one, hxk, List.sum_append, hS]; simp)
      have HT1 := Lib.hid (show (L.take (k + 1)).map TrydNum = (L.take k).map TrydNum ++ [TrydNum x] by rw [List.take_add_one, hxk]; simp)
      have HLT := Lib.hid hlt
      have HR1 := Lib.hid (htr.alloc (.cells #[.slice none 0 0, .slice none 0 0, .bool true, .int .i64 x] 27))
      clear hxk hb hcell hxi hlt hk htr hbel hS hsm hlk
      obtain ⟨hi0, hz0, hz1, hz2⟩ := HI.out
      go_wp2_with (at_builtin; refine wpList_append_own_at _ rfl (.tmp 29) (.tmp 33) 24 rfl w1.heap.size 27 i0 _ 4 64 Tryd.underlying24 hi0 hz0 hz1 hz2 rfl (by decide) _ k _ rfl HR1.out ⟨wr.heap.size, 0, none⟩ 1 1 [.slice none 0 0, .slice none 0 0, .bool true, .int .i64 x] rfl rfl (Tryd_news_row (Blk.new _ [_, _, _, _] _)) (by simp [Value.oneCell']) (by unfold maxLen; omega) (by omega) ?_ ?_; rotate_left; intro v5 w5 hown5 hgrow5 _ hat5; have HO5 := Lib.hid hown5; have HB5 := Lib.hid (below_own (B := w1.heap.size) (HBE.out.alloc (by omega) _) (by simp; omega) HR1.out (Nat.le_refl _) hgrow5); clear HR1 hown5 hgrow5 hat5; rotate_left; (simp; omega); obtain ⟨ra2, rc2, rfl⟩ := own_sliceV HO5.out)
      go_roundw
      case rel =>
        refine ⟨k + 1, HLT.out, by go_num, by rw [HT0.out], ?_, HB5.out⟩
        rw [HT1.out, List.flatMap_append]; exact HO5.out
      case measure => have := HLT.out; simp [intOf]; omega
    · have g1 : ¬ (k : Int) < (N : Int) := by omega
      obtain rfl : k = N := by omega
      obtain ⟨ys, hys⟩ : ∃ ys, L.take k = ys := ⟨_, rfl⟩
      have hyx : ∀ y ∈ ys, I32 y := fun y hy => HX.out y (by rw [← hys] at hy; exact List.mem_of_mem_take hy)
      rw [hys] at htr hlk hS
      have hnum : ∀ r ∈ ys.map TrydNum, I64 r.x := fun r hr => by
        obtain ⟨y, hy, rfl⟩ := List.mem_map.1 hr; exact (hyx y hy).i64
      have hg1 := TrydSum_good (ys.map TrydNum) k hnum
      obtain ⟨ra', rc', e1, hr1⟩ := Tryd_rows_own htr
      cases e1
      have HA := Lib.hid (Tryd_all ra rc (ys.map TrydNum) k wr (by rw [List.length_map]; exact hlk) hN60 hr1 hnum)
      have e3 := TrydSum_nums ys hlk
      obtain ⟨n1, n2, n3⟩ := redAll_nums ys
      rw [← e3, hS] at n1
      rw [← e3, hlk] at n2 n3
      obtain ⟨B, hA⟩ : ∃ A, TrydSum (ys.map TrydNum) k = A := ⟨_, rfl⟩
      rw [hA] at HA hg1 n1 n2 n3
      subst n1
      have hbok := Red.good_ok hg1 (by omega)
      have hbf := Red.good_fits hg1 (by omega)
      have HTE := Lib.hid (fun k W => Tryd_TellAll k B W hbf)
      have HFIVE := Lib.hid (told_stats hbok (by omega) (by omega))
      have HKID := Lib.hid (fun (i : Nat) (k : Int) (y : ValN 1) (hk : smallKs[i]? = some k) (hy : (statsV B).to.kids[i]? = some y) => told_kid hbok (n2.trans n3.symm) (by omega) (by omega) hk hy)
      have HSG := Lib.hid (over_small (k := 2) (r := B) (by omega) (by omega)).2
      have HBEL := Lib.hid (HB1.out.trans (hbel.mono hs1))
      clear htr hyx hlk hS hnum hg1 hr1 e3 n2 n3 hA hbok hbf hbel hlt hk hys hsm
      go_wp2_with fail
      refine HA.out.mono ?_; rintro e w3 ⟨rfl, hb3⟩
      have b3 : Below w3.heap.size w3 (w3.alloc (.cells #[.int .i64 B.c, .int .i64 B.n, .int .i64 (hi B.s), .int .u64 (lo B.s), .int .i64 B.l, .int .i64 B.m] 30)) := (by repeat (first | (with_reducible exact Below.refl _ _) | (with_reducible exact Below.refl _ _) | (with_reducible refine Below.setCell ?_ (by first | omega | (simp; done) | (simp; omega)) _) | (with_reducible refine Below.alloc ?_ (by first | omega | (simp; done) | (simp; omega)) _) | (with_reducible refine Below.drew ?_) | (with_reducible refine below_drewN ?_ _)))
      have HA3 := Lib.hid (Blk.new w3 [.int .i64 B.c, .int .i64 B.n, .int .i64 (hi B.s), .int .u64 (lo B.s), .int .i64 B.l, .int .i64 B.m] 30)
      have HW3 := Lib.hid (HBEL.out.trans ((hb3.trans (b3.mono hb3.size)).mono HBEL.out.size))
      clear hb3 b3 HA
      go_wp2_with fail
      refine (HTE.out 5 _).mono ?_; rintro e w4 ⟨⟨v, rfl, hv⟩, hb4⟩
      rw [HFIVE.out.1] at hv
      rw [HFIVE.out.2]
      obtain ⟨ka, kl, kc, qa, ql, qc, hvi⟩ := id hv
      have hkl : kl = 5 := hvi.hlen.symm
      have hql : ql = 5 := hvi.keys.hlen.symm
      have hval : v = .agg #[.int .i64 6, .int .i64 0, .string noStr, .slice ka kl kc, .slice qa ql qc] := hvi.val
      subst hkl hql hval
      have hkc : 5 ≤ kc := hvi.hcap
      obtain ⟨WL, hWL⟩ : ∃ WL, (w4.alloc (.cells #[.int .i64 6, .int .i64 0, .string noStr, .slice ka 5 kc, .slice qa 5 qc] 39)).alloc (.cells #[.int .i64 1, .int .i64 4, .int .i64 3, .int .i64 1, .int .i64 2] 3) = WL := ⟨_, rfl⟩
      have b4 : Below w4.heap.size w4 WL := by rw [← hWL]; exact (by repeat (first | (with_reducible exact Below.refl _ _) | (with_reducible exact Below.refl _ _) | (with_reducible refine Below.setCell ?_ (by first | omega | (simp; done) | (simp; omega)) _) | (with_reducible refine Below.alloc ?_ (by first | omega | (simp; done) | (simp; omega)) _) | (with_reducible refine Below.drew ?_) | (with_reducible refine below_drewN ?_ _)))
      have hqv : Blk WL w4.heap.size [.int .i64 6, .int .i64 0, .string noStr, .slice ka 5 kc, .slice qa 5 qc] 39 := by rw [← hWL]; exact (Blk.new _ _ _).alloc _
      have hqk : Blk WL (w4.heap.size + 1) (smallKs.map (Value.int .i64)) 3 := by rw [← hWL]; exact Blk.new' _ _ _ (by simp)
      have hqb := (HA3.out.ext hb4).ext b4
      have HV := Lib.hid (ValAt.ext b4 _ hv)
      have HVI := Lib.hid (hvi.ext b4 (fun v y h => ValAt.ext b4 1 h))
      have HQV := Lib.hid hqv
      have HQK := Lib.hid hqk
      have HQB := Lib.hid hqb
      have HW4 := Lib.hid (HW3.out.trans ((hb4.trans (b4.mono hb4.size)).mono HW3.out.size))
      have HWL := Lib.hid hWL
      have hsz4 := b4.size
      have q0 := (HA3.out.ext hb4).cells
      have l0 := (HA3.out.ext hb4).lt
      clear hb4 b4 hv hvi hqv hqk hqb hWL HA3
      go_wp2_with fail
      rw [HWL.out]
      clear q0 l0
      go_loopw [64] (fun ix wr => ∃ i : Nat, i ≤ 5 ∧ ix = .int .i64 (i : Int) ∧ Below WL.heap.size WL wr) (fun ix _ => 5 - (intOf ix).toNat)
      case atStart => exact ⟨0, by omega, by go_num, Below.refl _ _⟩
      case round =>
        obtain ⟨i, hi, rfl, hbr⟩ := hrel
        have HBR := Lib.hid hbr
        by_cases hlt : i < 5
        · have g1 : (i : Int) < 5 := by omega
          obtain ⟨kd, hkd⟩ : ∃ k, smallKs[i]? = some k := ⟨_, List.getElem?_eq_getElem hlt⟩
          obtain ⟨y, hy⟩ : ∃ y, (statsV B).to.kids[i]? = some y := ⟨_, List.getElem?_eq_getElem (show i < (statsV B).to.kids.length from hlt)⟩
          obtain ⟨b, o, u0, u1, u2, u3, u4, rfl, hbw, c0, c1, c2, c3, c4, hvk⟩ := HVI.out.hkid i y hy
          have hqk := HQK.out.ext hbr
          have hqb := HQB.out.ext hbr
          have ck : wr.cell? ⟨w4.heap.size + 1, i, none⟩ = some (.int .i64 kd) := by rw [hqk.cells i, List.getElem?_map, hkd]; rfl
          have lk := hqk.lt
          have qb := hqb.cells
          have lb := hqb.lt
          obtain ⟨hsame, hte⟩ := HKID.out i kd y hkd hy
          have hta := HTE.out kd wr
          rw [hte] at hta
          have HTA := Lib.hid hta
          have HLT := Lib.hid hlt
          have HS := Lib.hid hsame
          obtain ⟨k2, n2, s2, a2, l2, m2, a3, l3, m3, hagg⟩ := hvk.agg
          have hvk' := hvk
          rw [hagg] at hvk'
          simp only [Value.agg.injEq, Array.mk.injEq, List.cons.injEq, and_true] at hagg
          obtain ⟨rfl, rfl, rfl, rfl, rfl⟩ := hagg
          have HVK := Lib.hid hvk'
          clear hkd hy hbr hlt hi hqk hqb hsame hte hta hvk hvk'
          go_wp2_with fail
          refine HTA.out.mono ?_; rintro e w5 ⟨⟨v5, rfl, hv5⟩, hb5⟩
          have hbL5 := HBR.out.trans (hb5.mono HBR.out.size)
          obtain ⟨k4, n4, s4, a4, l4, m4, a5, l5, m5, rfl⟩ := hv5.agg
          have qv := (HQV.out.ext hbL5).cells
          have lv := (HQV.out.ext hbL5).lt
          have e0 := (hbL5.cell (p := ⟨b, o + i * 5, none⟩) hbw).trans c0
          have e1 := (hbL5.cell (p := ⟨b, o + i * 5 + 1, none⟩) hbw).trans c1
          have e2 := (hbL5.cell (p := ⟨b, o + i * 5 + 2, none⟩) hbw).trans c2
          have e3 := (hbL5.cell (p := ⟨b, o + i * 5 + 3, none⟩) hbw).trans c3
          have e4 := (hbL5.cell (p := ⟨b, o + i * 5 + 4, none⟩) hbw).trans c4
          have lb5 : b < w5.heap.size := Nat.lt_of_lt_of_le hbw hbL5.size
          have HV5 := Lib.hid hv5
          have HB5 := Lib.hid hbL5
          clear c0 c1 c2 c3 c4 ck lk qb lb hb5 hbL5 hv5 HTA
          go_wp2_with fail
          refine' wp_region_seq [.inl _, .inl _, .inl _, .inl _, .inl _, .inl _, .inl _, .inl _, .inl _, .inl _, .inl _, .inl _] (by kernel_rfl) (by kernel_rfl) ?main1
          case main1 =>
            refine wpParts_det (by rfl) (fun W hE hN => ?_) ?_
            · go_simp; refine ⟨Below.refl _ _, ?_⟩; rfl
            simp only [Act.put, List.setIfInBounds_toArray, List.set_cons_zero, List.set_cons_succ]
            refine wpParts_det (by rfl) (fun W hE hN => ?_) ?_
            · go_simp; refine ⟨Below.refl _ _, ?_⟩; rfl
            simp only [Act.put, List.setIfInBounds_toArray, List.set_cons_zero, List.set_cons_succ]
            refine wpParts_det (by rfl) (fun W hE hN => ?_) ?_
            · go_simp; refine ⟨Below.refl _ _, ?_⟩; rfl
            simp only [Act.put, List.setIfInBounds_toArray, List.set_cons_zero, List.set_cons_succ]
            refine wpParts_det (by rfl) (fun W hE hN => ?_) ?_
            · have hc := fun b o h => hE.cell (p := ⟨b, o, none⟩) h
              go_simp; refine ⟨Below.refl _ _, ?_⟩; rfl
            simp only [Act.put, List.setIfInBounds_toArray, List.set_cons_zero, List.set_cons_succ]
            refine wpParts_det (by rfl) (fun W hE hN => ?_) ?_
            · go_simp; refine ⟨Below.refl _ _, ?_⟩; rfl
            simp only [Act.put, List.setIfInBounds_toArray, List.set_cons_zero, List.set_cons_succ]
            refine wpParts_det (by rfl) (fun W hE hN => ?_) ?_
            · have hc := fun b o h => hE.cell (p := ⟨b, o, none⟩) h
              go_simp; refine ⟨Below.refl _ _, ?_⟩; rfl
            simp only [Act.put, List.setIfInBounds_toArray, List.set_cons_zero, List.set_cons_succ]
            refine wpParts_det (by rfl) (fun W hE hN => ?_) ?_
            · go_simp; refine ⟨Below.refl _ _, ?_⟩; rfl
            simp only [Act.put, List.setIfInBounds_toArray, List.set_cons_zero, List.set_cons_succ]
            refine wpParts_det (by rfl) (fun W hE hN => ?_) ?_
            · go_simp; refine ⟨Below.refl _ _, ?_⟩; rfl
            simp only [Act.put, List.setIfInBounds_toArray, List.set_cons_zero, List.set_cons_succ]
            refine wpParts_det (by rfl) (fun W hE hN => ?_) ?_
            · have hc := fun b o h => hE.cell (p := ⟨b, o, none⟩) h
              go_simp; refine ⟨Below.refl _ _, ?_⟩; rfl
            simp only [Act.put, List.setIfInBounds_toArray, List.set_cons_zero, List.set_cons_succ]
            refine wpParts_det (by rfl) (fun W hE hN => ?_) ?_
            · have hbw5 : Below w5.heap.size w5 W := (by repeat (first | (with_reducible exact Below.refl _ _) | (with_reducible exact Below.refl _ _) | (with_reducible refine Below.setCell ?_ (by first | omega | (simp; done) | (simp; omega)) _) | (with_reducible refine Below.alloc ?_ (by first | omega | (simp; done) | (simp; omega)) _) | (with_reducible refine Below.drew ?_) | (with_reducible refine below_drewN ?_ _) | (with_reducible refine Below.trans ?_ (hE.mono (by first | omega | (simp; done) | (simp; omega)))))); have hw5 := HB5.out.size; go_simp; refine ⟨Below.refl _ _, ?_⟩; have hsm := Tryd_vSame 2 1 _ y _ _ W (ValAt.ext hbw5 _ HV5.out) (ValAt.ext (HB5.out.trans (hbw5.mono hw5)) _ HVK.out) (HN.out.ext (HW4.out.trans ((HB5.out.trans (hbw5.mono hw5)).mono HW4.out.size))); rw [HS.out] at hsm; refine hsm.mono ?_; rintro e w' ⟨rfl, hb⟩; refine ⟨?_, hb⟩; rfl
            simp only [Act.put, List.setIfInBounds_toArray, List.set_cons_zero, List.set_cons_succ]
            refine wpParts_det (by rfl) (fun W hE hN => ?_) ?_
            · go_simp; refine ⟨Below.refl _ _, ?_⟩; rfl
            simp only [Act.put, List.setIfInBounds_toArray, List.set_cons_zero, List.set_cons_succ]
            refine wpParts_det (by rfl) (fun W hE hN => ?_) ?_
            · go_simp; refine ⟨Below.refl _ _, ?_⟩; rfl
            simp only [Act.put, List.setIfInBounds_toArray, List.set_cons_zero, List.set_cons_succ]
            refine wpParts_end fun W2 hE2 hG2 => ?_
            have hcW2 := fun b o h => hE2.cell (p := ⟨b, o, none⟩) h
            have hfW2 := fun b o h => hE2.frozen (p := ⟨b, o, none⟩) h
            have hbw5 : Below w5.heap.size w5 W2 := (by repeat (first | (with_reducible exact Below.refl _ _) | (with_reducible exact Below.refl _ _) | (with_reducible refine Below.setCell ?_ (by first | omega | (simp; done) | (simp; omega)) _) | (with_reducible refine Below.alloc ?_ (by first | omega | (simp; done) | (simp; omega)) _) | (with_reducible refine Below.drew ?_) | (with_reducible refine below_drewN ?_ _) | (with_reducible refine Below.trans ?_ (hE2.mono (by first | omega | (simp; done) | (simp; omega))))))
            have HBW := Lib.hid (HB5.out.trans (hbw5.mono HB5.out.size))
            clear hbw5 hE2 hG2 hcW2 hfW2
            go_wp2_with fail
            go_roundw
            case rel => exact ⟨i + 1, HLT.out, by go_num, HBW.out⟩
            case measure => have := HLT.out; simp [intOf]; omega
        · have g1 : ¬ (i : Int) < 5 := by omega
          obtain ⟨b, o, u0, u1, u2, u3, u4, rfl, hbw, c0, c1, c2, c3, c4, hvk⟩ := HVI.out.hkid 4 (leafV 0 3 (sg B.s)) rfl
          obtain ⟨_, _, _, _, _, _, hvk2⟩ := hvk
          have hv2 := hvk2.val
          simp only [Value.agg.injEq, Array.mk.injEq, List.cons.injEq, and_true] at hv2
          have hu1 : u1 = .int .i64 B.s := by rw [hv2.2.1]; show Value.int .i64 (sg B.s) = _; rw [HSG.out]
          subst hu1
          have e1 := (hbr.cell (p := ⟨b, o + 4 * 5 + 1, none⟩) hbw).trans c1
          have qv := (HQV.out.ext hbr).cells
          have lv := (HQV.out.ext hbr).lt
          have lb5 : b < wr.heap.size := Nat.lt_of_lt_of_le hbw hbr.size
          have hck := Tryd_vCheck 2 (statsV B) _ wr (ValAt.ext hbr _ HV.out) (HN.out.ext (HW4.out.trans (hbr.mono HW4.out.size)))
          rw [stats_right] at hck
          have HCK := Lib.hid (show Calls Tryd.prog 17 #[.agg #[.int .i64 6, .int .i64 0, .string noStr, .slice (some ⟨b, o, none⟩) 5 kc, .slice qa 5 qc]] wr (fun e w' => e = .returned (.int .i64 0) ∧ Below wr.heap.size wr w') from hck)
          have HWR := Lib.hid (HW4.out.trans (hbr.mono HW4.out.size))
          clear hlt hi hbr c0 c1 c2 c3 c4 hvk2 hv2 hck
          go_wp2_with fail
          refine HCK.out.mono ?_; rintro e w6 ⟨rfl, hb6⟩
          have HW6 := Lib.hid (HWR.out.trans (hb6.mono HWR.out.size))
          clear hb6 HCK
          go_wp2
          go_ret
          exact ⟨rfl, HW6.out⟩
end Go.Proofs.YtmcmknndhppljaaDoor

namespace Go.Dav
set_option linter.unusedVariables false
set_option linter.unusedSimpArgs false
open Go Go.Joins Go.ChangeShapes Go.WideShapes Go.RowKit
theorem two_fields {H : Type} {enc : TypeId × Value → H} {P : Program} {W : World} {t i : TypeId} {f0 f1 : Field} {base fuel : Nat} {sp : Nat → Bool} {held : Bool} {cs : List Value} {p : List MemPlace} (ht : P.underlying t = some (.struct #[f0, f1])) (h0 : f0.type = i ∧ f0.offset = 0) (h1 : f1.type = i ∧ f1.offset = 1) (hC : P.cellsOf t = 2) (hc : P.cellsOf i = 1) (hi : P.underlying i = some (.int .i64)) {x y : Int}
    (h : DataW.trod enc P W base sp held fuel t cs = some (.agg [.lit (.int .i64 x), .lit (.int .i64 y)], p)) : cs = [.int .i64 x, .int .i64 y] := by
  obtain ⟨xs, n, _, hx, hl, hlen, hg⟩ := DataW.trod_struct ht h
  rw [hC] at hl
  match cs, hl with
  | [c0, c1], _ =>
    match xs, hlen with
    | [y0, y1], _ =>
      simp only [Prod.mk.injEq, List.map_cons, List.map_nil, DataW.agg.injEq, List.cons.injEq, and_true] at hx
      have g0 := hg 0 f0 rfl
      have g1 := hg 1 f1 rfl
      rw [h0.1, h0.2, hc] at g0
      rw [h1.1, h1.2, hc] at g1
      obtain ⟨m0, e0, x0, _⟩ := DataW.trod_int hi (g0.trans rfl)
      obtain ⟨m1, e1, x1, _⟩ := DataW.trod_int hi (g1.trans rfl)
      simp only [List.drop_zero, List.take_succ_cons, List.take_zero, List.drop_succ_cons, List.cons.injEq, and_true] at e0 e1
      rw [x0] at hx
      rw [x1] at hx
      simp only [DataW.lit.injEq, Lit.int.injEq, true_and] at hx
      rw [e0, e1, hx.1.1, hx.1.2]
end Go.Dav
namespace Go.Proofs.YtmcmknndhppljaaDoor
set_option linter.unusedVariables false
set_option linter.unusedSimpArgs false
open Go Go.Joins Go.ChangeShapes Go.WideShapes Go.RowKit Go.Dav
theorem Tryd_gNone : Tryd.prog.globalNamed "davenport/utf.none" = some 0 := by kernel_rfl
theorem Tryd_gNoneType : (Tryd.prog.globals[0]?).map (·.type) = some 143 := by kernel_rfl
theorem Tryd_glob_none {W : World} (h : laidMetH Tryd.prog [("davenport/utf.none", .agg [.lit (.int .i64 0), .lit (.int .i64 0)])] W) : GlobAt W 0 [.int .i64 0, .int .i64 0] 143 := by
  have h' : laidMet Tryd.prog [("davenport/utf.none", .agg [.lit (.int .i64 0), .lit (.int .i64 0)])] W := h
  obtain ⟨ps, ⟨g', t', cs, fuel, p, q, hg', ht', hvar, hd, _, _⟩, _⟩ := h'
  obtain rfl := Option.some.inj (Tryd_gNone.symm.trans hg')
  obtain rfl := Option.some.inj (Tryd_gNoneType.symm.trans ht')
  have e := two_fields Tryd.underlying143 ⟨rfl, rfl⟩ ⟨rfl, rfl⟩ (by kernel_rfl) (by kernel_rfl) Tryd.underlying3 hd
  unfold World.var? at hvar
  rw [Tryd_gNone, Option.bind_some] at hvar
  split at hvar
  · rename_i c u fr hh
    cases hvar
    refine ⟨u, fr, ?_⟩
    rw [hh, ← e]
  · cases hvar
section
variable {H : Type} {enc : TypeId × Value → H} {w : World} {base : Nat} {spare : Nat → Bool} {held : Bool}
end
end Go.Proofs.YtmcmknndhppljaaDoor

namespace Go.Proofs.YtmcmknndhppljaaDoor
set_option linter.unusedVariables false
set_option linter.unusedSimpArgs false
namespace MonoidSmall
set_option linter.unusedVariables false
set_option linter.unusedSimpArgs false
open Go.ChangeShapes Go.WideShapes Go.ChangeAt Go.RowKit Go.Joins Go.Dav

theorem own : ownKnob Tryd.prog.godebug = none := by kernel_rfl
theorem laidOut : laidOutB Tryd.prog = true := by kernel_rfl

theorem i32_of_wf {n : Int} (h : (Lit.int .i32 n).wf = true) : I32 n := by
  unfold I32
  simp [Lit.wf, IntKind.min, IntKind.max, IntKind.bits, IntKind.signed] at h
  omega
section
variable {H : Type} {enc : TypeId × Value → H} {w : World} {base : Nat} {spare : Nat → Bool} {held : Bool}
set_option maxRecDepth 100000 in
theorem ints_in {r : Reach} {b0 : Nat} {v : Value} {d : DataW H} {p : List MemPlace} (hv : Value.okWide Tryd.prog w r b0 44 v) (h : DataW.Trod enc Tryd.prog w base spare held 44 v d p) :
    ∃ (a : Option Addr) (len cap : Nat) (C : List Int), v = .slice a len cap ∧ C.length = len ∧ len ≤ cap ∧ cap ≤ maxLen ∧ IntsAt w w.heap.size .i32 a C ∧ ∀ x ∈ C, I32 x := by
  obtain ⟨a0, len0, cap0, rfl⟩ := okWide_slice Tryd.underlying44 hv
  obtain ⟨fuel, hf⟩ := h
  rcases open_ints Tryd.underlying44 Tryd.underlying21 (by kernel_rfl) hf with ⟨hc, _⟩ | ⟨a, len, cap, zs, hc, _, hl, hm, hz, _, hcell, hwf⟩
  · simp only [Value.cells, List.cons.injEq, and_true] at hc
    exact ⟨_, _, _, [], hc, rfl, Nat.le_refl _, by unfold maxLen; omega, fun k x hk => (by simp at hk), fun x hx => (by simp at hx)⟩
  · simp only [Value.cells, List.cons.injEq, and_true] at hc
    have hle : len ≤ zs.length := by rw [hz]; split <;> omega
    refine ⟨some a, len, cap, zs.take len, hc, by rw [List.length_take]; omega, hl, hm, fun k x hk => ?_, fun x hx => i32_of_wf (hwf x (List.mem_of_mem_take hx))⟩
    have hkl := (List.getElem?_eq_some_iff.1 hk).1
    rw [List.length_take] at hkl
    rw [List.getElem?_take_of_lt (by omega)] at hk
    have e : zs.getD k 0 = x := by rw [List.getD_eq_getElem?_getD, hk]; rfl
    have hcell0 := hcell 0 (by omega)
    obtain ⟨b, o, sp⟩ := a
    have hs := World.cell?_spot hcell0
    have hs : sp = none := by simpa [Addr.add] using hs
    subst hs
    have hb := World.block_lt_of_cell? _ _ hcell0
    refine ⟨b, o, rfl, by simpa [Addr.add] using hb, ?_⟩
    have h1 := hcell k (by omega)
    rw [e, Addr.add_mid] at h1
    exact h1
end

noncomputable def laidWorld (os : Os) : World :=
  { World.holding Tryd.prog os ⟨#[], #[], []⟩ with heap := (World.holding Tryd.prog os ⟨#[], #[], []⟩).heap.modify 0 fun
      | .cells _ t frozen => .cells #[.int .i64 0, .int .i64 0] t frozen
      | o => o }
theorem laid_met (os : Os) : laidMet Tryd.prog Rows.monoidSmallRow.laid ((laidWorld os).forCall (fun _ _ => 0) ⟨#[], #[.slice none 0 0], []⟩).memory :=
  laidMet_of_run' 8 (by kernel_rfl) (by kernel_rfl)
theorem reads (os : Os) {H : Type} (enc : TypeId × Value → H) : ∃ places, DataW.whole enc Tryd.prog ((laidWorld os).forCall (fun _ _ => 0) ⟨#[], #[.slice none 0 0], []⟩).memory Tryd.f4.params.toList Rows.monoidSmallSpec.vars false (#[.slice none 0 0] : Array Value).toList 8 = some ([.nil], [], places) :=
  ⟨[], by kernel_rfl⟩
set_option maxRecDepth 100000 in
theorem lifted (os : Os) (started : os.Started) (H : Type) (enc : TypeId × Value → H) (F : Stop.Interp) :
    ReturnsInHanded {} Tryd.checked os 4 .any ((OpenSpec.ofChange Rows.monoidSmallSpec).preRow enc Tryd.prog Tryd.f4 Rows.monoidSmallRow.domain false Rows.monoidSmallRow.laid) (((OpenSpec.ofChange Rows.monoidSmallSpec).at F).post enc Tryd.prog Tryd.f4 false true false false) := by
  obtain ⟨places, hx⟩ := reads os enc
  refine returnsInHanded_of_row (C := Tryd.checked) (s := OpenSpec.ofChange Rows.monoidSmallSpec) own started (by kernel_rfl) Tryd.func4
    (witness_row_at (enc := enc) (C := Tryd.checked) false (laidWorld os) #[.slice none 0 0] rfl (by kernel_rfl) (by kernel_rfl) (by kernel_rfl)
      (OpenSpec.preRow_of_cond 8 hx (by kernel_rfl) (fun k hk => by cases hk) (by kernel_rfl) (laid_met os))) ?_
  intro W base args ds gs before hval0 hW hdom hcnd hsz0 hL _ _
  have hN := Tryd_glob_none hL
  have hsz : (DataW.weightsEach Tryd.prog (Tryd.f4.params.toList ++ Rows.monoidSmallSpec.plain.varTypes Tryd.prog) (ds ++ gs)).all (· ≤ reachBytes) = true := hsz0
  have hval : ∀ (j : Nat) t v, Tryd.f4.params[j]? = some t → args[j]? = some v → Value.okWide Tryd.prog W .any base t v := hval0
  have hW' := hW
  obtain ⟨p, q, hA0, hV, rfl, hfz, hnd⟩ := hW
  have hA : DataW.TrodAll enc Tryd.prog W 0 (fun _ => true) true Tryd.f4.params.toList args.toList ds p := hA0
  rw [Tryd.params4] at hA hval hsz
  obtain ⟨v0, vs0, d0, ds0, p0, q0, hargs, rfl, rfl, h0, r0⟩ := trodAll_cons hA
  obtain ⟨rfl, rfl, rfl⟩ := trodAll_nil r0
  obtain rfl : args = #[v0] := by cases args; simp_all
  obtain ⟨rfl, rfl⟩ := trodVars_none hV
  have k0 := h0
  have lt0 : ∀ x ∈ p0, x.block < W.heap.size := by obtain ⟨m, hm⟩ := k0; exact DataW.trod_lt m _ _ _ hm
  have ok0 := hval 0 44 v0 rfl rfl
  have sz0 : ∀ n ∈ d0.weights Tryd.prog 44, n ≤ reachBytes := fun n hn => by simpa using List.all_eq_true.1 hsz n (DataW.weights_mem_each (j := 0) rfl rfl n hn)
  obtain ⟨a, len, cap, L, rfl, hlen, hc1, hc2, hat, hx⟩ := ints_in ok0 h0
  clear hA0 hval0 hsz0 hsz
  refine (Tryd_MonoidSmall a len cap L W hlen hc1 hc2 hat hx hN).mono fun e W' ⟨he, bel⟩ => ?_
  subst he
  exact ⟨_, rfl, _, _, _, [], _, [], hW', trodAll_mk1 (shut_bool Tryd.underlying4 _), (trodAll_cons_mk (Below.trod laidOut (by kernel_rfl) (of_decide_eq_true (by kernel_rfl)) k0 bel lt0) trodAll_mk0), rfl, bel.frame _, fun h => by cases h⟩
theorem said : Rows.MonoidSmallSaid :=
  OpenClaim.holds_of_cond 4 Tryd.f4 rfl rfl rfl rfl rfl rfl rfl ⟨rfl, rfl, rfl, rfl, rfl⟩ rfl rfl rfl rfl rfl (by kernel_rfl) Tryd.func4 (by kernel_rfl)
    (of_decide_eq_true (by kernel_rfl)) (by unfold Func.isWrapper; first | (rw [if_pos (by decide +kernel)]; kernel_rfl) | (rw [if_neg (by decide +kernel)]; exact ⟨rfl, rfl⟩))
    (fun os started H enc _ F => by rw [OpenClaim.pre_eq_preRow]; exact lifted os started H enc F)
theorem plain (f : FuncId) (fn : Func) (hf : Tryd.pinned.checked.prog.funcNamed "davenport/davenportlaw13.MonoidSmall" = some f) (hfn : Tryd.pinned.checked.prog.funcs[f]? = some fn) :
    false = Tryd.pinned.checked.prog.looks [] ∧ ∀ (j : Nat) t, fn.params[j]? = some t → Tryd.pinned.checked.prog.wantsStandIn t = false := by
  obtain rfl : f = 4 := Option.some.inj ((show Tryd.prog.funcNamed "davenport/davenportlaw13.MonoidSmall" = some 4 by kernel_rfl).symm.trans hf) |>.symm
  obtain rfl : fn = Tryd.f4 := (Option.some.inj (Tryd.func4.symm.trans hfn)).symm
  refine ⟨by kernel_rfl, fun j t ht => ?_⟩
  rw [Tryd.params4] at ht
  have hm := Array.mem_of_getElem? ht
  simp only [List.mem_toArray, List.mem_cons, List.not_mem_nil, or_false] at hm
  obtain rfl : t = 44 := hm
  exact (show Tryd.prog.wantsStandIn 44 = false by kernel_rfl)
theorem card : Rows.MonoidSmallCardSaid :=
  Claim7.holds_tied_plain_at .later [] _ _ _ _ said (fun _ h => by cases h) (by kernel_rfl) (fun _ h => by cases h) monoidSmall_row_tie rfl ⟨rfl, rfl⟩ (by kernel_rfl) rfl plain (by kernel_rfl)
end MonoidSmall

theorem monoidSmall_holds : Rows.MonoidSmallCardSaid := MonoidSmall.card
#print axioms monoidSmall_holds
end Go.Proofs.YtmcmknndhppljaaDoor
