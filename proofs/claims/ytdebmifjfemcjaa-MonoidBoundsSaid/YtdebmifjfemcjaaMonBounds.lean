/-
  MonoidBounds, walked.
-/
import Derived.Test.YtdebmifjfemcjaaMonEnds
import Derived.BigRegion
import Derived.BigQuiet
namespace Go.Proofs.Ytdebmifjfemcjaa
set_option linter.unusedVariables false
set_option linter.unusedSimpArgs false
open Go.RowKit Go.Dav
attribute [local go_sem] Gives ite_val ite_val_true

def TryBoundsRel (w wb : World) (l : List TryRow) (R : Red) (y : TryRow) (n g h : Nat) (ix ints : Value) (wr : World) : Prop :=
  ∃ k : Nat, k ≤ n ∧ ix = .int .i64 k ∧ ints = .int .i64 (TryInts l k) ∧ Blk wr w.heap.size y.cells 27 ∧ Blk wr g R.cells 24 ∧
    Blk wr h [.bool (TryMet l R.l k), .bool (TryMet l R.m k)] 46 ∧ Below w.heap.size w wr ∧ wb.heap.size ≤ wr.heap.size

theorem Try_met_neq (w : World) : (Go.binOp .neq 46 (.agg #[.bool true, .bool true]) (.agg #[.bool true, .bool true])).run Try.prog w = Result.ok (.bool false) w := by kernel_rfl

set_option maxRecDepth 8000 in
set_option maxHeartbeats 16000000 in
theorem Try_MonoidBounds (a : Option Addr) (len cap : Nat) (L : List TryRow) (y : TryRow) (w : World) (hlen : L.length = len) (h1 : len ≤ cap) (h2 : cap ≤ maxLen) (hat : TryRowsIn w w.heap.size a L) (hx : ∀ r ∈ L, I64 r.x) (hy : I64 y.x) :
    Calls Try.prog 6 #[.slice a len cap, .agg #[.slice y.a1 y.l1 y.c1, .slice y.a2 y.l2 y.c2, .bool y.b, .int .i64 y.x]] w fun e w' =>
      e = .returned (.bool true) ∧ Below w.heap.size w w' := by
  have z1 := hi_zero
  have z2 := lo_zero
  have hat' := hat
  obtain ⟨N, hN⟩ : ∃ N, N = min len 60 := ⟨_, rfl⟩
  have hl : (L.take 60).length = N := by rw [List.length_take]; omega
  have hN60 : N ≤ 60 := by omega
  have hNl : (N : Int) ≤ 60 := by omega
  have hatl : ∀ W, Below w.heap.size w W → TryRowsIn W W.heap.size a (L.take 60) := fun W hb k r hk => by
    have hlt : k < (L.take 60).length := (List.getElem?_eq_some_iff.1 hk).1
    have hk' : L[k]? = some r := by
      rw [List.getElem?_take] at hk; split at hk
      · exact hk
      · cases hk
    exact Try_rowsIn_later (Try_rowsIn_below hat hb (Nat.le_refl _)) hb.size k r hk'
  have hxl : ∀ r ∈ L.take 60, I64 r.x := fun r hr => hx r (List.mem_of_mem_take hr)
  generalize L.take 60 = l at hl hatl hxl
  have HG := Lib.hid (TrySum_good l N hxl)
  have HE := Lib.hid (show TryEnds l (TrySum l N) by have := TryEnds_sum l N (by omega); rwa [List.take_of_length_le (by omega)] at this)
  have HX := Lib.hid hxl; clear hxl
  have HAT := Lib.hid hatl; clear hatl
  have HL := Lib.hid hl; clear hl
  have HN := Lib.hid hN; clear hN
  have HY := Lib.hid hy
  clear hat hat' hx hlen hy
  go_enter Try.func6, Try.ntmps6
  go_wp2_with fail
  refine (Try_wakes _).mono ?_; rintro e w1 ⟨rfl, hb1⟩
  obtain ⟨hc1, hf1, hs1⟩ := after hb1
  try simp at hs1
  have hy1 := (Blk.new w [_, _, _, _] 27).ext hb1
  have b1 : Below w.heap.size w w1 := (by repeat (first | (with_reducible exact Below.refl _ _) | (with_reducible exact Below.refl _ _) | (with_reducible refine Below.setCell ?_ (by first | omega | (simp; done) | (simp; omega)) _) | (with_reducible refine Below.alloc ?_ (by first | omega | (simp; done) | (simp; omega)) _) | (with_reducible refine Below.drew ?_) | (with_reducible refine Below.trans ?_ (hb1.mono (by first | omega | (simp; done) | (simp; omega))))))
  clear hc1 hf1
  go_wp2_with fail
  refine (Try_few a len cap _ h1 h2).mono ?_; rintro e w2 ⟨rfl, hb2⟩
  have hs2 := hb2.size
  try simp at hs2
  have hy2 := hy1.ext hb2
  have b2 : Below w.heap.size w w2 := (by repeat (first | (with_reducible exact Below.refl _ _) | (with_reducible exact Below.refl _ _) | (with_reducible refine Below.setCell ?_ (by first | omega | (simp; done) | (simp; omega)) _) | (with_reducible refine Below.alloc ?_ (by first | omega | (simp; done) | (simp; omega)) _) | (with_reducible refine Below.drew ?_) | (with_reducible refine Below.trans ?_ (hb2.mono (by first | omega | (simp; done) | (simp; omega)))) | (with_reducible refine Below.trans ?_ (b1.mono (by first | omega | (simp; done) | (simp; omega))))))
  rw [← HN.out]
  go_wp2_with fail
  (with_reducible refine (Try_all a cap l N _ HL.out hN60 (HAT.out _ b2) HX.out).mono ?_); rintro e w3 ⟨rfl, hb3⟩
  have hs3 := hb3.size
  try simp at hs3
  have hy3 := hy2.ext hb3
  have b3 : Below w.heap.size w w3 := (by repeat (first | (with_reducible exact Below.refl _ _) | (with_reducible exact Below.refl _ _) | (with_reducible refine Below.setCell ?_ (by first | omega | (simp; done) | (simp; omega)) _) | (with_reducible refine Below.alloc ?_ (by first | omega | (simp; done) | (simp; omega)) _) | (with_reducible refine Below.drew ?_) | (with_reducible refine Below.trans ?_ (hb3.mono (by first | omega | (simp; done) | (simp; omega)))) | (with_reducible refine Below.trans ?_ (b2.mono (by first | omega | (simp; done) | (simp; omega))))))
  generalize hR : TrySum l N = R at *
  clear hR
  go_wp2_with fail
  go_loopw [28, 8] (fun ix ints wr => TryBoundsRel w w3 l R y N w3.heap.size (w3.heap.size + 1) ix ints wr) (fun ix _ _ => N - (intOf ix).toNat)
  case atStart =>
    refine ⟨0, Nat.zero_le _, rfl, rfl, (hy3.alloc _).alloc _, (Blk.new _ [_, _, _, _, _, _] _).alloc _, ?_, (by repeat (first | (with_reducible exact Below.refl _ _) | (with_reducible exact Below.refl _ _) | (with_reducible refine Below.setCell ?_ (by first | omega | (simp; done) | (simp; omega)) _) | (with_reducible refine Below.alloc ?_ (by first | omega | (simp; done) | (simp; omega)) _) | (with_reducible refine Below.drew ?_) | (with_reducible refine Below.trans ?_ (b3.mono (by first | omega | (simp; done) | (simp; omega)))))), by simp; omega⟩
    exact Blk.new' _ [_, _] _ (by simp)
  case round =>
    obtain ⟨k, hk, rfl, rfl, hyr, hrr, hmr, hbel, hwr⟩ := hrel
    have ly := hyr.lt
    have lr := hrr.lt
    have lm := hmr.lt
    have bs := hbel.size
    have hil := TryInts_le l k
    by_cases hlt : k < N
    · obtain ⟨r, hrk⟩ : ∃ r, l[k]? = some r := ⟨_, List.getElem?_eq_getElem (by have := HL.out; omega)⟩
      have hEb := (HE.out).bound r (List.mem_of_getElem? hrk)
      obtain ⟨b, o, rfl, hb, hrw⟩ := Try_rowsIn_later (HAT.out wr hbel) (Nat.le_refl _) k r hrk
      have q0 := hrw 0 _ rfl
      have q1 := hrw 1 _ rfl
      have q2 := hrw 2 _ rfl
      have q3 := hrw 3 _ rfl
      rw [Nat.add_zero] at q0
      have hkN : (k : Int) < (N : Int) := by omega
      have c1 := hrr.cells
      have c2 := hmr.cells
      have m2 := hmr.marks
      have n1 : w3.heap.size ≠ wr.heap.size := by omega
      have n2 : w3.heap.size + 1 ≠ wr.heap.size := by omega
      have n3 : wr.heap.size ≠ w3.heap.size + 1 := by omega
      have HK := Lib.hid hrk
      have HLT := Lib.hid hlt
      have HEB := Lib.hid hEb
      clear hrw hrk hlt hk hEb
      simp only [Red.cells] at c1
      cases hb : r.b with
      | false =>
        rw [hb] at q2
        have s1 := TryInts_no HK.out hb
        have s2 := TryMet_no R.l HK.out hb
        have s3 := TryMet_no R.m HK.out hb
        have S1 := Lib.hid s1
        have S2 := Lib.hid s2
        have S3 := Lib.hid s3
        clear s1 s2 s3
        go_wp2_with fail
        go_roundw
        case rel =>
          refine ⟨k + 1, HLT.out, by go_num, by rw [S1.out], hyr.alloc _, hrr.alloc _, by rw [S2.out, S3.out]; exact hmr.alloc _, (by repeat (first | (with_reducible exact Below.refl _ _) | (with_reducible exact Below.refl _ _) | (with_reducible refine Below.setCell ?_ (by first | omega | (simp; done) | (simp; omega)) _) | (with_reducible refine Below.alloc ?_ (by first | omega | (simp; done) | (simp; omega)) _) | (with_reducible refine Below.drew ?_) | (with_reducible refine Below.trans ?_ (hbel.mono (by first | omega | (simp; done) | (simp; omega)))))), by simp; omega⟩
        case measure => have := HLT.out; simp [intOf]; omega
      | true =>
        rw [hb] at q2
        have s1 := TryInts_yes HK.out hb
        have s2 := TryMet_yes R.l HK.out hb
        have s3 := TryMet_yes R.m HK.out hb
        have S1 := Lib.hid s1
        have S2 := Lib.hid s2
        have S3 := Lib.hid s3
        clear s1 s2 s3
        obtain ⟨e1, e2⟩ := HEB.out hb
        have e3 : ¬ r.x < R.l := by omega
        have e4 : ¬ R.m < r.x := by omega
        have hr4 := (Blk.new wr r.cells 27)
        cases hm0 : TryMet l R.l k <;> cases hm1 : TryMet l R.m k
        all_goals
          rw [hm0, hm1] at c2
          go_wp2_with fail
          go_region
          all_goals
            go_wp2_with fail
            go_roundw
            case rel =>
              refine ⟨k + 1, HLT.out, by go_num, by rw [S1.out]; go_num, (by repeat (first | (with_reducible exact hyr) | (with_reducible refine Blk.alloc ?_ _) | (with_reducible refine Blk.drew ?_) | (with_reducible refine Blk.other ?_ (by omega) _ _))), (by repeat (first | (with_reducible exact hrr) | (with_reducible refine Blk.alloc ?_ _) | (with_reducible refine Blk.drew ?_) | (with_reducible refine Blk.other ?_ (by omega) _ _))), ?_, (by repeat (first | (with_reducible exact Below.refl _ _) | (with_reducible exact Below.refl _ _) | (with_reducible refine Below.setCell ?_ (by first | omega | (simp; done) | (simp; omega)) _) | (with_reducible refine Below.alloc ?_ (by first | omega | (simp; done) | (simp; omega)) _) | (with_reducible refine Below.drew ?_) | (with_reducible refine Below.trans ?_ (hbel.mono (by first | omega | (simp; done) | (simp; omega)))))), by simp; omega⟩
              rw [S2.out, S3.out, hm0, hm1]
              simp only [Bool.false_or, Bool.true_or]
              exact (((hmr.set 0 _).set 1 _).alloc _).drew
            case measure => have := HLT.out; simp [intOf]; omega
    · have hkl : k = N := by omega
      subst hkl
      have hkl : ¬ ((k : Int) < (k : Int)) := by omega
      have E1 := HE.out.cnt
      have E2 := HE.out.ints
      have E4 := HE.out.least
      have E5 := HE.out.most
      have E6 := HE.out.blank
      have hlk : l.take k = l := List.take_of_length_le (by have := HL.out; omega)
      have E3 : (l.filter TryRow.b).length = TryInts l k := by unfold TryInts; rw [hlk]
      rw [show l.length = k from HL.out] at E1
      rw [E3] at E2
      have EM : ∀ v, l.any (fun r => r.b && decide (r.x = v)) = TryMet l v k := fun v => by unfold TryMet; rw [hlk]
      rw [EM] at E4 E5
      clear EM E3 hlk
      obtain ⟨Rc, Rn, Rs, Rl, Rm⟩ := R
      simp only at E1 E2 E4 E5 E6
      subst E1 E2
      have EF := Lib.hid E6; clear E6
      by_cases h0 : TryInts l k = 0
      · rw [h0] at EF hrr HG
        obtain ⟨rfl, rfl, rfl⟩ := EF.out rfl
        have c1 := hrr.cells
        have c2 := hmr.cells
        have c3 := hyr.cells
        simp only [Red.cells] at c1
        simp only [TryRow.cells] at c3
        rw [h0]
        clear E4 E5 hil hlt hk
        have HMR := Lib.hid hmr; clear hmr
        have HG2 := Lib.hid HG.out
        clear HG HE
        cases hb : y.b with
        | true =>
          rw [hb] at c3
          have hmore : Red.good ⟨k, 0, 0, 0, 0⟩ := HG2.out
          have hyg : (rowRed true y.x).good := rowRed_good _ _ HY.out
          have HJ := Lib.hid (two_joined hmore hyg (by rw [rowRed_c]; show (k : Int) + 1 ≤ _; omega))
          rcases hV : Red.both ⟨k, 0, 0, 0, 0⟩ (rowRed true y.x) with ⟨Vc, Vn, vs, vl, vm⟩
          obtain rfl : (k : Int) + 1 = Vc := by have := congrArg Red.c hV; simpa [Red.both, rowRed] using this
          obtain rfl : 1 = Vn := by have := congrArg Red.n hV; simpa [Red.both, rowRed, bothN] using this
          rw [hV] at HJ
          have HF := Lib.hid (show ∀ t ∈ [(⟨k, 0, 0, 0, 0⟩ : Red), rowRed true y.x], t.fits from fun t ht => by
            simp only [List.mem_cons, List.not_mem_nil, or_false] at ht
            rcases ht with rfl | rfl
            · exact Red.good_fits hmore (by show (k : Int) ≤ _; omega)
            · exact Red.good_fits hyg (by rw [rowRed_c]; omega))
          clear hV hmore hyg
          go_wp2_with fail
          refine' wp_region_seqF [7] [.inl _, .inl _, .inl _, .inr (TryTwo wr.heap.size ⟨k, 0, 0, 0, 0⟩ (rowRed true y.x)), .inl _, .inl _, .inl _, .inl _, .inr (NewBlk wr.heap.size [.int .i64 0, .int .i64 0, .int .i64 0, .int .u64 0, .int .i64 0, .int .i64 0] 24)] (by kernel_rfl) (by kernel_rfl) ?main1
          case main1 =>
            refine wpParts_det (by rfl) (fun W hE hN => ?_) ?_
            · have hc := fun b o h => hE.cell (p := ⟨b, o, none⟩) h
              go_simp; refine ⟨Below.refl _ _, ?_⟩; rfl
            simp only [Act.put, List.setIfInBounds_toArray, List.set_cons_zero, List.set_cons_succ]
            refine wpParts_det (by rfl) (fun W hE hN => ?_) ?_
            · have hc := fun b o h => hE.cell (p := ⟨b, o, none⟩) h
              go_simp; refine ⟨Below.refl _ _, ?_⟩; rfl
            simp only [Act.put, List.setIfInBounds_toArray, List.set_cons_zero, List.set_cons_succ]
            refine wpParts_det (by rfl) (fun W hE hN => ?_) ?_
            · go_simp; refine ⟨Below.refl _ _, ?_⟩; refine (Try_One' _ _ _ _ _ _ _ _ _ HY.out).mono ?_; rintro e w' ⟨rfl, hb⟩; refine ⟨?_, hb⟩; rfl
            simp only [Act.put, List.setIfInBounds_toArray, List.set_cons_zero, List.set_cons_succ]
            refine wpParts_any rfl (TryTwo.later) (by rfl) (fun W hE hN => ?_) (fun u3 => ?_)
            · go_simp; (have hq := Try_two_new (B := wr.heap.size) (W := W) (r := ⟨k, 0, 0, 0, 0⟩) (t := rowRed true y.x) hE.size; simp only [hi_zero, lo_zero] at hq; exact hq)
            simp only [Act.put, List.setIfInBounds_toArray, List.set_cons_zero, List.set_cons_succ]
            refine wpParts_det (by rfl) (fun W hE hN => ?_) ?_
            · simp [near, Oper.looksAt, Op.operands] at hN; obtain ⟨g, rfl, hg, hgl, hrg⟩ := hN (.tmp 105) (by simp [Call.operands]) rfl; go_simp; refine ⟨Below.refl _ _, ?_⟩; refine (Try_Join' g 0 2 2 [⟨k, 0, 0, 0, 0⟩, rowRed true y.x] _ rfl (by omega) hgl hrg HF.out).mono ?_; rintro e w' ⟨rfl, hb⟩; refine ⟨?_, hb⟩; rw [HJ.out, show ((({ c := (k : Int) + 1, n := 1, s := vs, l := vl, m := vm } : Red), (0 : Int)).1.cells.toArray) = #[.int .i64 ((k : Int) + 1), .int .i64 (1), .int .i64 (hi vs), .int .u64 (lo vs), .int .i64 vl, .int .i64 vm] from rfl]
            simp only [Act.put, List.setIfInBounds_toArray, List.set_cons_zero, List.set_cons_succ]
            refine wpParts_det (by rfl) (fun W hE hN => ?_) ?_
            · go_simp; refine ⟨Below.refl _ _, ?_⟩; rfl
            simp only [Act.put, List.setIfInBounds_toArray, List.set_cons_zero, List.set_cons_succ]
            refine wpParts_det (by rfl) (fun W hE hN => ?_) ?_
            · go_simp; refine ⟨Below.refl _ _, ?_⟩; rfl
            simp only [Act.put, List.setIfInBounds_toArray, List.set_cons_zero, List.set_cons_succ]
            refine wpParts_det (by rfl) (fun W hE hN => ?_) ?_
            · go_simp; refine ⟨Below.refl _ _, ?_⟩; rfl
            simp only [Act.put, List.setIfInBounds_toArray, List.set_cons_zero, List.set_cons_succ]
            refine wpParts_any rfl (NewBlk.later) (by rfl) (fun W hE hN => ?_) (fun u8 => ?_)
            · go_simp; exact newBlk_alloc (cs := [.int .i64 0, .int .i64 0, .int .i64 0, .int .u64 0, .int .i64 0, .int .i64 0]) hE.size
            simp only [Act.put, List.setIfInBounds_toArray, List.set_cons_zero, List.set_cons_succ]
            refine wpParts_end fun W2 hE2 hG2 => ?_
            have hcW2 := fun b o h => hE2.cell (p := ⟨b, o, none⟩) h
            have hfW2 := fun b o h => hE2.frozen (p := ⟨b, o, none⟩) h
            obtain ⟨p, rfl, hp, hblk⟩ := hG2.1
            have s2 := hE2.size
            have bel2 : Below w.heap.size w W2 := (by repeat (first | (with_reducible exact Below.refl _ _) | (with_reducible exact Below.refl _ _) | (with_reducible refine Below.setCell ?_ (by first | omega | (simp; done) | (simp; omega)) _) | (with_reducible refine Below.alloc ?_ (by first | omega | (simp; done) | (simp; omega)) _) | (with_reducible refine Below.drew ?_) | (with_reducible refine Below.trans ?_ (hE2.mono (by first | omega | (simp; done) | (simp; omega)))) | (with_reducible refine Below.trans ?_ (hbel.mono (by first | omega | (simp; done) | (simp; omega))))))
            have cc := hblk.cells
            have cf := hblk.marks
            have lp := hblk.lt
            have np1 : w3.heap.size ≠ p := by omega
            have np2 : w.heap.size ≠ p := by omega
            have d1 := (hrr.ext hE2).cells
            have d3 := (hyr.ext hE2).cells
            simp only [Red.cells] at d1
            simp only [TryRow.cells] at d3
            rw [hb] at d3
            have lt_W2_0_0 : w.heap.size < W2.heap.size := by omega
            have lt_W2_0_1 : w.heap.size < W2.heap.size + 1 := by omega
            have lt_W2_1_0 : w3.heap.size < W2.heap.size := by omega
            have lt_W2_1_1 : w3.heap.size < W2.heap.size + 1 := by omega
            have lt_W2_2_0 : p < W2.heap.size := by omega
            have lt_W2_2_1 : p < W2.heap.size + 1 := by omega
            go_wp2_with fail
            refine noPanic_normal ?_
            go_wp2
            go_ret
            exact ⟨rfl, (by repeat (first | (with_reducible exact Below.refl _ _) | (with_reducible exact Below.refl _ _) | (with_reducible refine Below.setCell ?_ (by first | omega | (simp; done) | (simp; omega)) _) | (with_reducible refine Below.alloc ?_ (by first | omega | (simp; done) | (simp; omega)) _) | (with_reducible refine Below.drew ?_) | (with_reducible refine Below.trans ?_ (bel2.mono (by first | omega | (simp; done) | (simp; omega))))))⟩
        | false =>
          rw [hb] at c3
          have hmore : Red.good ⟨k, 0, 0, 0, 0⟩ := HG2.out
          have hyg : (rowRed false y.x).good := rowRed_good _ _ HY.out
          have HJ := Lib.hid (two_joined hmore hyg (by rw [rowRed_c]; show (k : Int) + 1 ≤ _; omega))
          rcases hV : Red.both ⟨k, 0, 0, 0, 0⟩ (rowRed false y.x) with ⟨Vc, Vn, vs, vl, vm⟩
          obtain rfl : (k : Int) + 1 = Vc := by have := congrArg Red.c hV; simpa [Red.both, rowRed] using this
          obtain rfl : 0 = Vn := by have := congrArg Red.n hV; simpa [Red.both, rowRed, bothN] using this
          rw [hV] at HJ
          have HF := Lib.hid (show ∀ t ∈ [(⟨k, 0, 0, 0, 0⟩ : Red), rowRed false y.x], t.fits from fun t ht => by
            simp only [List.mem_cons, List.not_mem_nil, or_false] at ht
            rcases ht with rfl | rfl
            · exact Red.good_fits hmore (by show (k : Int) ≤ _; omega)
            · exact Red.good_fits hyg (by rw [rowRed_c]; omega))
          clear hV hmore hyg
          go_wp2_with fail
          refine' wp_region_seqF [7] [.inl _, .inl _, .inl _, .inr (TryTwo wr.heap.size ⟨k, 0, 0, 0, 0⟩ (rowRed false y.x)), .inl _, .inl _, .inl _, .inl _, .inr (NewBlk wr.heap.size [.int .i64 0, .int .i64 0, .int .i64 0, .int .u64 0, .int .i64 0, .int .i64 0] 24)] (by kernel_rfl) (by kernel_rfl) ?main2
          case main2 =>
            refine wpParts_det (by rfl) (fun W hE hN => ?_) ?_
            · have hc := fun b o h => hE.cell (p := ⟨b, o, none⟩) h
              go_simp; refine ⟨Below.refl _ _, ?_⟩; rfl
            simp only [Act.put, List.setIfInBounds_toArray, List.set_cons_zero, List.set_cons_succ]
            refine wpParts_det (by rfl) (fun W hE hN => ?_) ?_
            · have hc := fun b o h => hE.cell (p := ⟨b, o, none⟩) h
              go_simp; refine ⟨Below.refl _ _, ?_⟩; rfl
            simp only [Act.put, List.setIfInBounds_toArray, List.set_cons_zero, List.set_cons_succ]
            refine wpParts_det (by rfl) (fun W hE hN => ?_) ?_
            · go_simp; refine ⟨Below.refl _ _, ?_⟩; refine (Try_One' _ _ _ _ _ _ _ _ _ HY.out).mono ?_; rintro e w' ⟨rfl, hb⟩; refine ⟨?_, hb⟩; rfl
            simp only [Act.put, List.setIfInBounds_toArray, List.set_cons_zero, List.set_cons_succ]
            refine wpParts_any rfl (TryTwo.later) (by rfl) (fun W hE hN => ?_) (fun u3 => ?_)
            · go_simp; (have hq := Try_two_new (B := wr.heap.size) (W := W) (r := ⟨k, 0, 0, 0, 0⟩) (t := rowRed false y.x) hE.size; simp only [hi_zero, lo_zero] at hq; exact hq)
            simp only [Act.put, List.setIfInBounds_toArray, List.set_cons_zero, List.set_cons_succ]
            refine wpParts_det (by rfl) (fun W hE hN => ?_) ?_
            · simp [near, Oper.looksAt, Op.operands] at hN; obtain ⟨g, rfl, hg, hgl, hrg⟩ := hN (.tmp 105) (by simp [Call.operands]) rfl; go_simp; refine ⟨Below.refl _ _, ?_⟩; refine (Try_Join' g 0 2 2 [⟨k, 0, 0, 0, 0⟩, rowRed false y.x] _ rfl (by omega) hgl hrg HF.out).mono ?_; rintro e w' ⟨rfl, hb⟩; refine ⟨?_, hb⟩; rw [HJ.out, show ((({ c := (k : Int) + 1, n := 0, s := vs, l := vl, m := vm } : Red), (0 : Int)).1.cells.toArray) = #[.int .i64 ((k : Int) + 1), .int .i64 (0), .int .i64 (hi vs), .int .u64 (lo vs), .int .i64 vl, .int .i64 vm] from rfl]
            simp only [Act.put, List.setIfInBounds_toArray, List.set_cons_zero, List.set_cons_succ]
            refine wpParts_det (by rfl) (fun W hE hN => ?_) ?_
            · go_simp; refine ⟨Below.refl _ _, ?_⟩; rfl
            simp only [Act.put, List.setIfInBounds_toArray, List.set_cons_zero, List.set_cons_succ]
            refine wpParts_det (by rfl) (fun W hE hN => ?_) ?_
            · go_simp; refine ⟨Below.refl _ _, ?_⟩; rfl
            simp only [Act.put, List.setIfInBounds_toArray, List.set_cons_zero, List.set_cons_succ]
            refine wpParts_det (by rfl) (fun W hE hN => ?_) ?_
            · go_simp; refine ⟨Below.refl _ _, ?_⟩; rfl
            simp only [Act.put, List.setIfInBounds_toArray, List.set_cons_zero, List.set_cons_succ]
            refine wpParts_any rfl (NewBlk.later) (by rfl) (fun W hE hN => ?_) (fun u8 => ?_)
            · go_simp; exact newBlk_alloc (cs := [.int .i64 0, .int .i64 0, .int .i64 0, .int .u64 0, .int .i64 0, .int .i64 0]) hE.size
            simp only [Act.put, List.setIfInBounds_toArray, List.set_cons_zero, List.set_cons_succ]
            refine wpParts_end fun W2 hE2 hG2 => ?_
            have hcW2 := fun b o h => hE2.cell (p := ⟨b, o, none⟩) h
            have hfW2 := fun b o h => hE2.frozen (p := ⟨b, o, none⟩) h
            obtain ⟨p, rfl, hp, hblk⟩ := hG2.1
            have s2 := hE2.size
            have bel2 : Below w.heap.size w W2 := (by repeat (first | (with_reducible exact Below.refl _ _) | (with_reducible exact Below.refl _ _) | (with_reducible refine Below.setCell ?_ (by first | omega | (simp; done) | (simp; omega)) _) | (with_reducible refine Below.alloc ?_ (by first | omega | (simp; done) | (simp; omega)) _) | (with_reducible refine Below.drew ?_) | (with_reducible refine Below.trans ?_ (hE2.mono (by first | omega | (simp; done) | (simp; omega)))) | (with_reducible refine Below.trans ?_ (hbel.mono (by first | omega | (simp; done) | (simp; omega))))))
            have cc := hblk.cells
            have cf := hblk.marks
            have lp := hblk.lt
            have np1 : w3.heap.size ≠ p := by omega
            have np2 : w.heap.size ≠ p := by omega
            have d1 := (hrr.ext hE2).cells
            have d3 := (hyr.ext hE2).cells
            simp only [Red.cells] at d1
            simp only [TryRow.cells] at d3
            rw [hb] at d3
            have lt_W2_0_0 : w.heap.size < W2.heap.size := by omega
            have lt_W2_0_1 : w.heap.size < W2.heap.size + 1 := by omega
            have lt_W2_1_0 : w3.heap.size < W2.heap.size := by omega
            have lt_W2_1_1 : w3.heap.size < W2.heap.size + 1 := by omega
            have lt_W2_2_0 : p < W2.heap.size := by omega
            have lt_W2_2_1 : p < W2.heap.size + 1 := by omega
            go_wp2_with fail
            refine noPanic_normal ?_
            go_wp2
            go_ret
            exact ⟨rfl, (by repeat (first | (with_reducible exact Below.refl _ _) | (with_reducible exact Below.refl _ _) | (with_reducible refine Below.setCell ?_ (by first | omega | (simp; done) | (simp; omega)) _) | (with_reducible refine Below.alloc ?_ (by first | omega | (simp; done) | (simp; omega)) _) | (with_reducible refine Below.drew ?_) | (with_reducible refine Below.trans ?_ (bel2.mono (by first | omega | (simp; done) | (simp; omega))))))⟩
      · have hp : (0 : Int) < (TryInts l k : Nat) := by omega
        have h4 := E4 hp
        have h5 := E5 hp
        rw [h4, h5] at hmr
        generalize TryInts l k = i at *
        have c1 := hrr.cells
        have c2 := hmr.cells
        have c3 := hyr.cells
        simp only [Red.cells] at c1
        simp only [TryRow.cells] at c3
        clear E4 E5 h4 h5 hlt hk
        have HMR := Lib.hid hmr; clear hmr
        have HG2 := Lib.hid HG.out
        clear HG HE EF
        have hi0 : ((i : Int) == 0) = false := by simp; omega
        have hne := fun w => Try_met_neq w
        have hi1 : ((i : Int) == (i : Int) + 1) = false := by simp; omega
        cases hb : y.b with
        | true =>
          rw [hb] at c3
          have hmore : Red.good ⟨k, i, Rs, Rl, Rm⟩ := HG2.out
          have hyg : (rowRed true y.x).good := rowRed_good _ _ HY.out
          have HJ := Lib.hid (two_joined hmore hyg (by rw [rowRed_c]; show (k : Int) + 1 ≤ _; omega))
          rcases hV : Red.both ⟨k, i, Rs, Rl, Rm⟩ (rowRed true y.x) with ⟨Vc, Vn, vs, vl, vm⟩
          obtain rfl : (k : Int) + 1 = Vc := by have := congrArg Red.c hV; simpa [Red.both, rowRed] using this
          obtain rfl : (i : Int) + 1 = Vn := by have := congrArg Red.n hV; simpa [Red.both, rowRed, bothN] using this
          rw [hV] at HJ
          have HF := Lib.hid (show ∀ t ∈ [(⟨k, i, Rs, Rl, Rm⟩ : Red), rowRed true y.x], t.fits from fun t ht => by
            simp only [List.mem_cons, List.not_mem_nil, or_false] at ht
            rcases ht with rfl | rfl
            · exact Red.good_fits hmore (by show (k : Int) ≤ _; omega)
            · exact Red.good_fits hyg (by rw [rowRed_c]; omega))
          clear hV hmore hyg
          go_wp2_with fail
          refine' wp_region_seqF [7] [.inl _, .inl _, .inl _, .inr (TryTwo wr.heap.size ⟨k, i, Rs, Rl, Rm⟩ (rowRed true y.x)), .inl _, .inl _, .inl _, .inl _, .inr (NewBlk wr.heap.size [.int .i64 0, .int .i64 0, .int .i64 0, .int .u64 0, .int .i64 0, .int .i64 0] 24)] (by kernel_rfl) (by kernel_rfl) ?main3
          case main3 =>
            refine wpParts_det (by rfl) (fun W hE hN => ?_) ?_
            · have hc := fun b o h => hE.cell (p := ⟨b, o, none⟩) h
              go_simp; refine ⟨Below.refl _ _, ?_⟩; rfl
            simp only [Act.put, List.setIfInBounds_toArray, List.set_cons_zero, List.set_cons_succ]
            refine wpParts_det (by rfl) (fun W hE hN => ?_) ?_
            · have hc := fun b o h => hE.cell (p := ⟨b, o, none⟩) h
              go_simp; refine ⟨Below.refl _ _, ?_⟩; rfl
            simp only [Act.put, List.setIfInBounds_toArray, List.set_cons_zero, List.set_cons_succ]
            refine wpParts_det (by rfl) (fun W hE hN => ?_) ?_
            · go_simp; refine ⟨Below.refl _ _, ?_⟩; refine (Try_One' _ _ _ _ _ _ _ _ _ HY.out).mono ?_; rintro e w' ⟨rfl, hb⟩; refine ⟨?_, hb⟩; rfl
            simp only [Act.put, List.setIfInBounds_toArray, List.set_cons_zero, List.set_cons_succ]
            refine wpParts_any rfl (TryTwo.later) (by rfl) (fun W hE hN => ?_) (fun u3 => ?_)
            · go_simp; (have hq := Try_two_new (B := wr.heap.size) (W := W) (r := ⟨k, i, Rs, Rl, Rm⟩) (t := rowRed true y.x) hE.size; simp only [hi_zero, lo_zero] at hq; exact hq)
            simp only [Act.put, List.setIfInBounds_toArray, List.set_cons_zero, List.set_cons_succ]
            refine wpParts_det (by rfl) (fun W hE hN => ?_) ?_
            · simp [near, Oper.looksAt, Op.operands] at hN; obtain ⟨g, rfl, hg, hgl, hrg⟩ := hN (.tmp 105) (by simp [Call.operands]) rfl; go_simp; refine ⟨Below.refl _ _, ?_⟩; refine (Try_Join' g 0 2 2 [⟨k, i, Rs, Rl, Rm⟩, rowRed true y.x] _ rfl (by omega) hgl hrg HF.out).mono ?_; rintro e w' ⟨rfl, hb⟩; refine ⟨?_, hb⟩; rw [HJ.out, show ((({ c := (k : Int) + 1, n := (i : Int) + 1, s := vs, l := vl, m := vm } : Red), (0 : Int)).1.cells.toArray) = #[.int .i64 ((k : Int) + 1), .int .i64 ((i : Int) + 1), .int .i64 (hi vs), .int .u64 (lo vs), .int .i64 vl, .int .i64 vm] from rfl]
            simp only [Act.put, List.setIfInBounds_toArray, List.set_cons_zero, List.set_cons_succ]
            refine wpParts_det (by rfl) (fun W hE hN => ?_) ?_
            · go_simp; refine ⟨Below.refl _ _, ?_⟩; rfl
            simp only [Act.put, List.setIfInBounds_toArray, List.set_cons_zero, List.set_cons_succ]
            refine wpParts_det (by rfl) (fun W hE hN => ?_) ?_
            · go_simp; refine ⟨Below.refl _ _, ?_⟩; rfl
            simp only [Act.put, List.setIfInBounds_toArray, List.set_cons_zero, List.set_cons_succ]
            refine wpParts_det (by rfl) (fun W hE hN => ?_) ?_
            · go_simp; refine ⟨Below.refl _ _, ?_⟩; rfl
            simp only [Act.put, List.setIfInBounds_toArray, List.set_cons_zero, List.set_cons_succ]
            refine wpParts_any rfl (NewBlk.later) (by rfl) (fun W hE hN => ?_) (fun u8 => ?_)
            · go_simp; exact newBlk_alloc (cs := [.int .i64 0, .int .i64 0, .int .i64 0, .int .u64 0, .int .i64 0, .int .i64 0]) hE.size
            simp only [Act.put, List.setIfInBounds_toArray, List.set_cons_zero, List.set_cons_succ]
            refine wpParts_end fun W2 hE2 hG2 => ?_
            have hcW2 := fun b o h => hE2.cell (p := ⟨b, o, none⟩) h
            have hfW2 := fun b o h => hE2.frozen (p := ⟨b, o, none⟩) h
            obtain ⟨p, rfl, hp, hblk⟩ := hG2.1
            have s2 := hE2.size
            have bel2 : Below w.heap.size w W2 := (by repeat (first | (with_reducible exact Below.refl _ _) | (with_reducible exact Below.refl _ _) | (with_reducible refine Below.setCell ?_ (by first | omega | (simp; done) | (simp; omega)) _) | (with_reducible refine Below.alloc ?_ (by first | omega | (simp; done) | (simp; omega)) _) | (with_reducible refine Below.drew ?_) | (with_reducible refine Below.trans ?_ (hE2.mono (by first | omega | (simp; done) | (simp; omega)))) | (with_reducible refine Below.trans ?_ (hbel.mono (by first | omega | (simp; done) | (simp; omega))))))
            have cc := hblk.cells
            have cf := hblk.marks
            have lp := hblk.lt
            have np1 : w3.heap.size ≠ p := by omega
            have np2 : w.heap.size ≠ p := by omega
            have d1 := (hrr.ext hE2).cells
            have d3 := (hyr.ext hE2).cells
            simp only [Red.cells] at d1
            simp only [TryRow.cells] at d3
            rw [hb] at d3
            have lt_W2_0_0 : w.heap.size < W2.heap.size := by omega
            have lt_W2_0_1 : w.heap.size < W2.heap.size + 1 := by omega
            have lt_W2_1_0 : w3.heap.size < W2.heap.size := by omega
            have lt_W2_1_1 : w3.heap.size < W2.heap.size + 1 := by omega
            have lt_W2_2_0 : p < W2.heap.size := by omega
            have lt_W2_2_1 : p < W2.heap.size + 1 := by omega
            go_wp2_with fail
            refine noPanic_normal ?_
            go_wp2
            go_ret
            exact ⟨rfl, (by repeat (first | (with_reducible exact Below.refl _ _) | (with_reducible exact Below.refl _ _) | (with_reducible refine Below.setCell ?_ (by first | omega | (simp; done) | (simp; omega)) _) | (with_reducible refine Below.alloc ?_ (by first | omega | (simp; done) | (simp; omega)) _) | (with_reducible refine Below.drew ?_) | (with_reducible refine Below.trans ?_ (bel2.mono (by first | omega | (simp; done) | (simp; omega))))))⟩
        | false =>
          rw [hb] at c3
          have hmore : Red.good ⟨k, i, Rs, Rl, Rm⟩ := HG2.out
          have hyg : (rowRed false y.x).good := rowRed_good _ _ HY.out
          have HJ := Lib.hid (two_joined hmore hyg (by rw [rowRed_c]; show (k : Int) + 1 ≤ _; omega))
          rcases hV : Red.both ⟨k, i, Rs, Rl, Rm⟩ (rowRed false y.x) with ⟨Vc, Vn, vs, vl, vm⟩
          obtain rfl : (k : Int) + 1 = Vc := by have := congrArg Red.c hV; simpa [Red.both, rowRed] using this
          obtain rfl : (i : Int) = Vn := by have := congrArg Red.n hV; simpa [Red.both, rowRed, bothN] using this
          rw [hV] at HJ
          have HF := Lib.hid (show ∀ t ∈ [(⟨k, i, Rs, Rl, Rm⟩ : Red), rowRed false y.x], t.fits from fun t ht => by
            simp only [List.mem_cons, List.not_mem_nil, or_false] at ht
            rcases ht with rfl | rfl
            · exact Red.good_fits hmore (by show (k : Int) ≤ _; omega)
            · exact Red.good_fits hyg (by rw [rowRed_c]; omega))
          clear hV hmore hyg
          go_wp2_with fail
          refine' wp_region_seqF [7] [.inl _, .inl _, .inl _, .inr (TryTwo wr.heap.size ⟨k, i, Rs, Rl, Rm⟩ (rowRed false y.x)), .inl _, .inl _, .inl _, .inl _, .inr (NewBlk wr.heap.size [.int .i64 0, .int .i64 0, .int .i64 0, .int .u64 0, .int .i64 0, .int .i64 0] 24)] (by kernel_rfl) (by kernel_rfl) ?main4
          case main4 =>
            refine wpParts_det (by rfl) (fun W hE hN => ?_) ?_
            · have hc := fun b o h => hE.cell (p := ⟨b, o, none⟩) h
              go_simp; refine ⟨Below.refl _ _, ?_⟩; rfl
            simp only [Act.put, List.setIfInBounds_toArray, List.set_cons_zero, List.set_cons_succ]
            refine wpParts_det (by rfl) (fun W hE hN => ?_) ?_
            · have hc := fun b o h => hE.cell (p := ⟨b, o, none⟩) h
              go_simp; refine ⟨Below.refl _ _, ?_⟩; rfl
            simp only [Act.put, List.setIfInBounds_toArray, List.set_cons_zero, List.set_cons_succ]
            refine wpParts_det (by rfl) (fun W hE hN => ?_) ?_
            · go_simp; refine ⟨Below.refl _ _, ?_⟩; refine (Try_One' _ _ _ _ _ _ _ _ _ HY.out).mono ?_; rintro e w' ⟨rfl, hb⟩; refine ⟨?_, hb⟩; rfl
            simp only [Act.put, List.setIfInBounds_toArray, List.set_cons_zero, List.set_cons_succ]
            refine wpParts_any rfl (TryTwo.later) (by rfl) (fun W hE hN => ?_) (fun u3 => ?_)
            · go_simp; (have hq := Try_two_new (B := wr.heap.size) (W := W) (r := ⟨k, i, Rs, Rl, Rm⟩) (t := rowRed false y.x) hE.size; simp only [hi_zero, lo_zero] at hq; exact hq)
            simp only [Act.put, List.setIfInBounds_toArray, List.set_cons_zero, List.set_cons_succ]
            refine wpParts_det (by rfl) (fun W hE hN => ?_) ?_
            · simp [near, Oper.looksAt, Op.operands] at hN; obtain ⟨g, rfl, hg, hgl, hrg⟩ := hN (.tmp 105) (by simp [Call.operands]) rfl; go_simp; refine ⟨Below.refl _ _, ?_⟩; refine (Try_Join' g 0 2 2 [⟨k, i, Rs, Rl, Rm⟩, rowRed false y.x] _ rfl (by omega) hgl hrg HF.out).mono ?_; rintro e w' ⟨rfl, hb⟩; refine ⟨?_, hb⟩; rw [HJ.out, show ((({ c := (k : Int) + 1, n := (i : Int), s := vs, l := vl, m := vm } : Red), (0 : Int)).1.cells.toArray) = #[.int .i64 ((k : Int) + 1), .int .i64 ((i : Int)), .int .i64 (hi vs), .int .u64 (lo vs), .int .i64 vl, .int .i64 vm] from rfl]
            simp only [Act.put, List.setIfInBounds_toArray, List.set_cons_zero, List.set_cons_succ]
            refine wpParts_det (by rfl) (fun W hE hN => ?_) ?_
            · go_simp; refine ⟨Below.refl _ _, ?_⟩; rfl
            simp only [Act.put, List.setIfInBounds_toArray, List.set_cons_zero, List.set_cons_succ]
            refine wpParts_det (by rfl) (fun W hE hN => ?_) ?_
            · go_simp; refine ⟨Below.refl _ _, ?_⟩; rfl
            simp only [Act.put, List.setIfInBounds_toArray, List.set_cons_zero, List.set_cons_succ]
            refine wpParts_det (by rfl) (fun W hE hN => ?_) ?_
            · go_simp; refine ⟨Below.refl _ _, ?_⟩; rfl
            simp only [Act.put, List.setIfInBounds_toArray, List.set_cons_zero, List.set_cons_succ]
            refine wpParts_any rfl (NewBlk.later) (by rfl) (fun W hE hN => ?_) (fun u8 => ?_)
            · go_simp; exact newBlk_alloc (cs := [.int .i64 0, .int .i64 0, .int .i64 0, .int .u64 0, .int .i64 0, .int .i64 0]) hE.size
            simp only [Act.put, List.setIfInBounds_toArray, List.set_cons_zero, List.set_cons_succ]
            refine wpParts_end fun W2 hE2 hG2 => ?_
            have hcW2 := fun b o h => hE2.cell (p := ⟨b, o, none⟩) h
            have hfW2 := fun b o h => hE2.frozen (p := ⟨b, o, none⟩) h
            obtain ⟨p, rfl, hp, hblk⟩ := hG2.1
            have s2 := hE2.size
            have bel2 : Below w.heap.size w W2 := (by repeat (first | (with_reducible exact Below.refl _ _) | (with_reducible exact Below.refl _ _) | (with_reducible refine Below.setCell ?_ (by first | omega | (simp; done) | (simp; omega)) _) | (with_reducible refine Below.alloc ?_ (by first | omega | (simp; done) | (simp; omega)) _) | (with_reducible refine Below.drew ?_) | (with_reducible refine Below.trans ?_ (hE2.mono (by first | omega | (simp; done) | (simp; omega)))) | (with_reducible refine Below.trans ?_ (hbel.mono (by first | omega | (simp; done) | (simp; omega))))))
            have cc := hblk.cells
            have cf := hblk.marks
            have lp := hblk.lt
            have np1 : w3.heap.size ≠ p := by omega
            have np2 : w.heap.size ≠ p := by omega
            have d1 := (hrr.ext hE2).cells
            have d3 := (hyr.ext hE2).cells
            simp only [Red.cells] at d1
            simp only [TryRow.cells] at d3
            rw [hb] at d3
            have lt_W2_0_0 : w.heap.size < W2.heap.size := by omega
            have lt_W2_0_1 : w.heap.size < W2.heap.size + 1 := by omega
            have lt_W2_1_0 : w3.heap.size < W2.heap.size := by omega
            have lt_W2_1_1 : w3.heap.size < W2.heap.size + 1 := by omega
            have lt_W2_2_0 : p < W2.heap.size := by omega
            have lt_W2_2_1 : p < W2.heap.size + 1 := by omega
            go_wp2_with fail
            refine noPanic_normal ?_
            go_wp2
            go_ret
            exact ⟨rfl, (by repeat (first | (with_reducible exact Below.refl _ _) | (with_reducible exact Below.refl _ _) | (with_reducible refine Below.setCell ?_ (by first | omega | (simp; done) | (simp; omega)) _) | (with_reducible refine Below.alloc ?_ (by first | omega | (simp; done) | (simp; omega)) _) | (with_reducible refine Below.drew ?_) | (with_reducible refine Below.trans ?_ (bel2.mono (by first | omega | (simp; done) | (simp; omega))))))⟩
end Go.Proofs.Ytdebmifjfemcjaa
