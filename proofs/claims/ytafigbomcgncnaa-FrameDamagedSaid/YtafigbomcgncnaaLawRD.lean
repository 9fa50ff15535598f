/-
  FrameDamaged, walked.
-/
import Derived.Test.YtafigbomcgncnaaFrR
namespace Go.Dav
set_option linter.unusedVariables false
set_option linter.unusedSimpArgs false
open Go Go.RowKit
theorem bits_xor_u8c {a b : Nat} (ha : a < 256) (hb : b < 256) : bits .xor .u8 (a : Int) (b : Int) = ((a ^^^ b : Nat) : Int) :=
  bits_xor_nat .u8 8 (by decide) (fun n h0 h1 => by rw [IntKind.wrap_u8]; omega) a b ha hb
theorem u8s_set (l : List UInt8) (i : Nat) (x : UInt8) : (u8s l).set i (.int .u8 (x.toNat : Int)) = u8s (l.set i x) := by simp [u8s, List.map_set]
end Go.Dav
namespace Go.Proofs.Ytafigbomcgncnaa
set_option linter.unusedVariables false
set_option linter.unusedSimpArgs false
open Go.RowKit Go.Dav
attribute [local go_sem] Gives ite_val ite_val_true

set_option maxHeartbeats 1000000 in
theorem Try_bytesClone (ad : Addr) (al ac : Nat) (x : List UInt8) (S : Nat → Prop) (w : World) (hx : BytesS w S (some ad) al ac x) :
    Calls Try.prog 26 #[.slice (some ad) al ac] w (GivesOwn 5 w x) := by
  have hc := (hx.cells.ext ((Below.refl _ w).alloc (Nat.le_refl _) (.cells #[] 5)))
  have hf := hx.at_.hfew
  have hl := hx.at_.hlen
  have HX := Lib.hid hc
  clear hx hc
  have knil := @Try_eqNil
  go_enter Try.func26, Try.ntmps26
  have hown := World.ownsRow_made (e := 5) (size := 1) w #[] 0 (Nat.le_refl _) (by unfold maxLen; omega) rfl
  go_wp2_with (at_builtin; refine wpList_append_rowS rfl (.tmp 5) (.tmp 6) 22 rfl Try_elemU8 w.heap.size _ 0 [] rfl hown S (some ad) al ac (u8s x) rfl HX.out (u8s_one x) (fun h => by cases h) (by unfold maxLen; omega) (by omega) (by simp) ?_; intro v' w1 hown1 hgrow)
  rw [Nat.zero_add, List.nil_append] at hown1
  have hbel : Below w.heap.size w w1 := ((Below.refl _ w).alloc (Nat.le_refl _) _).grown hgrow (by simp) (fun k hk => (hown.lt k hk).1)
  have HO := Lib.hid hown1
  clear hown1 hgrow
  go_wp2
  go_ret
  exact ⟨_, rfl, by rw [hl]; exact HO.out, hbel⟩

set_option maxRecDepth 100000 in
set_option maxHeartbeats 16000000 in
theorem Try_FrameDamaged (ya pa : Option Addr) (yn yc pl pc : Nat) (y p : List UInt8) (where_ : Int) (turned : Nat) (w : World) (hy : BytesAt w ya yn yc y) (hp : BytesAt w pa pl pc p) (hc : I64' where_) (htu : turned < 4294967296) :
    Calls Try.prog 6 #[.slice ya yn yc, .slice pa pl pc, .int .i64 where_, .int .u32 (turned : Int)] w fun e w' => e = .returned (.bool true) ∧ Below w.heap.size w w' := by
  have HY := Lib.hid hy.s
  have HP := Lib.hid hp.s
  have HTU := Lib.hid htu
  clear hy hp hc htu
  go_enter Try.func6, Try.ntmps6
  go_wp2_with fail
  refine (Try_wakes11 w).mono ?_; rintro e w1 ⟨rfl, hb1⟩
  have BEL1 := Lib.hid hb1
  clear hb1
  go_wp2_with fail
  obtain ⟨A, hA⟩ : ∃ A, y.take 300 = A := ⟨_, rfl⟩
  have hal : A.length ≤ 500 := by rw [← hA, List.length_take]; omega
  have hC := Try_few ya yn yc 300 y w1 _ (HY.out.ext BEL1.out) (by omega)
  rw [hA] at hC
  refine (show Calls Try.prog 15 #[.slice ya yn yc, .int .i64 300] w1 _ from hC).mono ?_; rintro e w2 ⟨v2, rfl, ho2, hb2⟩
  obtain ⟨aa, ac, rfl, hA2⟩ := own_bytes ho2 (by omega)
  have HAB := Lib.hid hA2
  have BEL2 := Lib.hid (BEL1.out.trans (hb2.mono BEL1.out.size))
  clear hC hA2 ho2 hb2 BEL1 hA
  go_wp2_with fail
  refine (Try_firm aa A.length ac w2).mono ?_; rintro e w3 ⟨rfl, hb3⟩
  have HA3 := Lib.hid (HAB.out.ext hb3)
  have BEL3 := Lib.hid (BEL2.out.trans (hb3.mono BEL2.out.size))
  clear hb3 HAB BEL2
  go_wp2_with fail
  obtain ⟨V, hV⟩ : ∃ V, w3.alloc (.cells #[.slice aa A.length ac, .slice none 0 0, .int .i64 (-1), .int .i64 (-1), .bool false] 25) = V := ⟨_, rfl⟩
  have hbV : Below w3.heap.size w3 V := by rw [← hV]; exact (by repeat (first | (with_reducible exact Below.refl _ _) | (with_reducible exact Below.refl _ _) | (with_reducible refine Below.setCell ?_ (by first | omega | (simp; done) | (simp; omega)) _) | (with_reducible refine Below.alloc ?_ (by first | omega | (simp; done) | (simp; omega)) _) | (with_reducible refine Below.drew ?_) | (with_reducible refine below_drewN ?_ _)))
  have HKF := Lib.hid (show Blk V w3.heap.size [.slice aa A.length ac, .slice none 0 0, .int .i64 (-1), .int .i64 (-1), .bool false] 25 by rw [← hV]; exact Blk.new _ _ _)
  have HFV := Lib.hid ((firmS (HA3.out.ext hbV)).bound)
  have BELV := Lib.hid (BEL3.out.trans (hbV.mono BEL3.out.size))
  rw [show _ = V from hV]
  clear hbV hV HA3 BEL3
  obtain ⟨b, hb⟩ : ∃ b, p.take 400 = b := ⟨_, rfl⟩
  have hbl : b.length ≤ 500 := by rw [← hb, List.length_take]; omega
  have hC := Try_few pa pl pc 400 p V _ (HP.out.ext BELV.out) (by omega)
  rw [hb] at hC
  refine (show Calls Try.prog 15 #[.slice pa pl pc, .int .i64 400] V _ from hC).mono ?_; rintro e w4 ⟨v4, rfl, ho4, hb4⟩
  obtain ⟨ba, bc, rfl, hB4⟩ := own_bytes ho4 (by omega)
  have HB4 := Lib.hid hB4
  have HK4 := Lib.hid (HKF.out.ext hb4)
  have HF4 := Lib.hid ((HFV.out.ext hb4).bound)
  have BEL4 := Lib.hid (BELV.out.trans (hb4.mono BELV.out.size))
  have q1 := HK4.out.cells
  have l1 := HK4.out.lt
  clear hC hB4 ho4 hb4 HKF HFV BELV hb
  have HSZ := Lib.hid (show Calls Try.prog 17 #[.agg #[.slice aa A.length ac, .slice none 0 0, .int .i64 (-1), .int .i64 (-1), .bool false], .int .i64 4] w4 (fun e w' => ∃ k : Nat, e = .returned (.int .i64 (k : Int)) ∧ 0 < k ∧ Below w4.heap.size w4 w') from (Try_Size (firmF A) aa none A.length ac 0 0 4 w4 _ HF4.out (fun b h => h.2) (by unfold I64'; omega)).mono fun e w' ⟨h1, h2⟩ => ⟨_, h1, by
    unfold FileD.fsize
    rw [if_pos ⟨firmF_right (by omega), by omega, by omega⟩, firmF_all, piece_len_pos (b := List.replicate 4 0) (by rfl)]
    exact List.length_pos_iff.2 (pieceOf_ne A (List.replicate 4 0)), h2⟩)
  by_cases h4 : b.length < 4
  · have d1 : (b.length : Int) < 4 := by omega
    clear h4
    go_wp2_with fail
    refine HSZ.out.mono ?_; rintro e w5 ⟨k, rfl, hk, hb5⟩
    have hkI : (0 : Int) < (k : Int) := by omega
    have BEL5 := Lib.hid (BEL4.out.trans (hb5.mono BEL4.out.size))
    clear hb5 HSZ
    go_wp2
    go_ret
    exact ⟨rfl, BEL5.out⟩
  · have d1 : ¬ (b.length : Int) < 4 := by omega
    have d2 : 4 ≤ b.length := by omega
    by_cases h0 : turned = 0
    · subst h0
      clear h4
      go_wp2_with fail
      refine HSZ.out.mono ?_; rintro e w5 ⟨k, rfl, hk, hb5⟩
      have hkI : (0 : Int) < (k : Int) := by omega
      have BEL5 := Lib.hid (BEL4.out.trans (hb5.mono BEL4.out.size))
      clear hb5 HSZ
      go_wp2
      go_ret
      exact ⟨rfl, BEL5.out⟩
    · have d0 : ((turned : Int) == 0) = false := by rw [beq_eq_false_iff_ne]; omega
      clear HSZ
      go_wp2_with fail
      have hb1 : 1 ≤ b.length := by omega
      have hpw := pieceOf_len (F := firmF A) (outOf b) (by rw [outOf_len]; omega)
      rw [firmF_all] at hpw
      have HPUT := Lib.hid (laidF_put (A := A) (b := b) (by omega) hb1 (by omega))
      have HLALL := Lib.hid (laidF_all A b)
      have HLR := Lib.hid (laidF_right (A := A) (b := b) (by omega) (by omega))
      obtain ⟨L, hL⟩ : ∃ L, A ++ padFor A = L := ⟨_, rfl⟩
      have hpb := piece_body A (outOf b)
      have hplb := place_body A (outOf b) (outOf_ne b)
      have hany := pastAll_any A
      have hpf := padFor_len A
      have hLl : L.length ≤ 600 := by rw [← hL, List.length_append]; omega
      rw [hL] at hpb hplb hany
      obtain ⟨at_, hat⟩ : ∃ z, placeOf A (outOf b) = z := ⟨_, rfl⟩
      rw [hat] at HPUT hplb
      rw [← hplb] at hany
      have hat1 : L.length ≤ at_ ∧ at_ ≤ L.length + 1 ∧ at_ % 64 ≠ 0 := by
        rw [hplb]
        have h := padded A
        rw [hL] at h
        split <;> omega
      have hpl := places_from L.length (outOf b) (outOf_ne b)
      rw [← hplb] at hpl
      obtain ⟨BD, hBD⟩ : ∃ z, (bodyAt L.length (outOf b)).length = z := ⟨_, rfl⟩
      have hlbl := congrArg List.length hpb
      rw [List.length_append, List.length_append, hBD] at hlbl
      have hbd7 : 7 ≤ BD := by
        have h := congrArg List.length (places_pl (outOf b) L.length)
        rw [List.length_map, placesAt_len, outOf_len, hBD] at h
        have := plFrom_len BD L.length
        omega
      obtain ⟨tot, htot⟩ : ∃ z, L.length + BD = z := ⟨_, rfl⟩
      have htl : tot ≤ 30000 := by omega
      have hat2 : at_ + 5 < tot := by omega
      rw [hBD, htot] at hpl
      rw [hpb] at HLALL
      have hXl : (L ++ bodyAt L.length (outOf b)).length = tot := by rw [List.length_append, hBD, htot]
      obtain ⟨ps, hps⟩ : ∃ ps, (placesAt L.length (outOf b)).map (·.1) = ps := ⟨_, rfl⟩
      have hpsl : ps.length = 6 + b.length := by rw [← hps, List.length_map, placesAt_len, outOf_len]
      rw [hps] at hpl
      have HANY := Lib.hid hany
      have HPL := Lib.hid hpl
      have HPS := Lib.hid hps
      have HPSL := Lib.hid hpsl
      have HXL := Lib.hid hXl
      have HBD := Lib.hid (And.intro hBD htot)
      obtain ⟨X, hX⟩ : ∃ X, L ++ bodyAt L.length (outOf b) = X := ⟨_, rfl⟩
      rw [hX] at HLALL HXL
      have HX := Lib.hid hX
      have H0 := Lib.hid h0
      clear hL hpb hplb hany hpf hat hBD hlbl htot hps hpsl hXl hX hpl h4 h0 hpw
      have hA := Try_fPut (firmF A) aa none ba A.length ac 0 0 b.length bc b w4 _ _ HF4.out (fun b h => h.2) HB4.out
      rw [HPUT.out] at hA
      refine (show Calls Try.prog 16 #[.agg #[.slice aa A.length ac, .slice none 0 0, .int .i64 (-1), .int .i64 (-1), .bool false], .slice ba b.length bc] w4 _ from hA).mono ?_; rintro e w5 ⟨ga, gl, gc, ma, ml, mc, rfl, hR, hb5⟩
      have HG5 := Lib.hid hR
      have BEL5 := Lib.hid (BEL4.out.trans (hb5.mono BEL4.out.size))
      clear hA hR hb5 HB4 HK4 HF4 BEL4 q1 l1 HPUT d1
      go_wp2_with fail
      obtain ⟨U, hU⟩ : ∃ U, w5.alloc (.cells #[.slice ga gl gc, .slice ma ml mc, .int .i64 (laidF A b).fuse, .int .i64 (laidF A b).fault, .bool (laidF A b).off] 25) = U := ⟨_, rfl⟩
      have hbU : Below w5.heap.size w5 U := by rw [← hU]; exact (by repeat (first | (with_reducible exact Below.refl _ _) | (with_reducible exact Below.refl _ _) | (with_reducible refine Below.setCell ?_ (by first | omega | (simp; done) | (simp; omega)) _) | (with_reducible refine Below.alloc ?_ (by first | omega | (simp; done) | (simp; omega)) _) | (with_reducible refine Below.drew ?_) | (with_reducible refine below_drewN ?_ _)))
      have HGU := Lib.hid ((HG5.out.ext hbU).bound)
      have BELU := Lib.hid (BEL5.out.trans (hbU.mono BEL5.out.size))
      rw [show _ = U from hU]
      clear hbU hU HG5 BEL5
      refine (Try_said (laidF A b) ga ma gl gc ml mc U _ HGU.out (fun b h => h.2) HLR.out).mono ?_; rintro e w6 ⟨v6, rfl, ho6, hb6⟩
      rw [HLALL.out, HXL.out] at ho6
      obtain ⟨sg, sc, rfl, hsc1, hsc2⟩ := ownRow_some ho6 (by omega)
      have HS6 := Lib.hid ho6
      have BEL6 := Lib.hid (BELU.out.trans (hb6.mono BELU.out.size))
      have hU6 := BELU.out.size
      clear ho6 hb6 HGU BELU HLR HLALL
      go_wp2_with fail
      go_loopw [15, 16] (fun ov ix wr => ∃ (i : Nat) (own : List Nat), at_ ≤ i ∧ i ≤ tot ∧ ix = .int .i64 (i : Int) ∧ own ++ plFrom (tot - i) i = ps ∧ wr.ownsRow w6.heap.size 3 1 ov own.length (natsV own) ∧ Below w6.heap.size w6 wr) (fun _ ix _ => tot - (intOf ix).toNat)
      case atStart => exact ⟨at_, [], Nat.le_refl _, by omega, by go_num, HPL.out, World.ownsRow_nil _ _ _ _, Below.refl _ _⟩
      case round =>
        obtain ⟨i, own, hi1, hi2, rfl, hown, hor, hbl⟩ := hrel
        have hol : own.length ≤ 6 + b.length := by have h := congrArg List.length hown; rw [List.length_append, HPSL.out] at h; omega
        have HOWN := Lib.hid hown
        have HOR := Lib.hid hor
        have HBL := Lib.hid hbl
        obtain ⟨oa, oc, rfl, _⟩ := own_cells hor
        have t2 : (i : Int).tmod 64 = (i : Int) % 64 := Int.tmod_eq_emod_of_nonneg (by omega)
        have hsr := hbl.size
        clear hown hor hbl
        by_cases hin : i < tot
        · have hin' : (i : Int) < (tot : Int) := by omega
          have HIN := Lib.hid hin
          by_cases h64 : i % 64 = 0
          · have d4 : ((i : Int) % 64 != 0) = false := by simp; omega
            have HZ := Lib.hid (show plFrom (tot - i) i = plFrom (tot - (i + 1)) (i + 1) by rw [show tot - i = tot - (i + 1) + 1 by omega]; exact plFrom_zero _ _ h64)
            clear h64 hin
            go_wp2_with fail
            go_roundw
            case rel => exact ⟨i + 1, own, by omega, HIN.out, by go_num, by rw [← HZ.out]; exact HOWN.out, HOR.out, HBL.out⟩
            case measure => have := HIN.out; simp [intOf]; omega
          · have d4 : ((i : Int) % 64 != 0) = true := by simp; omega
            have HZ := Lib.hid (show plFrom (tot - i) i = i :: plFrom (tot - (i + 1)) (i + 1) by rw [show tot - i = tot - (i + 1) + 1 by omega]; exact plFrom_mid _ _ h64)
            have HCX := Lib.hid (cells_one (S := fun b => b = wr.heap.size) (g := wr.heap.size) (v := .int .i64 (i : Int)) rfl (by simp) (Blk.new wr [.int .i64 (i : Int)] 3 |>.cell 0 rfl))
            clear h64 hin
            go_wp2_with (at_builtin; refine wpList_append_rowS rfl (.tmp 62) (.tmp 64) 53 rfl Try_elemInt w6.heap.size _ own.length (natsV own) rfl (HOR.out.alloc _) (fun b => b = wr.heap.size) (some ⟨wr.heap.size, 0, none⟩) 1 1 [.int .i64 (i : Int)] rfl HCX.out (fun u hu => by simp at hu; subst hu; rfl) (fun h => by cases h) (by unfold maxLen; omega) (by omega) (by simp; omega) ?_; intro v7 w7 hown7 hgrow7; have HBL7 := Lib.hid (below_own (HBL.out.alloc (by omega) _) (by simp; omega) (HOR.out.alloc _) (Nat.le_refl _) hgrow7); have HO7 := Lib.hid hown7; clear HCX hown7 hgrow7)
            go_roundw
            case rel =>
              refine ⟨i + 1, own ++ [i], by omega, HIN.out, by go_num, ?_, ?_, HBL7.out⟩
              · rw [List.append_assoc, List.singleton_append, ← HZ.out]; exact HOWN.out
              · rw [List.length_append, natsV_snoc]; exact HO7.out
            case measure => have := HIN.out; simp [intOf]; omega
        · obtain rfl : tot = i := by omega
          have e0 : own = ps := by have h := HOWN.out; rw [Nat.sub_self, show plFrom 0 tot = [] from rfl, List.append_nil] at h; exact h
          subst e0
          have hol2 := HPSL.out
          clear hin
          have HOR2 := Lib.hid (show wr.ownsRow w6.heap.size 3 1 (.slice oa (6 + b.length) oc) (6 + b.length) (natsV own) by have h := HOR.out; rw [hol2] at h; exact h)
          rw [hol2]
          clear HOR HOWN hol hol2
          obtain ⟨og, oc', e1, hoc1, hoc2⟩ := ownRow_some HOR2.out (by omega)
          cases e1
          obtain ⟨bl, hbl0⟩ : ∃ bl, b.length = bl := ⟨_, rfl⟩
          rw [hbl0] at HOR2 d2 hbl hb1 hoc1 ⊢
          have HBL0 := Lib.hid hbl0
          obtain ⟨d, hd⟩ : ∃ d, 8 * bl - 31 = d := ⟨_, rfl⟩
          obtain ⟨cu, hcu⟩ : ∃ cu : Nat, IntKind.u64.wrap where_ = (cu : Int) := ⟨(IntKind.u64.wrap where_).toNat, by rw [IntKind.wrap_u64]; omega⟩
          obtain ⟨fr, hfr⟩ : ∃ fr, cu % d = fr := ⟨_, rfl⟩
          have hfrd : fr < d := by rw [← hfr]; exact Nat.mod_lt _ (by omega)
          have g0 : IntKind.i64.wrap (6 + (bl : Int) - (bl : Int)) = 6 := by rw [show 6 + (bl : Int) - (bl : Int) = 6 by omega]; rfl
          have g1 : IntKind.i64.wrap (8 * (bl : Int)) = 8 * (bl : Int) := IntWalk.i64_in _ (by omega)
          have g2 : IntKind.i64.wrap (8 * (bl : Int) - 31) = (d : Int) := by rw [show 8 * (bl : Int) - 31 = (d : Int) by omega]; exact IntWalk.i64_in _ (by omega)
          have g3 : IntKind.u64.wrap (d : Int) = (d : Int) := by rw [IntKind.wrap_u64]; omega
          have g4 : (cu : Int).tmod (d : Int) = (fr : Int) := by rw [← hfr]; rfl
          have g5 : IntKind.i64.wrap (fr : Int) = (fr : Int) := IntWalk.i64_in _ (by omega)
          have g6 : ¬ d = 0 := by omega
          have g7 : ¬ 6 + (bl : Int) < (bl : Int) := by omega
          have g8 : (6 : Int) ≤ 6 + (bl : Int) := by omega
          have hfr32 : fr + 32 ≤ 8 * bl := by omega
          clear hd hfr hbl0
          go_wp2_with fail
          obtain ⟨cb, hcb⟩ : ∃ cb, wr.heap.size = cb := ⟨_, rfl⟩
          have hs7 := ownsRow_ext HS6.out HBL.out
          obtain ⟨_, _, e1, hsb⟩ := own_bytes hs7 (by omega)
          cases e1
          have HSF := Lib.hid (show ∀ W', Below cb wr W' → W'.ownsRow (U.heap.size + 1) 5 1 (.slice (some ⟨sg, 0, none⟩) tot sc) tot (u8s X) from fun W' h => ownsRow_ext hs7 (by rw [hcb]; exact h))
          have HOF := Lib.hid (show ∀ W', Below cb wr W' → W'.ownsRow w6.heap.size 3 1 (.slice (some ⟨og, 0, none⟩) (6 + bl) oc) (6 + bl) (natsV own) from fun W' h => ownsRow_ext HOR2.out (by rw [hcb]; exact h))
          have BELR := Lib.hid (BEL6.out.trans (HBL.out.mono BEL6.out.size))
          have hcw : w.heap.size ≤ cb := by rw [← hcb]; exact BELR.out.size
          refine (Try_bytesClone ⟨sg, 0, none⟩ tot sc X _ wr hsb).mono ?_; rintro e w8 ⟨v8, rfl, ho8, hb8⟩
          rw [HXL.out, hcb] at ho8
          rw [hcb] at hb8
          obtain ⟨hg, hc, rfl, hhc1, hhc2⟩ := ownRow_some ho8 (by omega)
          have HH8 := Lib.hid (show w8.ownsRow cb 5 1 (.slice (some ⟨hg, 0, none⟩) tot hc) tot (u8s (L ++ bodyAt L.length (headOf11 b ++ turnAt b (turnTo turned fr 0)))) by
            rw [turnTo_zero, turnAt_zero, ← out_head, HX.out]; exact ho8)
          have HBC := Lib.hid hb8
          clear hs7 hsb HS6 HOR2 HBL ho8 hb8 hcu g0 g1 g2 g3 g4 g5 g6 g7 g8
          go_wp2_with fail
          go_loopw [89] (fun ix wr => ∃ k : Nat, k ≤ 32 ∧ ix = .int .i64 (k : Int) ∧ wr.ownsRow cb 5 1 (.slice (some ⟨hg, 0, none⟩) tot hc) tot (u8s (L ++ bodyAt L.length (headOf11 b ++ turnAt b (turnTo turned fr k)))) ∧ Below cb w8 wr) (fun ix _ => 32 - (intOf ix).toNat)
          case atStart => exact ⟨0, by omega, by go_num, HH8.out, Below.refl _ _⟩
          case round =>
            obtain ⟨k, hk, rfl, hhr, hbl8⟩ := hrel
            have HHR := Lib.hid hhr
            have HBR := Lib.hid hbl8
            have HBW := Lib.hid (HBC.out.trans hbl8)
            have hkI : (k : Int) ≤ 32 := by omega
            clear hhr hbl8
            by_cases hlt : k < 32
            · have hlt' : (k : Int) < 32 := by omega
              have hdv : turned / 2 ^ k < 4294967296 := Nat.lt_of_le_of_lt (Nat.div_le_self _ _) HTU.out
              have hv0 : bits .and .u32 ((turned : Int) / 2 ^ k) 1 = ((turned / 2 ^ k % 2 : Nat) : Int) := by
                have h := bits_and_one hdv
                rw [Int.natCast_ediv, Int.natCast_pow] at h
                exact h
              have HLT := Lib.hid hlt
              rcases Nat.mod_two_eq_zero_or_one (turned / 2 ^ k) with hb | hb
              · have hv : bits .and .u32 ((turned : Int) / 2 ^ k) 1 = 0 := by rw [hv0, hb]; rfl
                have HTN := Lib.hid (turnTo_no (at_ := fr) hb)
                clear hv0 hdv hb hlt hk
                go_wp2_with fail
                go_roundw
                case rel => exact ⟨k + 1, HLT.out, by go_num, by rw [HTN.out]; exact HHR.out, HBR.out⟩
                case measure => simp [intOf]; omega
              · have hv : bits .and .u32 ((turned : Int) / 2 ^ k) 1 = 1 := by rw [hv0, hb]; rfl
                have HTN := Lib.hid (turnTo_yes (at_ := fr) hb)
                obtain ⟨i, hi⟩ : ∃ i, (fr + k) / 8 = i := ⟨_, rfl⟩
                obtain ⟨e, he⟩ : ∃ e, (fr + k) % 8 = e := ⟨_, rfl⟩
                have hib : i < bl := by omega
                have k1 : IntKind.i64.wrap ((fr : Int) + (k : Int)) = (fr : Int) + (k : Int) := IntWalk.i64_in _ (by omega)
                have k2 : ((fr : Int) + (k : Int)).tdiv 8 = (i : Int) := by rw [Int.tdiv_eq_ediv_of_nonneg (by omega)]; omega
                have k2' : IntKind.i64.wrap (i : Int) = (i : Int) := IntWalk.i64_in _ (by omega)
                have k3 : ((fr : Int) + (k : Int)).tmod 8 = (e : Int) := by rw [Int.tmod_eq_emod_of_nonneg (by omega)]; omega
                have hiI : (i : Int) < (bl : Int) := by omega
                have heI : (e : Int) < 8 := by omega
                obtain ⟨pp, hpp⟩ : ∃ pp, own[6 + i]? = some pp := ⟨_, List.getElem?_eq_getElem (by have h := HPSL.out; have h2 := HBL0.out; omega)⟩
                obtain ⟨c, _, hXc, hXs, hppt⟩ := turn_step (L := L) (b := b) (x := turnTo turned fr k) (m := fr + k) (i := i) (p := pp) hi (by rw [HBL0.out]; exact hib) (by rw [← List.getElem?_map, HPS.out]; exact hpp)
                rw [HBD.out.1, HBD.out.2] at hppt
                have hpI : (pp : Int) < (tot : Int) := by omega
                obtain ⟨_, _, e7, _, _, _, hoc4⟩ := own_cells (HOF.out wr HBW.out)
                cases e7
                obtain ⟨_, _, e7, hlo, _, co0⟩ := hoc4.at_ (6 + i) _ (natsV_get hpp)
                cases e7
                rw [Nat.zero_add] at co0
                obtain ⟨_, _, e7, _, _, _, hhc4⟩ := own_cells HHR.out
                cases e7
                obtain ⟨_, _, e7, hlh, _, ch0⟩ := hhc4.at_ pp _ (u8s_get hXc)
                cases e7
                rw [Nat.zero_add] at ch0
                obtain ⟨hcg, l7, m7⟩ := ownRow_marks HHR.out
                obtain ⟨yv, hyv⟩ : ∃ y, c ^^^ bitByte (fr + k) = y := ⟨_, rfl⟩
                have hxy : bits .xor .u8 (c.toNat : Int) (IntKind.u8.wrap (2 ^ e)) = (yv.toNat : Int) := by
                  have h1 : 2 ^ e < 256 := Nat.pow_lt_pow_right (a := 2) (n := 8) (by omega) (by omega)
                  have h2 : IntKind.u8.wrap (2 ^ e) = ((2 ^ e : Nat) : Int) := by
                    rw [IntKind.wrap_u8, show (2 : Int) ^ e = ((2 ^ e : Nat) : Int) by rw [Int.natCast_pow]; rfl]
                    generalize 2 ^ e = p at h1
                    omega
                  rw [h2, bits_xor_u8c c.toNat_lt h1, ← hyv, UInt8.toNat_xor, bitByte_nat, he]
                rw [hyv] at hXs
                have HXS := Lib.hid hXs
                clear hv0 hdv hb hlt hk hpp hXc hXs hi he hyv hoc4 hhc4
                go_wp2_with fail
                refine' wp_region_seq [.inl _, .inl _, .inl _, .inl _, .inl _, .inl _, .inl _, .inl _, .inl _, .inl _, .inl _, .inl _, .inl _, .inl _, .inl _, .inl _, .inl _] (by kernel_rfl) (by kernel_rfl) ?main1
                case main1 =>
                  refine wpParts_det (by rfl) (fun W hE hN => ?_) ?_
                  · go_simp; refine ⟨Below.refl _ _, ?_⟩; rfl
                  simp only [Act.put, List.setIfInBounds_toArray, List.set_cons_zero, List.set_cons_succ]
                  refine wpParts_det (by rfl) (fun W hE hN => ?_) ?_
                  · go_simp; refine ⟨Below.refl _ _, ?_⟩; rfl
                  simp only [Act.put, List.setIfInBounds_toArray, List.set_cons_zero, List.set_cons_succ]
                  refine wpParts_det (by rfl) (fun W hE hN => ?_) ?_
                  · go_simp; refine ⟨Below.refl _ _, ?_⟩; rfl
                  simp only [Act.put, List.setIfInBounds_toArray, List.set_cons_zero, List.set_cons_succ]
                  refine wpParts_det (by rfl) (fun W hE hN => ?_) ?_
                  · go_simp; refine ⟨Below.refl _ _, ?_⟩; rfl
                  simp only [Act.put, List.setIfInBounds_toArray, List.set_cons_zero, List.set_cons_succ]
                  refine wpParts_det (by rfl) (fun W hE hN => ?_) ?_
                  · go_simp; refine ⟨Below.refl _ _, ?_⟩; rfl
                  simp only [Act.put, List.setIfInBounds_toArray, List.set_cons_zero, List.set_cons_succ]
                  refine wpParts_det (by rfl) (fun W hE hN => ?_) ?_
                  · go_simp; refine ⟨Below.refl _ _, ?_⟩; rfl
                  simp only [Act.put, List.setIfInBounds_toArray, List.set_cons_zero, List.set_cons_succ]
                  refine wpParts_det (by rfl) (fun W hE hN => ?_) ?_
                  · go_simp; refine ⟨Below.refl _ _, ?_⟩; rfl
                  simp only [Act.put, List.setIfInBounds_toArray, List.set_cons_zero, List.set_cons_succ]
                  refine wpParts_det (by rfl) (fun W hE hN => ?_) ?_
                  · have hc := fun b o h => hE.cell (p := ⟨b, o, none⟩) h
                    go_simp; refine ⟨Below.refl _ _, ?_⟩; rfl
                  simp only [Act.put, List.setIfInBounds_toArray, List.set_cons_zero, List.set_cons_succ]
                  refine wpParts_det (by rfl) (fun W hE hN => ?_) ?_
                  · go_simp; refine ⟨Below.refl _ _, ?_⟩; rfl
                  simp only [Act.put, List.setIfInBounds_toArray, List.set_cons_zero, List.set_cons_succ]
                  refine wpParts_det (by rfl) (fun W hE hN => ?_) ?_
                  · have hc := fun b o h => hE.cell (p := ⟨b, o, none⟩) h
                    go_simp; refine ⟨Below.refl _ _, ?_⟩; rfl
                  simp only [Act.put, List.setIfInBounds_toArray, List.set_cons_zero, List.set_cons_succ]
                  refine wpParts_det (by rfl) (fun W hE hN => ?_) ?_
                  · go_simp; refine ⟨Below.refl _ _, ?_⟩; rfl
                  simp only [Act.put, List.setIfInBounds_toArray, List.set_cons_zero, List.set_cons_succ]
                  refine wpParts_det (by rfl) (fun W hE hN => ?_) ?_
                  · go_simp; refine ⟨Below.refl _ _, ?_⟩; rfl
                  simp only [Act.put, List.setIfInBounds_toArray, List.set_cons_zero, List.set_cons_succ]
                  refine wpParts_det (by rfl) (fun W hE hN => ?_) ?_
                  · go_simp; refine ⟨Below.refl _ _, ?_⟩; rfl
                  simp only [Act.put, List.setIfInBounds_toArray, List.set_cons_zero, List.set_cons_succ]
                  refine wpParts_det (by rfl) (fun W hE hN => ?_) ?_
                  · go_simp; refine ⟨Below.refl _ _, ?_⟩; rfl
                  simp only [Act.put, List.setIfInBounds_toArray, List.set_cons_zero, List.set_cons_succ]
                  refine wpParts_det (by rfl) (fun W hE hN => ?_) ?_
                  · go_simp; refine ⟨Below.refl _ _, ?_⟩; rfl
                  simp only [Act.put, List.setIfInBounds_toArray, List.set_cons_zero, List.set_cons_succ]
                  refine wpParts_det (by rfl) (fun W hE hN => ?_) ?_
                  · go_simp; refine ⟨Below.refl _ _, ?_⟩; rfl
                  simp only [Act.put, List.setIfInBounds_toArray, List.set_cons_zero, List.set_cons_succ]
                  refine wpParts_det (by rfl) (fun W hE hN => ?_) ?_
                  · go_simp; refine ⟨Below.refl _ _, ?_⟩; rfl
                  simp only [Act.put, List.setIfInBounds_toArray, List.set_cons_zero, List.set_cons_succ]
                  refine wpParts_end fun W5 hE5 hG5 => ?_
                  have hcW5 := fun b o h => hE5.cell (p := ⟨b, o, none⟩) h
                  have hfW5 := fun b o h => hE5.frozen (p := ⟨b, o, none⟩) h
                  have hrow5 := ownsRow_ext HHR.out hE5
                  have HROW5 := Lib.hid (ownRow_set (i := pp) (v := .int .u8 (yv.toNat : Int)) hrow5)
                  have HB5 := Lib.hid (HBR.out.trans (hE5.mono (by rw [← hcb] at *; exact Nat.le_trans HBC.out.size HBR.out.size)))
                  obtain ⟨_, l75, m75⟩ := ownRow_marks hrow5
                  have cx5 : W5.cell? ⟨hg, pp, none⟩ = some (.int .u8 (c.toNat : Int)) := (hE5.cell (p := ⟨hg, pp, none⟩) l7).trans ch0
                  clear hE5 hG5 hcW5 hfW5 hrow5 ch0 m7 co0
                  go_wp2_with fail
                  go_roundw
                  case rel =>
                    refine ⟨k + 1, HLT.out, by go_num, ?_, HB5.out.setCell (by show cb ≤ hg; exact hcg) _⟩
                    have h := HROW5.out
                    rw [u8s_set, HXS.out, ← HTN.out] at h
                    exact h
                  case measure => simp [intOf]; omega
            · obtain rfl : k = 32 := by omega
              have hnone : frameOf (pastAll (L ++ bodyAt L.length (headOf11 b ++ turnAt b (turned * 2 ^ fr))) (at_ : Int)) = none := by
                rw [HANY.out _ (fun h => by have h2 := congrArg List.length h; rw [List.length_append, headOf11_len] at h2; simp at h2)]
                exact frameOf_turned L.length (by rw [HBL0.out]; omega) (by rw [HBL0.out]; omega) H0.out HTU.out (by rw [HBL0.out]; exact hfr32)
              have hh32 := HHR.out
              rw [turnTo_all HTU.out] at hh32
              obtain ⟨HU, hHU⟩ : ∃ z, L ++ bodyAt L.length (headOf11 b ++ turnAt b (turned * 2 ^ fr)) = z := ⟨_, rfl⟩
              rw [hHU] at hnone hh32
              have HNONE := Lib.hid hnone
              obtain ⟨_, _, e7, hhb⟩ := own_bytes hh32 (by omega)
              cases e7
              have HHB := Lib.hid hhb
              have hul : HU.length = tot := hhb.at_.hlen
              have BELw := Lib.hid (BELR.out.trans (HBW.out.mono hcw))
              clear hnone hh32 hHU hhb hlt hk HH8 HHR HBR
              go_wp2_with fail
              refine (Try_firm (some ⟨hg, 0, none⟩) tot hc wr).mono ?_; rintro e w9 ⟨rfl, hb9⟩
              have HF9 := Lib.hid ((firmS (HHB.out.ext hb9)).bound)
              have BEL9 := Lib.hid (BELw.out.trans (hb9.mono BELw.out.size))
              have HBW9 := Lib.hid (HBW.out.trans (hb9.mono (by have := HBW.out.size; omega)))
              clear hb9 HHB BELw HBW
              go_wp2_with fail
              have hG := Try_Get (firmF HU) (some ⟨hg, 0, none⟩) none tot hc 0 0 (at_ : Int) w9 _ HF9.out (fun b h => h.2) (firmF_right (by omega)) (by unfold I64'; omega)
              rw [firmF_all] at hG
              refine (show Calls Try.prog 10 #[.agg #[.slice (some ⟨hg, 0, none⟩) tot hc, .slice none 0 0, .int .i64 (-1), .int .i64 (-1), .bool false], .int .i64 (at_ : Int)] w9 _ from hG).mono ?_
              rintro e w10 (⟨gp, gn, hfr, _⟩ | ⟨hfr, rfl, hb10⟩)
              case inl => rw [HNONE.out] at hfr; cases hfr
              have BEL10 := Lib.hid (BEL9.out.trans (hb10.mono BEL9.out.size))
              have HS10 := HSF.out w10 (HBW9.out.trans (hb10.mono (by have := HBW9.out.size; omega)))
              obtain ⟨hsgB, lsg, msg⟩ := ownRow_marks HS10
              obtain ⟨mk, hmk⟩ : ∃ mk, at_ - at_ % 64 = mk := ⟨_, rfl⟩
              obtain ⟨r5, hr5⟩ : ∃ r5, turned % 255 = r5 := ⟨_, rfl⟩
              have hr5l : r5 < 255 := by rw [← hr5]; exact Nat.mod_lt _ (by omega)
              have t3 : (at_ : Int).tmod 64 = (at_ : Int) % 64 := Int.tmod_eq_emod_of_nonneg (by omega)
              have t4 : IntKind.i64.wrap ((at_ : Int) - (at_ : Int) % 64) = (mk : Int) := by rw [show (at_ : Int) - (at_ : Int) % 64 = (mk : Int) by omega]; exact IntWalk.i64_in _ (by omega)
              have t5 : (turned : Int).tmod 255 = (r5 : Int) := by rw [Int.tmod_eq_emod_of_nonneg (by omega)]; omega
              have t6 : IntKind.u32.wrap (1 + (r5 : Int)) = 1 + (r5 : Int) := by rw [IntKind.wrap_u32]; omega
              obtain ⟨vb, hvb⟩ : ∃ vb : UInt8, vb.toNat = 1 + r5 := ⟨UInt8.ofNat (1 + r5), by rw [UInt8.toNat_ofNat']; omega⟩
              have t7 : IntKind.u8.wrap (1 + (r5 : Int)) = (vb.toNat : Int) := by rw [IntKind.wrap_u8]; omega
              have t8 : (mk : Int) < (tot : Int) := by omega
              have hvb0 : vb ≠ 0 := fun h => by rw [h] at hvb; simp at hvb; omega
              obtain ⟨z, hz⟩ : ∃ z, X[mk]? = some z := ⟨_, List.getElem?_eq_getElem (by have := HXL.out; omega)⟩
              obtain ⟨_, _, e7, _, _, _, hsc4⟩ := own_cells HS10
              cases e7
              obtain ⟨_, _, e7, _, _, ch0⟩ := hsc4.at_ mk _ (u8s_get hz)
              cases e7
              rw [Nat.zero_add] at ch0
              have hset := ownRow_set (i := mk) (v := .int .u8 (vb.toNat : Int)) HS10
              rw [u8s_set] at hset
              have HSET := Lib.hid hset
              have hmarked : frameOf (pastAll (X.set mk vb) (at_ : Int)) = none := by
                rw [← hmk, pastAll_mark hvb0 hat1.2.2 (by have := HXL.out; omega)]
                exact frameOf_short (by simp)
              have HMK := Lib.hid hmarked
              have hsgw : w.heap.size ≤ sg := by omega
              clear hb10 hG hfr HF9 HBW9 BEL9 hmk hr5 hvb hvb0 hz hsc4 HS10 hset hmarked HNONE
              go_wp2_with fail
              obtain ⟨W11, hW11⟩ : ∃ z, w10.setCell ⟨sg, mk, none⟩ (.int .u8 (vb.toNat : Int)) = z := ⟨_, rfl⟩
              have BEL11 := Lib.hid (show Below w.heap.size w W11 by rw [← hW11]; exact BEL10.out.setCell (p := ⟨sg, mk, none⟩) hsgw _)
              have hset := HSET.out
              rw [hW11] at hset
              obtain ⟨_, _, e7, hsb⟩ := own_bytes hset (by omega)
              cases e7
              have HSB := Lib.hid hsb
              rw [hW11]
              clear hW11 hset hsb HSET BEL10 ch0
              refine (Try_firm (some ⟨sg, 0, none⟩) tot sc W11).mono ?_; rintro e w12 ⟨rfl, hb12⟩
              have HF12 := Lib.hid ((firmS (HSB.out.ext hb12)).bound)
              have BEL12 := Lib.hid (BEL11.out.trans (hb12.mono BEL11.out.size))
              clear hb12 HSB BEL11
              go_wp2_with fail
              have hG := Try_Get (firmF (X.set mk vb)) (some ⟨sg, 0, none⟩) none tot sc 0 0 (at_ : Int) w12 _ HF12.out (fun b h => h.2) (firmF_right (by rw [List.length_set, HXL.out]; omega)) (by unfold I64'; omega)
              rw [firmF_all] at hG
              refine (show Calls Try.prog 10 #[.agg #[.slice (some ⟨sg, 0, none⟩) tot sc, .slice none 0 0, .int .i64 (-1), .int .i64 (-1), .bool false], .int .i64 (at_ : Int)] w12 _ from hG).mono ?_
              rintro e w13 (⟨gp, gn, hfr, _⟩ | ⟨hfr, rfl, hb13⟩)
              case inl => rw [HMK.out] at hfr; cases hfr
              have BEL13 := Lib.hid (BEL12.out.trans (hb13.mono BEL12.out.size))
              clear hb13 hG hfr HF12 BEL12
              go_wp2
              go_ret
              exact ⟨rfl, BEL13.out⟩
end Go.Proofs.Ytafigbomcgncnaa
