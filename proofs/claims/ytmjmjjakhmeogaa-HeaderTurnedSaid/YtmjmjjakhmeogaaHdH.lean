/-
  Layer 12: the reference's Says, walked.
-/
import Derived.Test.YtmjmjjakhmeogaaHdG
namespace Go.Dav
set_option linter.unusedVariables false
set_option linter.unusedSimpArgs false
open Go Go.RowKit
theorem blockOf_last (g a : Nat) : (blockOf g a)[63]? = some 165 := by
  have h : (crcLay (bodyOf g a)).length = 63 := by rw [crcLay_len, bodyOf_len]
  unfold blockOf
  rw [List.getElem?_append_right (by omega), h]; rfl
theorem numOf_next {l : List UInt8} {o k : Nat} {y : UInt8} (h : l[o + k]? = some y) : numOf ((l.drop o).take (k + 1)) = numOf ((l.drop o).take k) * 256 + y.toNat := by
  rw [List.take_add_one, List.getElem?_drop, h, Option.toList_some, numOf_snoc]
end Go.Dav
namespace Go.Proofs.Ytmjmjjakhmeogaa
set_option linter.unusedVariables false
set_option linter.unusedSimpArgs false
open Go.RowKit Go.Dav
attribute [local go_sem] Gives ite_val ite_val_true

/-- The world in the loops: h stands in block p4. -/
def TrySaysRel (w : World) (l : List UInt8) (p4 g a : Nat) (wr : World) : Prop :=
  Blk wr p4 [.int .u64 (g : Int), .int .i64 (a : Int)] 56 ∧ Blk wr w.heap.size (u8s l) 57 ∧ Blk wr (w.heap.size + 1) [.int .u64 0, .int .i64 0] 56 ∧ Below w.heap.size w wr

set_option maxRecDepth 100000 in
set_option maxHeartbeats 8000000 in
theorem Try_refSays (l : List UInt8) (hl : l.length = 64) (w : World) : Calls Try.prog 40 #[.agg (u8s l).toArray] w fun e w' => e = .returned (saysOf l) ∧ Below w.heap.size w w' := by
  have HL := Lib.hid hl
  obtain ⟨W0, hW0⟩ : ∃ W0, ((w.alloc (.cells (u8s l).toArray 57)).alloc (.cells #[.int .u64 0, .int .i64 0] 56)).alloc (.cells #[.int .u64 0, .int .i64 0] 56) = W0 := ⟨_, rfl⟩
  have hrel0 : TrySaysRel w l (w.heap.size + 1 + 1) 0 0 W0 := by
    rw [← hW0]
    exact ⟨Blk.new' _ _ _ (by simp), ((Blk.new w _ _).alloc _).alloc _, (Blk.new' _ _ _ (by simp)).alloc _, (by repeat (first | (with_reducible exact Below.refl _ _) | (with_reducible exact Below.refl _ _) | (with_reducible refine Below.setCell ?_ (by first | omega | (simp; done) | (simp; omega)) _) | (with_reducible refine Below.alloc ?_ (by first | omega | (simp; done) | (simp; omega)) _) | (with_reducible refine Below.drew ?_) | (with_reducible refine below_drewN ?_ _)))⟩
  have HW0 := Lib.hid hW0
  have HR0 := Lib.hid hrel0
  clear hl hW0 hrel0
  go_enter Try.func40, Try.ntmps40
  go_wp2_with fail
  rw [HW0.out]
  go_loopg [5] 9 (fun m ix wr => ∃ k : Nat, k ≤ 8 ∧ m = 9 - k ∧ ix = .int .i64 ((k + 1 : Nat) : Int) ∧ TrySaysRel w l (w.heap.size + 1 + 1) (numOf ((l.drop 1).take k)) 0 wr)
  case atStart => exact ⟨0, by omega, rfl, rfl, HR0.out⟩
  case round =>
    obtain ⟨k, hk, rfl, rfl, hrl⟩ := hrel
    have HRL := Lib.hid hrl
    have q4 := hrl.1.cells
    have m4 := hrl.1.marks
    have l4 := hrl.1.lt
    have l1 := hrl.2.1.lt
    obtain ⟨x, hx⟩ : ∃ x, numOf ((l.drop 1).take k) = x := ⟨_, rfl⟩
    rw [hx] at q4
    have HX := Lib.hid hx
    by_cases hk8 : k < 8
    · obtain ⟨y, hy⟩ : ∃ y, l[1 + k]? = some y := ⟨_, List.getElem?_eq_getElem (by have := HL.out; omega)⟩
      have cy : wr.cell? ⟨w.heap.size, k + 1, none⟩ = some (.int .u8 (y.toNat : Int)) := hrl.2.1.cell (k + 1) (by rw [Nat.add_comm]; exact u8s_get hy)
      have hk8' : (k : Int) + 1 < 9 := by omega
      have hk64 : (k : Int) + 1 < 64 := by omega
      have hnx := numOf_next (o := 1) hy
      rw [hx] at hnx
      have HNX := Lib.hid hnx
      have hp : 256 ^ ((l.drop 1).take k).length ≤ 256 ^ 7 := Nat.pow_le_pow_right (by omega) (by rw [List.length_take]; omega)
      have hlt : x < 72057594037927936 := by
        rw [← hx]
        exact Nat.lt_of_lt_of_le (numOf_lt _) hp
      have HWV := Lib.hid (show IntKind.u64.wrap (IntKind.u64.wrap ((x : Int) * 256) + IntKind.u64.wrap (y.toNat : Int)) = ((x * 256 + y.toNat : Nat) : Int) by have := y.toNat_lt; rw [IntKind.wrap_u64, IntKind.wrap_u64, IntKind.wrap_u64]; omega)
      clear hrl hx hy hnx hlt hk hp
      go_wp2_with fail
      refine' wp_region_seq [.inl _, .inl _, .inl _, .inl _, .inl _, .inl _, .inl _, .inl _, .inl _] (by kernel_rfl) (by kernel_rfl) ?main1
      case main1 =>
        refine wpParts_det (by rfl) (fun W hE hN => ?_) ?_
        · go_simp; refine ⟨Below.refl _ _, ?_⟩; rfl
        simp only [Act.put, List.setIfInBounds_toArray, List.set_cons_zero, List.set_cons_succ]
        refine wpParts_det (by rfl) (fun W hE hN => ?_) ?_
        · have hc := fun b o h => hE.cell (p := ⟨b, o, none⟩) h
          go_simp; refine ⟨Below.refl _ _, ?_⟩; rfl
        simp only [Act.put, List.setIfInBounds_toArray, List.set_cons_zero, List.set_cons_succ]
        refine wpParts_det (by rfl) (fun W hE hN => ?_) ?_
        · go_simp; refine ⟨Below.refl _ _, ?_⟩; rfl
        simp only [Act.put, List.setIfInBounds_toArray, List.set_cons_zero, List.set_cons_succ]
        refine wpParts_det (by rfl) (fun W hE hN => ?_) ?_
        · go_simp; refine ⟨Below.refl _ _, ?_⟩; rfl
        simp only [Act.put, List.setIfInBounds_toArray, List.set_cons_zero, List.set_cons_succ]
        refine wpParts_det (by rfl) (fun W hE hN => ?_) ?_
        · go_simp; refine ⟨Below.refl _ _, ?_⟩; rfl
        simp only [Act.put, List.setIfInBounds_toArray, List.set_cons_zero, List.set_cons_succ]
        refine wpParts_det (by rfl) (fun W hE hN => ?_) ?_
        · have hc := fun b o h => hE.cell (p := ⟨b, o, none⟩) h
          go_simp; refine ⟨Below.refl _ _, ?_⟩; rfl
        simp only [Act.put, List.setIfInBounds_toArray, List.set_cons_zero, List.set_cons_succ]
        refine wpParts_det (by rfl) (fun W hE hN => ?_) ?_
        · go_simp; refine ⟨Below.refl _ _, ?_⟩; rfl
        simp only [Act.put, List.setIfInBounds_toArray, List.set_cons_zero, List.set_cons_succ]
        refine wpParts_det (by rfl) (fun W hE hN => ?_) ?_
        · go_simp; refine ⟨Below.refl _ _, ?_⟩; rfl
        simp only [Act.put, List.setIfInBounds_toArray, List.set_cons_zero, List.set_cons_succ]
        refine wpParts_det (by rfl) (fun W hE hN => ?_) ?_
        · go_simp; refine ⟨Below.refl _ _, ?_⟩; rfl
        simp only [Act.put, List.setIfInBounds_toArray, List.set_cons_zero, List.set_cons_succ]
        refine wpParts_end fun W2 hE2 hG2 => ?_
        have hcW2 := fun b o h => hE2.cell (p := ⟨b, o, none⟩) h
        have hfW2 := fun b o h => hE2.frozen (p := ⟨b, o, none⟩) h
        rw [HWV.out, ← HNX.out]
        have b4 := HRL.out.1.ext hE2
        have q42 := b4.cells
        have m42 := b4.marks
        have l42 := b4.lt
        have HB4 := Lib.hid b4
        have H1 := Lib.hid (HRL.out.2.1.ext hE2)
        have H2 := Lib.hid (HRL.out.2.2.1.ext hE2)
        have BEL2 := Lib.hid (HRL.out.2.2.2.trans (hE2.mono HRL.out.2.2.2.size))
        clear b4 hE2 hG2 hcW2 hfW2 q4 m4 l4 l1 cy
        go_wp2_with fail
        go_roundg (9 - (k + 1))
        case measure => omega
        case rel =>
          have hs := HB4.out.set 0 (.int .u64 (numOf ((l.drop 1).take (k + 1)) : Int))
          rw [List.drop_one] at hs
          exact ⟨k + 1, by omega, rfl, by go_num, by rw [List.drop_one]; exact hs, H1.out.other (by omega) _ _, H2.out.other (by omega) _ _, BEL2.out.setCell (by show w.heap.size ≤ w.heap.size + 1 + 1; omega) _⟩
    · obtain rfl : k = 8 := by omega
      have hg : x = genOf l := by rw [← hx]; rfl
      have HGX := Lib.hid hg
      clear hrl hx hk8 q4 m4 l4 l1
      go_wp2_with fail
      go_loopg [6] 5 (fun m ix wr => ∃ k : Nat, k ≤ 4 ∧ m = 5 - k ∧ ix = .int .i64 ((k + 9 : Nat) : Int) ∧ TrySaysRel w l (w.heap.size + 1 + 1) x (numOf ((l.drop 9).take k)) wr)
      case atStart => exact ⟨0, by omega, rfl, rfl, by have h := HRL.out; rw [HX.out] at h; exact h⟩
      case round =>
        obtain ⟨k, hk, rfl, rfl, hrl⟩ := hrel
        have HRL2 := Lib.hid hrl
        have q4 := hrl.1.cells
        have m4 := hrl.1.marks
        have l4 := hrl.1.lt
        have l1 := hrl.2.1.lt
        obtain ⟨a, ha⟩ : ∃ a, numOf ((l.drop 9).take k) = a := ⟨_, rfl⟩
        rw [ha] at q4
        have HA := Lib.hid ha
        by_cases hk8 : k < 4
        · obtain ⟨y, hy⟩ : ∃ y, l[9 + k]? = some y := ⟨_, List.getElem?_eq_getElem (by have := HL.out; omega)⟩
          have cy : wr.cell? ⟨w.heap.size, ((k : Int) + 9).toNat, none⟩ = some (.int .u8 (y.toNat : Int)) := hrl.2.1.cell _ (by rw [show ((k : Int) + 9).toNat = 9 + k by omega]; exact u8s_get hy)
          have hk8' : (k : Int) + 9 < 13 := by omega
          have hk64 : (k : Int) + 9 < 64 := by omega
          have hnx := numOf_next (o := 9) hy
          rw [ha] at hnx
          have HNX := Lib.hid hnx
          have hp : 256 ^ ((l.drop 9).take k).length ≤ 256 ^ 3 := Nat.pow_le_pow_right (by omega) (by rw [List.length_take]; omega)
          have hlt : a < 16777216 := by
            rw [← ha]
            exact Nat.lt_of_lt_of_le (numOf_lt _) hp
          have hai : (a : Int) < 16777216 := by omega
          have hyi : (y.toNat : Int) < 256 := by have := y.toNat_lt; omega
          obtain ⟨z, hz⟩ : ∃ z, a * 256 + y.toNat = z := ⟨_, rfl⟩
          have HZ := Lib.hid hz
          have w1 : IntKind.i64.wrap ((a : Int) * 256) = (a : Int) * 256 := by rw [IntKind.wrap_i64]; omega
          have w2 : IntKind.i64.wrap (y.toNat : Int) = (y.toNat : Int) := by rw [IntKind.wrap_i64]; omega
          have w3 : IntKind.i64.wrap ((a : Int) * 256 + (y.toNat : Int)) = (a : Int) * 256 + (y.toNat : Int) := by rw [IntKind.wrap_i64]; omega
          have HWV := Lib.hid (show IntKind.i64.wrap (IntKind.i64.wrap ((a : Int) * 256) + IntKind.i64.wrap (y.toNat : Int)) = (z : Int) by rw [w1, w2, w3]; omega)
          clear w1 w2 w3
          clear hrl ha hy hnx hlt hk hp hz hai hyi
          go_wp2_with fail
          refine' wp_region_seq [.inl _, .inl _, .inl _, .inl _, .inl _, .inl _, .inl _, .inl _, .inl _] (by kernel_rfl) (by kernel_rfl) ?main2
          case main2 =>
            refine wpParts_det (by rfl) (fun W hE hN => ?_) ?_
            · go_simp; refine ⟨Below.refl _ _, ?_⟩; rfl
            simp only [Act.put, List.setIfInBounds_toArray, List.set_cons_zero, List.set_cons_succ]
            refine wpParts_det (by rfl) (fun W hE hN => ?_) ?_
            · have hc := fun b o h => hE.cell (p := ⟨b, o, none⟩) h
              go_simp; refine ⟨Below.refl _ _, ?_⟩; rfl
            simp only [Act.put, List.setIfInBounds_toArray, List.set_cons_zero, List.set_cons_succ]
            refine wpParts_det (by rfl) (fun W hE hN => ?_) ?_
            · go_simp; refine ⟨Below.refl _ _, ?_⟩; rfl
            simp only [Act.put, List.setIfInBounds_toArray, List.set_cons_zero, List.set_cons_succ]
            refine wpParts_det (by rfl) (fun W hE hN => ?_) ?_
            · go_simp; refine ⟨Below.refl _ _, ?_⟩; rfl
            simp only [Act.put, List.setIfInBounds_toArray, List.set_cons_zero, List.set_cons_succ]
            refine wpParts_det (by rfl) (fun W hE hN => ?_) ?_
            · go_simp; refine ⟨Below.refl _ _, ?_⟩; rfl
            simp only [Act.put, List.setIfInBounds_toArray, List.set_cons_zero, List.set_cons_succ]
            refine wpParts_det (by rfl) (fun W hE hN => ?_) ?_
            · have hc := fun b o h => hE.cell (p := ⟨b, o, none⟩) h
              go_simp; refine ⟨Below.refl _ _, ?_⟩; rfl
            simp only [Act.put, List.setIfInBounds_toArray, List.set_cons_zero, List.set_cons_succ]
            refine wpParts_det (by rfl) (fun W hE hN => ?_) ?_
            · go_simp; refine ⟨Below.refl _ _, ?_⟩; rfl
            simp only [Act.put, List.setIfInBounds_toArray, List.set_cons_zero, List.set_cons_succ]
            refine wpParts_det (by rfl) (fun W hE hN => ?_) ?_
            · go_simp; refine ⟨Below.refl _ _, ?_⟩; rfl
            simp only [Act.put, List.setIfInBounds_toArray, List.set_cons_zero, List.set_cons_succ]
            refine wpParts_det (by rfl) (fun W hE hN => ?_) ?_
            · go_simp; refine ⟨Below.refl _ _, ?_⟩; rfl
            simp only [Act.put, List.setIfInBounds_toArray, List.set_cons_zero, List.set_cons_succ]
            refine wpParts_end fun W2 hE2 hG2 => ?_
            have hcW2 := fun b o h => hE2.cell (p := ⟨b, o, none⟩) h
            have hfW2 := fun b o h => hE2.frozen (p := ⟨b, o, none⟩) h
            first | rw [HWV.out] | trace_state
            have b4 := HRL2.out.1.ext hE2
            have q42 := b4.cells
            have m42 := b4.marks
            have l42 := b4.lt
            have HB4 := Lib.hid b4
            have H1 := Lib.hid (HRL2.out.2.1.ext hE2)
            have H2 := Lib.hid (HRL2.out.2.2.1.ext hE2)
            have BEL2 := Lib.hid (HRL2.out.2.2.2.trans (hE2.mono HRL2.out.2.2.2.size))
            clear b4 hE2 hG2 hcW2 hfW2 q4 m4 l4 l1 cy
            go_wp2_with fail
            go_roundg (5 - (k + 1))
            case measure => omega
            case rel => exact ⟨k + 1, by omega, rfl, by go_num, by rw [HNX.out, HZ.out]; exact HB4.out.set 1 _, H1.out.other (by omega) _ _, H2.out.other (by omega) _ _, BEL2.out.setCell (by show w.heap.size ≤ w.heap.size + 1 + 1; omega) _⟩
        · obtain rfl : k = 4 := by omega
          have hga : a = atOf l := by rw [← ha]; rfl
          have HAX := Lib.hid hga
          have HV5 := Lib.hid (show Blk wr (w.heap.size + 1 + 1) [.int .u64 (x : Int), .int .i64 (a : Int)] 56 by have h := HRL2.out.1; rw [ha] at h; exact h)
          have HV1 := Lib.hid HRL2.out.2.1
          have HV2 := Lib.hid HRL2.out.2.2.1
          have BELV := Lib.hid HRL2.out.2.2.2
          obtain ⟨b0, hb0⟩ : ∃ b0, l[0]? = some b0 := ⟨_, List.getElem?_eq_getElem (by rw [HL.out]; omega)⟩
          obtain ⟨b6, hb6⟩ : ∃ b6, l[63]? = some b6 := ⟨_, List.getElem?_eq_getElem (by rw [HL.out]; omega)⟩
          have c0 : wr.cell? ⟨w.heap.size, 0, none⟩ = some (.int .u8 (b0.toNat : Int)) := HV1.out.cell 0 (u8s_get hb0)
          have c6 : wr.cell? ⟨w.heap.size, 63, none⟩ = some (.int .u8 (b6.toNat : Int)) := HV1.out.cell 63 (u8s_get hb6)
          have hio : isOf l = ((HeadD.mk x (a : Int)).right && decide (blockOf x a = l)) := by unfold isOf; rw [← HGX.out, ← HAX.out]
          have HIO := Lib.hid hio
          have hal : a < 4294967296 := by rw [HAX.out]; exact atOf_lt l
          have hgl : x < 18446744073709551616 := by rw [HGX.out]; exact genOf_lt l
          have HAL := Lib.hid hal
          have HGL := Lib.hid hgl
          clear hrl ha hk8 hga hio hal hgl hg
          by_cases h0 : b0 = 1
          · subst h0
            by_cases h6 : b6 = 165
            · subst h6
              cases hr : (HeadD.mk x (a : Int)).right with
              | false =>
                have HVV := Lib.hid (show isOf l = false by rw [HIO.out, hr]; rfl)
                have HR := Lib.hid hr
                clear hr
                go_wp2_with fail
                refine' wp_region_seq [.inl _, .inl _, .inl _, .inl _, .inl _, .inl _, .inl _, .inl _, .inl _, .inl _, .inl _, .inl _, .inl _, .inl _, .inl undef, .inl undef, .inl undef, .inl undef, .inl _] (by kernel_rfl) (by kernel_rfl) ?main3
                case main3 =>
                  refine wpParts_det (by rfl) (fun W hE hN => ?_) ?_
                  · go_simp; refine ⟨Below.refl _ _, ?_⟩; rfl
                  simp only [Act.put, List.setIfInBounds_toArray, List.set_cons_zero, List.set_cons_succ]
                  refine wpParts_det (by rfl) (fun W hE hN => ?_) ?_
                  · have hc := fun b o h => hE.cell (p := ⟨b, o, none⟩) h
                    go_simp; refine ⟨Below.refl _ _, ?_⟩; rfl
                  simp only [Act.put, List.setIfInBounds_toArray, List.set_cons_zero, List.set_cons_succ]
                  refine wpParts_det (by rfl) (fun W hE hN => ?_) ?_
                  · go_simp; refine ⟨Below.refl _ _, ?_⟩; rfl
                  simp only [Act.put, List.setIfInBounds_toArray, List.set_cons_zero, List.set_cons_succ]
                  refine wpParts_det (by rfl) (fun W hE hN => ?_) ?_
                  · go_simp; refine ⟨Below.refl _ _, ?_⟩; rfl
                  simp only [Act.put, List.setIfInBounds_toArray, List.set_cons_zero, List.set_cons_succ]
                  refine wpParts_det (by rfl) (fun W hE hN => ?_) ?_
                  · go_simp; refine ⟨Below.refl _ _, ?_⟩; rfl
                  simp only [Act.put, List.setIfInBounds_toArray, List.set_cons_zero, List.set_cons_succ]
                  refine wpParts_det (by rfl) (fun W hE hN => ?_) ?_
                  · have hc := fun b o h => hE.cell (p := ⟨b, o, none⟩) h
                    go_simp; refine ⟨Below.refl _ _, ?_⟩; rfl
                  simp only [Act.put, List.setIfInBounds_toArray, List.set_cons_zero, List.set_cons_succ]
                  refine wpParts_det (by rfl) (fun W hE hN => ?_) ?_
                  · go_simp; refine ⟨Below.refl _ _, ?_⟩; rfl
                  simp only [Act.put, List.setIfInBounds_toArray, List.set_cons_zero, List.set_cons_succ]
                  refine wpParts_det (by rfl) (fun W hE hN => ?_) ?_
                  · go_simp; refine ⟨Below.refl _ _, ?_⟩; rfl
                  simp only [Act.put, List.setIfInBounds_toArray, List.set_cons_zero, List.set_cons_succ]
                  refine wpParts_det (by rfl) (fun W hE hN => ?_) ?_
                  · go_simp; refine ⟨Below.refl _ _, ?_⟩; rfl
                  simp only [Act.put, List.setIfInBounds_toArray, List.set_cons_zero, List.set_cons_succ]
                  refine wpParts_det (by rfl) (fun W hE hN => ?_) ?_
                  · have hc := fun b o h => hE.cell (p := ⟨b, o, none⟩) h
                    go_simp; refine ⟨Below.refl _ _, ?_⟩; rfl
                  simp only [Act.put, List.setIfInBounds_toArray, List.set_cons_zero, List.set_cons_succ]
                  refine wpParts_det (by rfl) (fun W hE hN => ?_) ?_
                  · go_simp; refine ⟨Below.refl _ _, ?_⟩; have hA := Try_hRight ⟨x, a⟩ W; rw [HR.out] at hA; refine hA.mono ?_; rintro e w' ⟨rfl, hb⟩; refine ⟨?_, hb⟩; rfl
                  simp only [Act.put, List.setIfInBounds_toArray, List.set_cons_zero, List.set_cons_succ]
                  refine wpParts_det (by rfl) (fun W hE hN => ?_) ?_
                  · go_simp; refine ⟨Below.refl _ _, ?_⟩; rfl
                  simp only [Act.put, List.setIfInBounds_toArray, List.set_cons_zero, List.set_cons_succ]
                  refine wpParts_det (by rfl) (fun W hE hN => ?_) ?_
                  · go_simp; refine ⟨Below.refl _ _, ?_⟩; rfl
                  simp only [Act.put, List.setIfInBounds_toArray, List.set_cons_zero, List.set_cons_succ]
                  refine wpParts_det (by rfl) (fun W hE hN => ?_) ?_
                  · go_simp; refine ⟨Below.refl _ _, ?_⟩; rfl
                  simp only [Act.put, List.setIfInBounds_toArray, List.set_cons_zero, List.set_cons_succ]
                  refine wpParts_skip ?_ ?_
                  · rfl
                  simp only [Act.put, List.setIfInBounds_toArray, List.set_cons_zero, List.set_cons_succ]
                  refine wpParts_skip ?_ ?_
                  · rfl
                  simp only [Act.put, List.setIfInBounds_toArray, List.set_cons_zero, List.set_cons_succ]
                  refine wpParts_skip ?_ ?_
                  · rfl
                  simp only [Act.put, List.setIfInBounds_toArray, List.set_cons_zero, List.set_cons_succ]
                  refine wpParts_skip ?_ ?_
                  · rfl
                  simp only [Act.put, List.setIfInBounds_toArray, List.set_cons_zero, List.set_cons_succ]
                  refine wpParts_det (by rfl) (fun W hE hN => ?_) ?_
                  · go_simp; refine ⟨Below.refl _ _, ?_⟩; rfl
                  simp only [Act.put, List.setIfInBounds_toArray, List.set_cons_zero, List.set_cons_succ]
                  refine wpParts_end fun W2 hE2 hG2 => ?_
                  have hcW2 := fun b o h => hE2.cell (p := ⟨b, o, none⟩) h
                  have hfW2 := fun b o h => hE2.frozen (p := ⟨b, o, none⟩) h
                  have q52 := (HV5.out.ext hE2).cells
                  have l52 := (HV5.out.ext hE2).lt
                  have HV22 := Lib.hid (HV2.out.ext hE2)
                  have m22 := HV22.out.marks
                  have q22 := HV22.out.cells
                  have l22 := HV22.out.lt
                  have BEL2 := Lib.hid (BELV.out.trans (hE2.mono BELV.out.size))
                  clear hE2 hG2 hcW2 hfW2 q4 m4 l4 l1 c0 c6
                  go_wp2_with fail
                  have c2 := ((HV22.out.set 0 (.int .u64 0)).set 1 (.int .i64 0)).cells
                  refine bodyPost_ret (v := .tuple #[.agg #[.int .u64 0, .int .i64 0], .bool false]) (by simp [results, Try.results40, go_sem, c2]) rfl ⟨by simp [saysOf, HVV.out], (by repeat (first | (with_reducible exact Below.refl _ _) | (with_reducible exact Below.refl _ _) | (with_reducible refine Below.setCell ?_ (by first | omega | (simp; done) | (simp; omega)) _) | (with_reducible refine Below.alloc ?_ (by first | omega | (simp; done) | (simp; omega)) _) | (with_reducible refine Below.drew ?_) | (with_reducible refine below_drewN ?_ _) | (with_reducible refine Below.trans ?_ (BEL2.out.mono (by first | omega | (simp; done) | (simp; omega))))))⟩
              | true =>
                have HR := Lib.hid hr
                have ha5 : a < 524288 := by have := (HeadD.right_spec.1 hr).2.2; dsimp only at this; omega
                have HA5 := Lib.hid ha5
                clear hr ha5
                cases hd : decide (blockOf x a = l) with
                | true =>
                  have HVV := Lib.hid (show isOf l = true by rw [HIO.out, HR.out, hd]; rfl)
                  have HEQ := Lib.hid (show (blockOf x a == l) = true by simpa using hd)
                  clear hd
                  go_wp2_with fail
                  refine' wp_region_seq [.inl _, .inl _, .inl _, .inl _, .inl _, .inl _, .inl _, .inl _, .inl _, .inl _, .inl _, .inl _, .inl _, .inl _, .inl _, .inl _, .inl _, .inl _, .inl _] (by kernel_rfl) (by kernel_rfl) ?main4
                  case main4 =>
                    refine wpParts_det (by rfl) (fun W hE hN => ?_) ?_
                    · go_simp; refine ⟨Below.refl _ _, ?_⟩; rfl
                    simp only [Act.put, List.setIfInBounds_toArray, List.set_cons_zero, List.set_cons_succ]
                    refine wpParts_det (by rfl) (fun W hE hN => ?_) ?_
                    · have hc := fun b o h => hE.cell (p := ⟨b, o, none⟩) h
                      go_simp; refine ⟨Below.refl _ _, ?_⟩; rfl
                    simp only [Act.put, List.setIfInBounds_toArray, List.set_cons_zero, List.set_cons_succ]
                    refine wpParts_det (by rfl) (fun W hE hN => ?_) ?_
                    · go_simp; refine ⟨Below.refl _ _, ?_⟩; rfl
                    simp only [Act.put, List.setIfInBounds_toArray, List.set_cons_zero, List.set_cons_succ]
                    refine wpParts_det (by rfl) (fun W hE hN => ?_) ?_
                    · go_simp; refine ⟨Below.refl _ _, ?_⟩; rfl
                    simp only [Act.put, List.setIfInBounds_toArray, List.set_cons_zero, List.set_cons_succ]
                    refine wpParts_det (by rfl) (fun W hE hN => ?_) ?_
                    · go_simp; refine ⟨Below.refl _ _, ?_⟩; rfl
                    simp only [Act.put, List.setIfInBounds_toArray, List.set_cons_zero, List.set_cons_succ]
                    refine wpParts_det (by rfl) (fun W hE hN => ?_) ?_
                    · have hc := fun b o h => hE.cell (p := ⟨b, o, none⟩) h
                      go_simp; refine ⟨Below.refl _ _, ?_⟩; rfl
                    simp only [Act.put, List.setIfInBounds_toArray, List.set_cons_zero, List.set_cons_succ]
                    refine wpParts_det (by rfl) (fun W hE hN => ?_) ?_
                    · go_simp; refine ⟨Below.refl _ _, ?_⟩; rfl
                    simp only [Act.put, List.setIfInBounds_toArray, List.set_cons_zero, List.set_cons_succ]
                    refine wpParts_det (by rfl) (fun W hE hN => ?_) ?_
                    · go_simp; refine ⟨Below.refl _ _, ?_⟩; rfl
                    simp only [Act.put, List.setIfInBounds_toArray, List.set_cons_zero, List.set_cons_succ]
                    refine wpParts_det (by rfl) (fun W hE hN => ?_) ?_
                    · go_simp; refine ⟨Below.refl _ _, ?_⟩; rfl
                    simp only [Act.put, List.setIfInBounds_toArray, List.set_cons_zero, List.set_cons_succ]
                    refine wpParts_det (by rfl) (fun W hE hN => ?_) ?_
                    · have hc := fun b o h => hE.cell (p := ⟨b, o, none⟩) h
                      go_simp; refine ⟨Below.refl _ _, ?_⟩; rfl
                    simp only [Act.put, List.setIfInBounds_toArray, List.set_cons_zero, List.set_cons_succ]
                    refine wpParts_det (by rfl) (fun W hE hN => ?_) ?_
                    · go_simp; refine ⟨Below.refl _ _, ?_⟩; have hA := Try_hRight ⟨x, a⟩ W; rw [HR.out] at hA; refine hA.mono ?_; rintro e w' ⟨rfl, hb⟩; refine ⟨?_, hb⟩; rfl
                    simp only [Act.put, List.setIfInBounds_toArray, List.set_cons_zero, List.set_cons_succ]
                    refine wpParts_det (by rfl) (fun W hE hN => ?_) ?_
                    · go_simp; refine ⟨Below.refl _ _, ?_⟩; rfl
                    simp only [Act.put, List.setIfInBounds_toArray, List.set_cons_zero, List.set_cons_succ]
                    refine wpParts_det (by rfl) (fun W hE hN => ?_) ?_
                    · go_simp; refine ⟨Below.refl _ _, ?_⟩; rfl
                    simp only [Act.put, List.setIfInBounds_toArray, List.set_cons_zero, List.set_cons_succ]
                    refine wpParts_det (by rfl) (fun W hE hN => ?_) ?_
                    · go_simp; refine ⟨Below.refl _ _, ?_⟩; rfl
                    simp only [Act.put, List.setIfInBounds_toArray, List.set_cons_zero, List.set_cons_succ]
                    refine wpParts_det (by rfl) (fun W hE hN => ?_) ?_
                    · have hc := fun b o h => hE.cell (p := ⟨b, o, none⟩) h
                      go_simp; refine ⟨Below.refl _ _, ?_⟩; rfl
                    simp only [Act.put, List.setIfInBounds_toArray, List.set_cons_zero, List.set_cons_succ]
                    refine wpParts_det (by rfl) (fun W hE hN => ?_) ?_
                    · go_simp; refine ⟨Below.refl _ _, ?_⟩; refine (Try_refBlock x a W HGL.out HA5.out).mono ?_; rintro e w' ⟨rfl, hb⟩; refine ⟨?_, hb⟩; rfl
                    simp only [Act.put, List.setIfInBounds_toArray, List.set_cons_zero, List.set_cons_succ]
                    refine wpParts_det (by rfl) (fun W hE hN => ?_) ?_
                    · unfold Gives; rw [exec_load_cells W ⟨w.heap.size, 0, none⟩ 57 _ rfl rfl (u8s l) _ ((cells_of_blk (HV1.out.ext hE)).from_) Try.underlying57 rfl (by rw [Try_size64, u8s_len, HL.out])]; dsimp only; refine ⟨Below.refl _ _, ?_⟩; rfl
                    simp only [Act.put, List.setIfInBounds_toArray, List.set_cons_zero, List.set_cons_succ]
                    refine wpParts_det (by rfl) (fun W hE hN => ?_) ?_
                    · unfold Gives; rw [exec_neq_bytes W 57 5 _ 64 _ _ rfl Try.underlying57 Try.underlying5 Try_sizeU8 Try_guard64 (blockOf x a) l rfl rfl (blockOf_len _ _) HL.out, HEQ.out]; dsimp only; refine ⟨Below.refl _ _, ?_⟩; rfl
                    simp only [Act.put, List.setIfInBounds_toArray, List.set_cons_zero, List.set_cons_succ]
                    refine wpParts_det (by rfl) (fun W hE hN => ?_) ?_
                    · go_simp; refine ⟨Below.refl _ _, ?_⟩; rfl
                    simp only [Act.put, List.setIfInBounds_toArray, List.set_cons_zero, List.set_cons_succ]
                    refine wpParts_end fun W2 hE2 hG2 => ?_
                    have hcW2 := fun b o h => hE2.cell (p := ⟨b, o, none⟩) h
                    have hfW2 := fun b o h => hE2.frozen (p := ⟨b, o, none⟩) h
                    have q52 := (HV5.out.ext hE2).cells
                    have l52 := (HV5.out.ext hE2).lt
                    have HV22 := Lib.hid (HV2.out.ext hE2)
                    have m22 := HV22.out.marks
                    have q22 := HV22.out.cells
                    have l22 := HV22.out.lt
                    have BEL2 := Lib.hid (BELV.out.trans (hE2.mono BELV.out.size))
                    clear hE2 hG2 hcW2 hfW2 q4 m4 l4 l1 c0 c6
                    go_wp2_with fail
                    have c2 := ((HV22.out.set 0 (.int .u64 (x : Int))).set 1 (.int .i64 (a : Int))).cells
                    refine bodyPost_ret (v := .tuple #[.agg #[.int .u64 (x : Int), .int .i64 (a : Int)], .bool true]) (by simp [results, Try.results40, go_sem, c2]) rfl ⟨by simp [saysOf, HVV.out, ← HGX.out, ← HAX.out], (by repeat (first | (with_reducible exact Below.refl _ _) | (with_reducible exact Below.refl _ _) | (with_reducible refine Below.setCell ?_ (by first | omega | (simp; done) | (simp; omega)) _) | (with_reducible refine Below.alloc ?_ (by first | omega | (simp; done) | (simp; omega)) _) | (with_reducible refine Below.drew ?_) | (with_reducible refine below_drewN ?_ _) | (with_reducible refine Below.trans ?_ (BEL2.out.mono (by first | omega | (simp; done) | (simp; omega))))))⟩
                | false =>
                  have HVV := Lib.hid (show isOf l = false by rw [HIO.out, HR.out, hd]; rfl)
                  have HEQ := Lib.hid (show (blockOf x a == l) = false by simpa using hd)
                  clear hd
                  go_wp2_with fail
                  refine' wp_region_seq [.inl _, .inl _, .inl _, .inl _, .inl _, .inl _, .inl _, .inl _, .inl _, .inl _, .inl _, .inl _, .inl _, .inl _, .inl _, .inl _, .inl _, .inl _, .inl _] (by kernel_rfl) (by kernel_rfl) ?main5
                  case main5 =>
                    refine wpParts_det (by rfl) (fun W hE hN => ?_) ?_
                    · go_simp; refine ⟨Below.refl _ _, ?_⟩; rfl
                    simp only [Act.put, List.setIfInBounds_toArray, List.set_cons_zero, List.set_cons_succ]
                    refine wpParts_det (by rfl) (fun W hE hN => ?_) ?_
                    · have hc := fun b o h => hE.cell (p := ⟨b, o, none⟩) h
                      go_simp; refine ⟨Below.refl _ _, ?_⟩; rfl
                    simp only [Act.put, List.setIfInBounds_toArray, List.set_cons_zero, List.set_cons_succ]
                    refine wpParts_det (by rfl) (fun W hE hN => ?_) ?_
                    · go_simp; refine ⟨Below.refl _ _, ?_⟩; rfl
                    simp only [Act.put, List.setIfInBounds_toArray, List.set_cons_zero, List.set_cons_succ]
                    refine wpParts_det (by rfl) (fun W hE hN => ?_) ?_
                    · go_simp; refine ⟨Below.refl _ _, ?_⟩; rfl
                    simp only [Act.put, List.setIfInBounds_toArray, List.set_cons_zero, List.set_cons_succ]
                    refine wpParts_det (by rfl) (fun W hE hN => ?_) ?_
                    · go_simp; refine ⟨Below.refl _ _, ?_⟩; rfl
                    simp only [Act.put, List.setIfInBounds_toArray, List.set_cons_zero, List.set_cons_succ]
                    refine wpParts_det (by rfl) (fun W hE hN => ?_) ?_
                    · have hc := fun b o h => hE.cell (p := ⟨b, o, none⟩) h
                      go_simp; refine ⟨Below.refl _ _, ?_⟩; rfl
                    simp only [Act.put, List.setIfInBounds_toArray, List.set_cons_zero, List.set_cons_succ]
                    refine wpParts_det (by rfl) (fun W hE hN => ?_) ?_
                    · go_simp; refine ⟨Below.refl _ _, ?_⟩; rfl
                    simp only [Act.put, List.setIfInBounds_toArray, List.set_cons_zero, List.set_cons_succ]
                    refine wpParts_det (by rfl) (fun W hE hN => ?_) ?_
                    · go_simp; refine ⟨Below.refl _ _, ?_⟩; rfl
                    simp only [Act.put, List.setIfInBounds_toArray, List.set_cons_zero, List.set_cons_succ]
                    refine wpParts_det (by rfl) (fun W hE hN => ?_) ?_
                    · go_simp; refine ⟨Below.refl _ _, ?_⟩; rfl
                    simp only [Act.put, List.setIfInBounds_toArray, List.set_cons_zero, List.set_cons_succ]
                    refine wpParts_det (by rfl) (fun W hE hN => ?_) ?_
                    · have hc := fun b o h => hE.cell (p := ⟨b, o, none⟩) h
                      go_simp; refine ⟨Below.refl _ _, ?_⟩; rfl
                    simp only [Act.put, List.setIfInBounds_toArray, List.set_cons_zero, List.set_cons_succ]
                    refine wpParts_det (by rfl) (fun W hE hN => ?_) ?_
                    · go_simp; refine ⟨Below.refl _ _, ?_⟩; have hA := Try_hRight ⟨x, a⟩ W; rw [HR.out] at hA; refine hA.mono ?_; rintro e w' ⟨rfl, hb⟩; refine ⟨?_, hb⟩; rfl
                    simp only [Act.put, List.setIfInBounds_toArray, List.set_cons_zero, List.set_cons_succ]
                    refine wpParts_det (by rfl) (fun W hE hN => ?_) ?_
                    · go_simp; refine ⟨Below.refl _ _, ?_⟩; rfl
                    simp only [Act.put, List.setIfInBounds_toArray, List.set_cons_zero, List.set_cons_succ]
                    refine wpParts_det (by rfl) (fun W hE hN => ?_) ?_
                    · go_simp; refine ⟨Below.refl _ _, ?_⟩; rfl
                    simp only [Act.put, List.setIfInBounds_toArray, List.set_cons_zero, List.set_cons_succ]
                    refine wpParts_det (by rfl) (fun W hE hN => ?_) ?_
                    · go_simp; refine ⟨Below.refl _ _, ?_⟩; rfl
                    simp only [Act.put, List.setIfInBounds_toArray, List.set_cons_zero, List.set_cons_succ]
                    refine wpParts_det (by rfl) (fun W hE hN => ?_) ?_
                    · have hc := fun b o h => hE.cell (p := ⟨b, o, none⟩) h
                      go_simp; refine ⟨Below.refl _ _, ?_⟩; rfl
                    simp only [Act.put, List.setIfInBounds_toArray, List.set_cons_zero, List.set_cons_succ]
                    refine wpParts_det (by rfl) (fun W hE hN => ?_) ?_
                    · go_simp; refine ⟨Below.refl _ _, ?_⟩; refine (Try_refBlock x a W HGL.out HA5.out).mono ?_; rintro e w' ⟨rfl, hb⟩; refine ⟨?_, hb⟩; rfl
                    simp only [Act.put, List.setIfInBounds_toArray, List.set_cons_zero, List.set_cons_succ]
                    refine wpParts_det (by rfl) (fun W hE hN => ?_) ?_
                    · unfold Gives; rw [exec_load_cells W ⟨w.heap.size, 0, none⟩ 57 _ rfl rfl (u8s l) _ ((cells_of_blk (HV1.out.ext hE)).from_) Try.underlying57 rfl (by rw [Try_size64, u8s_len, HL.out])]; dsimp only; refine ⟨Below.refl _ _, ?_⟩; rfl
                    simp only [Act.put, List.setIfInBounds_toArray, List.set_cons_zero, List.set_cons_succ]
                    refine wpParts_det (by rfl) (fun W hE hN => ?_) ?_
                    · unfold Gives; rw [exec_neq_bytes W 57 5 _ 64 _ _ rfl Try.underlying57 Try.underlying5 Try_sizeU8 Try_guard64 (blockOf x a) l rfl rfl (blockOf_len _ _) HL.out, HEQ.out]; dsimp only; refine ⟨Below.refl _ _, ?_⟩; rfl
                    simp only [Act.put, List.setIfInBounds_toArray, List.set_cons_zero, List.set_cons_succ]
                    refine wpParts_det (by rfl) (fun W hE hN => ?_) ?_
                    · go_simp; refine ⟨Below.refl _ _, ?_⟩; rfl
                    simp only [Act.put, List.setIfInBounds_toArray, List.set_cons_zero, List.set_cons_succ]
                    refine wpParts_end fun W2 hE2 hG2 => ?_
                    have hcW2 := fun b o h => hE2.cell (p := ⟨b, o, none⟩) h
                    have hfW2 := fun b o h => hE2.frozen (p := ⟨b, o, none⟩) h
                    have q52 := (HV5.out.ext hE2).cells
                    have l52 := (HV5.out.ext hE2).lt
                    have HV22 := Lib.hid (HV2.out.ext hE2)
                    have m22 := HV22.out.marks
                    have q22 := HV22.out.cells
                    have l22 := HV22.out.lt
                    have BEL2 := Lib.hid (BELV.out.trans (hE2.mono BELV.out.size))
                    clear hE2 hG2 hcW2 hfW2 q4 m4 l4 l1 c0 c6
                    go_wp2_with fail
                    have c2 := ((HV22.out.set 0 (.int .u64 0)).set 1 (.int .i64 0)).cells
                    refine bodyPost_ret (v := .tuple #[.agg #[.int .u64 0, .int .i64 0], .bool false]) (by simp [results, Try.results40, go_sem, c2]) rfl ⟨by simp [saysOf, HVV.out], (by repeat (first | (with_reducible exact Below.refl _ _) | (with_reducible exact Below.refl _ _) | (with_reducible refine Below.setCell ?_ (by first | omega | (simp; done) | (simp; omega)) _) | (with_reducible refine Below.alloc ?_ (by first | omega | (simp; done) | (simp; omega)) _) | (with_reducible refine Below.drew ?_) | (with_reducible refine below_drewN ?_ _) | (with_reducible refine Below.trans ?_ (BEL2.out.mono (by first | omega | (simp; done) | (simp; omega))))))⟩
            · have hne : ((b6.toNat : Int) != 165) = true := by
                simp
                intro h
                exact h6 (by rw [← UInt8.toNat_inj]; exact_mod_cast h)
              have HVV := Lib.hid (show isOf l = false by
                cases hv : isOf l with
                | false => rfl
                | true =>
                  unfold isOf at hv
                  simp at hv
                  have h := blockOf_last (genOf l) (atOf l)
                  rw [hv.2, hb6] at h
                  exact absurd (Option.some.inj h) h6)
              clear h6
              go_wp2_with fail
              refine' wp_region_seq [.inl _, .inl _, .inl _, .inl _, .inl _, .inl _, .inl _, .inl _, .inl _, .inl undef, .inl undef, .inl undef, .inl _, .inl _, .inl undef, .inl undef, .inl undef, .inl undef, .inl _] (by kernel_rfl) (by kernel_rfl) ?main6
              case main6 =>
                refine wpParts_det (by rfl) (fun W hE hN => ?_) ?_
                · go_simp; refine ⟨Below.refl _ _, ?_⟩; rfl
                simp only [Act.put, List.setIfInBounds_toArray, List.set_cons_zero, List.set_cons_succ]
                refine wpParts_det (by rfl) (fun W hE hN => ?_) ?_
                · have hc := fun b o h => hE.cell (p := ⟨b, o, none⟩) h
                  go_simp; refine ⟨Below.refl _ _, ?_⟩; rfl
                simp only [Act.put, List.setIfInBounds_toArray, List.set_cons_zero, List.set_cons_succ]
                refine wpParts_det (by rfl) (fun W hE hN => ?_) ?_
                · go_simp; refine ⟨Below.refl _ _, ?_⟩; rfl
                simp only [Act.put, List.setIfInBounds_toArray, List.set_cons_zero, List.set_cons_succ]
                refine wpParts_det (by rfl) (fun W hE hN => ?_) ?_
                · go_simp; refine ⟨Below.refl _ _, ?_⟩; rfl
                simp only [Act.put, List.setIfInBounds_toArray, List.set_cons_zero, List.set_cons_succ]
                refine wpParts_det (by rfl) (fun W hE hN => ?_) ?_
                · go_simp; refine ⟨Below.refl _ _, ?_⟩; rfl
                simp only [Act.put, List.setIfInBounds_toArray, List.set_cons_zero, List.set_cons_succ]
                refine wpParts_det (by rfl) (fun W hE hN => ?_) ?_
                · have hc := fun b o h => hE.cell (p := ⟨b, o, none⟩) h
                  go_simp; refine ⟨Below.refl _ _, ?_⟩; rfl
                simp only [Act.put, List.setIfInBounds_toArray, List.set_cons_zero, List.set_cons_succ]
                refine wpParts_det (by rfl) (fun W hE hN => ?_) ?_
                · go_simp; refine ⟨Below.refl _ _, ?_⟩; rfl
                simp only [Act.put, List.setIfInBounds_toArray, List.set_cons_zero, List.set_cons_succ]
                refine wpParts_det (by rfl) (fun W hE hN => ?_) ?_
                · go_simp; refine ⟨Below.refl _ _, ?_⟩; rfl
                simp only [Act.put, List.setIfInBounds_toArray, List.set_cons_zero, List.set_cons_succ]
                refine wpParts_det (by rfl) (fun W hE hN => ?_) ?_
                · go_simp; refine ⟨Below.refl _ _, ?_⟩; rfl
                simp only [Act.put, List.setIfInBounds_toArray, List.set_cons_zero, List.set_cons_succ]
                refine wpParts_skip ?_ ?_
                · rfl
                simp only [Act.put, List.setIfInBounds_toArray, List.set_cons_zero, List.set_cons_succ]
                refine wpParts_skip ?_ ?_
                · rfl
                simp only [Act.put, List.setIfInBounds_toArray, List.set_cons_zero, List.set_cons_succ]
                refine wpParts_skip ?_ ?_
                · rfl
                simp only [Act.put, List.setIfInBounds_toArray, List.set_cons_zero, List.set_cons_succ]
                refine wpParts_det (by rfl) (fun W hE hN => ?_) ?_
                · go_simp; refine ⟨Below.refl _ _, ?_⟩; rfl
                simp only [Act.put, List.setIfInBounds_toArray, List.set_cons_zero, List.set_cons_succ]
                refine wpParts_det (by rfl) (fun W hE hN => ?_) ?_
                · go_simp; refine ⟨Below.refl _ _, ?_⟩; rfl
                simp only [Act.put, List.setIfInBounds_toArray, List.set_cons_zero, List.set_cons_succ]
                refine wpParts_skip ?_ ?_
                · rfl
                simp only [Act.put, List.setIfInBounds_toArray, List.set_cons_zero, List.set_cons_succ]
                refine wpParts_skip ?_ ?_
                · rfl
                simp only [Act.put, List.setIfInBounds_toArray, List.set_cons_zero, List.set_cons_succ]
                refine wpParts_skip ?_ ?_
                · rfl
                simp only [Act.put, List.setIfInBounds_toArray, List.set_cons_zero, List.set_cons_succ]
                refine wpParts_skip ?_ ?_
                · rfl
                simp only [Act.put, List.setIfInBounds_toArray, List.set_cons_zero, List.set_cons_succ]
                refine wpParts_det (by rfl) (fun W hE hN => ?_) ?_
                · go_simp; refine ⟨Below.refl _ _, ?_⟩; rfl
                simp only [Act.put, List.setIfInBounds_toArray, List.set_cons_zero, List.set_cons_succ]
                refine wpParts_end fun W2 hE2 hG2 => ?_
                have hcW2 := fun b o h => hE2.cell (p := ⟨b, o, none⟩) h
                have hfW2 := fun b o h => hE2.frozen (p := ⟨b, o, none⟩) h
                have q52 := (HV5.out.ext hE2).cells
                have l52 := (HV5.out.ext hE2).lt
                have HV22 := Lib.hid (HV2.out.ext hE2)
                have m22 := HV22.out.marks
                have q22 := HV22.out.cells
                have l22 := HV22.out.lt
                have BEL2 := Lib.hid (BELV.out.trans (hE2.mono BELV.out.size))
                clear hE2 hG2 hcW2 hfW2 q4 m4 l4 l1 c0 c6
                go_wp2_with fail
                have c2 := ((HV22.out.set 0 (.int .u64 0)).set 1 (.int .i64 0)).cells
                refine bodyPost_ret (v := .tuple #[.agg #[.int .u64 0, .int .i64 0], .bool false]) (by simp [results, Try.results40, go_sem, c2]) rfl ⟨by simp [saysOf, HVV.out], (by repeat (first | (with_reducible exact Below.refl _ _) | (with_reducible exact Below.refl _ _) | (with_reducible refine Below.setCell ?_ (by first | omega | (simp; done) | (simp; omega)) _) | (with_reducible refine Below.alloc ?_ (by first | omega | (simp; done) | (simp; omega)) _) | (with_reducible refine Below.drew ?_) | (with_reducible refine below_drewN ?_ _) | (with_reducible refine Below.trans ?_ (BEL2.out.mono (by first | omega | (simp; done) | (simp; omega))))))⟩
          · have hne : ((b0.toNat : Int) != 1) = true := by
              simp
              intro h
              exact h0 (by rw [← UInt8.toNat_inj]; exact_mod_cast h)
            have HVV := Lib.hid (show isOf l = false by
              cases hv : isOf l with
              | false => rfl
              | true => have h := isOf_first hv; rw [hb0] at h; exact absurd (Option.some.inj h) h0)
            clear h0
            go_wp2_with fail
            refine' wp_region_seq [.inl _, .inl _, .inl _, .inl _, .inl undef, .inl undef, .inl undef, .inl _, .inl _, .inl undef, .inl undef, .inl undef, .inl _, .inl _, .inl undef, .inl undef, .inl undef, .inl undef, .inl _] (by kernel_rfl) (by kernel_rfl) ?main7
            case main7 =>
              refine wpParts_det (by rfl) (fun W hE hN => ?_) ?_
              · go_simp; refine ⟨Below.refl _ _, ?_⟩; rfl
              simp only [Act.put, List.setIfInBounds_toArray, List.set_cons_zero, List.set_cons_succ]
              refine wpParts_det (by rfl) (fun W hE hN => ?_) ?_
              · have hc := fun b o h => hE.cell (p := ⟨b, o, none⟩) h
                go_simp; refine ⟨Below.refl _ _, ?_⟩; rfl
              simp only [Act.put, List.setIfInBounds_toArray, List.set_cons_zero, List.set_cons_succ]
              refine wpParts_det (by rfl) (fun W hE hN => ?_) ?_
              · go_simp; refine ⟨Below.refl _ _, ?_⟩; rfl
              simp only [Act.put, List.setIfInBounds_toArray, List.set_cons_zero, List.set_cons_succ]
              refine wpParts_det (by rfl) (fun W hE hN => ?_) ?_
              · go_simp; refine ⟨Below.refl _ _, ?_⟩; rfl
              simp only [Act.put, List.setIfInBounds_toArray, List.set_cons_zero, List.set_cons_succ]
              refine wpParts_skip ?_ ?_
              · rfl
              simp only [Act.put, List.setIfInBounds_toArray, List.set_cons_zero, List.set_cons_succ]
              refine wpParts_skip ?_ ?_
              · rfl
              simp only [Act.put, List.setIfInBounds_toArray, List.set_cons_zero, List.set_cons_succ]
              refine wpParts_skip ?_ ?_
              · rfl
              simp only [Act.put, List.setIfInBounds_toArray, List.set_cons_zero, List.set_cons_succ]
              refine wpParts_det (by rfl) (fun W hE hN => ?_) ?_
              · go_simp; refine ⟨Below.refl _ _, ?_⟩; rfl
              simp only [Act.put, List.setIfInBounds_toArray, List.set_cons_zero, List.set_cons_succ]
              refine wpParts_det (by rfl) (fun W hE hN => ?_) ?_
              · go_simp; refine ⟨Below.refl _ _, ?_⟩; rfl
              simp only [Act.put, List.setIfInBounds_toArray, List.set_cons_zero, List.set_cons_succ]
              refine wpParts_skip ?_ ?_
              · rfl
              simp only [Act.put, List.setIfInBounds_toArray, List.set_cons_zero, List.set_cons_succ]
              refine wpParts_skip ?_ ?_
              · rfl
              simp only [Act.put, List.setIfInBounds_toArray, List.set_cons_zero, List.set_cons_succ]
              refine wpParts_skip ?_ ?_
              · rfl
              simp only [Act.put, List.setIfInBounds_toArray, List.set_cons_zero, List.set_cons_succ]
              refine wpParts_det (by rfl) (fun W hE hN => ?_) ?_
              · go_simp; refine ⟨Below.refl _ _, ?_⟩; rfl
              simp only [Act.put, List.setIfInBounds_toArray, List.set_cons_zero, List.set_cons_succ]
              refine wpParts_det (by rfl) (fun W hE hN => ?_) ?_
              · go_simp; refine ⟨Below.refl _ _, ?_⟩; rfl
              simp only [Act.put, List.setIfInBounds_toArray, List.set_cons_zero, List.set_cons_succ]
              refine wpParts_skip ?_ ?_
              · rfl
              simp only [Act.put, List.setIfInBounds_toArray, List.set_cons_zero, List.set_cons_succ]
              refine wpParts_skip ?_ ?_
              · rfl
              simp only [Act.put, List.setIfInBounds_toArray, List.set_cons_zero, List.set_cons_succ]
              refine wpParts_skip ?_ ?_
              · rfl
              simp only [Act.put, List.setIfInBounds_toArray, List.set_cons_zero, List.set_cons_succ]
              refine wpParts_skip ?_ ?_
              · rfl
              simp only [Act.put, List.setIfInBounds_toArray, List.set_cons_zero, List.set_cons_succ]
              refine wpParts_det (by rfl) (fun W hE hN => ?_) ?_
              · go_simp; refine ⟨Below.refl _ _, ?_⟩; rfl
              simp only [Act.put, List.setIfInBounds_toArray, List.set_cons_zero, List.set_cons_succ]
              refine wpParts_end fun W2 hE2 hG2 => ?_
              have hcW2 := fun b o h => hE2.cell (p := ⟨b, o, none⟩) h
              have hfW2 := fun b o h => hE2.frozen (p := ⟨b, o, none⟩) h
              have q52 := (HV5.out.ext hE2).cells
              have l52 := (HV5.out.ext hE2).lt
              have HV22 := Lib.hid (HV2.out.ext hE2)
              have m22 := HV22.out.marks
              have q22 := HV22.out.cells
              have l22 := HV22.out.lt
              have BEL2 := Lib.hid (BELV.out.trans (hE2.mono BELV.out.size))
              clear hE2 hG2 hcW2 hfW2 q4 m4 l4 l1 c0 c6
              go_wp2_with fail
              have c2 := ((HV22.out.set 0 (.int .u64 0)).set 1 (.int .i64 0)).cells
              refine bodyPost_ret (v := .tuple #[.agg #[.int .u64 0, .int .i64 0], .bool false]) (by simp [results, Try.results40, go_sem, c2]) rfl ⟨by simp [saysOf, HVV.out], (by repeat (first | (with_reducible exact Below.refl _ _) | (with_reducible exact Below.refl _ _) | (with_reducible refine Below.setCell ?_ (by first | omega | (simp; done) | (simp; omega)) _) | (with_reducible refine Below.alloc ?_ (by first | omega | (simp; done) | (simp; omega)) _) | (with_reducible refine Below.drew ?_) | (with_reducible refine below_drewN ?_ _) | (with_reducible refine Below.trans ?_ (BEL2.out.mono (by first | omega | (simp; done) | (simp; omega))))))⟩
end Go.Proofs.Ytmjmjjakhmeogaa
