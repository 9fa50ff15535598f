/-
  Layer 12: the header whose block this is: the program's Says, walked.
-/
import Derived.Test.YtmjmjjakhmeogaaHdF
namespace Go.Dav
set_option linter.unusedVariables false
set_option linter.unusedSimpArgs false
open Go Go.RowKit
theorem bytes_part {W : World} {p t o n c : Nat} {l : List UInt8} (h : Blk W p (u8s l) t) (h1 : o + n ≤ l.length) (h2 : n ≤ c) (h3 : c ≤ 1000) : BytesAt W (some ⟨p, o, none⟩) n c ((l.drop o).take n) := by
  refine ⟨by rw [List.length_take, List.length_drop]; omega, h2, by unfold maxLen; omega, by omega, fun k x hk => ?_, fun e => by cases e⟩
  rw [List.getElem?_take] at hk
  split at hk
  · rw [List.getElem?_drop] at hk
    exact ⟨p, o, rfl, h.lt, h.cell (o + k) (u8s_get hk)⟩
  · cases hk
def genOf (l : List UInt8) : Nat := numOf ((l.drop 1).take 8)
def atOf (l : List UInt8) : Nat := numOf ((l.drop 9).take 4)
/-- Is this the block of a header? -/
def isOf (l : List UInt8) : Bool := (HeadD.mk (genOf l) (atOf l : Int)).right && decide (blockOf (genOf l) (atOf l) = l)
theorem genOf_lt (l : List UInt8) : genOf l < 18446744073709551616 := by
  have h := numOf_lt ((l.drop 1).take 8)
  have h2 : 256 ^ ((l.drop 1).take 8).length ≤ 256 ^ 8 := Nat.pow_le_pow_right (by omega) (by rw [List.length_take]; omega)
  exact Nat.lt_of_lt_of_le h h2
theorem atOf_lt (l : List UInt8) : atOf l < 4294967296 := by
  have h := numOf_lt ((l.drop 9).take 4)
  have h2 : 256 ^ ((l.drop 9).take 4).length ≤ 256 ^ 4 := Nat.pow_le_pow_right (by omega) (by rw [List.length_take]; omega)
  exact Nat.lt_of_lt_of_le h h2
theorem blockOf_first (g a : Nat) : (blockOf g a)[0]? = some 1 := by simp [blockOf, crcLay, bodyOf, headOf]
theorem isOf_first {l : List UInt8} (h : isOf l = true) : l[0]? = some 1 := by
  unfold isOf at h
  simp at h
  rw [← h.2]
  exact blockOf_first _ _
/-- What Block answers. -/
def blkOf (h : HeadD) : List UInt8 := if h.right = true then blockOf h.gen h.at_.toNat else List.replicate 64 0
theorem blkOf_len (h : HeadD) : (blkOf h).length = 64 := by unfold blkOf; split <;> simp [blockOf_len]
theorem isOf_blk {l : List UInt8} (h0 : l[0]? = some 1) : isOf l = (blkOf ⟨genOf l, atOf l⟩ == l) := by
  unfold isOf blkOf
  cases hr : (HeadD.mk (genOf l) (atOf l : Int)).right with
  | true =>
    rw [if_pos rfl, Bool.true_and]
    rw [Bool.eq_iff_iff]; simp
  | false =>
    rw [if_neg (by simp), Bool.false_and]
    symm
    rw [beq_eq_false_iff_ne]
    intro e
    rw [← e] at h0
    simp at h0
/-- What Says answers. -/
def saysOf (l : List UInt8) : Value := .tuple #[.agg #[.int .u64 ((if isOf l = true then genOf l else 0 : Nat) : Int), .int .i64 ((if isOf l = true then atOf l else 0 : Nat) : Int)], .bool (isOf l)]
theorem exec_neq_bytes {P : Program} {o : Oper} {a : Act} (w : World) (t e rt : TypeId) (n : Nat) (x y : Operand) (ho : o.op = .binOp .neq t x y rt) (ht : P.underlying t = some (.array n e)) (he : P.underlying e = some (.int .u8)) (hsz : ∀ w, (sizeOf e).run P w = .ok 1 w) (hm : P.eqGuardType P.depth t = false)
    (xs ys : List UInt8) (hx : a.eval x = .agg (u8s xs).toArray) (hy : a.eval y = .agg (u8s ys).toArray) (hlx : xs.length = n) (hly : ys.length = n) :
    (execOp a.eval o).run P w = .ok (.value (.bool (!(xs == ys)))) w := by
  have h1 := run_equalIn_bytes (P := P) w 9998 t e n ht he hsz xs ys hlx hly
  have h2 : (Op.equalIn 10000 t (.agg (u8s xs).toArray) (.agg (u8s ys).toArray)).run P w = .ok (xs == ys) w := h1
  unfold execOp
  simp [ho, hx, hy, run_eqGuard_agg _ _ _ _ _ _ _ hm, run_neq_struct, h2]
end Go.Dav
namespace Go.Proofs.Ytmjmjjakhmeogaa
set_option linter.unusedVariables false
set_option linter.unusedSimpArgs false
open Go.RowKit Go.Dav
attribute [local go_sem] Gives ite_val ite_val_true

theorem Try_Block (h : HeadD) (hf : h.Fits) (w : World) : Calls Try.prog 41 #[.agg #[.int .u64 (h.gen : Int), .int .i64 h.at_]] w fun e w' => e = .returned (.agg (u8s (blkOf h)).toArray) ∧ Below w.heap.size w w' := by
  cases hr : h.right with
  | false =>
    unfold blkOf
    rw [if_neg (by rw [hr]; decide)]
    exact Try_BlockNo h w hr
  | true =>
    unfold blkOf
    rw [if_pos hr]
    obtain ⟨g, a⟩ := h
    have hs := HeadD.right_spec.1 hr
    obtain ⟨m, rfl⟩ := Int.eq_ofNat_of_zero_le hs.2.1
    exact Try_BlockYes g m w hf.gen (by have := hs.2.2; dsimp only at this; omega) hr
theorem Try_enter67 (args : Array Value) (W : World) : (callFunc 67 args).run Try.prog W = .ok (Next.enter 67 args) W := by kernel_rfl
theorem Try_sizeU8 : ∀ w, (sizeOf 5).run Try.prog w = .ok 1 w := fun w => by kernel_rfl
theorem Try_guard64 : Try.prog.eqGuardType Try.prog.depth 57 = false := by kernel_rfl

set_option maxRecDepth 100000 in
set_option maxHeartbeats 8000000 in
theorem Try_Says (l : List UInt8) (hl : l.length = 64) (w : World) : Calls Try.prog 39 #[.agg (u8s l).toArray] w fun e w' => e = .returned (saysOf l) ∧ Below w.heap.size w w' := by
  have hen := Try_enter67
  have HL := Lib.hid hl
  obtain ⟨W0, hW0⟩ : ∃ W0, (w.alloc (.cells (u8s l).toArray 57)).alloc (.cells #[.int .u64 0, .int .i64 0] 56) = W0 := ⟨_, rfl⟩
  have hb1 : Blk W0 w.heap.size (u8s l) 57 := by rw [← hW0]; exact (Blk.new w _ _).alloc _
  have hb2 : Blk W0 (w.heap.size + 1) [.int .u64 0, .int .i64 0] 56 := by rw [← hW0]; exact Blk.new' _ _ _ (by simp)
  have bel0 : Below w.heap.size w W0 := by rw [← hW0]; exact (by repeat (first | (with_reducible exact Below.refl _ _) | (with_reducible exact Below.refl _ _) | (with_reducible refine Below.setCell ?_ (by first | omega | (simp; done) | (simp; omega)) _) | (with_reducible refine Below.alloc ?_ (by first | omega | (simp; done) | (simp; omega)) _) | (with_reducible refine Below.drew ?_) | (with_reducible refine below_drewN ?_ _)))
  have HW0 := Lib.hid hW0
  have HB1 := Lib.hid hb1
  have HB2 := Lib.hid hb2
  have BEL0 := Lib.hid bel0
  obtain ⟨g, hg⟩ : ∃ g, genOf l = g := ⟨_, rfl⟩
  obtain ⟨a, ha⟩ : ∃ a, atOf l = a := ⟨_, rfl⟩
  have hal := atOf_lt l
  have hgl := genOf_lt l
  rw [ha] at hal
  rw [hg] at hgl
  have HWA := Lib.hid (show IntKind.i64.wrap (a : Int) = (a : Int) by rw [IntKind.wrap_i64]; omega)
  have HG := Lib.hid hg
  have HA := Lib.hid ha
  have HAL := Lib.hid hal
  have HGL := Lib.hid hgl
  have l0 := hb1.lt
  clear hl hW0 hb1 hb2 bel0 hg ha hal hgl
  go_enter Try.func39, Try.ntmps39
  go_wp2_with fail
  rw [HW0.out]
  refine' wp_region_seq [.inl _, .inl _, .inl _, .inl _, .inl _, .inl _, .inl _, .inl _, .inr (NewBlk W0.heap.size [.int .u64 0, .int .i64 0] 56)] (by kernel_rfl) (by kernel_rfl) ?main1
  case main1 =>
    refine wpParts_det (by rfl) (fun W hE hN => ?_) ?_
    · go_simp; refine ⟨Below.refl _ _, ?_⟩; rfl
    simp only [Act.put, List.setIfInBounds_toArray, List.set_cons_zero, List.set_cons_succ]
    refine wpParts_det (by rfl) (fun W hE hN => ?_) ?_
    · go_simp; refine ⟨Below.refl _ _, ?_⟩; rfl
    simp only [Act.put, List.setIfInBounds_toArray, List.set_cons_zero, List.set_cons_succ]
    refine wpParts_det (by rfl) (fun W hE hN => ?_) ?_
    · go_simp; refine ⟨Below.refl _ _, ?_⟩; refine (Try_number (some ⟨w.heap.size, 1, none⟩) 8 63 ((l.drop 1).take 8) W (bytes_part (HB1.out.ext hE) (by rw [HL.out]; omega) (by omega) (by omega)) (by omega)).mono ?_; rintro e w' ⟨rfl, hb⟩; refine ⟨?_, hb⟩; exact congrArg (fun z : Nat => Ending.returned (Value.int .u64 (z : Int))) HG.out
    simp only [Act.put, List.setIfInBounds_toArray, List.set_cons_zero, List.set_cons_succ]
    refine wpParts_det (by rfl) (fun W hE hN => ?_) ?_
    · go_simp; refine ⟨Below.refl _ _, ?_⟩; rfl
    simp only [Act.put, List.setIfInBounds_toArray, List.set_cons_zero, List.set_cons_succ]
    refine wpParts_det (by rfl) (fun W hE hN => ?_) ?_
    · go_simp; refine ⟨Below.refl _ _, ?_⟩; rfl
    simp only [Act.put, List.setIfInBounds_toArray, List.set_cons_zero, List.set_cons_succ]
    refine wpParts_det (by rfl) (fun W hE hN => ?_) ?_
    · go_simp; refine ⟨Below.refl _ _, ?_⟩; refine (Try_number (some ⟨w.heap.size, 9, none⟩) 4 55 ((l.drop 9).take 4) W (bytes_part (HB1.out.ext hE) (by rw [HL.out]; omega) (by omega) (by omega)) (by omega)).mono ?_; rintro e w' ⟨rfl, hb⟩; refine ⟨?_, hb⟩; exact congrArg (fun z : Nat => Ending.returned (Value.int .u64 (z : Int))) HA.out
    simp only [Act.put, List.setIfInBounds_toArray, List.set_cons_zero, List.set_cons_succ]
    refine wpParts_det (by rfl) (fun W hE hN => ?_) ?_
    · go_simp; refine ⟨Below.refl _ _, ?_⟩; rfl
    simp only [Act.put, List.setIfInBounds_toArray, List.set_cons_zero, List.set_cons_succ]
    refine wpParts_det (by rfl) (fun W hE hN => ?_) ?_
    · go_simp; refine ⟨Below.refl _ _, ?_⟩; rfl
    simp only [Act.put, List.setIfInBounds_toArray, List.set_cons_zero, List.set_cons_succ]
    refine wpParts_any rfl (NewBlk.later) (by rfl) (fun W hE hN => ?_) (fun u8 => ?_)
    · go_simp; exact newBlk_alloc (cs := [.int .u64 0, .int .i64 0]) hE.size
    simp only [Act.put, List.setIfInBounds_toArray, List.set_cons_zero, List.set_cons_succ]
    refine wpParts_end fun W1 hE1 hG1 => ?_
    have hcW1 := fun b o h => hE1.cell (p := ⟨b, o, none⟩) h
    have hfW1 := fun b o h => hE1.frozen (p := ⟨b, o, none⟩) h
    obtain ⟨⟨p5, rfl, hp5, hk5⟩, _⟩ := hG1
    have q5 := hk5.cells
    have m5 := hk5.marks
    have l5 := hk5.lt
    have HK5 := Lib.hid hk5
    have HB11 := Lib.hid (HB1.out.ext hE1)
    have HB21 := Lib.hid (HB2.out.ext hE1)
    have BEL1 := Lib.hid (BEL0.out.trans (hE1.mono BEL0.out.size))
    have HP5 := Lib.hid (show w.heap.size ≠ p5 ∧ w.heap.size + 1 ≠ p5 ∧ w.heap.size ≤ p5 by have := HB1.out.lt; have := HB2.out.lt; omega)
    have hne1 : w.heap.size ≠ p5 := HP5.out.1
    have hwa := HWA.out
    clear hk5 hE1 hcW1 hfW1 HB1 HB2 BEL0 l0
    go_wp2_with fail
    rw [hwa]
    clear hwa
    obtain ⟨V, hV⟩ : ∃ V, (W1.setCell ⟨p5, 0, none⟩ (.int .u64 (g : Int))).setCell ⟨p5, 1, none⟩ (.int .i64 (a : Int)) = V := ⟨_, rfl⟩
    have o5 : Only p5 W1 V := by rw [← hV]; exact ((Only.refl _ _).set _ _).set _ _
    have HV5 := Lib.hid (show Blk V p5 [.int .u64 (g : Int), .int .i64 (a : Int)] 56 by rw [← hV]; exact (HK5.out.set 0 _).set 1 _)
    have HV1 := Lib.hid (HB11.out.only o5 HP5.out.1)
    have HV2 := Lib.hid (HB21.out.only o5 HP5.out.2.1)
    have BELV := Lib.hid (below_only BEL1.out o5 BEL1.out.size HP5.out.2.2)
    rw [hV]
    clear o5 hV q5 m5 l5 HK5 HB11 HB21 BEL1
    have q5 := HV5.out.cells
    have l5 := HV5.out.lt
    have l1 := HV1.out.lt
    obtain ⟨b0, hb0⟩ : ∃ b0, l[0]? = some b0 := ⟨_, List.getElem?_eq_getElem (by rw [HL.out]; omega)⟩
    have c0 : V.cell? ⟨w.heap.size, 0, none⟩ = some (.int .u8 (b0.toNat : Int)) := HV1.out.cell 0 (u8s_get hb0)
    by_cases h1 : b0 = 1
    · subst h1
      have hh : (HeadD.mk g (a : Int)).Fits := ⟨HGL.out, by have := HAL.out; unfold I64'; dsimp only; omega⟩
      have HH := Lib.hid hh
      clear hh
      have heq := isOf_blk hb0
      rw [HG.out, HA.out] at heq
      cases hv : isOf l with
      | true =>
        rw [hv] at heq
        have HEQ := Lib.hid heq.symm
        have HVV := Lib.hid hv
        clear heq hv
        refine' wp_region_seq [.inl _, .inl _, .inl _, .inl _, .inl _, .inl _, .inl _, .inl _, .inl _] (by kernel_rfl) (by kernel_rfl) ?main2
        case main2 =>
          refine wpParts_det (by rfl) (fun W hE hN => ?_) ?_
          · go_simp; refine ⟨Below.refl _ _, ?_⟩; rfl
          simp only [Act.put, List.setIfInBounds_toArray, List.set_cons_zero, List.set_cons_succ]
          refine wpParts_det (by rfl) (fun W hE hN => ?_) ?_
          · have hc := fun b o h => hE.cell (p := ⟨b, o, none⟩) h
            go_simp; refine ⟨Below.refl _ _, ?_⟩; rfl
          simp only [Act.put, List.setIfInBounds_toArray, List.set_cons_zero, List.set_cons_succ]
          refine wpParts_det (by rfl) (fun W hE hN => ?_) ?_
          · go_simp; refine ⟨Below.refl _ _, ?_⟩; rfl
          simp only [Act.put, List.setIfInBounds_toArray, List.set_cons_zero, List.set_cons_succ]
          refine wpParts_det (by rfl) (fun W hE hN => ?_) ?_
          · go_simp; refine ⟨Below.refl _ _, ?_⟩; rfl
          simp only [Act.put, List.setIfInBounds_toArray, List.set_cons_zero, List.set_cons_succ]
          refine wpParts_det (by rfl) (fun W hE hN => ?_) ?_
          · have hc := fun b o h => hE.cell (p := ⟨b, o, none⟩) h
            go_simp; refine ⟨Below.refl _ _, ?_⟩; rfl
          simp only [Act.put, List.setIfInBounds_toArray, List.set_cons_zero, List.set_cons_succ]
          refine wpParts_det (by rfl) (fun W hE hN => ?_) ?_
          · go_simp; refine ⟨Below.refl _ _, ?_⟩; refine (Try_Block ⟨g, a⟩ HH.out W).mono ?_; rintro e w' ⟨rfl, hb⟩; refine ⟨?_, hb⟩; rfl
          simp only [Act.put, List.setIfInBounds_toArray, List.set_cons_zero, List.set_cons_succ]
          refine wpParts_det (by rfl) (fun W hE hN => ?_) ?_
          · unfold Gives; rw [exec_load_cells W ⟨w.heap.size, 0, none⟩ 57 _ rfl rfl (u8s l) _ ((cells_of_blk (HV1.out.ext hE)).from_) Try.underlying57 rfl (by rw [Try_size64, u8s_len, HL.out])]; dsimp only; refine ⟨Below.refl _ _, ?_⟩; rfl
          simp only [Act.put, List.setIfInBounds_toArray, List.set_cons_zero, List.set_cons_succ]
          refine wpParts_det (by rfl) (fun W hE hN => ?_) ?_
          · unfold Gives; rw [exec_neq_bytes W 57 5 _ 64 _ _ rfl Try.underlying57 Try.underlying5 Try_sizeU8 Try_guard64 (blkOf ⟨g, a⟩) l rfl rfl (blkOf_len _) HL.out, HEQ.out]; dsimp only; refine ⟨Below.refl _ _, ?_⟩; rfl
          simp only [Act.put, List.setIfInBounds_toArray, List.set_cons_zero, List.set_cons_succ]
          refine wpParts_det (by rfl) (fun W hE hN => ?_) ?_
          · go_simp; refine ⟨Below.refl _ _, ?_⟩; rfl
          simp only [Act.put, List.setIfInBounds_toArray, List.set_cons_zero, List.set_cons_succ]
          refine wpParts_end fun W2 hE2 hG2 => ?_
          have hcW2 := fun b o h => hE2.cell (p := ⟨b, o, none⟩) h
          have hfW2 := fun b o h => hE2.frozen (p := ⟨b, o, none⟩) h
          have q52 := (HV5.out.ext hE2).cells
          have l52 := (HV5.out.ext hE2).lt
          have HV22 := Lib.hid (HV2.out.ext hE2)
          have m22 := HV22.out.marks
          have q22 := HV22.out.cells
          have l22 := HV22.out.lt
          have BEL2 := Lib.hid (BELV.out.trans (hE2.mono BELV.out.size))
          clear hE2 hG2 hcW2 hfW2 q5 l5 l1 c0
          go_wp2_with fail
          have c2 := ((HV22.out.set 0 (.int .u64 (g : Int))).set 1 (.int .i64 (a : Int))).cells
          refine bodyPost_ret (v := .tuple #[.agg #[.int .u64 (g : Int), .int .i64 (a : Int)], .bool true]) (by simp [results, Try.results39, go_sem, c2]) rfl ⟨by simp [saysOf, HVV.out, HG.out, HA.out], (by repeat (first | (with_reducible exact Below.refl _ _) | (with_reducible exact Below.refl _ _) | (with_reducible refine Below.setCell ?_ (by first | omega | (simp; done) | (simp; omega)) _) | (with_reducible refine Below.alloc ?_ (by first | omega | (simp; done) | (simp; omega)) _) | (with_reducible refine Below.drew ?_) | (with_reducible refine below_drewN ?_ _) | (with_reducible refine Below.trans ?_ (BEL2.out.mono (by first | omega | (simp; done) | (simp; omega))))))⟩
      | false =>
        rw [hv] at heq
        have HEQ := Lib.hid heq.symm
        have HVV := Lib.hid hv
        clear heq hv
        refine' wp_region_seq [.inl _, .inl _, .inl _, .inl _, .inl _, .inl _, .inl _, .inl _, .inl _] (by kernel_rfl) (by kernel_rfl) ?main3
        case main3 =>
          refine wpParts_det (by rfl) (fun W hE hN => ?_) ?_
          · go_simp; refine ⟨Below.refl _ _, ?_⟩; rfl
          simp only [Act.put, List.setIfInBounds_toArray, List.set_cons_zero, List.set_cons_succ]
          refine wpParts_det (by rfl) (fun W hE hN => ?_) ?_
          · have hc := fun b o h => hE.cell (p := ⟨b, o, none⟩) h
            go_simp; refine ⟨Below.refl _ _, ?_⟩; rfl
          simp only [Act.put, List.setIfInBounds_toArray, List.set_cons_zero, List.set_cons_succ]
          refine wpParts_det (by rfl) (fun W hE hN => ?_) ?_
          · go_simp; refine ⟨Below.refl _ _, ?_⟩; rfl
          simp only [Act.put, List.setIfInBounds_toArray, List.set_cons_zero, List.set_cons_succ]
          refine wpParts_det (by rfl) (fun W hE hN => ?_) ?_
          · go_simp; refine ⟨Below.refl _ _, ?_⟩; rfl
          simp only [Act.put, List.setIfInBounds_toArray, List.set_cons_zero, List.set_cons_succ]
          refine wpParts_det (by rfl) (fun W hE hN => ?_) ?_
          · have hc := fun b o h => hE.cell (p := ⟨b, o, none⟩) h
            go_simp; refine ⟨Below.refl _ _, ?_⟩; rfl
          simp only [Act.put, List.setIfInBounds_toArray, List.set_cons_zero, List.set_cons_succ]
          refine wpParts_det (by rfl) (fun W hE hN => ?_) ?_
          · go_simp; refine ⟨Below.refl _ _, ?_⟩; refine (Try_Block ⟨g, a⟩ HH.out W).mono ?_; rintro e w' ⟨rfl, hb⟩; refine ⟨?_, hb⟩; rfl
          simp only [Act.put, List.setIfInBounds_toArray, List.set_cons_zero, List.set_cons_succ]
          refine wpParts_det (by rfl) (fun W hE hN => ?_) ?_
          · unfold Gives; rw [exec_load_cells W ⟨w.heap.size, 0, none⟩ 57 _ rfl rfl (u8s l) _ ((cells_of_blk (HV1.out.ext hE)).from_) Try.underlying57 rfl (by rw [Try_size64, u8s_len, HL.out])]; dsimp only; refine ⟨Below.refl _ _, ?_⟩; rfl
          simp only [Act.put, List.setIfInBounds_toArray, List.set_cons_zero, List.set_cons_succ]
          refine wpParts_det (by rfl) (fun W hE hN => ?_) ?_
          · unfold Gives; rw [exec_neq_bytes W 57 5 _ 64 _ _ rfl Try.underlying57 Try.underlying5 Try_sizeU8 Try_guard64 (blkOf ⟨g, a⟩) l rfl rfl (blkOf_len _) HL.out, HEQ.out]; dsimp only; refine ⟨Below.refl _ _, ?_⟩; rfl
          simp only [Act.put, List.setIfInBounds_toArray, List.set_cons_zero, List.set_cons_succ]
          refine wpParts_det (by rfl) (fun W hE hN => ?_) ?_
          · go_simp; refine ⟨Below.refl _ _, ?_⟩; rfl
          simp only [Act.put, List.setIfInBounds_toArray, List.set_cons_zero, List.set_cons_succ]
          refine wpParts_end fun W2 hE2 hG2 => ?_
          have hcW2 := fun b o h => hE2.cell (p := ⟨b, o, none⟩) h
          have hfW2 := fun b o h => hE2.frozen (p := ⟨b, o, none⟩) h
          have q52 := (HV5.out.ext hE2).cells
          have l52 := (HV5.out.ext hE2).lt
          have HV22 := Lib.hid (HV2.out.ext hE2)
          have m22 := HV22.out.marks
          have q22 := HV22.out.cells
          have l22 := HV22.out.lt
          have BEL2 := Lib.hid (BELV.out.trans (hE2.mono BELV.out.size))
          clear hE2 hG2 hcW2 hfW2 q5 l5 l1 c0
          go_wp2_with fail
          have c2 := ((HV22.out.set 0 (.int .u64 0)).set 1 (.int .i64 0)).cells
          refine bodyPost_ret (v := .tuple #[.agg #[.int .u64 0, .int .i64 0], .bool false]) (by simp [results, Try.results39, go_sem, c2]) rfl ⟨by simp [saysOf, HVV.out], (by repeat (first | (with_reducible exact Below.refl _ _) | (with_reducible exact Below.refl _ _) | (with_reducible refine Below.setCell ?_ (by first | omega | (simp; done) | (simp; omega)) _) | (with_reducible refine Below.alloc ?_ (by first | omega | (simp; done) | (simp; omega)) _) | (with_reducible refine Below.drew ?_) | (with_reducible refine below_drewN ?_ _) | (with_reducible refine Below.trans ?_ (BEL2.out.mono (by first | omega | (simp; done) | (simp; omega))))))⟩
    · have hne : ((b0.toNat : Int) != 1) = true := by
        simp
        intro h
        exact h1 (by rw [← UInt8.toNat_inj]; exact_mod_cast h)
      have hv : isOf l = false := by
        cases hv : isOf l with
        | false => rfl
        | true => have h := isOf_first hv; rw [hb0] at h; exact absurd (Option.some.inj h) h1
      have HVV := Lib.hid hv
      clear h1 hv
      refine' wp_region_seq [.inl _, .inl _, .inl _, .inl _, .inl undef, .inl undef, .inl undef, .inl undef, .inl _] (by kernel_rfl) (by kernel_rfl) ?main4
      case main4 =>
        refine wpParts_det (by rfl) (fun W hE hN => ?_) ?_
        · go_simp; refine ⟨Below.refl _ _, ?_⟩; rfl
        simp only [Act.put, List.setIfInBounds_toArray, List.set_cons_zero, List.set_cons_succ]
        refine wpParts_det (by rfl) (fun W hE hN => ?_) ?_
        · have hc := fun b o h => hE.cell (p := ⟨b, o, none⟩) h
          go_simp; refine ⟨Below.refl _ _, ?_⟩; rfl
        simp only [Act.put, List.setIfInBounds_toArray, List.set_cons_zero, List.set_cons_succ]
        refine wpParts_det (by rfl) (fun W hE hN => ?_) ?_
        · go_simp; refine ⟨Below.refl _ _, ?_⟩; rfl
        simp only [Act.put, List.setIfInBounds_toArray, List.set_cons_zero, List.set_cons_succ]
        refine wpParts_det (by rfl) (fun W hE hN => ?_) ?_
        · go_simp; refine ⟨Below.refl _ _, ?_⟩; rfl
        simp only [Act.put, List.setIfInBounds_toArray, List.set_cons_zero, List.set_cons_succ]
        refine wpParts_skip ?_ ?_
        · rfl
        simp only [Act.put, List.setIfInBounds_toArray, List.set_cons_zero, List.set_cons_succ]
        refine wpParts_skip ?_ ?_
        · rfl
        simp only [Act.put, List.setIfInBounds_toArray, List.set_cons_zero, List.set_cons_succ]
        refine wpParts_skip ?_ ?_
        · rfl
        simp only [Act.put, List.setIfInBounds_toArray, List.set_cons_zero, List.set_cons_succ]
        refine wpParts_skip ?_ ?_
        · rfl
        simp only [Act.put, List.setIfInBounds_toArray, List.set_cons_zero, List.set_cons_succ]
        refine wpParts_det (by rfl) (fun W hE hN => ?_) ?_
        · go_simp; refine ⟨Below.refl _ _, ?_⟩; rfl
        simp only [Act.put, List.setIfInBounds_toArray, List.set_cons_zero, List.set_cons_succ]
        refine wpParts_end fun W2 hE2 hG2 => ?_
        have hcW2 := fun b o h => hE2.cell (p := ⟨b, o, none⟩) h
        have hfW2 := fun b o h => hE2.frozen (p := ⟨b, o, none⟩) h
        have q52 := (HV5.out.ext hE2).cells
        have l52 := (HV5.out.ext hE2).lt
        have HV22 := Lib.hid (HV2.out.ext hE2)
        have m22 := HV22.out.marks
        have q22 := HV22.out.cells
        have l22 := HV22.out.lt
        have BEL2 := Lib.hid (BELV.out.trans (hE2.mono BELV.out.size))
        clear hE2 hG2 hcW2 hfW2 q5 l5 l1 c0
        go_wp2_with fail
        have c2 := ((HV22.out.set 0 (.int .u64 0)).set 1 (.int .i64 0)).cells
        refine bodyPost_ret (v := .tuple #[.agg #[.int .u64 0, .int .i64 0], .bool false]) (by simp [results, Try.results39, go_sem, c2]) rfl ⟨by simp [saysOf, HVV.out], (by repeat (first | (with_reducible exact Below.refl _ _) | (with_reducible exact Below.refl _ _) | (with_reducible refine Below.setCell ?_ (by first | omega | (simp; done) | (simp; omega)) _) | (with_reducible refine Below.alloc ?_ (by first | omega | (simp; done) | (simp; omega)) _) | (with_reducible refine Below.drew ?_) | (with_reducible refine below_drewN ?_ _) | (with_reducible refine Below.trans ?_ (BEL2.out.mono (by first | omega | (simp; done) | (simp; omega))))))⟩
end Go.Proofs.Ytmjmjjakhmeogaa
