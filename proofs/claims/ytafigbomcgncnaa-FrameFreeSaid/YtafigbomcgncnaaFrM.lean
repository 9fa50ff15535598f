/-
  Layer 11: Get of a wrong file; Size.
-/
import Derived.Test.YtafigbomcgncnaaFrL
namespace Go.Dav
set_option linter.unusedVariables false
set_option linter.unusedSimpArgs false
open Go Go.RowKit
def FileD.fsize (F : FileD) (n : Int) : Nat := if F.right = true ∧ 1 ≤ n ∧ n ≤ 4096 then (pieceOf F.all (List.replicate (6 + n.toNat) 0)).length else 0
theorem layOn_len_eq (n : Nat) : ∀ (cs ds b0 b1 : List UInt8), cs.length = ds.length → b0.length = b1.length → (layOn n b0 cs).length = (layOn n b1 ds).length := fun cs => by
  induction cs with
  | nil => intro ds b0 b1 h h1; cases ds with
    | nil => exact h1
    | cons d ds => cases h
  | cons c cs ih => intro ds b0 b1 h h1; cases ds with
    | nil => cases h
    | cons d ds =>
      show (layOn n (putByte n b0 c) cs).length = (layOn n (putByte n b1 d) ds).length
      refine ih ds _ _ (by simpa using h) ?_
      unfold putByte padByte
      rw [h1]
      split <;> simp [h1]
theorem pieceOf_len_eq (l : List UInt8) {cs ds : List UInt8} (h : cs.length = ds.length) : (pieceOf l cs).length = (pieceOf l ds).length := layOn_len_eq _ _ _ _ _ h rfl
end Go.Dav
namespace Go.Proofs.Ytafigbomcgncnaa
set_option linter.unusedVariables false
set_option linter.unusedSimpArgs false
open Go.RowKit Go.Dav Go.Shelf
attribute [local go_sem] Gives ite_val ite_val_true Oper.semAt_some

set_option maxRecDepth 100000 in
set_option maxHeartbeats 8000000 in
theorem Try_Get_no (F : FileD) (fa la : Option Addr) (fl fc ll lc : Nat) (at_ : Int) (w : World) (hF : FileAt w fa fl fc la ll lc F) (hr : F.right = false) :
    Calls Try.prog 10 #[.agg #[.slice fa fl fc, .slice la ll lc, .int .i64 F.fuse, .int .i64 F.fault, .bool F.off], .int .i64 at_] w fun e w' => e = .returned (.tuple #[.slice none 0 0, .int .i64 0, .int .i64 200]) ∧ Below w.heap.size w w' := by
  have hW : Below w.heap.size w (w.alloc (.cells [.slice fa fl fc, .slice la ll lc, .int .i64 F.fuse, .int .i64 F.fault, .bool F.off].toArray 25)) := (by repeat (first | (with_reducible exact Below.refl _ _) | (with_reducible exact Below.refl _ _) | (with_reducible refine Below.setCell ?_ (by first | omega | (simp; done) | (simp; omega)) _) | (with_reducible refine Below.alloc ?_ (by first | omega | (simp; done) | (simp; omega)) _) | (with_reducible refine Below.drew ?_) | (with_reducible refine below_drewN ?_ _)))
  have HB0 := Lib.hid (Blk.new w [.slice fa fl fc, .slice la ll lc, .int .i64 F.fuse, .int .i64 F.fault, .bool F.off] 25)
  have HF0 := Lib.hid (hF.ext hW)
  have HW := Lib.hid hW
  have hC := Try_Check F fa la fl fc ll lc _ HF0.out
  rw [show F.err = 200 by unfold FileD.err; rw [if_neg (by rw [hr]; decide)]] at hC
  have HC := Lib.hid hC
  clear hF hW hr hC
  go_enter Try.func10, Try.ntmps10
  go_wp2_with fail
  go_step3
  go_wp2_with fail
  refine HC.out.mono ?_; rintro e w1 ⟨rfl, hb1⟩
  have BEL1 := Lib.hid (HW.out.trans (hb1.mono HW.out.size))
  clear hb1 HB0 HF0 HW HC
  go_wp2_with fail
  rw [Exit.noGoto_ret]
  refine bodyPost_ret (v := .tuple #[.slice none 0 0, .int .i64 0, .int .i64 200]) (by simp [results, Try.results10, go_sem]) rfl ⟨rfl, BEL1.out⟩

theorem Try_mayI (n : Int) (w : World) : Calls Try.prog 30 #[.int .i64 n] w fun e w' => e = .returned (.bool (decide (1 ≤ n) && decide (n ≤ 4096))) ∧ Below w.heap.size w w' := by
  by_cases h1 : 1 ≤ n
  · by_cases h2 : n ≤ 4096
    · have HV := Lib.hid (show (decide (1 ≤ n) && decide (n ≤ 4096)) = true by simp [h1, h2])
      go_enter Try.func30, Try.ntmps30
      go_wp2
      go_ret
      exact ⟨by first | (rw [HV.out]; rfl) | simp [h1, h2], Below.refl _ _⟩
    · have HV := Lib.hid (show (decide (1 ≤ n) && decide (n ≤ 4096)) = false by simp [h2])
      go_enter Try.func30, Try.ntmps30
      go_wp2
      go_ret
      exact ⟨by first | (rw [HV.out]; rfl) | simp [h2], Below.refl _ _⟩
  · have HV := Lib.hid (show (decide (1 ≤ n) && decide (n ≤ 4096)) = false by simp [h1])
    go_enter Try.func30, Try.ntmps30
    go_wp2
    go_ret
    exact ⟨by first | (rw [HV.out]; rfl) | simp [h1], Below.refl _ _⟩
theorem Try_zeroS (n : Nat) (W : World) (hn : n ≤ 1048576) : BytesS (W.alloc (.cells (u8s (List.replicate n 0)).toArray 5)) (fun _ => True) (some ⟨W.heap.size, 0, none⟩) n n (List.replicate n 0) := by
  have h := cells_of_blk' (Blk.new W (u8s (List.replicate n 0)) 5)
  rw [List.length_replicate] at h
  exact BytesS.of_cells (h.mono fun _ _ => trivial) (Nat.le_refl _) (by unfold maxLen; omega) (by omega) (fun e => by cases e)

set_option maxRecDepth 100000 in
set_option maxHeartbeats 8000000 in
theorem Try_Size (F : FileD) (fa la : Option Addr) (fl fc ll lc : Nat) (n : Int) (w : World) (S : Nat → Prop) (hF : FileS w S fa fl fc la ll lc F) (hS : ∀ b, S b → b < w.heap.size) (hn : I64' n) :
    Calls Try.prog 17 #[.agg #[.slice fa fl fc, .slice la ll lc, .int .i64 F.fuse, .int .i64 F.fault, .bool F.off], .int .i64 n] w fun e w' => e = .returned (.int .i64 (F.fsize n : Int)) ∧ Below w.heap.size w w' := by
  have hW : Below w.heap.size w (w.alloc (.cells [.slice fa fl fc, .slice la ll lc, .int .i64 F.fuse, .int .i64 F.fault, .bool F.off].toArray 25)) := (by repeat (first | (with_reducible exact Below.refl _ _) | (with_reducible exact Below.refl _ _) | (with_reducible refine Below.setCell ?_ (by first | omega | (simp; done) | (simp; omega)) _) | (with_reducible refine Below.alloc ?_ (by first | omega | (simp; done) | (simp; omega)) _) | (with_reducible refine Below.drew ?_) | (with_reducible refine below_drewN ?_ _)))
  have HB0 := Lib.hid (Blk.new w [.slice fa fl fc, .slice la ll lc, .int .i64 F.fuse, .int .i64 F.fault, .bool F.off] 25)
  have HF0 := Lib.hid (hF.ext hW)
  have HW := Lib.hid hW
  have HSS := Lib.hid hS
  have hC := Try_Check F fa la fl fc ll lc _ HF0.out.at_
  cases hr : F.right with
  | false =>
    rw [show F.err = 200 by unfold FileD.err; rw [if_neg (by rw [hr]; decide)]] at hC
    have HV := Lib.hid (show F.fsize n = 0 by unfold FileD.fsize; rw [if_neg (fun h => by rw [hr] at h; cases h.1)])
    have HC := Lib.hid hC
    clear hF hW hS hC hr
    go_enter Try.func17, Try.ntmps17
    go_wp2_with fail
    refine HC.out.mono ?_; rintro e w1 ⟨rfl, hb1⟩
    have BEL1 := Lib.hid (HW.out.trans (hb1.mono HW.out.size))
    clear hb1 HC
    go_wp2
    go_ret
    exact ⟨by rw [HV.out]; rfl, BEL1.out⟩
  | true =>
    rw [show F.err = 0 by unfold FileD.err; rw [if_pos hr]] at hC
    have HC := Lib.hid hC
    have HR := Lib.hid hr
    have HN := Lib.hid hn
    clear hF hW hS hC hr hn
    go_enter Try.func17, Try.ntmps17
    go_wp2_with fail
    refine HC.out.mono ?_; rintro e w1 ⟨rfl, hb1⟩
    have BEL1 := Lib.hid (HW.out.trans (hb1.mono HW.out.size))
    have HF1 := Lib.hid (HF0.out.ext hb1)
    have HB1 := Lib.hid (HB0.out.ext hb1)
    clear hb1 HC HF0 HB0
    go_wp2_with fail
    refine (Try_mayI n w1).mono ?_; rintro e w2 ⟨rfl, hb2⟩
    have BEL2 := Lib.hid (BEL1.out.trans (hb2.mono BEL1.out.size))
    have HF2 := Lib.hid (HF1.out.ext hb2)
    have HB2 := Lib.hid (HB1.out.ext hb2)
    have hs2 : w.heap.size < w2.heap.size := HB2.out.lt
    have q := HB2.out.cells
    have l := HB2.out.lt
    clear hb2 HF1 HB1 BEL1
    by_cases hm : 1 ≤ n ∧ n ≤ 4096
    · rw [show (decide (1 ≤ n) && decide (n ≤ 4096)) = true by simp [hm]]
      obtain ⟨k, rfl⟩ : ∃ k : Nat, n = (k : Int) := ⟨n.toNat, by omega⟩
      have hk : k ≤ 4096 := by omega
      have e1 : IntKind.i64.wrap (6 + (k : Int)) = 6 + (k : Int) := IntWalk.i64_in _ (by omega)
      have HV := Lib.hid (show F.fsize (k : Int) = (pieceOf F.all (List.replicate (6 + k) 0)).length by unfold FileD.fsize; rw [if_pos ⟨HR.out, hm⟩, Int.toNat_natCast])
      have HZ := Lib.hid (show ∀ W, (Instr.makeSlice 22 (.int .i64 (6 + (k : Int))) (.int .i64 (6 + (k : Int)))).run Try.prog W = .ok (.slice (some ⟨W.heap.size, 0, none⟩) (6 + k) (6 + k)) (W.alloc (.cells (u8s (List.replicate (6 + k) 0)).toArray 5)) from fun W => by
        have h := Try_makeZ (6 + k) (by omega) W
        rw [show ((6 + k : Nat) : Int) = 6 + (k : Int) by omega] at h; exact h)
      have HPC := Lib.hid (fun W (T : Nat → Prop) ca cl cc (h : FileS W S fa fl fc la ll lc F) (h2 : ∀ b, S b → b < W.heap.size) (h3 : BytesS W T ca cl cc (List.replicate (6 + k) 0)) (h4 : ∀ b, T b → b < W.heap.size) => Try_piece F fa la ca fl fc ll lc cl cc (List.replicate (6 + k) 0) W S T h h2 HR.out h3 h4 (by rw [← h3.at_.hlen, List.length_replicate]; omega))
      have HXL := Lib.hid (pieceOf_len (F := F) (List.replicate (6 + k) 0) (by rw [List.length_replicate]; omega))
      obtain ⟨x, hx⟩ : ∃ x, pieceOf F.all (List.replicate (6 + k) 0) = x := ⟨_, rfl⟩
      obtain ⟨pl, hpl⟩ : ∃ z, placeOf F.all (List.replicate (6 + k) 0) = z := ⟨_, rfl⟩
      rw [hx] at HV HXL
      have HX := Lib.hid hx
      have HPL := Lib.hid hpl
      clear hm hx hpl
      go_wp2_with fail
      refine' wp_region_seq [.inl _, .inl _, .inl _, .inr (AnyRow1 (List.replicate (6 + k) 0)), .inr (PieceTup x pl), .inr (PieceTup x pl), .inr (AnyRow1 x), .inl _, .inr (AnyRow1 x), .inl _] (by kernel_rfl) (by kernel_rfl) ?main1
      case main1 =>
        refine wpParts_det (by rfl) (fun W hE hN => ?_) ?_
        · have hc := fun b o h => hE.cell (p := ⟨b, o, none⟩) h
          go_simp; refine ⟨Below.refl _ _, ?_⟩; rfl
        simp only [Act.put, List.setIfInBounds_toArray, List.set_cons_zero, List.set_cons_succ]
        refine wpParts_det (by rfl) (fun W hE hN => ?_) ?_
        · go_simp; refine ⟨Below.refl _ _, ?_⟩; rfl
        simp only [Act.put, List.setIfInBounds_toArray, List.set_cons_zero, List.set_cons_succ]
        refine wpParts_det (by rfl) (fun W hE hN => ?_) ?_
        · go_simp; refine ⟨Below.refl _ _, ?_⟩; rfl
        simp only [Act.put, List.setIfInBounds_toArray, List.set_cons_zero, List.set_cons_succ]
        refine wpParts_any rfl (AnyRow1.later) (by rfl) (fun W hE hN => ?_) (fun u3 => ?_)
        · have kz := HZ.out W; go_simp; exact ⟨(by repeat (first | (with_reducible exact Below.refl _ _) | (with_reducible exact Below.refl _ _) | (with_reducible refine Below.setCell ?_ (by first | omega | (simp; done) | (simp; omega)) _) | (with_reducible refine Below.alloc ?_ (by first | omega | (simp; done) | (simp; omega)) _) | (with_reducible refine Below.drew ?_) | (with_reducible refine below_drewN ?_ _))), _, _, _, rfl, Try_zeroS (6 + k) W (by omega)⟩
        simp only [Act.put, List.setIfInBounds_toArray, List.set_cons_zero, List.set_cons_succ]
        refine wpParts_any rfl (PieceTup.later) (by rfl) (fun W hE hN => ?_) (fun u4 => ?_)
        · simp [near, Oper.looksAt, Op.operands, Call.operands] at hN; obtain ⟨ca, cl, cc, rfl, hB⟩ := hN; go_simp; refine ⟨Below.refl _ _, ?_⟩; have hA := HPC.out W _ ca cl cc (HF2.out.ext hE) (fun b h => by have := HSS.out b h; have := hE.size; omega) hB.at_.s (fun b h => h); rw [HX.out, HPL.out] at hA; refine hA.mono ?_; rintro e w' ⟨v, rfl, ho, hb⟩; obtain ⟨ra, rc, rfl, hB2⟩ := own_bytes ho (by have := HXL.out; omega); exact ⟨_, rfl, hb, ra, _, rc, rfl, hB2.mono fun _ _ => trivial⟩
        simp only [Act.put, List.setIfInBounds_toArray, List.set_cons_zero, List.set_cons_succ]
        refine wpParts_any rfl (PieceTup.later) (by rfl) (fun W hE hN => ?_) (fun u5 => ?_)
        · simp [near, Oper.looksAt, Op.operands] at hN; go_simp; exact Below.refl _ _
        simp only [Act.put, List.setIfInBounds_toArray, List.set_cons_zero, List.set_cons_succ]
        refine wpParts_any rfl (AnyRow1.later) (by rfl) (fun W hE hN => ?_) (fun u6 => ?_)
        · simp [near, Oper.looksAt, Op.operands] at hN; obtain ⟨ra, rl, rc, rfl, hR⟩ := hN; go_simp; exact ⟨Below.refl _ _, ra, rl, rc, rfl, hR⟩
        simp only [Act.put, List.setIfInBounds_toArray, List.set_cons_zero, List.set_cons_succ]
        refine wpParts_det (by rfl) (fun W hE hN => ?_) ?_
        · simp [near, Oper.looksAt, Op.operands] at hN; obtain ⟨ra, rl, rc, rfl, hR⟩ := hN; go_simp; refine ⟨Below.refl _ _, ?_⟩; rfl
        simp only [Act.put, List.setIfInBounds_toArray, List.set_cons_zero, List.set_cons_succ]
        refine wpParts_any rfl (AnyRow1.later) (by rfl) (fun W hE hN => ?_) (fun u8 => ?_)
        · simp [near, Oper.looksAt, Op.operands] at hN; go_simp; exact Below.refl _ _
        simp only [Act.put, List.setIfInBounds_toArray, List.set_cons_zero, List.set_cons_succ]
        refine wpParts_det (by rfl) (fun W hE hN => ?_) ?_
        · go_simp; refine ⟨Below.refl _ _, ?_⟩; rfl
        simp only [Act.put, List.setIfInBounds_toArray, List.set_cons_zero, List.set_cons_succ]
        refine wpParts_end fun W6 hE6 hG6 => ?_
        have hcW6 := fun b o h => hE6.cell (p := ⟨b, o, none⟩) h
        have hfW6 := fun b o h => hE6.frozen (p := ⟨b, o, none⟩) h
        obtain ⟨⟨ba, bl, bc, rfl, hB⟩, _⟩ := hG6
        have HV2 := Lib.hid (HV.out.trans hB.at_.hlen)
        have BEL3 := Lib.hid (BEL2.out.trans (hE6.mono BEL2.out.size))
        clear hB hE6 hcW6 hfW6 q l
        go_wp2
        go_ret
        exact ⟨by rw [HV2.out]; rfl, BEL3.out⟩
    · rw [show (decide (1 ≤ n) && decide (n ≤ 4096)) = false by simp; omega]
      have HV := Lib.hid (show F.fsize n = 0 by unfold FileD.fsize; rw [if_neg (fun h => hm h.2)])
      clear hm
      go_wp2
      go_ret
      exact ⟨by rw [HV.out]; rfl, BEL2.out⟩
end Go.Proofs.Ytafigbomcgncnaa
