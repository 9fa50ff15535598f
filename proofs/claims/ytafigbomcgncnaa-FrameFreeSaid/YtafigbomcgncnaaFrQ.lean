/-
  Layer 11, the law's parts: firm, said; a file's bytes as they are read.
-/
import Derived.Test.YtafigbomcgncnaaFrP
namespace Go.Dav
set_option linter.unusedVariables false
set_option linter.unusedSimpArgs false
open Go Go.RowKit
theorem firmS {W : World} {S : Nat → Prop} {a : Option Addr} {n c : Nat} {A : List UInt8} (h : BytesS W S a n c A) : FileS W S a n c none 0 0 (firmF A) := ⟨h, LooseS.nil_, by unfold I64'; simp [firmF], by unfold I64'; simp [firmF]⟩
def OwnV (t B : Nat) (x : List UInt8) (v : Value) (W : World) : Prop := W.ownsRow B t 1 v x.length (u8s x)
theorem OwnV.later {t B : Nat} {x : List UInt8} : ∀ v W W', OwnV t B x v W → Below W.heap.size W W' → OwnV t B x v W' := fun _ _ _ h hb => ownsRow_ext h hb
def ReadTup (t B : Nat) (x : List UInt8) (v : Value) (W : World) : Prop := ∃ v0, v = .tuple #[v0, .int .i64 0] ∧ OwnV t B x v0 W
theorem ReadTup.later {t B : Nat} {x : List UInt8} : ∀ v W W', ReadTup t B x v W → Below W.heap.size W W' → ReadTup t B x v W' := fun _ _ _ ⟨v0, h1, h2⟩ hb => ⟨v0, h1, OwnV.later _ _ _ h2 hb⟩
theorem FileD.fsize_zero (F : FileD) : F.fsize 0 = 0 := by unfold FileD.fsize; rw [if_neg (fun h => by have := h.2.1; omega)]
theorem read_all {F : FileD} (hr : F.right = true) : F.read 0 (F.many : Int) = (F.all, 0) := by
  have h := read_part hr (i := 0) (k := F.many) (by omega)
  rw [List.drop_zero, List.take_of_length_le (by rw [F.all_length]; exact Nat.le_refl _)] at h
  exact h
end Go.Dav
namespace Go.Proofs.Ytafigbomcgncnaa
set_option linter.unusedVariables false
set_option linter.unusedSimpArgs false
open Go.RowKit Go.Dav
attribute [local go_sem] Gives ite_val ite_val_true

theorem Try_firm (a : Option Addr) (n c : Nat) (w : World) : Calls Try.prog 22 #[.slice a n c] w fun e w' => e = .returned (.agg #[.slice a n c, .slice none 0 0, .int .i64 (-1), .int .i64 (-1), .bool false]) ∧ Below w.heap.size w w' := by
  go_enter Try.func22, Try.ntmps22
  go_wp2
  refine bodyPost_ret (v := .agg #[.slice a n c, .slice none 0 0, .int .i64 (-1), .int .i64 (-1), .bool false]) (by simp [results, Try.results22, go_sem]) rfl ⟨rfl, (by repeat (first | (with_reducible exact Below.refl _ _) | (with_reducible exact Below.refl _ _) | (with_reducible refine Below.setCell ?_ (by first | omega | (simp; done) | (simp; omega)) _) | (with_reducible refine Below.alloc ?_ (by first | omega | (simp; done) | (simp; omega)) _) | (with_reducible refine Below.drew ?_) | (with_reducible refine below_drewN ?_ _)))⟩

set_option maxRecDepth 100000 in
set_option maxHeartbeats 8000000 in
theorem Try_said (F : FileD) (fa la : Option Addr) (fl fc ll lc : Nat) (w : World) (S : Nat → Prop) (hF : FileS w S fa fl fc la ll lc F) (hS : ∀ b, S b → b < w.heap.size) (hr : F.right = true) :
    Calls Try.prog 23 #[.agg #[.slice fa fl fc, .slice la ll lc, .int .i64 F.fuse, .int .i64 F.fault, .bool F.off]] w fun e w' => ∃ v, e = .returned v ∧ w'.ownsRow (w.heap.size + 1) 5 1 v F.all.length (u8s F.all) ∧ Below w.heap.size w w' := by
  obtain ⟨W0, hW0⟩ : ∃ W0, w.alloc (.cells [.slice fa fl fc, .slice la ll lc, .int .i64 F.fuse, .int .i64 F.fault, .bool F.off].toArray 25) = W0 := ⟨_, rfl⟩
  have bel0 : Below w.heap.size w W0 := by rw [← hW0]; exact (by repeat (first | (with_reducible exact Below.refl _ _) | (with_reducible exact Below.refl _ _) | (with_reducible refine Below.setCell ?_ (by first | omega | (simp; done) | (simp; omega)) _) | (with_reducible refine Below.alloc ?_ (by first | omega | (simp; done) | (simp; omega)) _) | (with_reducible refine Below.drew ?_) | (with_reducible refine below_drewN ?_ _)))
  have hs0 : W0.heap.size = w.heap.size + 1 := by rw [← hW0]; simp
  have HB1 := Lib.hid (show Blk W0 w.heap.size [.slice fa fl fc, .slice la ll lc, .int .i64 F.fuse, .int .i64 F.fault, .bool F.off] 25 by rw [← hW0]; exact Blk.new w [.slice fa fl fc, .slice la ll lc, .int .i64 F.fuse, .int .i64 F.fault, .bool F.off] _)
  have BEL0 := Lib.hid bel0
  have HF := Lib.hid (hF.ext bel0)
  have HS := Lib.hid hS
  have HR := Lib.hid hr
  have HW0 := Lib.hid hW0
  have hmx := (FileD.right_spec.1 hr).2.2.2.2
  have HRD := Lib.hid (show (F.all.drop 0).take F.many = F.all by rw [List.drop_zero, List.take_of_length_le (by rw [F.all_length]; exact Nat.le_refl _)])
  obtain ⟨m, hm⟩ : ∃ m, F.many = m := ⟨_, rfl⟩
  rw [hm] at hmx HRD
  have HM := Lib.hid hm
  clear hF bel0 hS hr hW0 hm
  go_enter Try.func23, Try.ntmps23
  go_wp2_with fail
  rw [HW0.out]
  have q1 := HB1.out.cells
  have l1 := HB1.out.lt
  refine' wp_region_seq [.inl _, .inl _, .inl _, .inr (ReadTup 5 (w.heap.size + 1) F.all), .inr (ReadTup 5 (w.heap.size + 1) F.all), .inr (OwnV 5 (w.heap.size + 1) F.all), .inl _, .inr (OwnV 5 (w.heap.size + 1) F.all), .inl _] (by kernel_rfl) (by kernel_rfl) ?main1
  case main1 =>
    refine wpParts_det (by rfl) (fun W hE hN => ?_) ?_
    · have hc := fun b o h => hE.cell (p := ⟨b, o, none⟩) h
      go_simp; refine ⟨Below.refl _ _, ?_⟩; rfl
    simp only [Act.put, List.setIfInBounds_toArray, List.set_cons_zero, List.set_cons_succ]
    refine wpParts_det (by rfl) (fun W hE hN => ?_) ?_
    · have hc := fun b o h => hE.cell (p := ⟨b, o, none⟩) h
      go_simp; refine ⟨Below.refl _ _, ?_⟩; rfl
    simp only [Act.put, List.setIfInBounds_toArray, List.set_cons_zero, List.set_cons_succ]
    refine wpParts_det (by rfl) (fun W hE hN => ?_) ?_
    · go_simp; refine ⟨Below.refl _ _, ?_⟩; have hA := Try_Len F fa la fl fc ll lc W (HF.out.ext hE).at_; rw [if_pos HR.out, HM.out] at hA; refine hA.mono ?_; rintro e w' ⟨rfl, hb⟩; refine ⟨?_, hb⟩; rfl
    simp only [Act.put, List.setIfInBounds_toArray, List.set_cons_zero, List.set_cons_succ]
    refine wpParts_any rfl (ReadTup.later) (by rfl) (fun W hE hN => ?_) (fun u3 => ?_)
    · go_simp; refine ⟨Below.refl _ _, ?_⟩; have hA := Try_Read_own F fa la fl fc ll lc 0 m W S (HF.out.ext hE) (fun b h => by have := HS.out b h; have := hE.size; omega) HR.out (by have := HM.out; omega); rw [HRD.out] at hA; refine (show Calls Try.prog 41 #[.agg #[.slice fa fl fc, .slice la ll lc, .int .i64 F.fuse, .int .i64 F.fault, .bool F.off], .int .i64 0, .int .i64 (m : Int)] W _ from hA).mono ?_; rintro e w' ⟨v, rfl, hR, hb⟩; exact ⟨_, rfl, hb, v, rfl, World.ownsRow.mono hR (by have := hE.size; omega)⟩
    simp only [Act.put, List.setIfInBounds_toArray, List.set_cons_zero, List.set_cons_succ]
    refine wpParts_any rfl (ReadTup.later) (by rfl) (fun W hE hN => ?_) (fun u4 => ?_)
    · simp [near, Oper.looksAt, Op.operands] at hN; go_simp; exact Below.refl _ _
    simp only [Act.put, List.setIfInBounds_toArray, List.set_cons_zero, List.set_cons_succ]
    refine wpParts_any rfl (OwnV.later) (by rfl) (fun W hE hN => ?_) (fun u5 => ?_)
    · simp [near, Oper.looksAt, Op.operands] at hN; obtain ⟨v0, rfl, hR⟩ := hN; go_simp; first | exact ⟨Below.refl _ _, hR⟩ | exact Below.refl _ _
    simp only [Act.put, List.setIfInBounds_toArray, List.set_cons_zero, List.set_cons_succ]
    refine wpParts_det (by rfl) (fun W hE hN => ?_) ?_
    · simp [near, Oper.looksAt, Op.operands] at hN; obtain ⟨v0, rfl, hR⟩ := hN; go_simp; refine ⟨Below.refl _ _, ?_⟩; rfl
    simp only [Act.put, List.setIfInBounds_toArray, List.set_cons_zero, List.set_cons_succ]
    refine wpParts_any rfl (OwnV.later) (by rfl) (fun W hE hN => ?_) (fun u7 => ?_)
    · simp [near, Oper.looksAt, Op.operands] at hN; go_simp; exact Below.refl _ _
    simp only [Act.put, List.setIfInBounds_toArray, List.set_cons_zero, List.set_cons_succ]
    refine wpParts_det (by rfl) (fun W hE hN => ?_) ?_
    · go_simp; refine ⟨Below.refl _ _, ?_⟩; rfl
    simp only [Act.put, List.setIfInBounds_toArray, List.set_cons_zero, List.set_cons_succ]
    refine wpParts_end fun W6 hE6 hG6 => ?_
    have hcW6 := fun b o h => hE6.cell (p := ⟨b, o, none⟩) h
    have hfW6 := fun b o h => hE6.frozen (p := ⟨b, o, none⟩) h
    obtain ⟨hB, _⟩ := hG6
    have HB := Lib.hid (show W6.ownsRow (w.heap.size + 1) 5 1 _ F.all.length (u8s F.all) from hB)
    have BEL6 := Lib.hid (BEL0.out.trans (hE6.mono BEL0.out.size))
    clear hB hE6 hcW6 hfW6 q1 l1
    go_wp2
    go_ret
    exact ⟨_, rfl, HB.out, BEL6.out⟩
end Go.Proofs.Ytafigbomcgncnaa
