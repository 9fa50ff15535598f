/-
  Layer 10: Read, walked.
-/
import Derived.Test.YtafigbomcgncnaaFilQ
import Derived.Test.YtafigbomcgncnaaFilO
import Derived.Test.YtafigbomcgncnaaFreeIn
namespace Go.Dav
set_option linter.unusedVariables false
set_option linter.unusedSimpArgs false
open Go Go.RowKit

/-- What 'Read' answers. -/
def FileD.read (F : FileD) (at_ n : Int) : List UInt8 × Int :=
  if F.right = true then (if at_ < 0 ∨ n < 0 then ([], 2) else if (F.many : Int) - at_ < n then ([], 6) else ((F.all.drop at_.toNat).take n.toNat, 0)) else ([], 200)
def GivesRead (w : World) (x : List UInt8) (err : Int) (e : Ending) (w' : World) : Prop :=
  ∃ a n c, e = .returned (.tuple #[.slice a n c, .int .i64 err]) ∧ BytesS w' (fun b => w.heap.size ≤ b) a n c x ∧ Below w.heap.size w w'

theorem wpIn_region_seqW {P : Program} {n id : Nat} {l : List Oper} {Q : Exit → Act → World → Prop} {a : Act} {w : World} (F : List Nat) (ps : List Piece) (hm : P.follows .mixedOrders = true) (hB : partsFB l.toArray ps.length F = true)
    (h : wpParts P l.toArray w (noPanic Q) l ps [] a) : (Code.region id l.toArray true).wpIn Fence.wide n P Q a w :=
  wpIn_wide.2 (wp_region_seqF F ps hm hB h)
end Go.Dav
namespace Go.Proofs.Ytafigbomcgncnaa
set_option linter.unusedVariables false
set_option linter.unusedSimpArgs false
open Go.RowKit Go.Dav Go.Shelf
attribute [local go_sem] Gives ite_val ite_val_true Oper.semAt_some

set_option maxRecDepth 100000 in
set_option maxHeartbeats 4000000 in
theorem Try_Read_no (F : FileD) (fa la : Option Addr) (fl fc ll lc : Nat) (at_ n : Int) (w : World) (hF : FileAt w fa fl fc la ll lc F) (h1 : I64' at_) (h2 : I64' n) (hne : (F.read at_ n).2 ≠ 0) :
    Calls Try.prog 41 #[.agg #[.slice fa fl fc, .slice la ll lc, .int .i64 F.fuse, .int .i64 F.fault, .bool F.off], .int .i64 at_, .int .i64 n] w (GivesRead w (F.read at_ n).1 (F.read at_ n).2) := by
  have hW : Below w.heap.size w (((w.alloc (.cells [.slice fa fl fc, .slice la ll lc, .int .i64 F.fuse, .int .i64 F.fault, .bool F.off].toArray 25)).alloc (.cells #[.int .i64 at_] 3)).alloc (.cells #[.int .i64 n] 3)) := (by repeat (first | (with_reducible exact Below.refl _ _) | (with_reducible exact Below.refl _ _) | (with_reducible refine Below.setCell ?_ (by first | omega | (simp; done) | (simp; omega)) _) | (with_reducible refine Below.alloc ?_ (by first | omega | (simp; done) | (simp; omega)) _) | (with_reducible refine Below.drew ?_) | (with_reducible refine below_drewN ?_ _)))
  have HF := Lib.hid (hF.ext hW)
  have HB1 := Lib.hid (((Blk.new w [.slice fa fl fc, .slice la ll lc, .int .i64 F.fuse, .int .i64 F.fault, .bool F.off] 25).alloc (.cells #[.int .i64 at_] 3)).alloc (.cells #[.int .i64 n] 3))
  have HB2 := Lib.hid ((Blk.new' (w.alloc (.cells [.slice fa fl fc, .slice la ll lc, .int .i64 F.fuse, .int .i64 F.fault, .bool F.off].toArray 25)) [.int .i64 at_] 3 (p := w.heap.size + 1) (by simp)).alloc (.cells #[.int .i64 n] 3))
  have HB3 := Lib.hid (Blk.new' ((w.alloc (.cells [.slice fa fl fc, .slice la ll lc, .int .i64 F.fuse, .int .i64 F.fault, .bool F.off].toArray 25)).alloc (.cells #[.int .i64 at_] 3)) [.int .i64 n] 3 (p := w.heap.size + 1 + 1) (by simp))
  have hC := Try_Check F fa la fl fc ll lc _ (hF.ext hW)
  obtain ⟨h1a, h1b⟩ := h1
  obtain ⟨h2a, h2b⟩ := h2
  have HNE := Lib.hid hne
  clear hF hW hne
  cases hr : F.right with
  | false =>
    rw [FileD.err_wrong hr] at hC
    have HV := Lib.hid (show F.read at_ n = ([], 200) by unfold FileD.read; rw [if_neg (by rw [hr]; decide)])
    have HC := Lib.hid hC
    clear hC hr
    go_enter Try.func41, Try.ntmps41
    go_wp2_with fail
    go_step3
    go_wp2_with fail
    refine HC.out.mono ?_; rintro e w1 ⟨rfl, hb1⟩
    have bel : Below w.heap.size w w1 := (by repeat (first | (with_reducible exact Below.refl _ _) | (with_reducible exact Below.refl _ _) | (with_reducible refine Below.setCell ?_ (by first | omega | (simp; done) | (simp; omega)) _) | (with_reducible refine Below.alloc ?_ (by first | omega | (simp; done) | (simp; omega)) _) | (with_reducible refine Below.drew ?_) | (with_reducible refine below_drewN ?_ _) | (with_reducible refine Below.trans ?_ (hb1.mono (by first | omega | (simp; done) | (simp; omega))))))
    clear hb1
    go_wp2_with fail
    rw [Exit.noGoto_ret]
    go_ret2
    rw [HV.out]
    exact ⟨none, 0, 0, rfl, BytesS.nil_, bel⟩
  | true =>
    rw [FileD.err_right hr] at hC
    have HC := Lib.hid hC
    have HR := Lib.hid hr
    clear hC
    go_enter Try.func41, Try.ntmps41
    go_wp2_with fail
    go_step3
    go_wp2_with fail
    refine HC.out.mono ?_; rintro e w1 ⟨rfl, hb1⟩
    have s1 := hb1.size
    simp only [World.size_alloc] at s1
    have B1 := HB1.out.ext hb1
    have B2 := HB2.out.ext hb1
    have B3 := HB3.out.ext hb1
    have q1 := B1.cells
    have q2 := B2.cells
    have q3 := B3.cells
    have m1 := B1.marks
    have m2 := B2.marks
    have m3 := B3.marks
    have l1 := B1.lt
    have l2 := B2.lt
    have l3 := B3.lt
    have bel : Below w.heap.size w w1 := (by repeat (first | (with_reducible exact Below.refl _ _) | (with_reducible exact Below.refl _ _) | (with_reducible refine Below.setCell ?_ (by first | omega | (simp; done) | (simp; omega)) _) | (with_reducible refine Below.alloc ?_ (by first | omega | (simp; done) | (simp; omega)) _) | (with_reducible refine Below.drew ?_) | (with_reducible refine below_drewN ?_ _) | (with_reducible refine Below.trans ?_ (hb1.mono (by first | omega | (simp; done) | (simp; omega))))))
    have HF1 := Lib.hid (HF.out.ext hb1)
    clear hb1 B1 B2 B3
    by_cases g1 : at_ < 0
    · have HV := Lib.hid (show F.read at_ n = ([], 2) by unfold FileD.read; rw [if_pos hr, if_pos (.inl g1)])
      clear hr
      go_wp2_with fail
      rw [Exit.noGoto_ret]
      go_ret2
      rw [HV.out]
      exact ⟨none, 0, 0, rfl, BytesS.nil_, (by repeat (first | (with_reducible exact Below.refl _ _) | (with_reducible exact Below.refl _ _) | (with_reducible refine Below.setCell ?_ (by first | omega | (simp; done) | (simp; omega)) _) | (with_reducible refine Below.alloc ?_ (by first | omega | (simp; done) | (simp; omega)) _) | (with_reducible refine Below.drew ?_) | (with_reducible refine below_drewN ?_ _) | (with_reducible refine Below.trans ?_ (bel.mono (by first | omega | (simp; done) | (simp; omega))))))⟩
    · by_cases g2 : n < 0
      · have HV := Lib.hid (show F.read at_ n = ([], 2) by unfold FileD.read; rw [if_pos hr, if_pos (.inr g2)])
        clear hr
        go_wp2_with fail
        rw [Exit.noGoto_ret]
        go_ret2
        rw [HV.out]
        exact ⟨none, 0, 0, rfl, BytesS.nil_, (by repeat (first | (with_reducible exact Below.refl _ _) | (with_reducible exact Below.refl _ _) | (with_reducible refine Below.setCell ?_ (by first | omega | (simp; done) | (simp; omega)) _) | (with_reducible refine Below.alloc ?_ (by first | omega | (simp; done) | (simp; omega)) _) | (with_reducible refine Below.drew ?_) | (with_reducible refine below_drewN ?_ _) | (with_reducible refine Below.trans ?_ (bel.mono (by first | omega | (simp; done) | (simp; omega))))))⟩
      · have hmx := (FileD.right_spec.1 hr).2.2.2.2
        obtain ⟨m, hm⟩ : ∃ m, F.many = m := ⟨_, rfl⟩
        have g3 : (m : Int) - at_ < n := by
          apply Classical.byContradiction
          intro h
          refine HNE.out ?_
          unfold FileD.read
          rw [if_pos hr, if_neg (by omega), if_neg (by rw [hm]; exact h)]
        have HV := Lib.hid (show F.read at_ n = ([], 6) by unfold FileD.read; rw [if_pos hr, if_neg (by omega), if_pos (by rw [hm]; exact g3)])
        have HM := Lib.hid hm
        rw [hm] at hmx
        have hmx' : (m : Int) ≤ 524288 := by omega
        have HL := Lib.hid (FileD.len_right hr)
        clear hr hm
        have HC6 := Lib.hid (Try_length F fa la fl fc ll lc)
        go_wp2_with fail
        refine' wp_region_seq [.inl _, .inl _, .inl _, .inl _, .inl _, .inl _] (by kernel_rfl) (by kernel_rfl) ?main1
        case main1 =>
          refine wpParts_det (by rfl) (fun W hE hN => ?_) ?_
          · have hc := fun b o h => hE.cell (p := ⟨b, o, none⟩) h
            go_simp; refine ⟨Below.refl _ _, ?_⟩; rfl
          simp only [Act.put, List.setIfInBounds_toArray, List.set_cons_zero, List.set_cons_succ]
          refine wpParts_det (by rfl) (fun W hE hN => ?_) ?_
          · have hc := fun b o h => hE.cell (p := ⟨b, o, none⟩) h
            go_simp; refine ⟨Below.refl _ _, ?_⟩; rfl
          simp only [Act.put, List.setIfInBounds_toArray, List.set_cons_zero, List.set_cons_succ]
          refine wpParts_det (by rfl) (fun W hE hN => ?_) ?_
          · go_simp; refine ⟨Below.refl _ _, ?_⟩; refine ((HL.out.trans (congrArg Nat.cast HM.out)) ▸ HC6.out _ (HF1.out.ext hE)).mono ?_; rintro e w' ⟨rfl, hb⟩; refine ⟨?_, hb⟩; rfl
          simp only [Act.put, List.setIfInBounds_toArray, List.set_cons_zero, List.set_cons_succ]
          refine wpParts_det (by rfl) (fun W hE hN => ?_) ?_
          · have hc := fun b o h => hE.cell (p := ⟨b, o, none⟩) h
            go_simp; refine ⟨Below.refl _ _, ?_⟩; rfl
          simp only [Act.put, List.setIfInBounds_toArray, List.set_cons_zero, List.set_cons_succ]
          refine wpParts_det (by rfl) (fun W hE hN => ?_) ?_
          · go_simp; refine ⟨Below.refl _ _, ?_⟩; rfl
          simp only [Act.put, List.setIfInBounds_toArray, List.set_cons_zero, List.set_cons_succ]
          refine wpParts_det (by rfl) (fun W hE hN => ?_) ?_
          · go_simp; refine ⟨Below.refl _ _, ?_⟩; rfl
          simp only [Act.put, List.setIfInBounds_toArray, List.set_cons_zero, List.set_cons_succ]
          refine wpParts_end fun W2 hE2 hG2 => ?_
          have hcW2 := fun b o h => hE2.cell (p := ⟨b, o, none⟩) h
          have hfW2 := fun b o h => hE2.frozen (p := ⟨b, o, none⟩) h
          have hw : IntKind.i64.wrap ((m : Int) - at_) = m - at_ := IntWalk.i64_in _ (by omega)
          have hd : IntKind.i64.wrap ((m : Int) - at_) < n := by rw [hw]; exact g3
          have s2 := hE2.size
          clear hw g3
          go_wp2_with fail
          try rw [Exit.noGoto_ret]
          go_ret2
          rw [HV.out]
          exact ⟨none, 0, 0, rfl, BytesS.nil_, (by repeat (first | (with_reducible exact Below.refl _ _) | (with_reducible exact Below.refl _ _) | (with_reducible refine Below.setCell ?_ (by first | omega | (simp; done) | (simp; omega)) _) | (with_reducible refine Below.alloc ?_ (by first | omega | (simp; done) | (simp; omega)) _) | (with_reducible refine Below.drew ?_) | (with_reducible refine below_drewN ?_ _) | (with_reducible refine Below.trans ?_ (hE2.mono (by first | omega | (simp; done) | (simp; omega)))) | (with_reducible refine Below.trans ?_ (bel.mono (by first | omega | (simp; done) | (simp; omega))))))⟩
end Go.Proofs.Ytafigbomcgncnaa
