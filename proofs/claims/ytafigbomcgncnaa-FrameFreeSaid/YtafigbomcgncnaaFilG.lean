/-
  Layer 10: what is asked ahead of an operation: off, room, refused, burns, walked.
-/
import Derived.Test.YtafigbomcgncnaaFilE
import Derived.IntWalk
namespace Go.Proofs.Ytafigbomcgncnaa
set_option linter.unusedVariables false
set_option linter.unusedSimpArgs false
open Go.RowKit Go.Dav
attribute [local go_sem] Gives ite_val ite_val_true

theorem Try_off (p : Nat) (v0 v1 : Value) (fuse fault : Int) (off : Bool) (w : World) (hp : Blk w p [v0, v1, .int .i64 fuse, .int .i64 fault, .bool off] 69) :
    Calls Try.prog 51 #[.pointer (some ⟨p, 0, none⟩)] w fun e w' => e = .returned (.int .i64 (if off = true then 10 else 0)) ∧ w = w' := by
  have c := hp.cells
  cases off
  · go_enter Try.func51, Try.ntmps51
    go_wp2
    go_ret
    exact ⟨rfl, rfl⟩
  · go_enter Try.func51, Try.ntmps51
    go_wp2
    go_ret
    exact ⟨rfl, rfl⟩

/-- What 'refused' leaves of Fault, and what it answers. -/
theorem Try_refused (p : Nat) (v0 v1 : Value) (fuse fault : Int) (off : Bool) (w : World) (hp : Blk w p [v0, v1, .int .i64 fuse, .int .i64 fault, .bool off] 69) (h1 : -1 ≤ fault) (h2 : fault ≤ 9223372036854775807) :
    Calls Try.prog 52 #[.pointer (some ⟨p, 0, none⟩)] w fun e w' => e = .returned (.int .i64 (if fault = 0 then 9 else 0)) ∧
      Blk w' p [v0, v1, .int .i64 fuse, .int .i64 (if fault = 0 then -1 else if 0 < fault then fault - 1 else fault), .bool off] 69 ∧ Only p w w' := by
  have c := hp.cells
  have m := hp.marks
  have lp := hp.lt
  by_cases h0 : fault = 0
  · subst h0
    go_enter Try.func52, Try.ntmps52
    go_wp2
    go_ret
    exact ⟨rfl, by simpa using hp.set 3 _, (by repeat (first | (with_reducible exact Only.refl _ _) | (with_reducible refine Only.set ?_ _ _) | (with_reducible refine Only.alloc ?_ _) | (with_reducible refine Only.drew ?_)))⟩
  · by_cases hneg : fault = -1
    · subst hneg
      go_enter Try.func52, Try.ntmps52
      go_wp2
      go_ret
      exact ⟨rfl, by simpa using (hp.set 3 (.int .i64 (-2))).set 3 (.int .i64 (-1)), (by repeat (first | (with_reducible exact Only.refl _ _) | (with_reducible refine Only.set ?_ _ _) | (with_reducible refine Only.alloc ?_ _) | (with_reducible refine Only.drew ?_)))⟩
    · have hpos : 0 < fault := by omega
      have e1 : fault - 1 ≥ -2 := by omega
      have e2 : (fault - 1 == -1) = false := by simp; omega
      have e3 : (fault - 1 == -2) = false := by simp; omega
      go_enter Try.func52, Try.ntmps52
      go_wp2
      go_ret
      exact ⟨rfl, by simpa using hp.set 3 (.int .i64 (fault - 1)), (by repeat (first | (with_reducible exact Only.refl _ _) | (with_reducible refine Only.set ?_ _ _) | (with_reducible refine Only.alloc ?_ _) | (with_reducible refine Only.drew ?_)))⟩

set_option maxHeartbeats 1000000 in
theorem Try_burns (p : Nat) (v0 v1 : Value) (fuse fault : Int) (off : Bool) (w : World) (hp : Blk w p [v0, v1, .int .i64 fuse, .int .i64 fault, .bool off] 69) (h1 : -1 ≤ fuse) (h2 : fuse ≤ 9223372036854775807) :
    Calls Try.prog 53 #[.pointer (some ⟨p, 0, none⟩)] w fun e w' => e = .returned (.int .i64 (if fuse = 0 then 10 else 0)) ∧
      Blk w' p [v0, v1, .int .i64 (if 0 < fuse then fuse - 1 else -1), .int .i64 fault, .bool (off || decide (fuse = 0))] 69 ∧ Only p w w' := by
  have c := hp.cells
  have m := hp.marks
  have lp := hp.lt
  by_cases h0 : fuse = 0
  · subst h0
    go_enter Try.func53, Try.ntmps53
    go_wp2
    go_ret
    exact ⟨rfl, by simpa using (hp.set 2 (.int .i64 (-1))).set 4 (.bool true), (by repeat (first | (with_reducible exact Only.refl _ _) | (with_reducible refine Only.set ?_ _ _) | (with_reducible refine Only.alloc ?_ _) | (with_reducible refine Only.drew ?_)))⟩
  · by_cases hneg : fuse = -1
    · subst hneg
      go_enter Try.func53, Try.ntmps53
      go_wp2
      go_ret
      exact ⟨rfl, by simpa using hp, (by repeat (first | (with_reducible exact Only.refl _ _) | (with_reducible refine Only.set ?_ _ _) | (with_reducible refine Only.alloc ?_ _) | (with_reducible refine Only.drew ?_)))⟩
    · have hpos : 0 < fuse := by omega
      have e2 : (fuse - 1 == -1) = false := by simp; omega
      have e3 : (fuse == -1) = false := by simp; omega
      go_enter Try.func53, Try.ntmps53
      go_wp2
      go_ret
      exact ⟨rfl, by simpa [h0] using hp.set 2 (.int .i64 (fuse - 1)), (by repeat (first | (with_reducible exact Only.refl _ _) | (with_reducible refine Only.set ?_ _ _) | (with_reducible refine Only.alloc ?_ _) | (with_reducible refine Only.drew ?_)))⟩

set_option maxHeartbeats 1000000 in
theorem Try_room (F : FileD) (fa la : Option Addr) (fl fc ll lc q r : Nat) (more : Int) (w : World) (hr : F.right = true) (hq : Blk w q [.int .i64 more] 3) (hf : Blk w r [.slice fa fl fc, .slice la ll lc, .int .i64 F.fuse, .int .i64 F.fault, .bool F.off] 25) (hF : FileAt w fa fl fc la ll lc F) :
    Calls Try.prog 50 #[.pointer (some ⟨q, 0, none⟩), .pointer (some ⟨r, 0, none⟩)] w fun e w' =>
      e = .returned (.int .i64 (if 524288 - (F.many : Int) < more then 8 else 0)) ∧ Below w.heap.size w w' := by
  have c1 := hq.cells
  have c2 := hf.cells
  have hlen := FileD.len_right hr
  have hm : (F.many : Int) ≤ 524288 := by have := (FileD.right_spec.1 hr).2.2.2.2; omega
  have l1 := hq.lt
  have l2 := hf.lt
  have HL := Lib.hid hlen
  clear hlen
  have hm0 : (0 : Int) ≤ (F.many : Int) := by omega
  have hw : IntKind.i64.wrap (524288 - (F.many : Int)) = 524288 - (F.many : Int) := IntWalk.i64_in _ (by omega)
  by_cases h : 524288 - (F.many : Int) < more
  · go_enter Try.func50, Try.ntmps50
    go_wp2_with fail
    refine' wp_region_seq [.inl _, .inl _, .inl _, .inl _, .inl _] (by kernel_rfl) (by kernel_rfl) ?main1
    case main1 =>
      refine wpParts_det (by rfl) (fun W hE hN => ?_) ?_
      · have hc := fun b o h => hE.cell (p := ⟨b, o, none⟩) h
        go_simp; refine ⟨Below.refl _ _, ?_⟩; rfl
      simp only [Act.put, List.setIfInBounds_toArray, List.set_cons_zero, List.set_cons_succ]
      refine wpParts_det (by rfl) (fun W hE hN => ?_) ?_
      · have hc := fun b o h => hE.cell (p := ⟨b, o, none⟩) h
        go_simp; refine ⟨Below.refl _ _, ?_⟩; rfl
      simp only [Act.put, List.setIfInBounds_toArray, List.set_cons_zero, List.set_cons_succ]
      refine wpParts_det (by rfl) (fun W hE hN => ?_) ?_
      · go_simp; refine ⟨Below.refl _ _, ?_⟩; refine (Try_length F fa la fl fc ll lc _ (hF.ext hE)).mono ?_; rintro e w' ⟨rfl, hb⟩; refine ⟨?_, hb⟩; rfl
      simp only [Act.put, List.setIfInBounds_toArray, List.set_cons_zero, List.set_cons_succ]
      refine wpParts_det (by rfl) (fun W hE hN => ?_) ?_
      · go_simp; refine ⟨Below.refl _ _, ?_⟩; rfl
      simp only [Act.put, List.setIfInBounds_toArray, List.set_cons_zero, List.set_cons_succ]
      refine wpParts_det (by rfl) (fun W hE hN => ?_) ?_
      · go_simp; refine ⟨Below.refl _ _, ?_⟩; rfl
      simp only [Act.put, List.setIfInBounds_toArray, List.set_cons_zero, List.set_cons_succ]
      refine wpParts_end fun W2 hE2 hG2 => ?_
      have hcW2 := fun b o h => hE2.cell (p := ⟨b, o, none⟩) h
      have hfW2 := fun b o h => hE2.frozen (p := ⟨b, o, none⟩) h
      rw [HL.out]
      go_wp2
      go_ret
      exact ⟨rfl, hE2⟩
  · go_enter Try.func50, Try.ntmps50
    go_wp2_with fail
    refine' wp_region_seq [.inl _, .inl _, .inl _, .inl _, .inl _] (by kernel_rfl) (by kernel_rfl) ?main2
    case main2 =>
      refine wpParts_det (by rfl) (fun W hE hN => ?_) ?_
      · have hc := fun b o h => hE.cell (p := ⟨b, o, none⟩) h
        go_simp; refine ⟨Below.refl _ _, ?_⟩; rfl
      simp only [Act.put, List.setIfInBounds_toArray, List.set_cons_zero, List.set_cons_succ]
      refine wpParts_det (by rfl) (fun W hE hN => ?_) ?_
      · have hc := fun b o h => hE.cell (p := ⟨b, o, none⟩) h
        go_simp; refine ⟨Below.refl _ _, ?_⟩; rfl
      simp only [Act.put, List.setIfInBounds_toArray, List.set_cons_zero, List.set_cons_succ]
      refine wpParts_det (by rfl) (fun W hE hN => ?_) ?_
      · go_simp; refine ⟨Below.refl _ _, ?_⟩; refine (Try_length F fa la fl fc ll lc _ (hF.ext hE)).mono ?_; rintro e w' ⟨rfl, hb⟩; refine ⟨?_, hb⟩; rfl
      simp only [Act.put, List.setIfInBounds_toArray, List.set_cons_zero, List.set_cons_succ]
      refine wpParts_det (by rfl) (fun W hE hN => ?_) ?_
      · go_simp; refine ⟨Below.refl _ _, ?_⟩; rfl
      simp only [Act.put, List.setIfInBounds_toArray, List.set_cons_zero, List.set_cons_succ]
      refine wpParts_det (by rfl) (fun W hE hN => ?_) ?_
      · go_simp; refine ⟨Below.refl _ _, ?_⟩; rfl
      simp only [Act.put, List.setIfInBounds_toArray, List.set_cons_zero, List.set_cons_succ]
      refine wpParts_end fun W2 hE2 hG2 => ?_
      have hcW2 := fun b o h => hE2.cell (p := ⟨b, o, none⟩) h
      have hfW2 := fun b o h => hE2.frozen (p := ⟨b, o, none⟩) h
      rw [HL.out]
      go_wp2
      go_ret
      exact ⟨rfl, hE2⟩
end Go.Proofs.Ytafigbomcgncnaa
