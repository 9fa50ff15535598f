/-
  Layer 10: the reference's Sync, walked.
-/
import Derived.Test.YtmjmjjakhmeogaaFilM
namespace Go.Proofs.Ytmjmjjakhmeogaa
set_option linter.unusedVariables false
set_option linter.unusedSimpArgs false
open Go.RowKit Go.Dav
attribute [local go_sem] Gives ite_val ite_val_true

theorem FileD.many_same {F G : FileD} (h : F.firm = G.firm ∧ F.loose = G.loose) : F.many = G.many := by
  unfold FileD.many; rw [h.1, h.2]
theorem FileD.all_same {F G : FileD} (h : F.firm = G.firm ∧ F.loose = G.loose) : F.all = G.all := by
  unfold FileD.all; rw [h.1, h.2]

set_option maxRecDepth 8000 in
set_option maxHeartbeats 8000000 in
theorem Try_refSync (F : FileD) (fa la : Option Addr) (fl fc ll lc : Nat) (w : World) (S : Nat → Prop) (hF : FileS w S fa fl fc la ll lc F) (hS : ∀ b, S b → b < w.heap.size) (hr : F.right = true) :
    Calls Try.prog 56 #[.agg #[.slice fa fl fc, .slice la ll lc, .int .i64 F.fuse, .int .i64 F.fault, .bool F.off]] w (GivesFile w S F.sync.1 F.sync.2) := by
  have hW : Below w.heap.size w ((w.alloc (.cells [.slice fa fl fc, .slice la ll lc, .int .i64 F.fuse, .int .i64 F.fault, .bool F.off].toArray 25)).alloc (.cells #[.slice none 0 0, .slice none 0 0, .int .i64 0, .int .i64 0, .bool false] 25)) := (by repeat (first | (with_reducible exact Below.refl _ _) | (with_reducible exact Below.refl _ _) | (with_reducible refine Below.setCell ?_ (by first | omega | (simp; done) | (simp; omega)) _) | (with_reducible refine Below.alloc ?_ (by first | omega | (simp; done) | (simp; omega)) _) | (with_reducible refine Below.drew ?_) | (with_reducible refine below_drewN ?_ _)))
  have hf0 := (Blk.new w [.slice fa fl fc, .slice la ll lc, .int .i64 F.fuse, .int .i64 F.fault, .bool F.off] 25).alloc (o := (.cells #[.slice none 0 0, .slice none 0 0, .int .i64 0, .int .i64 0, .bool false] 25))
  have B0 := Blk.new' (w.alloc (.cells [.slice fa fl fc, .slice la ll lc, .int .i64 F.fuse, .int .i64 F.fault, .bool F.off].toArray 25)) [.slice none 0 0, .slice none 0 0, .int .i64 0, .int .i64 0, .bool false] 25 (p := w.heap.size + 1) (by simp)
  obtain ⟨F1, e1, hV⟩ : ∃ F1 e1, F.asked 0 = (F1, e1) := ⟨_, _, rfl⟩
  have hsame := FileD.asked_same F 0
  have hC := Try_Asked F fa la fl fc ll lc 0 _ S (hF.ext hW) hr (by omega)
  rw [show ((0 : Nat) : Int) = 0 from rfl, hV] at hC
  rw [hV] at hsame
  have hop : F.sync = if e1 = 0 then ({ F1 with firm := F1.all, loose := [] }, 0) else (F1, e1) := by
    unfold FileD.sync FileD.op; rw [if_pos hr, hV]
  have hmany : F1.many ≤ 140737488355328 := by rw [FileD.many_same hsame]; have := (FileD.right_spec.1 hr).2.2.2.2; omega
  have HOP := Lib.hid hop
  have HC := Lib.hid hC
  have HS := Lib.hid hS
  have HB0 := Lib.hid B0
  have HF0 := Lib.hid hf0
  have HM := Lib.hid hmany
  clear hW hf0 B0 hop hC hS hV hsame hF hmany
  go_enter Try.func56, Try.ntmps56
  go_wp2_with fail
  refine HC.out.mono ?_; rintro e w1 ⟨ga, gl, gc, ma, ml, mc, rfl, hR1, hb1⟩
  have s1 := hb1.size
  simp only [World.size_alloc] at s1
  have B1 := HB0.out.ext hb1
  have G1 := HF0.out.ext hb1
  have q1 := B1.cells
  have m1 := B1.marks
  have q2 := G1.cells
  have m2 := G1.marks
  have l1 := B1.lt
  have l2 := G1.lt
  have HR1 := Lib.hid hR1
  have bel : Below w.heap.size w w1 := (by repeat (first | (with_reducible exact Below.refl _ _) | (with_reducible exact Below.refl _ _) | (with_reducible refine Below.setCell ?_ (by first | omega | (simp; done) | (simp; omega)) _) | (with_reducible refine Below.alloc ?_ (by first | omega | (simp; done) | (simp; omega)) _) | (with_reducible refine Below.drew ?_) | (with_reducible refine below_drewN ?_ _) | (with_reducible refine Below.trans ?_ (hb1.mono (by first | omega | (simp; done) | (simp; omega))))))
  have HB1 := Lib.hid B1
  have HG1 := Lib.hid G1
  have n12 : w.heap.size ≠ w.heap.size + 1 := by omega
  clear hR1 B1 G1 HC
  by_cases he : e1 = 0
  · subst he
    have HV := Lib.hid (HOP.out.trans (if_pos rfl))
    have hO : Only w.heap.size w1 (((((w1.setCell ⟨w.heap.size, 0, none⟩ (.slice ga gl gc)).setCell ⟨w.heap.size, 1, none⟩ (.slice ma ml mc)).setCell ⟨w.heap.size, 2, none⟩ (.int .i64 F1.fuse)).setCell ⟨w.heap.size, 3, none⟩ (.int .i64 F1.fault)).setCell ⟨w.heap.size, 4, none⟩ (.bool F1.off)) := (by repeat (first | (with_reducible exact Only.refl _ _) | (with_reducible refine Only.set ?_ _ _) | (with_reducible refine Only.alloc ?_ _) | (with_reducible refine Only.drew ?_)))
    have hne : ∀ b, Or S ((w.alloc (.cells [.slice fa fl fc, .slice la ll lc, .int .i64 F.fuse, .int .i64 F.fault, .bool F.off].toArray 25)).alloc (.cells #[.slice none 0 0, .slice none 0 0, .int .i64 0, .int .i64 0, .bool false] 25)) b → b ≠ w.heap.size := fun b h => by
      rcases h with h | h
      · have := HS.out b h; omega
      · simp at h; omega
    have hszA : (((((w1.setCell ⟨w.heap.size, 0, none⟩ (.slice ga gl gc)).setCell ⟨w.heap.size, 1, none⟩ (.slice ma ml mc)).setCell ⟨w.heap.size, 2, none⟩ (.int .i64 F1.fuse)).setCell ⟨w.heap.size, 3, none⟩ (.int .i64 F1.fault)).setCell ⟨w.heap.size, 4, none⟩ (.bool F1.off)).heap.size = w1.heap.size := by simp
    have HFA := Lib.hid (HR1.out.same hO.size fun b h hlt => hO.block b hlt (hne b h))
    have HGA := Lib.hid (((((HG1.out.set 0 (.slice ga gl gc)).set 1 (.slice ma ml mc)).set 2 (.int .i64 F1.fuse)).set 3 (.int .i64 F1.fault)).set 4 (.bool F1.off))
    have HBA := Lib.hid (HB1.out.only hO (by omega))
    have hbelA : Below w.heap.size w (((((w1.setCell ⟨w.heap.size, 0, none⟩ (.slice ga gl gc)).setCell ⟨w.heap.size, 1, none⟩ (.slice ma ml mc)).setCell ⟨w.heap.size, 2, none⟩ (.int .i64 F1.fuse)).setCell ⟨w.heap.size, 3, none⟩ (.int .i64 F1.fault)).setCell ⟨w.heap.size, 4, none⟩ (.bool F1.off)) := (by repeat (first | (with_reducible exact Below.refl _ _) | (with_reducible exact Below.refl _ _) | (with_reducible refine Below.setCell ?_ (by first | omega | (simp; done) | (simp; omega)) _) | (with_reducible refine Below.alloc ?_ (by first | omega | (simp; done) | (simp; omega)) _) | (with_reducible refine Below.drew ?_) | (with_reducible refine below_drewN ?_ _) | (with_reducible refine Below.trans ?_ (bel.mono (by first | omega | (simp; done) | (simp; omega))))))
    have HBELA := Lib.hid hbelA
    clear hO hne hbelA
    go_wp2_with fail
    refine (Try_All F1 ga ma gl gc ml mc _ HFA.out.at_ HM.out).mono ?_; rintro e w3 ⟨a3, n3, c3, rfl, hB3, hb3⟩
    have s3 := hb3.size
    rw [hszA] at s3
    have G4 := HGA.out.ext hb3
    have B4 := HBA.out.ext hb3
    have qg := G4.cells
    have mg := G4.marks
    have qb := B4.cells
    have mb := B4.marks
    have lg := G4.lt
    have lb := B4.lt
    simp only [List.set_cons_zero, List.set_cons_succ] at qg
    have HG4 := Lib.hid G4
    have HB4 := Lib.hid B4
    have HB3 := Lib.hid hB3
    have HFB := Lib.hid hb3
    have HSZA := Lib.hid hszA
    clear G4 B4 hB3 hb3 q1 m1 q2 m2 hszA
    go_wp2
    rw [HV.out]
    have hr2 := ((((((HB4.out.other (q := w.heap.size) (by omega) 0 (.slice a3 n3 c3)).other (q := w.heap.size) (by omega) 1 (.slice none 0 0)).set 0 (.slice a3 n3 c3)).set 1 (.slice none 0 0)).set 2 (.int .i64 F1.fuse)).set 3 (.int .i64 F1.fault)).set 4 (.bool F1.off)
    have c2 := hr2.cells
    simp only [List.set_cons_zero, List.set_cons_succ] at c2
    have hfile : FileS w3 (Or S ((w.alloc (.cells [.slice fa fl fc, .slice la ll lc, .int .i64 F.fuse, .int .i64 F.fault, .bool F.off].toArray 25)).alloc (.cells #[.slice none 0 0, .slice none 0 0, .int .i64 0, .int .i64 0, .bool false] 25))) a3 n3 c3 none 0 0 { F1 with firm := F1.all, loose := [] } :=
      ⟨HB3.out.mono fun b h => Or.inr (by rw [HSZA.out] at h; simp; omega), LooseS.nil_, HR1.out.fuse, HR1.out.fault⟩
    refine bodyPost_ret (v := .tuple #[.agg #[.slice a3 n3 c3, .slice none 0 0, .int .i64 F1.fuse, .int .i64 F1.fault, .bool F1.off], .int .i64 0]) (by simp [results, Try.results56, go_sem, c2]) rfl ⟨a3, n3, c3, none, 0, 0, rfl, ?_, ?_⟩
    · refine (file_two hfile (p := w.heap.size) (q := w.heap.size + 1) (fun b h => ?_) ((by repeat (first | (with_reducible exact Only.refl _ _) | (with_reducible refine Only.set ?_ _ _) | (with_reducible refine Only.alloc ?_ _) | (with_reducible refine Only.drew ?_))) : Only w.heap.size w3 ((w3.setCell ⟨w.heap.size, 0, none⟩ (.slice a3 n3 c3)).setCell ⟨w.heap.size, 1, none⟩ (.slice none 0 0))) (by repeat (first | (with_reducible exact Only.refl _ _) | (with_reducible refine Only.set ?_ _ _) | (with_reducible refine Only.alloc ?_ _) | (with_reducible refine Only.drew ?_)))).mono fun b h => ?_
      · rcases h with h | h
        · have := HS.out b h; omega
        · simp at h; omega
      · rcases h with h | h
        · exact .inl h
        · exact .inr (by simp at h; omega)
    · have hB4' := HBELA.out.trans (HFB.out.mono (by rw [HSZA.out]; omega))
      exact (by repeat (first | (with_reducible exact Below.refl _ _) | (with_reducible exact Below.refl _ _) | (with_reducible refine Below.setCell ?_ (by first | omega | (simp; done) | (simp; omega)) _) | (with_reducible refine Below.alloc ?_ (by first | omega | (simp; done) | (simp; omega)) _) | (with_reducible refine Below.drew ?_) | (with_reducible refine below_drewN ?_ _) | (with_reducible refine Below.trans ?_ (hB4'.mono (by first | omega | (simp; done) | (simp; omega))))))
  · have he' : (e1 == 0) = false := by simp [he]
    have HV := Lib.hid (HOP.out.trans (if_neg he))
    clear he
    go_wp2
    rw [HV.out]
    have hr2 := ((((HB1.out.other (q := w.heap.size) (by omega) 0 (.slice ga gl gc)).other (q := w.heap.size) (by omega) 1 (.slice ma ml mc)).other (q := w.heap.size) (by omega) 2 (.int .i64 F1.fuse)).other (q := w.heap.size) (by omega) 3 (.int .i64 F1.fault)).other (q := w.heap.size) (by omega) 4 (.bool F1.off)
    have c2 := (((((hr2.set 0 (.slice ga gl gc)).set 1 (.slice ma ml mc)).set 2 (.int .i64 F1.fuse)).set 3 (.int .i64 F1.fault)).set 4 (.bool F1.off)).cells
    simp only [List.set_cons_zero, List.set_cons_succ] at c2
    refine bodyPost_ret (v := .tuple #[.agg #[.slice ga gl gc, .slice ma ml mc, .int .i64 F1.fuse, .int .i64 F1.fault, .bool F1.off], .int .i64 e1]) (by simp [results, Try.results56, go_sem, c2]) rfl ⟨ga, gl, gc, ma, ml, mc, rfl, ?_, ?_⟩
    · refine (file_two HR1.out (p := w.heap.size) (q := w.heap.size + 1) (fun b h => ?_) ((by repeat (first | (with_reducible exact Only.refl _ _) | (with_reducible refine Only.set ?_ _ _) | (with_reducible refine Only.alloc ?_ _) | (with_reducible refine Only.drew ?_))) : Only w.heap.size w1 (((((w1.setCell ⟨w.heap.size, 0, none⟩ (.slice ga gl gc)).setCell ⟨w.heap.size, 1, none⟩ (.slice ma ml mc)).setCell ⟨w.heap.size, 2, none⟩ (.int .i64 F1.fuse)).setCell ⟨w.heap.size, 3, none⟩ (.int .i64 F1.fault)).setCell ⟨w.heap.size, 4, none⟩ (.bool F1.off))) (by repeat (first | (with_reducible exact Only.refl _ _) | (with_reducible refine Only.set ?_ _ _) | (with_reducible refine Only.alloc ?_ _) | (with_reducible refine Only.drew ?_)))).mono fun b h => ?_
      · rcases h with h | h
        · have := HS.out b h; omega
        · simp at h; omega
      · rcases h with h | h
        · exact .inl h
        · exact .inr (by simp at h; omega)
    · exact (by repeat (first | (with_reducible exact Below.refl _ _) | (with_reducible exact Below.refl _ _) | (with_reducible refine Below.setCell ?_ (by first | omega | (simp; done) | (simp; omega)) _) | (with_reducible refine Below.alloc ?_ (by first | omega | (simp; done) | (simp; omega)) _) | (with_reducible refine Below.drew ?_) | (with_reducible refine below_drewN ?_ _) | (with_reducible refine Below.trans ?_ (bel.mono (by first | omega | (simp; done) | (simp; omega))))))
end Go.Proofs.Ytmjmjjakhmeogaa
