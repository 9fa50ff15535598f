/-
  Layer 10, the statements: the look whether the layer works at all: it does.
-/
import Derived.Test.YtmjmjjakhmeogaaLawFA
namespace Go.Proofs.Ytmjmjjakhmeogaa
set_option linter.unusedVariables false
set_option linter.unusedSimpArgs false
open Go.RowKit Go.Dav
attribute [local go_sem] Gives ite_val ite_val_true

set_option maxRecDepth 8000 in
set_option maxHeartbeats 8000000 in
theorem Try_wakes10 (w : World) : Calls Try.prog 15 #[] w fun e w' => e = .returned (.bool true) ∧ Below w.heap.size w w' := by
  have HV := Lib.hid Trywk
  go_enter Try.func15, Try.ntmps15
  go_wp2_with fail
  refine (Try_New w).mono ?_; rintro e w1 ⟨rfl, hb1⟩
  have s1 := hb1.size
  go_wp2_with fail
  have hA := Try_Append FileD.none none none (some ⟨w1.heap.size, 0, none⟩) 0 0 0 0 2 2 [1, 2] (w1.alloc (.cells #[.int .u8 1, .int .u8 2] 5)) (Free [] _) _ (FileIn.none_ _ []) (fun b h => h.1) (bytes_blk (Blk.new w1 [.int .u8 1, .int .u8 2] 5) rfl (by omega))
  rw [HV.out.1] at hA
  refine hA.mono ?_; rintro e w2 ⟨fa, fl, fc, la, ll, lc, rfl, hR2, hb2⟩
  have s2 := hb2.size
  simp only [World.size_alloc] at s2
  have HR2 := Lib.hid ((FileIn.of_or hR2 (by simp)).alloc (.cells [.slice fa fl fc, .slice la ll lc, .int .i64 Tryg1.fuse, .int .i64 Tryg1.fault, .bool Tryg1.off].toArray 25))
  have HB2 := Lib.hid (Blk.new w2 [.slice fa fl fc, .slice la ll lc, .int .i64 Tryg1.fuse, .int .i64 Tryg1.fault, .bool Tryg1.off] 25)
  have bel2 : Below w.heap.size w w2 := (by repeat (first | (with_reducible exact Below.refl _ _) | (with_reducible exact Below.refl _ _) | (with_reducible refine Below.setCell ?_ (by first | omega | (simp; done) | (simp; omega)) _) | (with_reducible refine Below.alloc ?_ (by first | omega | (simp; done) | (simp; omega)) _) | (with_reducible refine Below.drew ?_) | (with_reducible refine below_drewN ?_ _) | (with_reducible refine Below.trans ?_ (hb2.mono (by first | omega | (simp; done) | (simp; omega)))) | (with_reducible refine Below.trans ?_ (hb1.mono (by first | omega | (simp; done) | (simp; omega))))))
  have BEL2 := Lib.hid bel2
  clear hA hR2 hb1 hb2 bel2
  go_wp2_with fail
  have hA := Try_Sync Tryg1 fa la fl fc ll lc _ _ HR2.out (fun b h => h.1)
  rw [HV.out.2.1] at hA
  refine hA.mono ?_; rintro e w3 ⟨ga, gl, gc, ma, ml, mc, rfl, hR3, hb3⟩
  have s3 := hb3.size
  simp only [World.size_alloc] at s3
  have q3 := (HB2.out.ext hb3).cells
  have m3 := (HB2.out.ext hb3).marks
  have l3 := (HB2.out.ext hb3).lt
  have HR3 := Lib.hid ((FileIn.of_or hR3 (by simp)).only (Only.five w3 w2.heap.size (.slice ga gl gc) (.slice ma ml mc) (.int .i64 Tryg2.fuse) (.int .i64 Tryg2.fault) (.bool Tryg2.off)) (by simp))
  have HB3 := Lib.hid ((HB2.out.ext hb3).five (.slice ga gl gc) (.slice ma ml mc) (.int .i64 Tryg2.fuse) (.int .i64 Tryg2.fault) (.bool Tryg2.off))
  have bel3 : Below w.heap.size w w3 := (by repeat (first | (with_reducible exact Below.refl _ _) | (with_reducible exact Below.refl _ _) | (with_reducible refine Below.setCell ?_ (by first | omega | (simp; done) | (simp; omega)) _) | (with_reducible refine Below.alloc ?_ (by first | omega | (simp; done) | (simp; omega)) _) | (with_reducible refine Below.drew ?_) | (with_reducible refine below_drewN ?_ _) | (with_reducible refine Below.trans ?_ (hb3.mono (by first | omega | (simp; done) | (simp; omega)))) | (with_reducible refine Below.trans ?_ (BEL2.out.mono (by first | omega | (simp; done) | (simp; omega))))))
  have BEL3 := Lib.hid bel3
  clear hA hR3 hb3 bel3 HR2 HB2 BEL2
  go_wp2_with fail
  obtain ⟨V3, hV⟩ : ∃ V, (((((w3.setCell ⟨w2.heap.size, 0, none⟩ (.slice ga gl gc)).setCell ⟨w2.heap.size, 1, none⟩ (.slice ma ml mc)).setCell ⟨w2.heap.size, 2, none⟩ (.int .i64 Tryg2.fuse)).setCell ⟨w2.heap.size, 3, none⟩ (.int .i64 Tryg2.fault)).setCell ⟨w2.heap.size, 4, none⟩ (.bool Tryg2.off)) = V := ⟨_, rfl⟩
  have hvs : V3.heap.size = w3.heap.size := by rw [← hV]; simp
  have HRV := HR3
  have HBV := HB3
  rw [hV] at HRV HBV ⊢
  have hA := Try_Append Tryg2 ga ma (some ⟨w3.heap.size, 0, none⟩) gl gc ml mc 1 1 [4] (V3.alloc (.cells #[.int .u8 4] 5)) (Free [w2.heap.size] _) _ (HRV.out.alloc' _) (fun b h => h.1) (bytes_blk (Blk.new' V3 [.int .u8 4] 5 hvs) rfl (by omega))
  rw [HV.out.2.2.1] at hA
  with_reducible refine hA.mono ?_
  rintro e w4 ⟨ha, hl, hc, na, nl, nc, rfl, hR, hb⟩
  have s4 := hb.size
  simp only [World.size_alloc, hvs] at s4
  have hB := (HBV.out.alloc _).ext hb
  have q4 := hB.cells
  have m4 := hB.marks
  have l4 := hB.lt
  have HR4 := Lib.hid ((FileIn.of_or hR (by simp; omega)).only (Only.five w4 w2.heap.size (.slice ha hl hc) (.slice na nl nc) (.int .i64 (Tryg3).fuse) (.int .i64 (Tryg3).fault) (.bool (Tryg3).off)) (by simp))
  have HB4 := Lib.hid (hB.five (.slice ha hl hc) (.slice na nl nc) (.int .i64 (Tryg3).fuse) (.int .i64 (Tryg3).fault) (.bool (Tryg3).off))
  have bel : Below w.heap.size w V3 := by rw [← hV]; exact (by repeat (first | (with_reducible exact Below.refl _ _) | (with_reducible exact Below.refl _ _) | (with_reducible refine Below.setCell ?_ (by first | omega | (simp; done) | (simp; omega)) _) | (with_reducible refine Below.alloc ?_ (by first | omega | (simp; done) | (simp; omega)) _) | (with_reducible refine Below.drew ?_) | (with_reducible refine below_drewN ?_ _) | (with_reducible refine Below.trans ?_ (BEL3.out.mono (by first | omega | (simp; done) | (simp; omega))))))
  have bel' : Below w.heap.size w w4 := (by repeat (first | (with_reducible exact Below.refl _ _) | (with_reducible exact Below.refl _ _) | (with_reducible refine Below.setCell ?_ (by first | omega | (simp; done) | (simp; omega)) _) | (with_reducible refine Below.alloc ?_ (by first | omega | (simp; done) | (simp; omega)) _) | (with_reducible refine Below.drew ?_) | (with_reducible refine below_drewN ?_ _) | (with_reducible refine Below.trans ?_ (hb.mono (by first | omega | (simp; done) | (simp; omega)))) | (with_reducible refine Below.trans ?_ (bel.mono (by first | omega | (simp; done) | (simp; omega))))))
  have BEL4 := Lib.hid bel'
  clear hA hR hb hB bel bel' HRV HBV HR3 HB3 BEL3 hV hvs q3 m3
  go_wp2_with fail
  obtain ⟨V4, hV⟩ : ∃ V, (((((w4.setCell ⟨w2.heap.size, 0, none⟩ (.slice ha hl hc)).setCell ⟨w2.heap.size, 1, none⟩ (.slice na nl nc)).setCell ⟨w2.heap.size, 2, none⟩ (.int .i64 Tryg3.fuse)).setCell ⟨w2.heap.size, 3, none⟩ (.int .i64 Tryg3.fault)).setCell ⟨w2.heap.size, 4, none⟩ (.bool Tryg3.off)) = V := ⟨_, rfl⟩
  have hvs : V4.heap.size = w4.heap.size := by rw [← hV]; simp
  have HRV := HR4
  have HBV := HB4
  rw [hV] at HRV HBV ⊢
  have hA := Try_Append Tryg3 ha na (some ⟨w4.heap.size, 0, none⟩) hl hc nl nc 2 2 [5, 6] (V4.alloc (.cells #[.int .u8 5, .int .u8 6] 5)) (Free [w2.heap.size] _) _ (HRV.out.alloc' _) (fun b h => h.1) (bytes_blk (Blk.new' V4 [.int .u8 5, .int .u8 6] 5 hvs) rfl (by omega))
  rw [HV.out.2.2.2.1] at hA
  with_reducible refine hA.mono ?_
  rintro e w5 ⟨ka, kl, kc, pa, pl, pc, rfl, hR, hb⟩
  have s5 := hb.size
  simp only [World.size_alloc, hvs] at s5
  have hB := (HBV.out.alloc _).ext hb
  have q5 := hB.cells
  have m5 := hB.marks
  have l5 := hB.lt
  have HR5 := Lib.hid ((FileIn.of_or hR (by simp; omega)).only (Only.five w5 w2.heap.size (.slice ka kl kc) (.slice pa pl pc) (.int .i64 (Tryg4).fuse) (.int .i64 (Tryg4).fault) (.bool (Tryg4).off)) (by simp))
  have HB5 := Lib.hid (hB.five (.slice ka kl kc) (.slice pa pl pc) (.int .i64 (Tryg4).fuse) (.int .i64 (Tryg4).fault) (.bool (Tryg4).off))
  have bel : Below w.heap.size w V4 := by rw [← hV]; exact (by repeat (first | (with_reducible exact Below.refl _ _) | (with_reducible exact Below.refl _ _) | (with_reducible refine Below.setCell ?_ (by first | omega | (simp; done) | (simp; omega)) _) | (with_reducible refine Below.alloc ?_ (by first | omega | (simp; done) | (simp; omega)) _) | (with_reducible refine Below.drew ?_) | (with_reducible refine below_drewN ?_ _) | (with_reducible refine Below.trans ?_ (BEL4.out.mono (by first | omega | (simp; done) | (simp; omega))))))
  have bel' : Below w.heap.size w w5 := (by repeat (first | (with_reducible exact Below.refl _ _) | (with_reducible exact Below.refl _ _) | (with_reducible refine Below.setCell ?_ (by first | omega | (simp; done) | (simp; omega)) _) | (with_reducible refine Below.alloc ?_ (by first | omega | (simp; done) | (simp; omega)) _) | (with_reducible refine Below.drew ?_) | (with_reducible refine below_drewN ?_ _) | (with_reducible refine Below.trans ?_ (hb.mono (by first | omega | (simp; done) | (simp; omega)))) | (with_reducible refine Below.trans ?_ (bel.mono (by first | omega | (simp; done) | (simp; omega))))))
  have BEL5 := Lib.hid bel'
  clear hA hR hb hB bel bel' HRV HBV HR4 HB4 BEL4 hV hvs q4 m4
  go_wp2_with fail
  obtain ⟨V5, hV⟩ : ∃ V, (((((w5.setCell ⟨w2.heap.size, 0, none⟩ (.slice ka kl kc)).setCell ⟨w2.heap.size, 1, none⟩ (.slice pa pl pc)).setCell ⟨w2.heap.size, 2, none⟩ (.int .i64 Tryg4.fuse)).setCell ⟨w2.heap.size, 3, none⟩ (.int .i64 Tryg4.fault)).setCell ⟨w2.heap.size, 4, none⟩ (.bool Tryg4.off)) = V := ⟨_, rfl⟩
  have hvs : V5.heap.size = w5.heap.size := by rw [← hV]; simp
  have HRV := HR5
  have HBV := HB5
  rw [hV] at HRV HBV ⊢
  have bel : Below w.heap.size w V5 := by rw [← hV]; exact (by repeat (first | (with_reducible exact Below.refl _ _) | (with_reducible exact Below.refl _ _) | (with_reducible refine Below.setCell ?_ (by first | omega | (simp; done) | (simp; omega)) _) | (with_reducible refine Below.alloc ?_ (by first | omega | (simp; done) | (simp; omega)) _) | (with_reducible refine Below.drew ?_) | (with_reducible refine below_drewN ?_ _) | (with_reducible refine Below.trans ?_ (BEL5.out.mono (by first | omega | (simp; done) | (simp; omega))))))
  have hA := Try_Read Tryg4 ka pa kl kc pl pc 1 3 V5 _ HRV.out (fun b h => h.1) (by unfold I64'; omega) (by unfold I64'; omega)
  rw [HV.out.2.2.2.2.1] at hA
  with_reducible refine hA.mono ?_
  rintro e w6 ⟨ra, rl, rc, rfl, hR, hb⟩
  have s6 := hb.size
  have hR6 := HRV.out.ext hb
  have hB6 := HBV.out.ext hb
  have q6 := hB6.cells
  have l6 := hB6.lt
  have bel6 : Below w.heap.size w w6 := (by repeat (first | (with_reducible exact Below.refl _ _) | (with_reducible exact Below.refl _ _) | (with_reducible refine Below.setCell ?_ (by first | omega | (simp; done) | (simp; omega)) _) | (with_reducible refine Below.alloc ?_ (by first | omega | (simp; done) | (simp; omega)) _) | (with_reducible refine Below.drew ?_) | (with_reducible refine below_drewN ?_ _) | (with_reducible refine Below.trans ?_ (hb.mono (by first | omega | (simp; done) | (simp; omega)))) | (with_reducible refine Below.trans ?_ (bel.mono (by first | omega | (simp; done) | (simp; omega))))))
  have HR6 := Lib.hid hR6
  have HB6 := Lib.hid hB6
  have HBY := Lib.hid hR.at_
  have BEL6 := Lib.hid bel6
  have hv5 : w5.heap.size ≤ w6.heap.size := by omega
  clear hA hR hb hR6 hB6 bel6 hV hvs HRV HBV HR5 HB5 BEL5 bel q5 m5 s6
  go_wp2_with fail
  have hA := Try_Crash Tryg4 ka pa (some ⟨w6.heap.size, 0, none⟩) kl kc pl pc 2 2 [false, true] (-1) 0 (w6.alloc (.cells #[.bool false, .bool true] 4)) _ (HR6.out.alloc' _) (bools_blk (Blk.new w6 [.bool false, .bool true] 4) rfl (by omega)) (fun b h => h.1) (by unfold I64'; omega) (by unfold I64'; omega)
  rw [HV.out.2.2.2.2.2.1] at hA
  with_reducible refine hA.mono ?_
  rintro e w7 ⟨ta, tl, tc, ua, ul, uc, rfl, hR, hb⟩
  have s7 := hb.size
  simp only [World.size_alloc] at s7
  have bel7 : Below w.heap.size w w7 := (by repeat (first | (with_reducible exact Below.refl _ _) | (with_reducible exact Below.refl _ _) | (with_reducible refine Below.setCell ?_ (by first | omega | (simp; done) | (simp; omega)) _) | (with_reducible refine Below.alloc ?_ (by first | omega | (simp; done) | (simp; omega)) _) | (with_reducible refine Below.drew ?_) | (with_reducible refine below_drewN ?_ _) | (with_reducible refine Below.trans ?_ (hb.mono (by first | omega | (simp; done) | (simp; omega)))) | (with_reducible refine Below.trans ?_ (BEL6.out.mono (by first | omega | (simp; done) | (simp; omega))))))
  have hb7 := ((Below.refl w6.heap.size w6).alloc (Nat.le_refl _) (.cells #[.bool false, .bool true] 4)).trans (hb.mono (by simp))
  have hb7' := hb7.trans ((Below.refl w6.heap.size w7).alloc (by omega) (.cells [.slice ta tl tc, .slice ua ul uc, .int .i64 Tryg5.fuse, .int .i64 Tryg5.fault, .bool Tryg5.off].toArray 25))
  have HR7 := Lib.hid (HR6.out.ext hb7')
  have HB7 := Lib.hid (HB6.out.ext hb7')
  have HBY7 := Lib.hid (HBY.out.ext hb7')
  have HC7 := Lib.hid (Blk.new w7 [.slice ta tl tc, .slice ua ul uc, .int .i64 Tryg5.fuse, .int .i64 Tryg5.fault, .bool Tryg5.off] 25)
  have HRC := Lib.hid ((FileIn.of_or hR (by simp; omega)).alloc' (.cells [.slice ta tl tc, .slice ua ul uc, .int .i64 Tryg5.fuse, .int .i64 Tryg5.fault, .bool Tryg5.off].toArray 25))
  have BEL7 := Lib.hid bel7
  have q7 := (HB6.out.ext hb7).cells
  have l7 := (HB6.out.ext hb7).lt
  clear hA hR hb hb7 hb7' bel7 q6 HR6 HB6 HBY BEL6
  go_wp2_with fail
  obtain ⟨V7, hV⟩ : ∃ V, w7.alloc (.cells [.slice ta tl tc, .slice ua ul uc, .int .i64 Tryg5.fuse, .int .i64 Tryg5.fault, .bool Tryg5.off].toArray 25) = V := ⟨_, rfl⟩
  have hvs : V7.heap.size = w7.heap.size + 1 := by rw [← hV]; simp
  have HRV := HR7
  have HBV := HB7
  have HBYV := HBY7
  have HCV := HC7
  have HRCV := HRC
  rw [hV] at HRV HBV HBYV HCV HRCV ⊢
  have bel : Below w.heap.size w V7 := by rw [← hV]; exact (by repeat (first | (with_reducible exact Below.refl _ _) | (with_reducible exact Below.refl _ _) | (with_reducible refine Below.setCell ?_ (by first | omega | (simp; done) | (simp; omega)) _) | (with_reducible refine Below.alloc ?_ (by first | omega | (simp; done) | (simp; omega)) _) | (with_reducible refine Below.drew ?_) | (with_reducible refine below_drewN ?_ _) | (with_reducible refine Below.trans ?_ (BEL7.out.mono (by first | omega | (simp; done) | (simp; omega))))))
  have a1 := (Below.refl V7.heap.size V7).alloc (Nat.le_refl _) (.cells #[.int .u8 2, .int .u8 4, .int .u8 5] 5)
  have hA := Try_slicesEqual ra (some ⟨w7.heap.size + 1, 0, none⟩) rl rc 3 3 [2, 4, 5] [2, 4, 5] (V7.alloc (.cells #[.int .u8 2, .int .u8 4, .int .u8 5] 5)) (HBYV.out.ext a1) (bytes_blk (n := 3) (x := [2, 4, 5]) (Blk.new' V7 [.int .u8 2, .int .u8 4, .int .u8 5] 5 hvs) rfl (by omega)).at_
  rw [show decide (([2, 4, 5] : List UInt8) = [2, 4, 5]) = true from rfl] at hA
  with_reducible refine hA.mono ?_
  rintro e w8 ⟨rfl, hb⟩
  have s8 := hb.size
  simp only [World.size_alloc, hvs] at s8
  have bb := a1.trans (hb.mono (by simp))
  have bel8 : Below w.heap.size w w8 := (by repeat (first | (with_reducible exact Below.refl _ _) | (with_reducible exact Below.refl _ _) | (with_reducible refine Below.setCell ?_ (by first | omega | (simp; done) | (simp; omega)) _) | (with_reducible refine Below.alloc ?_ (by first | omega | (simp; done) | (simp; omega)) _) | (with_reducible refine Below.drew ?_) | (with_reducible refine below_drewN ?_ _) | (with_reducible refine Below.trans ?_ (hb.mono (by first | omega | (simp; done) | (simp; omega)))) | (with_reducible refine Below.trans ?_ (bel.mono (by first | omega | (simp; done) | (simp; omega))))))
  have HR8 := Lib.hid (HRV.out.ext bb)
  have HB8 := Lib.hid (HBV.out.ext bb)
  have HC8 := Lib.hid (HCV.out.ext bb)
  have HRC8 := Lib.hid (HRCV.out.ext bb)
  have BEL8 := Lib.hid bel8
  have c8 := HC8.out.cells
  have l8 := HC8.out.lt
  clear hA hb a1 bb bel bel8 hV hvs HRV HBV HBYV HCV HRCV HR7 HB7 HBY7 HC7 HRC BEL7 q7
  go_wp2_with fail
  have a1 := (Below.refl w8.heap.size w8).alloc (Nat.le_refl _) (.cells #[.int .u8 1, .int .u8 2, .int .u8 0, .int .u8 5, .int .u8 6] 5)
  have hA := Try_slicesEqual ta (some ⟨w8.heap.size, 0, none⟩) tl tc 5 5 [1, 2, 0, 5, 6] [1, 2, 0, 5, 6] (w8.alloc (.cells #[.int .u8 1, .int .u8 2, .int .u8 0, .int .u8 5, .int .u8 6] 5)) (HRC8.out.firm.at_.ext a1) (bytes_blk (n := 5) (x := [1, 2, 0, 5, 6]) (Blk.new w8 [.int .u8 1, .int .u8 2, .int .u8 0, .int .u8 5, .int .u8 6] 5) rfl (by omega)).at_
  rw [show decide (([1, 2, 0, 5, 6] : List UInt8) = [1, 2, 0, 5, 6]) = true from rfl] at hA
  with_reducible refine hA.mono ?_
  rintro e w9 ⟨rfl, hb⟩
  have s9 := hb.size
  simp only [World.size_alloc] at s9
  have bb := a1.trans (hb.mono (by simp))
  have bel9 : Below w.heap.size w w9 := (by repeat (first | (with_reducible exact Below.refl _ _) | (with_reducible exact Below.refl _ _) | (with_reducible refine Below.setCell ?_ (by first | omega | (simp; done) | (simp; omega)) _) | (with_reducible refine Below.alloc ?_ (by first | omega | (simp; done) | (simp; omega)) _) | (with_reducible refine Below.drew ?_) | (with_reducible refine below_drewN ?_ _) | (with_reducible refine Below.trans ?_ (hb.mono (by first | omega | (simp; done) | (simp; omega)))) | (with_reducible refine Below.trans ?_ (BEL8.out.mono (by first | omega | (simp; done) | (simp; omega))))))
  have HR9 := Lib.hid (HR8.out.ext bb)
  have HB9 := Lib.hid (HB8.out.ext bb)
  have BEL9 := Lib.hid bel9
  have q9 := HB9.out.cells
  have l9 := HB9.out.lt
  clear hA hb a1 bb bel9 HR8 HB8 HC8 HRC8 BEL8 c8
  go_wp2_with fail
  have hA := Try_Len Tryg4 ka pa kl kc pl pc w9 HR9.out.at_
  rw [HV.out.2.2.2.2.2.2.1] at hA
  with_reducible refine hA.mono ?_
  rintro e w10 ⟨rfl, hb⟩
  have s10 := hb.size
  have bel10 : Below w.heap.size w w10 := (by repeat (first | (with_reducible exact Below.refl _ _) | (with_reducible exact Below.refl _ _) | (with_reducible refine Below.setCell ?_ (by first | omega | (simp; done) | (simp; omega)) _) | (with_reducible refine Below.alloc ?_ (by first | omega | (simp; done) | (simp; omega)) _) | (with_reducible refine Below.drew ?_) | (with_reducible refine below_drewN ?_ _) | (with_reducible refine Below.trans ?_ (hb.mono (by first | omega | (simp; done) | (simp; omega)))) | (with_reducible refine Below.trans ?_ (BEL9.out.mono (by first | omega | (simp; done) | (simp; omega))))))
  clear hA hb q9 HR9 HB9 BEL9
  go_wp2_with fail
  have hA : Calls Try.prog 23 #[.agg #[.slice none 0 0, .slice none 0 0, .int .i64 (-2), .int .i64 0, .bool false]] w10 _ := Try_Check Tryg6 none none 0 0 0 0 w10 ⟨BytesAt.nil_, LooseAt.nil_, by unfold I64' Tryg6; simp, by unfold I64' Tryg6; simp⟩
  rw [HV.out.2.2.2.2.2.2.2] at hA
  with_reducible refine hA.mono ?_
  rintro e w11 ⟨rfl, hb⟩
  have bel11 : Below w.heap.size w w11 := (by repeat (first | (with_reducible exact Below.refl _ _) | (with_reducible exact Below.refl _ _) | (with_reducible refine Below.setCell ?_ (by first | omega | (simp; done) | (simp; omega)) _) | (with_reducible refine Below.alloc ?_ (by first | omega | (simp; done) | (simp; omega)) _) | (with_reducible refine Below.drew ?_) | (with_reducible refine below_drewN ?_ _) | (with_reducible refine Below.trans ?_ (hb.mono (by first | omega | (simp; done) | (simp; omega)))) | (with_reducible refine Below.trans ?_ (bel10.mono (by first | omega | (simp; done) | (simp; omega))))))
  clear hA hb bel10
  go_wp2
  go_ret
  exact ⟨rfl, bel11⟩
end Go.Proofs.Ytmjmjjakhmeogaa
