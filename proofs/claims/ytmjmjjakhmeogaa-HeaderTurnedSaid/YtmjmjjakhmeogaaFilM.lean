/-
  Layer 10: the reference's Append and Sync, walked.
-/
import Derived.Test.YtmjmjjakhmeogaaFilL
namespace Go.Proofs.Ytmjmjjakhmeogaa
set_option linter.unusedVariables false
set_option linter.unusedSimpArgs false
open Go.RowKit Go.Dav
attribute [local go_sem] Gives ite_val ite_val_true

theorem file_two {w4 w5 w6 : World} {T : Nat → Prop} {fa la : Option Addr} {fl fc ll lc p q : Nat} {F : FileD} (h : FileS w4 T fa fl fc la ll lc F) (hT : ∀ b, T b → b ≠ p ∧ b ≠ q) (h1 : Only p w4 w5) (h2 : Only q w5 w6) : FileS w6 T fa fl fc la ll lc F :=
  (h.same h1.size fun b hb hlt => h1.block b hlt (hT b hb).1).same h2.size fun b hb hlt => h2.block b hlt (hT b hb).2

theorem FileD.asked_same (F : FileD) (more : Int) : (F.asked more).1.firm = F.firm ∧ (F.asked more).1.loose = F.loose := by
  unfold FileD.asked
  repeat' split
  all_goals exact ⟨rfl, rfl⟩

set_option maxRecDepth 8000 in
set_option maxHeartbeats 8000000 in
theorem Try_refAppend (F : FileD) (fa la ba : Option Addr) (fl fc ll lc bl bc : Nat) (x : List UInt8) (w : World) (S Sb : Nat → Prop) (hF : FileS w S fa fl fc la ll lc F) (hS : ∀ b, S b → b < w.heap.size) (hr : F.right = true) (hx : BytesS w Sb ba bl bc x) :
    Calls Try.prog 43 #[.agg #[.slice fa fl fc, .slice la ll lc, .int .i64 F.fuse, .int .i64 F.fault, .bool F.off], .slice ba bl bc] w (GivesFile w S (F.op x.length fun G => { G with loose := G.loose ++ [x] }).1 (F.op x.length fun G => { G with loose := G.loose ++ [x] }).2) := by
  have hW : Below w.heap.size w ((w.alloc (.cells [.slice fa fl fc, .slice la ll lc, .int .i64 F.fuse, .int .i64 F.fault, .bool F.off].toArray 25)).alloc (.cells #[.slice none 0 0, .slice none 0 0, .int .i64 0, .int .i64 0, .bool false] 25)) := (by repeat (first | (with_reducible exact Below.refl _ _) | (with_reducible exact Below.refl _ _) | (with_reducible refine Below.setCell ?_ (by first | omega | (simp; done) | (simp; omega)) _) | (with_reducible refine Below.alloc ?_ (by first | omega | (simp; done) | (simp; omega)) _) | (with_reducible refine Below.drew ?_) | (with_reducible refine below_drewN ?_ _)))
  have hf0 := (Blk.new w [.slice fa fl fc, .slice la ll lc, .int .i64 F.fuse, .int .i64 F.fault, .bool F.off] 25).alloc (o := (.cells #[.slice none 0 0, .slice none 0 0, .int .i64 0, .int .i64 0, .bool false] 25))
  have B0 := Blk.new' (w.alloc (.cells [.slice fa fl fc, .slice la ll lc, .int .i64 F.fuse, .int .i64 F.fault, .bool F.off].toArray 25)) [.slice none 0 0, .slice none 0 0, .int .i64 0, .int .i64 0, .bool false] 25 (p := w.heap.size + 1) (by simp)
  have hxl := hx.at_.hlen
  have hxf := hx.at_.hfew
  obtain ⟨F1, e1, hV⟩ : ∃ F1 e1, F.asked bl = (F1, e1) := ⟨_, _, rfl⟩
  have hsame := FileD.asked_same F bl
  have hC := Try_Asked F fa la fl fc ll lc bl _ S (hF.ext hW) hr hxf
  rw [hV] at hC hsame
  have hop : F.op x.length (fun G => { G with loose := G.loose ++ [x] }) = if e1 = 0 then ({ F1 with loose := F1.loose ++ [x] }, 0) else (F1, e1) := by
    unfold FileD.op; rw [if_pos hr, hxl, hV]
  have HOP := Lib.hid hop
  have HC := Lib.hid hC
  have HX := Lib.hid hx
  have HS := Lib.hid hS
  have HSM := Lib.hid hsame
  have HB0 := Lib.hid B0
  have HF0 := Lib.hid hf0
  have HR := Lib.hid (FileD.right_spec.1 hr)
  have HXL := Lib.hid hxl
  clear hW hf0 B0 hop hC hx hS hV hsame hF hxl
  go_enter Try.func43, Try.ntmps43
  go_wp2_with fail
  refine HC.out.mono ?_; rintro e w1 ⟨ga, gl, gc, ma, ml, mc, rfl, hR1, hb1⟩
  have s1 := hb1.size
  simp only [World.size_alloc] at s1
  have B1 := HB0.out.ext hb1
  have G1 := HF0.out.ext hb1
  have q1 := B1.cells
  have m1 := B1.marks
  have q2 := G1.cells
  have m2 := G1.marks
  have l1 := B1.lt
  have l2 := G1.lt
  have HR1 := Lib.hid hR1
  have bel : Below w.heap.size w w1 := (by repeat (first | (with_reducible exact Below.refl _ _) | (with_reducible exact Below.refl _ _) | (with_reducible refine Below.setCell ?_ (by first | omega | (simp; done) | (simp; omega)) _) | (with_reducible refine Below.alloc ?_ (by first | omega | (simp; done) | (simp; omega)) _) | (with_reducible refine Below.drew ?_) | (with_reducible refine below_drewN ?_ _) | (with_reducible refine Below.trans ?_ (hb1.mono (by first | omega | (simp; done) | (simp; omega))))))
  have HB1 := Lib.hid B1
  have HG1 := Lib.hid G1
  have n12 : w.heap.size ≠ w.heap.size + 1 := by omega
  clear hR1 B1 G1 HC
  by_cases he : e1 = 0
  · subst he
    have HV := Lib.hid (HOP.out.trans (if_pos rfl))
    obtain ⟨vs, hvs, hpc⟩ := HR1.out.loose.open_
    have hml : ml ≤ 524288 := by
      have h2 := HR1.out.loose.hlen
      have h4 := HR.out.1
      have h3 := full_len h4
      have h1 := HR.out.2.2.2.2
      have h5 := HSM.out.2
      unfold FileD.many at h1
      rw [h5] at h2
      omega
    have HVS := Lib.hid hvs
    have HPC := Lib.hid hpc
    have HMN := Lib.hid HR1.out.loose.hnil
    clear hvs hpc
    have hO : Only w.heap.size w1 (((((w1.setCell ⟨w.heap.size, 0, none⟩ (.slice ga gl gc)).setCell ⟨w.heap.size, 1, none⟩ (.slice ma ml mc)).setCell ⟨w.heap.size, 2, none⟩ (.int .i64 F1.fuse)).setCell ⟨w.heap.size, 3, none⟩ (.int .i64 F1.fault)).setCell ⟨w.heap.size, 4, none⟩ (.bool F1.off)) := (by repeat (first | (with_reducible exact Only.refl _ _) | (with_reducible refine Only.set ?_ _ _) | (with_reducible refine Only.alloc ?_ _) | (with_reducible refine Only.drew ?_)))
    have hne : ∀ b, Or S ((w.alloc (.cells [.slice fa fl fc, .slice la ll lc, .int .i64 F.fuse, .int .i64 F.fault, .bool F.off].toArray 25)).alloc (.cells #[.slice none 0 0, .slice none 0 0, .int .i64 0, .int .i64 0, .bool false] 25)) b → b ≠ w.heap.size := fun b h => by
      rcases h with h | h
      · have := HS.out b h; omega
      · simp at h; omega
    have hszA : (((((w1.setCell ⟨w.heap.size, 0, none⟩ (.slice ga gl gc)).setCell ⟨w.heap.size, 1, none⟩ (.slice ma ml mc)).setCell ⟨w.heap.size, 2, none⟩ (.int .i64 F1.fuse)).setCell ⟨w.heap.size, 3, none⟩ (.int .i64 F1.fault)).setCell ⟨w.heap.size, 4, none⟩ (.bool F1.off)).heap.size = w1.heap.size := by simp
    have HVA := Lib.hid (HVS.out.same hO.size fun b h hlt => hO.block b hlt (hne b h))
    have HPA := Lib.hid (HPC.out.same hO.size fun b h hlt => hO.block b hlt (hne b h))
    have HFA := Lib.hid (HR1.out.firm.same hO.size fun b h hlt => hO.block b hlt (hne b h))
    have HGA := Lib.hid (((((HG1.out.set 0 (.slice ga gl gc)).set 1 (.slice ma ml mc)).set 2 (.int .i64 F1.fuse)).set 3 (.int .i64 F1.fault)).set 4 (.bool F1.off))
    have HBA := Lib.hid (HB1.out.only hO (by omega))
    have hbelA : Below w.heap.size w (((((w1.setCell ⟨w.heap.size, 0, none⟩ (.slice ga gl gc)).setCell ⟨w.heap.size, 1, none⟩ (.slice ma ml mc)).setCell ⟨w.heap.size, 2, none⟩ (.int .i64 F1.fuse)).setCell ⟨w.heap.size, 3, none⟩ (.int .i64 F1.fault)).setCell ⟨w.heap.size, 4, none⟩ (.bool F1.off)) := (by repeat (first | (with_reducible exact Below.refl _ _) | (with_reducible exact Below.refl _ _) | (with_reducible refine Below.setCell ?_ (by first | omega | (simp; done) | (simp; omega)) _) | (with_reducible refine Below.alloc ?_ (by first | omega | (simp; done) | (simp; omega)) _) | (with_reducible refine Below.drew ?_) | (with_reducible refine below_drewN ?_ _) | (with_reducible refine Below.trans ?_ (bel.mono (by first | omega | (simp; done) | (simp; omega))))))
    have HOO := Lib.hid hO
    have HSZ := Lib.hid hszA
    have HBELA := Lib.hid hbelA
    clear hO hne hszA hbelA
    go_wp2_with (first | (at_builtin; refine wpList_append_rowS rfl (.tmp 17) (.tmp 19) 23 rfl Try_elemBytes w1.heap.size _ 0 [] rfl (World.ownsRow_nil _ _ _ _) (Or S ((w.alloc (.cells [.slice fa fl fc, .slice la ll lc, .int .i64 F.fuse, .int .i64 F.fault, .bool F.off].toArray 25)).alloc (.cells #[.slice none 0 0, .slice none 0 0, .int .i64 0, .int .i64 0, .bool false] 25))) ma ml mc vs rfl HVA.out HPC.out.one HMN.out (by unfold maxLen; omega) (by omega) (by simp) ?_; intro v1 w2 hown1 hgrow1; rw [Nat.zero_add, List.nil_append] at hown1; have hb2 := Lib.hid ((Below.refl w1.heap.size _).grown hgrow1 (by simp) (fun k hk => by cases hk)); have HOW1 := Lib.hid hown1; have hs2 := hb2.out.size; (try rw [HSZ.out] at hs2); clear hgrow1 hown1 q1 m1 q2 m2 HVA) | (at_builtin; refine wpList_append_rowS rfl (.tmp 22) (.tmp 23) 22 rfl Try_elemU8 w2.heap.size _ 0 [] rfl (World.ownsRow_made (e := 5) (size := 1) w2 #[] 0 (Nat.le_refl _) (by unfold maxLen; omega) rfl) Sb ba bl bc (u8s x) rfl ((HX.out.ext (HBELA.out.trans (hb2.out.mono (by omega)))).ext ((Below.refl _ _).alloc (Nat.le_refl _) _)).cells (u8s_one x) HX.out.at_.hnil (by unfold maxLen; omega) (by omega) (by simp) ?_; intro v2 w3 hown2 hgrow2; rw [Nat.zero_add, List.nil_append] at hown2; obtain ⟨a2, c2, rfl, hB2⟩ := own_bytes hown2 hxf; have hb3 := Lib.hid (((Below.refl w2.heap.size w2).alloc (Nat.le_refl _) _).grown hgrow2 (by simp) (fun k hk => (World.ownsRow_made (e := 5) (size := 1) w2 #[] 0 (Nat.le_refl _) (by unfold maxLen; omega) rfl).lt k hk |>.1)); have HB2 := Lib.hid hB2; have hs3 := hb3.out.size; clear hown2 hgrow2 hB2 HX) | (at_builtin; refine wpList_append_rowS rfl (.tmp 21) (.tmp 25) 23 rfl Try_elemBytes w1.heap.size _ ml vs rfl ((ownsRow_ext HOW1.out hb3.out).alloc _) (fun _ => True) (some ⟨w3.heap.size, 0, none⟩) 1 1 [.slice a2 bl c2] rfl (cells_one trivial (by simp) ((Blk.new w3 [_] _).cell 0 rfl)) (by simp [Value.oneCell']) (fun h => by cases h) (by unfold maxLen; omega) (by omega) (by simp; omega) ?_; intro v3 w4 hown3 hgrow3; obtain ⟨a3, c3, rfl, hk1, hk2, hk3, hC3⟩ := own_cells hown3; have hb4 := Lib.hid (below_own (B := w1.heap.size) (W0 := w3) (by repeat (first | (with_reducible exact Below.refl _ _) | (with_reducible exact Below.refl _ _) | (with_reducible refine Below.setCell ?_ (by first | omega | (simp; done) | (simp; omega)) _) | (with_reducible refine Below.alloc ?_ (by first | omega | (simp; done) | (simp; omega)) _) | (with_reducible refine Below.drew ?_) | (with_reducible refine below_drewN ?_ _))) (by simp; omega) ((ownsRow_ext HOW1.out hb3.out).alloc _) (Nat.le_refl _) hgrow3); have HC3 := Lib.hid hC3; have HSM := Lib.hid (show ∀ b, w2.heap.size ≤ b → b < w3.heap.size → w4.heap[b]? = w3.heap[b]? from fun b h1 h2 => (hgrow3.block b (by simp; omega) (fun e => by have := (HOW1.out.lt b e.symm).2; omega)).trans (Below.heap_alloc w3 _ b h2)); have hs4 := hb4.out.size; have hbA4 := Lib.hid (hb2.out.trans ((hb3.out.mono (by omega)).trans hb4.out)); have G4 := HGA.out.below hbA4.out (by omega); have B4 := HBA.out.below hbA4.out (by omega); have qg := G4.cells; have mg := G4.marks; have qb := B4.cells; have mb := B4.marks; have lg := G4.lt; have lb := B4.lt; simp only [List.set_cons_zero, List.set_cons_succ] at qg; have HG4 := Lib.hid G4; have HB4 := Lib.hid B4; clear hown3 hgrow3 hC3 G4 B4))
    rw [HV.out]
    have hr2 := ((((((HB4.out.other (q := w.heap.size) (by omega) 1 (.slice a3 (ml + 1) c3)).set 0 (.slice ga gl gc)).set 1 (.slice a3 (ml + 1) c3)).set 2 (.int .i64 F1.fuse)).set 3 (.int .i64 F1.fault)).set 4 (.bool F1.off))
    have c2 := hr2.cells
    simp only [List.set_cons_zero, List.set_cons_succ] at c2
    have hszA := HSZ.out
    have hf4 := HFA.out.same hbA4.out.size (fun b _ h2 => hbA4.out.block b (by omega))
    have hp4 := HPA.out.same hbA4.out.size (fun b _ h2 => hbA4.out.block b (by omega))
    have hx4 := HB2.out.same (W' := w4) hb4.out.size (fun b h1 h2 => HSM.out b h1 h2)
    have hfile : FileS w4 (Or S ((w.alloc (.cells [.slice fa fl fc, .slice la ll lc, .int .i64 F.fuse, .int .i64 F.fault, .bool F.off].toArray 25)).alloc (.cells #[.slice none 0 0, .slice none 0 0, .int .i64 0, .int .i64 0, .bool false] 25))) ga gl gc a3 (ml + 1) c3 { F1 with loose := F1.loose ++ [x] } :=
      ⟨hf4, LooseS.shut_ (HC3.out.mono fun b h => Or.inr (by simp; omega)) (PieceCells.append hp4 ((pieces_one hx4).mono fun b h => Or.inr (by simp; omega))) hk1 hk2 (by omega) hk3, HR1.out.fuse, HR1.out.fault⟩
    refine bodyPost_ret (v := .tuple #[.agg #[.slice ga gl gc, .slice a3 (ml + 1) c3, .int .i64 F1.fuse, .int .i64 F1.fault, .bool F1.off], .int .i64 0]) (by simp [results, Try.results43, go_sem, c2]) rfl ⟨ga, gl, gc, a3, ml + 1, c3, rfl, ?_, ?_⟩
    · refine (file_two hfile (p := w.heap.size) (q := w.heap.size + 1) (fun b h => ?_) ((by repeat (first | (with_reducible exact Only.refl _ _) | (with_reducible refine Only.set ?_ _ _) | (with_reducible refine Only.alloc ?_ _) | (with_reducible refine Only.drew ?_))) : Only w.heap.size w4 (w4.setCell ⟨w.heap.size, 1, none⟩ (.slice a3 (ml + 1) c3))) (by repeat (first | (with_reducible exact Only.refl _ _) | (with_reducible refine Only.set ?_ _ _) | (with_reducible refine Only.alloc ?_ _) | (with_reducible refine Only.drew ?_)))).mono fun b h => ?_
      · rcases h with h | h
        · have := HS.out b h; omega
        · simp at h; omega
      · rcases h with h | h
        · exact .inl h
        · exact .inr (by simp at h; omega)
    · have hB4' := HBELA.out.trans (hbA4.out.mono (by omega))
      exact (by repeat (first | (with_reducible exact Below.refl _ _) | (with_reducible exact Below.refl _ _) | (with_reducible refine Below.setCell ?_ (by first | omega | (simp; done) | (simp; omega)) _) | (with_reducible refine Below.alloc ?_ (by first | omega | (simp; done) | (simp; omega)) _) | (with_reducible refine Below.drew ?_) | (with_reducible refine below_drewN ?_ _) | (with_reducible refine Below.trans ?_ (hB4'.mono (by first | omega | (simp; done) | (simp; omega))))))
  · have he' : (e1 == 0) = false := by simp [he]
    have HV := Lib.hid (HOP.out.trans (if_neg he))
    clear he
    go_wp2
    rw [HV.out]
    have hr2 := ((((HB1.out.other (q := w.heap.size) (by omega) 0 (.slice ga gl gc)).other (q := w.heap.size) (by omega) 1 (.slice ma ml mc)).other (q := w.heap.size) (by omega) 2 (.int .i64 F1.fuse)).other (q := w.heap.size) (by omega) 3 (.int .i64 F1.fault)).other (q := w.heap.size) (by omega) 4 (.bool F1.off)
    have c2 := (((((hr2.set 0 (.slice ga gl gc)).set 1 (.slice ma ml mc)).set 2 (.int .i64 F1.fuse)).set 3 (.int .i64 F1.fault)).set 4 (.bool F1.off)).cells
    simp only [List.set_cons_zero, List.set_cons_succ] at c2
    refine bodyPost_ret (v := .tuple #[.agg #[.slice ga gl gc, .slice ma ml mc, .int .i64 F1.fuse, .int .i64 F1.fault, .bool F1.off], .int .i64 e1]) (by simp [results, Try.results43, go_sem, c2]) rfl ⟨ga, gl, gc, ma, ml, mc, rfl, ?_, ?_⟩
    · refine (file_two HR1.out (p := w.heap.size) (q := w.heap.size + 1) (fun b h => ?_) ((by repeat (first | (with_reducible exact Only.refl _ _) | (with_reducible refine Only.set ?_ _ _) | (with_reducible refine Only.alloc ?_ _) | (with_reducible refine Only.drew ?_))) : Only w.heap.size w1 (((((w1.setCell ⟨w.heap.size, 0, none⟩ (.slice ga gl gc)).setCell ⟨w.heap.size, 1, none⟩ (.slice ma ml mc)).setCell ⟨w.heap.size, 2, none⟩ (.int .i64 F1.fuse)).setCell ⟨w.heap.size, 3, none⟩ (.int .i64 F1.fault)).setCell ⟨w.heap.size, 4, none⟩ (.bool F1.off))) (by repeat (first | (with_reducible exact Only.refl _ _) | (with_reducible refine Only.set ?_ _ _) | (with_reducible refine Only.alloc ?_ _) | (with_reducible refine Only.drew ?_)))).mono fun b h => ?_
      · rcases h with h | h
        · have := HS.out b h; omega
        · simp at h; omega
      · rcases h with h | h
        · exact .inl h
        · exact .inr (by simp at h; omega)
    · exact (by repeat (first | (with_reducible exact Below.refl _ _) | (with_reducible exact Below.refl _ _) | (with_reducible refine Below.setCell ?_ (by first | omega | (simp; done) | (simp; omega)) _) | (with_reducible refine Below.alloc ?_ (by first | omega | (simp; done) | (simp; omega)) _) | (with_reducible refine Below.drew ?_) | (with_reducible refine below_drewN ?_ _) | (with_reducible refine Below.trans ?_ (bel.mono (by first | omega | (simp; done) | (simp; omega))))))
end Go.Proofs.Ytmjmjjakhmeogaa
