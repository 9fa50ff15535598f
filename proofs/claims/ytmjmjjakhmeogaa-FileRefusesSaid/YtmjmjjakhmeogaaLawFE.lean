/-
  Layer 10, the statements: what ought to come of a deed; a file in memory of its own.
-/
import Derived.Test.YtmjmjjakhmeogaaLawFD
namespace Go.Dav
set_option linter.unusedVariables false
set_option linter.unusedSimpArgs false
open Go Go.RowKit
theorem FileS.nums {W : World} {S : Nat → Prop} {fa la : Option Addr} {fl fc ll lc : Nat} {F G : FileD} (h : FileS W S fa fl fc la ll lc F) (h1 : G.firm = F.firm) (h2 : G.loose = F.loose) (h3 : I64' G.fuse) (h4 : I64' G.fault) : FileS W S fa fl fc la ll lc G :=
  ⟨h1 ▸ h.firm, h2 ▸ h.loose, h3, h4⟩
theorem FileD.does_light {F : FileD} {X : DeedD} (hr : F.right = true) (hk : X.which = 4) : F.does X = if F.off = true then (F, 10) else ({ F with fuse := max X.n (-1) }, 0) := by
  unfold FileD.does; rw [if_neg (by omega), if_pos hk]
  unfold FileD.light FileD.set; rw [if_pos hr]
theorem FileD.does_refuse {F : FileD} {X : DeedD} (hr : F.right = true) (hk : X.which = 5) : F.does X = if F.off = true then (F, 10) else ({ F with fault := max X.n (-1) }, 0) := by
  unfold FileD.does; rw [if_neg (by omega), if_neg (by omega), if_pos hk]
  unfold FileD.refuse FileD.set; rw [if_pos hr]
theorem FileD.crash_ok {F : FileD} (hr : F.right = true) (keep : List Bool) (tear cut : Int) : F.crash keep tear cut = ((F.crash keep tear cut).1, 0) := by
  unfold FileD.crash; rw [if_pos hr]
end Go.Dav
namespace Go.Proofs.Ytmjmjjakhmeogaa
set_option linter.unusedVariables false
set_option linter.unusedSimpArgs false
open Go.RowKit Go.Dav
attribute [local go_sem] Gives ite_val ite_val_true

set_option maxRecDepth 8000 in
set_option maxHeartbeats 8000000 in
theorem Try_ought (F : FileD) (X : DeedD) (fa la ba ka : Option Addr) (fl fc ll lc bl bc kl kc : Nat) (w : World) (S : Nat → Prop) (hF : FileS w S fa fl fc la ll lc F) (hX : DeedAt w ba bl bc ka kl kc X) (hS : ∀ b, S b → b < w.heap.size) :
    Calls Try.prog 21 #[.agg #[.slice fa fl fc, .slice la ll lc, .int .i64 F.fuse, .int .i64 F.fault, .bool F.off], .agg #[.int .i64 X.kind, .int .i64 X.n, .int .i64 X.tear, .slice ba bl bc, .slice ka kl kc]] w (GivesFile w S (F.does X).1 (F.does X).2) := by
  obtain ⟨W0, hW0⟩ : ∃ W0, ((w.alloc (.cells [.slice fa fl fc, .slice la ll lc, .int .i64 F.fuse, .int .i64 F.fault, .bool F.off].toArray 25)).alloc (.cells [.int .i64 X.kind, .int .i64 X.n, .int .i64 X.tear, .slice ba bl bc, .slice ka kl kc].toArray 34)).alloc (.cells #[.slice none 0 0, .slice none 0 0, .int .i64 0, .int .i64 0, .bool false] 25) = W0 := ⟨_, rfl⟩
  have bel0 : Below w.heap.size w W0 := by rw [← hW0]; exact (by repeat (first | (with_reducible exact Below.refl _ _) | (with_reducible exact Below.refl _ _) | (with_reducible refine Below.setCell ?_ (by first | omega | (simp; done) | (simp; omega)) _) | (with_reducible refine Below.alloc ?_ (by first | omega | (simp; done) | (simp; omega)) _) | (with_reducible refine Below.drew ?_) | (with_reducible refine below_drewN ?_ _)))
  have hb1 : Blk W0 w.heap.size [.slice fa fl fc, .slice la ll lc, .int .i64 F.fuse, .int .i64 F.fault, .bool F.off] 25 := by rw [← hW0]; exact ((Blk.new w [.slice fa fl fc, .slice la ll lc, .int .i64 F.fuse, .int .i64 F.fault, .bool F.off] 25).alloc _).alloc _
  have hb2 : Blk W0 (w.heap.size + 1) [.int .i64 X.kind, .int .i64 X.n, .int .i64 X.tear, .slice ba bl bc, .slice ka kl kc] 34 := by rw [← hW0]; exact (Blk.new' (w.alloc (.cells [.slice fa fl fc, .slice la ll lc, .int .i64 F.fuse, .int .i64 F.fault, .bool F.off].toArray 25)) [.int .i64 X.kind, .int .i64 X.n, .int .i64 X.tear, .slice ba bl bc, .slice ka kl kc] 34 (p := w.heap.size + 1) (by simp)).alloc _
  have hb3 : Blk W0 (w.heap.size + 1 + 1) [.slice none 0 0, .slice none 0 0, .int .i64 0, .int .i64 0, .bool false] 25 := by rw [← hW0]; exact Blk.new' _ [.slice none 0 0, .slice none 0 0, .int .i64 0, .int .i64 0, .bool false] 25 (p := w.heap.size + 1 + 1) (by simp)
  have HW0 := Lib.hid hW0
  have HF := Lib.hid (hF.ext bel0)
  have HX := Lib.hid (hX.ext bel0)
  have HSS := Lib.hid hS
  have HB1 := Lib.hid hb1
  have HB2 := Lib.hid hb2
  have HB3 := Lib.hid hb3
  have BEL0 := Lib.hid bel0
  have hlt := X.which_lt
  obtain ⟨k0, hk0⟩ : ∃ k0, X.which = k0 := ⟨_, rfl⟩
  have hdo : F.does X = if k0 = 3 then F.sync else if k0 = 4 then F.light X.n else if k0 = 5 then F.refuse X.n else if k0 = 6 then F.crash X.keep X.tear X.n else F.append X.bytes := by unfold FileD.does; rw [hk0]
  have HDO := Lib.hid hdo
  have HK0 := Lib.hid hk0
  rw [hk0] at hlt
  clear hF hX hS hb1 hb2 hb3 bel0 hW0 hk0 hdo
  go_enter Try.func21, Try.ntmps21
  go_wp2_with fail
  rw [HW0.out]
  refine (Try_Right F fa la fl fc ll lc W0 HF.out.at_).mono ?_; rintro e w0 ⟨rfl, hb⟩
  have hl0 : w.heap.size + 1 + 1 + 1 ≤ w0.heap.size := by have := hb.size; rw [← HW0.out] at this; simpa using this
  have hq1 := HB1.out.ext hb
  have hq2 := HB2.out.ext hb
  have hq3 := HB3.out.ext hb
  have HF0 := Lib.hid (HF.out.ext hb)
  have HX0 := Lib.hid (HX.out.ext hb)
  have q1 := hq1.cells
  have q2 := hq2.cells
  have l1 := hq1.lt
  have l2 := hq2.lt
  have HQ1 := Lib.hid hq1
  have HQ2 := Lib.hid hq2
  have HQ3 := Lib.hid hq3
  have BELa := Lib.hid (BEL0.out.trans (hb.mono (by have := BEL0.out.size; omega)))
  clear hb hq1 hq2 hq3 HF HX HB1 HB2 HB3 BEL0 HW0
  cases hr : F.right with
  | false =>
    have HV := Lib.hid (FileD.does_wrong hr X)
    have B1 := HQ3.out
    have m3 := B1.marks
    have q3 := B1.cells
    have l3 := B1.lt
    have c2 := (B1.five (.slice fa fl fc) (.slice la ll lc) (.int .i64 F.fuse) (.int .i64 F.fault) (.bool F.off)).cells
    have bel2 := BELa.out
    have HR := Lib.hid (HF0.out.mono (T := Or S w0) fun b h => Or.inl h)
    clear hr B1 q2
    go_wp2
    rw [HV.out]
    refine bodyPost_ret (v := .tuple #[.agg #[.slice fa fl fc, .slice la ll lc, .int .i64 F.fuse, .int .i64 F.fault, .bool F.off], .int .i64 200]) (by simp [results, Try.results21, go_sem, c2]) rfl ⟨fa, fl, fc, la, ll, lc, rfl, ?_, ?_⟩
    · refine (HR.out.same (Only.size (p := w.heap.size + 1 + 1) (by repeat (first | (with_reducible exact Only.refl _ _) | (with_reducible refine Only.set ?_ _ _) | (with_reducible refine Only.alloc ?_ _) | (with_reducible refine Only.drew ?_)))) (fun b h hlt => Only.block (p := w.heap.size + 1 + 1) (by repeat (first | (with_reducible exact Only.refl _ _) | (with_reducible refine Only.set ?_ _ _) | (with_reducible refine Only.alloc ?_ _) | (with_reducible refine Only.drew ?_))) b hlt ?_)).mono (T := Or S w) (fun b h => ?_)
      · rcases h with h | h
        · have := HSS.out b h; omega
        · omega
      · rcases h with h | h
        · exact .inl h
        · exact .inr (by omega)
    · exact (by repeat (first | (with_reducible exact Below.refl _ _) | (with_reducible exact Below.refl _ _) | (with_reducible refine Below.setCell ?_ (by first | omega | (simp; done) | (simp; omega)) _) | (with_reducible refine Below.alloc ?_ (by first | omega | (simp; done) | (simp; omega)) _) | (with_reducible refine Below.drew ?_) | (with_reducible refine below_drewN ?_ _) | (with_reducible refine Below.trans ?_ (bel2.mono (by first | omega | (simp; done) | (simp; omega))))))
  | true =>
    have HRT := Lib.hid hr
    clear hr
    go_wp2_with fail
    refine (Try_which X ba ka bl bc kl kc w0 HX0.out.kind).mono ?_; rintro e w1 ⟨rfl, hb⟩
    have hl : w.heap.size + 1 + 1 + 1 ≤ w1.heap.size := Nat.le_trans hl0 hb.size
    have hq1 := HQ1.out.ext hb
    have hq2 := HQ2.out.ext hb
    have hq3 := HQ3.out.ext hb
    have HF1 := Lib.hid (HF0.out.ext hb)
    have HX1 := Lib.hid (HX0.out.ext hb)
    have BEL1 := Lib.hid (BELa.out.trans (hb.mono (by have := BELa.out.size; omega)))
    have hS1 : ∀ b, S b → b < w1.heap.size := fun b h => by have := HSS.out b h; omega
    have HS1 := Lib.hid hS1
    rw [HK0.out]
    clear hS1 hb q1 q2 l1 l2 HQ1 HQ2 HQ3 HF0 HX0 BELa hl0
    have q1 := hq1.cells
    have m1 := hq1.marks
    have q2 := hq2.cells
    have l1 := hq1.lt
    have l2 := hq2.lt
    have HQ3 := Lib.hid hq3
    clear hq1 hq2 hq3
    by_cases h3 : k0 = 3
    · subst h3
      have hd : F.does X = F.sync := by rw [HDO.out]; rfl
      obtain ⟨F7, e7, hV⟩ : ∃ F7 e7, (F.sync) = (F7, e7) := ⟨_, _, rfl⟩
      have HV := Lib.hid (hd.trans hV)
      have hA := Try_refSync F fa la fl fc ll lc w1 S HF1.out HS1.out HRT.out
      rw [hV] at hA
      have HA := Lib.hid hA
      clear hd hV hA HDO
      go_wp2_with fail
      with_reducible refine HA.out.mono ?_
      rintro e w2 ⟨ga, gl, gc, ma, ml, mc, rfl, hR, hb2⟩
      have s2 := hb2.size
      have B1 := HQ3.out.ext hb2
      have m3 := B1.marks
      have q3 := B1.cells
      have l3 := B1.lt
      have c2 := (B1.five (.slice ga gl gc) (.slice ma ml mc) (.int .i64 F7.fuse) (.int .i64 F7.fault) (.bool F7.off)).cells
      have bel2 : Below w.heap.size w w2 := (by repeat (first | (with_reducible exact Below.refl _ _) | (with_reducible exact Below.refl _ _) | (with_reducible refine Below.setCell ?_ (by first | omega | (simp; done) | (simp; omega)) _) | (with_reducible refine Below.alloc ?_ (by first | omega | (simp; done) | (simp; omega)) _) | (with_reducible refine Below.drew ?_) | (with_reducible refine below_drewN ?_ _) | (with_reducible refine Below.trans ?_ (hb2.mono (by first | omega | (simp; done) | (simp; omega)))) | (with_reducible refine Below.trans ?_ (BEL1.out.mono (by first | omega | (simp; done) | (simp; omega))))))
      have HR := Lib.hid hR
      clear HA hR hb2 B1 q1 q2 l1 l2 m1
      go_wp2
      rw [HV.out]
      refine bodyPost_ret (v := .tuple #[.agg #[.slice ga gl gc, .slice ma ml mc, .int .i64 F7.fuse, .int .i64 F7.fault, .bool F7.off], .int .i64 e7]) (by simp [results, Try.results21, go_sem, c2]) rfl ⟨ga, gl, gc, ma, ml, mc, rfl, ?_, ?_⟩
      · refine (HR.out.same (Only.size (p := w.heap.size + 1 + 1) (by repeat (first | (with_reducible exact Only.refl _ _) | (with_reducible refine Only.set ?_ _ _) | (with_reducible refine Only.alloc ?_ _) | (with_reducible refine Only.drew ?_)))) (fun b h hlt => Only.block (p := w.heap.size + 1 + 1) (by repeat (first | (with_reducible exact Only.refl _ _) | (with_reducible refine Only.set ?_ _ _) | (with_reducible refine Only.alloc ?_ _) | (with_reducible refine Only.drew ?_))) b hlt ?_)).mono (T := Or S w) (fun b h => ?_)
        · rcases h with h | h
          · have := HSS.out b h; omega
          · omega
        · rcases h with h | h
          · exact .inl h
          · exact .inr (by omega)
      · exact (by repeat (first | (with_reducible exact Below.refl _ _) | (with_reducible exact Below.refl _ _) | (with_reducible refine Below.setCell ?_ (by first | omega | (simp; done) | (simp; omega)) _) | (with_reducible refine Below.alloc ?_ (by first | omega | (simp; done) | (simp; omega)) _) | (with_reducible refine Below.drew ?_) | (with_reducible refine below_drewN ?_ _) | (with_reducible refine Below.trans ?_ (bel2.mono (by first | omega | (simp; done) | (simp; omega))))))
    · by_cases h4 : k0 = 4
      · subst h4
        have HD := Lib.hid (FileD.does_light HRT.out HK0.out)
        cases hof : F.off with
        | true =>
          have HV := Lib.hid (show F.does X = (F, 10) by rw [HD.out, if_pos hof])
          have B1 := HQ3.out
          have m3 := B1.marks
          have q3 := B1.cells
          have l3 := B1.lt
          rw [hof] at q1
          have c2 := (B1.five (.slice fa fl fc) (.slice la ll lc) (.int .i64 F.fuse) (.int .i64 F.fault) (.bool true)).cells
          have bel2 := BEL1.out
          have HR := Lib.hid (HF1.out.mono (T := Or S w1) fun b h => Or.inl h)
          have HOF := Lib.hid hof
          clear B1 HD HDO hof
          go_wp2
          rw [HV.out]
          have hof := HOF.out
          refine bodyPost_ret (v := .tuple #[.agg #[.slice fa fl fc, .slice la ll lc, .int .i64 F.fuse, .int .i64 F.fault, .bool true], .int .i64 10]) (by simp [results, Try.results21, go_sem, c2]) rfl ⟨fa, fl, fc, la, ll, lc, by simp [hof], ?_, ?_⟩
          · refine (HR.out.same (Only.size (p := w.heap.size + 1 + 1) (by repeat (first | (with_reducible exact Only.refl _ _) | (with_reducible refine Only.set ?_ _ _) | (with_reducible refine Only.alloc ?_ _) | (with_reducible refine Only.drew ?_)))) (fun b h hlt => Only.block (p := w.heap.size + 1 + 1) (by repeat (first | (with_reducible exact Only.refl _ _) | (with_reducible refine Only.set ?_ _ _) | (with_reducible refine Only.alloc ?_ _) | (with_reducible refine Only.drew ?_))) b hlt ?_)).mono (T := Or S w) (fun b h => ?_)
            · rcases h with h | h
              · have := HSS.out b h; omega
              · omega
            · rcases h with h | h
              · exact .inl h
              · exact .inr (by omega)
          · exact (by repeat (first | (with_reducible exact Below.refl _ _) | (with_reducible exact Below.refl _ _) | (with_reducible refine Below.setCell ?_ (by first | omega | (simp; done) | (simp; omega)) _) | (with_reducible refine Below.alloc ?_ (by first | omega | (simp; done) | (simp; omega)) _) | (with_reducible refine Below.drew ?_) | (with_reducible refine below_drewN ?_ _) | (with_reducible refine Below.trans ?_ (bel2.mono (by first | omega | (simp; done) | (simp; omega))))))
        | false =>
          obtain ⟨M, hM⟩ : ∃ M, max X.n (-1) = M := ⟨_, rfl⟩
          have HV := Lib.hid (show F.does X = ({ F with fuse := M }, 0) by rw [HD.out, if_neg (by rw [hof]; decide), hM])
          have HMI := Lib.hid (show I64' M by have := HX1.out.n; unfold I64' at *; omega)
          rw [hof] at q1
          have HOF := Lib.hid hof
          by_cases g1 : X.n < -1
          · have hM2 : M = -1 := by omega
            subst hM2
            have B1 := HQ3.out.other (q := w.heap.size) (by omega) 2 (.int .i64 (-1))
            have m3 := HQ3.out.marks
            have q3 := HQ3.out.cells
            have l3 := HQ3.out.lt
            have c2 := (B1.five (.slice fa fl fc) (.slice la ll lc) (.int .i64 (-1)) (.int .i64 F.fault) (.bool false)).cells
            have bel2 := BEL1.out
            have nAB : w.heap.size ≠ w.heap.size + 1 + 1 := by omega
            clear B1 HD HDO hof
            go_wp2
            rw [HV.out]
            have hof := HOF.out
            refine bodyPost_ret (v := .tuple #[.agg #[.slice fa fl fc, .slice la ll lc, .int .i64 (-1), .int .i64 F.fault, .bool false], .int .i64 0]) (by simp [results, Try.results21, go_sem, c2]) rfl ⟨fa, fl, fc, la, ll, lc, by simp [hof], ?_, ?_⟩
            · refine FileS.nums (F := F) (G := { F with fuse := -1 }) ?_ rfl rfl HMI.out HF1.out.fault
              refine (file_two HF1.out (p := w.heap.size) (q := w.heap.size + 1 + 1) (fun b h => by have := HSS.out b h; omega) ((by repeat (first | (with_reducible exact Only.refl _ _) | (with_reducible refine Only.set ?_ _ _) | (with_reducible refine Only.alloc ?_ _) | (with_reducible refine Only.drew ?_))) : Only w.heap.size w1 (w1.setCell ⟨w.heap.size, 2, none⟩ (.int .i64 (-1)))) (by repeat (first | (with_reducible exact Only.refl _ _) | (with_reducible refine Only.set ?_ _ _) | (with_reducible refine Only.alloc ?_ _) | (with_reducible refine Only.drew ?_)))).mono fun b h => Or.inl h
            · exact (by repeat (first | (with_reducible exact Below.refl _ _) | (with_reducible exact Below.refl _ _) | (with_reducible refine Below.setCell ?_ (by first | omega | (simp; done) | (simp; omega)) _) | (with_reducible refine Below.alloc ?_ (by first | omega | (simp; done) | (simp; omega)) _) | (with_reducible refine Below.drew ?_) | (with_reducible refine below_drewN ?_ _) | (with_reducible refine Below.trans ?_ (bel2.mono (by first | omega | (simp; done) | (simp; omega))))))
          · have hM2 : M = X.n := by omega
            subst hM2
            have B1 := HQ3.out.other (q := w.heap.size) (by omega) 2 (.int .i64 X.n)
            have m3 := HQ3.out.marks
            have q3 := HQ3.out.cells
            have l3 := HQ3.out.lt
            have c2 := (B1.five (.slice fa fl fc) (.slice la ll lc) (.int .i64 X.n) (.int .i64 F.fault) (.bool false)).cells
            have bel2 := BEL1.out
            have nAB : w.heap.size ≠ w.heap.size + 1 + 1 := by omega
            clear B1 HD HDO hof
            go_wp2
            rw [HV.out]
            have hof := HOF.out
            refine bodyPost_ret (v := .tuple #[.agg #[.slice fa fl fc, .slice la ll lc, .int .i64 X.n, .int .i64 F.fault, .bool false], .int .i64 0]) (by simp [results, Try.results21, go_sem, c2]) rfl ⟨fa, fl, fc, la, ll, lc, by simp [hof], ?_, ?_⟩
            · refine FileS.nums (F := F) (G := { F with fuse := X.n }) ?_ rfl rfl HMI.out HF1.out.fault
              refine (file_two HF1.out (p := w.heap.size) (q := w.heap.size + 1 + 1) (fun b h => by have := HSS.out b h; omega) ((by repeat (first | (with_reducible exact Only.refl _ _) | (with_reducible refine Only.set ?_ _ _) | (with_reducible refine Only.alloc ?_ _) | (with_reducible refine Only.drew ?_))) : Only w.heap.size w1 (w1.setCell ⟨w.heap.size, 2, none⟩ (.int .i64 X.n))) (by repeat (first | (with_reducible exact Only.refl _ _) | (with_reducible refine Only.set ?_ _ _) | (with_reducible refine Only.alloc ?_ _) | (with_reducible refine Only.drew ?_)))).mono fun b h => Or.inl h
            · exact (by repeat (first | (with_reducible exact Below.refl _ _) | (with_reducible exact Below.refl _ _) | (with_reducible refine Below.setCell ?_ (by first | omega | (simp; done) | (simp; omega)) _) | (with_reducible refine Below.alloc ?_ (by first | omega | (simp; done) | (simp; omega)) _) | (with_reducible refine Below.drew ?_) | (with_reducible refine below_drewN ?_ _) | (with_reducible refine Below.trans ?_ (bel2.mono (by first | omega | (simp; done) | (simp; omega))))))
      · by_cases h5 : k0 = 5
        · subst h5
          have HD := Lib.hid (FileD.does_refuse HRT.out HK0.out)
          cases hof : F.off with
          | true =>
            have HV := Lib.hid (show F.does X = (F, 10) by rw [HD.out, if_pos hof])
            have B1 := HQ3.out
            have m3 := B1.marks
            have q3 := B1.cells
            have l3 := B1.lt
            rw [hof] at q1
            have c2 := (B1.five (.slice fa fl fc) (.slice la ll lc) (.int .i64 F.fuse) (.int .i64 F.fault) (.bool true)).cells
            have bel2 := BEL1.out
            have HR := Lib.hid (HF1.out.mono (T := Or S w1) fun b h => Or.inl h)
            have HOF := Lib.hid hof
            clear B1 HD HDO hof
            go_wp2
            rw [HV.out]
            have hof := HOF.out
            refine bodyPost_ret (v := .tuple #[.agg #[.slice fa fl fc, .slice la ll lc, .int .i64 F.fuse, .int .i64 F.fault, .bool true], .int .i64 10]) (by simp [results, Try.results21, go_sem, c2]) rfl ⟨fa, fl, fc, la, ll, lc, by simp [hof], ?_, ?_⟩
            · refine (HR.out.same (Only.size (p := w.heap.size + 1 + 1) (by repeat (first | (with_reducible exact Only.refl _ _) | (with_reducible refine Only.set ?_ _ _) | (with_reducible refine Only.alloc ?_ _) | (with_reducible refine Only.drew ?_)))) (fun b h hlt => Only.block (p := w.heap.size + 1 + 1) (by repeat (first | (with_reducible exact Only.refl _ _) | (with_reducible refine Only.set ?_ _ _) | (with_reducible refine Only.alloc ?_ _) | (with_reducible refine Only.drew ?_))) b hlt ?_)).mono (T := Or S w) (fun b h => ?_)
              · rcases h with h | h
                · have := HSS.out b h; omega
                · omega
              · rcases h with h | h
                · exact .inl h
                · exact .inr (by omega)
            · exact (by repeat (first | (with_reducible exact Below.refl _ _) | (with_reducible exact Below.refl _ _) | (with_reducible refine Below.setCell ?_ (by first | omega | (simp; done) | (simp; omega)) _) | (with_reducible refine Below.alloc ?_ (by first | omega | (simp; done) | (simp; omega)) _) | (with_reducible refine Below.drew ?_) | (with_reducible refine below_drewN ?_ _) | (with_reducible refine Below.trans ?_ (bel2.mono (by first | omega | (simp; done) | (simp; omega))))))
          | false =>
            obtain ⟨M, hM⟩ : ∃ M, max X.n (-1) = M := ⟨_, rfl⟩
            have HV := Lib.hid (show F.does X = ({ F with fault := M }, 0) by rw [HD.out, if_neg (by rw [hof]; decide), hM])
            have HMI := Lib.hid (show I64' M by have := HX1.out.n; unfold I64' at *; omega)
            rw [hof] at q1
            have HOF := Lib.hid hof
            by_cases g1 : X.n < -1
            · have hM2 : M = -1 := by omega
              subst hM2
              have B1 := HQ3.out.other (q := w.heap.size) (by omega) 3 (.int .i64 (-1))
              have m3 := HQ3.out.marks
              have q3 := HQ3.out.cells
              have l3 := HQ3.out.lt
              have c2 := (B1.five (.slice fa fl fc) (.slice la ll lc) (.int .i64 F.fuse) (.int .i64 (-1)) (.bool false)).cells
              have bel2 := BEL1.out
              have nAB : w.heap.size ≠ w.heap.size + 1 + 1 := by omega
              clear B1 HD HDO hof
              go_wp2
              rw [HV.out]
              have hof := HOF.out
              refine bodyPost_ret (v := .tuple #[.agg #[.slice fa fl fc, .slice la ll lc, .int .i64 F.fuse, .int .i64 (-1), .bool false], .int .i64 0]) (by simp [results, Try.results21, go_sem, c2]) rfl ⟨fa, fl, fc, la, ll, lc, by simp [hof], ?_, ?_⟩
              · refine FileS.nums (F := F) (G := { F with fault := -1 }) ?_ rfl rfl HF1.out.fuse HMI.out
                refine (file_two HF1.out (p := w.heap.size) (q := w.heap.size + 1 + 1) (fun b h => by have := HSS.out b h; omega) ((by repeat (first | (with_reducible exact Only.refl _ _) | (with_reducible refine Only.set ?_ _ _) | (with_reducible refine Only.alloc ?_ _) | (with_reducible refine Only.drew ?_))) : Only w.heap.size w1 (w1.setCell ⟨w.heap.size, 3, none⟩ (.int .i64 (-1)))) (by repeat (first | (with_reducible exact Only.refl _ _) | (with_reducible refine Only.set ?_ _ _) | (with_reducible refine Only.alloc ?_ _) | (with_reducible refine Only.drew ?_)))).mono fun b h => Or.inl h
              · exact (by repeat (first | (with_reducible exact Below.refl _ _) | (with_reducible exact Below.refl _ _) | (with_reducible refine Below.setCell ?_ (by first | omega | (simp; done) | (simp; omega)) _) | (with_reducible refine Below.alloc ?_ (by first | omega | (simp; done) | (simp; omega)) _) | (with_reducible refine Below.drew ?_) | (with_reducible refine below_drewN ?_ _) | (with_reducible refine Below.trans ?_ (bel2.mono (by first | omega | (simp; done) | (simp; omega))))))
            · have hM2 : M = X.n := by omega
              subst hM2
              have B1 := HQ3.out.other (q := w.heap.size) (by omega) 3 (.int .i64 X.n)
              have m3 := HQ3.out.marks
              have q3 := HQ3.out.cells
              have l3 := HQ3.out.lt
              have c2 := (B1.five (.slice fa fl fc) (.slice la ll lc) (.int .i64 F.fuse) (.int .i64 X.n) (.bool false)).cells
              have bel2 := BEL1.out
              have nAB : w.heap.size ≠ w.heap.size + 1 + 1 := by omega
              clear B1 HD HDO hof
              go_wp2
              rw [HV.out]
              have hof := HOF.out
              refine bodyPost_ret (v := .tuple #[.agg #[.slice fa fl fc, .slice la ll lc, .int .i64 F.fuse, .int .i64 X.n, .bool false], .int .i64 0]) (by simp [results, Try.results21, go_sem, c2]) rfl ⟨fa, fl, fc, la, ll, lc, by simp [hof], ?_, ?_⟩
              · refine FileS.nums (F := F) (G := { F with fault := X.n }) ?_ rfl rfl HF1.out.fuse HMI.out
                refine (file_two HF1.out (p := w.heap.size) (q := w.heap.size + 1 + 1) (fun b h => by have := HSS.out b h; omega) ((by repeat (first | (with_reducible exact Only.refl _ _) | (with_reducible refine Only.set ?_ _ _) | (with_reducible refine Only.alloc ?_ _) | (with_reducible refine Only.drew ?_))) : Only w.heap.size w1 (w1.setCell ⟨w.heap.size, 3, none⟩ (.int .i64 X.n))) (by repeat (first | (with_reducible exact Only.refl _ _) | (with_reducible refine Only.set ?_ _ _) | (with_reducible refine Only.alloc ?_ _) | (with_reducible refine Only.drew ?_)))).mono fun b h => Or.inl h
              · exact (by repeat (first | (with_reducible exact Below.refl _ _) | (with_reducible exact Below.refl _ _) | (with_reducible refine Below.setCell ?_ (by first | omega | (simp; done) | (simp; omega)) _) | (with_reducible refine Below.alloc ?_ (by first | omega | (simp; done) | (simp; omega)) _) | (with_reducible refine Below.drew ?_) | (with_reducible refine below_drewN ?_ _) | (with_reducible refine Below.trans ?_ (bel2.mono (by first | omega | (simp; done) | (simp; omega))))))
        · by_cases h6 : k0 = 6
          · subst h6
            have hd : F.does X = F.crash X.keep X.tear X.n := by rw [HDO.out]; rfl
            obtain ⟨F7, hV⟩ : ∃ F7, (F.crash X.keep X.tear X.n).1 = F7 := ⟨_, rfl⟩
            have HV := Lib.hid (hd.trans ((FileD.crash_ok HRT.out _ _ _).trans (by rw [hV])))
            have hA := Try_refCrash F fa la ka fl fc ll lc kl kc X.keep X.tear X.n w1 S HF1.out HX1.out.keep HS1.out HRT.out HX1.out.tear HX1.out.n
            rw [hV] at hA
            have HA := Lib.hid hA
            clear hd hV hA HDO
            go_wp2_with fail
            with_reducible refine HA.out.mono ?_
            rintro e w2 ⟨ga, gl, gc, ma, ml, mc, rfl, hR, hb2⟩
            have s2 := hb2.size
            have B1 := HQ3.out.ext hb2
            have m3 := B1.marks
            have q3 := B1.cells
            have l3 := B1.lt
            have c2 := (B1.five (.slice ga gl gc) (.slice ma ml mc) (.int .i64 F7.fuse) (.int .i64 F7.fault) (.bool F7.off)).cells
            have bel2 : Below w.heap.size w w2 := (by repeat (first | (with_reducible exact Below.refl _ _) | (with_reducible exact Below.refl _ _) | (with_reducible refine Below.setCell ?_ (by first | omega | (simp; done) | (simp; omega)) _) | (with_reducible refine Below.alloc ?_ (by first | omega | (simp; done) | (simp; omega)) _) | (with_reducible refine Below.drew ?_) | (with_reducible refine below_drewN ?_ _) | (with_reducible refine Below.trans ?_ (hb2.mono (by first | omega | (simp; done) | (simp; omega)))) | (with_reducible refine Below.trans ?_ (BEL1.out.mono (by first | omega | (simp; done) | (simp; omega))))))
            have HR := Lib.hid hR
            clear HA hR hb2 B1 q1 q2 l1 l2 m1
            go_wp2
            rw [HV.out]
            refine bodyPost_ret (v := .tuple #[.agg #[.slice ga gl gc, .slice ma ml mc, .int .i64 F7.fuse, .int .i64 F7.fault, .bool F7.off], .int .i64 0]) (by simp [results, Try.results21, go_sem, c2]) rfl ⟨ga, gl, gc, ma, ml, mc, rfl, ?_, ?_⟩
            · refine (HR.out.same (Only.size (p := w.heap.size + 1 + 1) (by repeat (first | (with_reducible exact Only.refl _ _) | (with_reducible refine Only.set ?_ _ _) | (with_reducible refine Only.alloc ?_ _) | (with_reducible refine Only.drew ?_)))) (fun b h hlt => Only.block (p := w.heap.size + 1 + 1) (by repeat (first | (with_reducible exact Only.refl _ _) | (with_reducible refine Only.set ?_ _ _) | (with_reducible refine Only.alloc ?_ _) | (with_reducible refine Only.drew ?_))) b hlt ?_)).mono (T := Or S w) (fun b h => ?_)
              · rcases h with h | h
                · have := HSS.out b h; omega
                · omega
              · rcases h with h | h
                · exact .inl h
                · exact .inr (by omega)
            · exact (by repeat (first | (with_reducible exact Below.refl _ _) | (with_reducible exact Below.refl _ _) | (with_reducible refine Below.setCell ?_ (by first | omega | (simp; done) | (simp; omega)) _) | (with_reducible refine Below.alloc ?_ (by first | omega | (simp; done) | (simp; omega)) _) | (with_reducible refine Below.drew ?_) | (with_reducible refine below_drewN ?_ _) | (with_reducible refine Below.trans ?_ (bel2.mono (by first | omega | (simp; done) | (simp; omega))))))
          · have hd : F.does X = F.append X.bytes := by rw [HDO.out, if_neg h3, if_neg h4, if_neg h5, if_neg h6]
            have z3 : ((k0 : Int) == 3) = false := by simp; omega
            have z4 : ((k0 : Int) == 4) = false := by simp; omega
            have z5 : ((k0 : Int) == 5) = false := by simp; omega
            have z6 : ((k0 : Int) == 6) = false := by simp; omega
            have hbl := HX1.out.bytes.hlen
            have hbf := HX1.out.bytes.hfew
            clear h3 h4 h5 h6
            by_cases h0 : bl = 0
            · subst h0
              have hnil : X.bytes = [] := List.length_eq_zero_iff.1 hbl
              have HV := Lib.hid (show F.does X = (F, 2) by rw [hd]; unfold FileD.append; rw [if_pos ⟨HRT.out, hnil⟩])
              have B1 := HQ3.out
              have m3 := B1.marks
              have q3 := B1.cells
              have l3 := B1.lt
              have c2 := (B1.five (.slice fa fl fc) (.slice la ll lc) (.int .i64 F.fuse) (.int .i64 F.fault) (.bool F.off)).cells
              have bel2 := BEL1.out
              have HR := Lib.hid (HF1.out.mono (T := Or S w1) fun b h => Or.inl h)
              clear B1 hd hnil hbl HDO
              go_wp2
              rw [HV.out]
              refine bodyPost_ret (v := .tuple #[.agg #[.slice fa fl fc, .slice la ll lc, .int .i64 F.fuse, .int .i64 F.fault, .bool F.off], .int .i64 2]) (by simp [results, Try.results21, go_sem, c2]) rfl ⟨fa, fl, fc, la, ll, lc, rfl, ?_, ?_⟩
              · refine (HR.out.same (Only.size (p := w.heap.size + 1 + 1) (by repeat (first | (with_reducible exact Only.refl _ _) | (with_reducible refine Only.set ?_ _ _) | (with_reducible refine Only.alloc ?_ _) | (with_reducible refine Only.drew ?_)))) (fun b h hlt => Only.block (p := w.heap.size + 1 + 1) (by repeat (first | (with_reducible exact Only.refl _ _) | (with_reducible refine Only.set ?_ _ _) | (with_reducible refine Only.alloc ?_ _) | (with_reducible refine Only.drew ?_))) b hlt ?_)).mono (T := Or S w) (fun b h => ?_)
                · rcases h with h | h
                  · have := HSS.out b h; omega
                  · omega
                · rcases h with h | h
                  · exact .inl h
                  · exact .inr (by omega)
              · exact (by repeat (first | (with_reducible exact Below.refl _ _) | (with_reducible exact Below.refl _ _) | (with_reducible refine Below.setCell ?_ (by first | omega | (simp; done) | (simp; omega)) _) | (with_reducible refine Below.alloc ?_ (by first | omega | (simp; done) | (simp; omega)) _) | (with_reducible refine Below.drew ?_) | (with_reducible refine below_drewN ?_ _) | (with_reducible refine Below.trans ?_ (bel2.mono (by first | omega | (simp; done) | (simp; omega))))))
            · have h0' : ((bl : Int) == 0) = false := by simp; omega
              have hne : ¬ (F.right = true ∧ X.bytes = []) := fun h => h0 (by rw [← hbl, h.2]; rfl)
              have hd2 : F.does X = F.op X.bytes.length fun G => { G with loose := G.loose ++ [X.bytes] } := by rw [hd]; unfold FileD.append; rw [if_neg hne]
              clear hd hne h0
              have hd := hd2
              clear hd2 hbl
              obtain ⟨F7, e7, hV⟩ : ∃ F7 e7, (F.op X.bytes.length fun G => { G with loose := G.loose ++ [X.bytes] }) = (F7, e7) := ⟨_, _, rfl⟩
              have HV := Lib.hid (hd.trans hV)
              have hA := Try_refAppend F fa la ba fl fc ll lc bl bc X.bytes w1 S _ HF1.out HS1.out HRT.out HX1.out.bytes.s
              rw [hV] at hA
              have HA := Lib.hid hA
              clear hd hV hA HDO
              go_wp2_with fail
              with_reducible refine HA.out.mono ?_
              rintro e w2 ⟨ga, gl, gc, ma, ml, mc, rfl, hR, hb2⟩
              have s2 := hb2.size
              have B1 := HQ3.out.ext hb2
              have m3 := B1.marks
              have q3 := B1.cells
              have l3 := B1.lt
              have c2 := (B1.five (.slice ga gl gc) (.slice ma ml mc) (.int .i64 F7.fuse) (.int .i64 F7.fault) (.bool F7.off)).cells
              have bel2 : Below w.heap.size w w2 := (by repeat (first | (with_reducible exact Below.refl _ _) | (with_reducible exact Below.refl _ _) | (with_reducible refine Below.setCell ?_ (by first | omega | (simp; done) | (simp; omega)) _) | (with_reducible refine Below.alloc ?_ (by first | omega | (simp; done) | (simp; omega)) _) | (with_reducible refine Below.drew ?_) | (with_reducible refine below_drewN ?_ _) | (with_reducible refine Below.trans ?_ (hb2.mono (by first | omega | (simp; done) | (simp; omega)))) | (with_reducible refine Below.trans ?_ (BEL1.out.mono (by first | omega | (simp; done) | (simp; omega))))))
              have HR := Lib.hid hR
              clear HA hR hb2 B1 q1 q2 l1 l2 m1
              go_wp2
              rw [HV.out]
              refine bodyPost_ret (v := .tuple #[.agg #[.slice ga gl gc, .slice ma ml mc, .int .i64 F7.fuse, .int .i64 F7.fault, .bool F7.off], .int .i64 e7]) (by simp [results, Try.results21, go_sem, c2]) rfl ⟨ga, gl, gc, ma, ml, mc, rfl, ?_, ?_⟩
              · refine (HR.out.same (Only.size (p := w.heap.size + 1 + 1) (by repeat (first | (with_reducible exact Only.refl _ _) | (with_reducible refine Only.set ?_ _ _) | (with_reducible refine Only.alloc ?_ _) | (with_reducible refine Only.drew ?_)))) (fun b h hlt => Only.block (p := w.heap.size + 1 + 1) (by repeat (first | (with_reducible exact Only.refl _ _) | (with_reducible refine Only.set ?_ _ _) | (with_reducible refine Only.alloc ?_ _) | (with_reducible refine Only.drew ?_))) b hlt ?_)).mono (T := Or S w) (fun b h => ?_)
                · rcases h with h | h
                  · have := HSS.out b h; omega
                  · omega
                · rcases h with h | h
                  · exact .inl h
                  · exact .inr (by omega)
              · exact (by repeat (first | (with_reducible exact Below.refl _ _) | (with_reducible exact Below.refl _ _) | (with_reducible refine Below.setCell ?_ (by first | omega | (simp; done) | (simp; omega)) _) | (with_reducible refine Below.alloc ?_ (by first | omega | (simp; done) | (simp; omega)) _) | (with_reducible refine Below.drew ?_) | (with_reducible refine below_drewN ?_ _) | (with_reducible refine Below.trans ?_ (bel2.mono (by first | omega | (simp; done) | (simp; omega))))))
end Go.Proofs.Ytmjmjjakhmeogaa
