/-
  Layer 10, the statements: deeds; what is done by them, and what ought to come of it.
-/
import Derived.Test.YtmjmjjakhmeogaaLawFB
namespace Go.Dav
set_option linter.unusedVariables false
set_option linter.unusedSimpArgs false
open Go Go.RowKit

structure DeedD where
  kind : Int
  n : Int
  tear : Int
  bytes : List UInt8
  keep : List Bool
def DeedD.which (X : DeedD) : Nat := (X.kind % 18446744073709551616 % 7).toNat
theorem DeedD.which_lt (X : DeedD) : X.which < 7 := by unfold DeedD.which; omega
structure DeedAt (W : World) (ba : Option Addr) (bl bc : Nat) (ka : Option Addr) (kl kc : Nat) (X : DeedD) : Prop where
  bytes : BytesAt W ba bl bc X.bytes
  keep : BoolsAt W ka kl kc X.keep
  kind : I64' X.kind
  n : I64' X.n
  tear : I64' X.tear
theorem DeedAt.ext {W W' : World} {ba : Option Addr} {bl bc : Nat} {ka : Option Addr} {kl kc : Nat} {X : DeedD} (h : DeedAt W ba bl bc ka kl kc X) (hb : Below W.heap.size W W') : DeedAt W' ba bl bc ka kl kc X :=
  ⟨h.bytes.ext hb, h.keep.ext hb, h.kind, h.n, h.tear⟩
/-- A deed is done to a file. -/
def FileD.does (F : FileD) (X : DeedD) : FileD × Int :=
  if X.which = 3 then F.sync else if X.which = 4 then F.light X.n else if X.which = 5 then F.refuse X.n else if X.which = 6 then F.crash X.keep X.tear X.n else F.append X.bytes
theorem FileD.does_wrong {F : FileD} (h : F.right = false) (X : DeedD) : F.does X = (F, 200) := by
  have h' : ¬ F.right = true := by rw [h]; decide
  unfold FileD.does
  split
  · unfold FileD.sync FileD.op; rw [if_neg h']
  · split
    · unfold FileD.light FileD.set; rw [if_neg h']
    · split
      · unfold FileD.refuse FileD.set; rw [if_neg h']
      · split
        · unfold FileD.crash; rw [if_neg h']
        · unfold FileD.append FileD.op; rw [if_neg (fun k => h' k.1), if_neg h']
theorem which_eq {k : Int} (hk : I64' k) : wrap64 ((IntKind.u64.wrap k).tmod 7) = ((k % 18446744073709551616 % 7).toNat : Int) := by
  have e : IntKind.u64.wrap k = k % 18446744073709551616 := by
    simp [IntKind.wrap, IntKind.signed, IntKind.bits]
  rw [e, Int.tmod_eq_emod_of_nonneg (by omega)]
  unfold wrap64
  omega
end Go.Dav
namespace Go.Proofs.Ytmjmjjakhmeogaa
set_option linter.unusedVariables false
set_option linter.unusedSimpArgs false
open Go.RowKit Go.Dav
attribute [local go_sem] Gives ite_val ite_val_true

theorem Try_which (X : DeedD) (ba ka : Option Addr) (bl bc kl kc : Nat) (w : World) (hk : I64' X.kind) :
    Calls Try.prog 29 #[.agg #[.int .i64 X.kind, .int .i64 X.n, .int .i64 X.tear, .slice ba bl bc, .slice ka kl kc]] w fun e w' => e = .returned (.int .i64 (X.which : Int)) ∧ Below w.heap.size w w' := by
  have HE := Lib.hid (which_eq hk)
  have hw : (X.which : Int) = ((X.kind % 18446744073709551616 % 7).toNat : Int) := rfl
  rw [hw, ← HE.out]
  clear hw hk
  go_enter Try.func29, Try.ntmps29
  go_wp2
  go_ret
  exact ⟨rfl, (by repeat (first | (with_reducible exact Below.refl _ _) | (with_reducible exact Below.refl _ _) | (with_reducible refine Below.setCell ?_ (by first | omega | (simp; done) | (simp; omega)) _) | (with_reducible refine Below.alloc ?_ (by first | omega | (simp; done) | (simp; omega)) _) | (with_reducible refine Below.drew ?_) | (with_reducible refine below_drewN ?_ _)))⟩

theorem Try_few (a : Option Addr) (len cap : Nat) (w : World) (h1 : len ≤ cap) (h2 : len ≤ 140737488355328) :
    Calls Try.prog 19 #[.slice a len cap] w fun e w' => e = .returned (.slice a (min len 40) cap) ∧ Below w.heap.size w w' := by
  have h3 : (len : Int) ≤ 140737488355328 := by omega
  by_cases h : len ≤ 40
  · have hi1 : (len : Int) ≤ 40 := by omega
    have hi2 : (len : Int) ≤ (cap : Int) := by omega
    rw [Nat.min_eq_left h]
    go_enter Try.func19, Try.ntmps19
    go_wp2
    go_ret
    exact ⟨rfl, (by repeat (first | (with_reducible exact Below.refl _ _) | (with_reducible exact Below.refl _ _) | (with_reducible refine Below.setCell ?_ (by first | omega | (simp; done) | (simp; omega)) _) | (with_reducible refine Below.alloc ?_ (by first | omega | (simp; done) | (simp; omega)) _) | (with_reducible refine Below.drew ?_) | (with_reducible refine below_drewN ?_ _)))⟩
  · have hi1 : ¬ (len : Int) ≤ 40 := by omega
    have hi2 : (40 : Int) ≤ (cap : Int) := by omega
    have hi3 : (40 : Int) < (len : Int) := by omega
    rw [Nat.min_eq_right (by omega)]
    go_enter Try.func19, Try.ntmps19
    go_wp2
    go_ret
    exact ⟨rfl, (by repeat (first | (with_reducible exact Below.refl _ _) | (with_reducible exact Below.refl _ _) | (with_reducible refine Below.setCell ?_ (by first | omega | (simp; done) | (simp; omega)) _) | (with_reducible refine Below.alloc ?_ (by first | omega | (simp; done) | (simp; omega)) _) | (with_reducible refine Below.drew ?_) | (with_reducible refine below_drewN ?_ _)))⟩

set_option maxRecDepth 8000 in
set_option maxHeartbeats 8000000 in
theorem Try_does (F : FileD) (X : DeedD) (fa la ba ka : Option Addr) (fl fc ll lc bl bc kl kc : Nat) (w : World) (S : Nat → Prop) (hF : FileS w S fa fl fc la ll lc F) (hX : DeedAt w ba bl bc ka kl kc X) (hS : ∀ b, S b → b < w.heap.size) :
    Calls Try.prog 20 #[.agg #[.slice fa fl fc, .slice la ll lc, .int .i64 F.fuse, .int .i64 F.fault, .bool F.off], .agg #[.int .i64 X.kind, .int .i64 X.n, .int .i64 X.tear, .slice ba bl bc, .slice ka kl kc]] w (GivesFile w S (F.does X).1 (F.does X).2) := by
  obtain ⟨W0, hW0⟩ : ∃ W0, ((w.alloc (.cells [.slice fa fl fc, .slice la ll lc, .int .i64 F.fuse, .int .i64 F.fault, .bool F.off].toArray 25)).alloc (.cells [.int .i64 X.kind, .int .i64 X.n, .int .i64 X.tear, .slice ba bl bc, .slice ka kl kc].toArray 34)).alloc (.cells #[.slice none 0 0, .slice none 0 0, .int .i64 0, .int .i64 0, .bool false] 25) = W0 := ⟨_, rfl⟩
  have bel0 : Below w.heap.size w W0 := by rw [← hW0]; exact (by repeat (first | (with_reducible exact Below.refl _ _) | (with_reducible exact Below.refl _ _) | (with_reducible refine Below.setCell ?_ (by first | omega | (simp; done) | (simp; omega)) _) | (with_reducible refine Below.alloc ?_ (by first | omega | (simp; done) | (simp; omega)) _) | (with_reducible refine Below.drew ?_) | (with_reducible refine below_drewN ?_ _)))
  have hb1 : Blk W0 w.heap.size [.slice fa fl fc, .slice la ll lc, .int .i64 F.fuse, .int .i64 F.fault, .bool F.off] 25 := by rw [← hW0]; exact ((Blk.new w [.slice fa fl fc, .slice la ll lc, .int .i64 F.fuse, .int .i64 F.fault, .bool F.off] 25).alloc _).alloc _
  have hb2 : Blk W0 (w.heap.size + 1) [.int .i64 X.kind, .int .i64 X.n, .int .i64 X.tear, .slice ba bl bc, .slice ka kl kc] 34 := by rw [← hW0]; exact (Blk.new' (w.alloc (.cells [.slice fa fl fc, .slice la ll lc, .int .i64 F.fuse, .int .i64 F.fault, .bool F.off].toArray 25)) [.int .i64 X.kind, .int .i64 X.n, .int .i64 X.tear, .slice ba bl bc, .slice ka kl kc] 34 (p := w.heap.size + 1) (by simp)).alloc _
  have hb3 : Blk W0 (w.heap.size + 1 + 1) [.slice none 0 0, .slice none 0 0, .int .i64 0, .int .i64 0, .bool false] 25 := by rw [← hW0]; exact Blk.new' _ [.slice none 0 0, .slice none 0 0, .int .i64 0, .int .i64 0, .bool false] 25 (p := w.heap.size + 1 + 1) (by simp)
  have HW0 := Lib.hid hW0
  have HF := Lib.hid (hF.ext bel0)
  have HX := Lib.hid (hX.ext bel0)
  have HSS := Lib.hid hS
  have HB1 := Lib.hid hb1
  have HB2 := Lib.hid hb2
  have HB3 := Lib.hid hb3
  have BEL0 := Lib.hid bel0
  have hlt := X.which_lt
  obtain ⟨k0, hk0⟩ : ∃ k0, X.which = k0 := ⟨_, rfl⟩
  have hdo : F.does X = if k0 = 3 then F.sync else if k0 = 4 then F.light X.n else if k0 = 5 then F.refuse X.n else if k0 = 6 then F.crash X.keep X.tear X.n else F.append X.bytes := by unfold FileD.does; rw [hk0]
  have HDO := Lib.hid hdo
  have HK0 := Lib.hid hk0
  rw [hk0] at hlt
  clear hF hX hS hb1 hb2 hb3 bel0 hW0 hk0 hdo
  go_enter Try.func20, Try.ntmps20
  go_wp2_with fail
  rw [HW0.out]
  refine (Try_which X ba ka bl bc kl kc W0 HX.out.kind).mono ?_; rintro e w1 ⟨rfl, hb⟩
  have hl : w.heap.size + 1 + 1 + 1 ≤ w1.heap.size := by have := hb.size; rw [← HW0.out] at this; simpa using this
  have hq1 := HB1.out.ext hb
  have hq2 := HB2.out.ext hb
  have hq3 := HB3.out.ext hb
  have HF1 := Lib.hid (HF.out.ext hb)
  have HX1 := Lib.hid (HX.out.ext hb)
  have q1 := hq1.cells
  have q2 := hq2.cells
  have l1 := hq1.lt
  have l2 := hq2.lt
  have HQ3 := Lib.hid hq3
  have BEL1 := Lib.hid (BEL0.out.trans (hb.mono (by have := BEL0.out.size; omega)))
  rw [HK0.out]
  clear hb hq1 hq2 hq3 HF HX HB1 HB2 HB3 BEL0 HW0
  have hS1 : ∀ b, S b → b < w1.heap.size := fun b h => by have := HSS.out b h; omega
  have HS1 := Lib.hid hS1
  clear hS1
  by_cases h3 : k0 = 3
  · subst h3
    have hd : F.does X = F.sync := by rw [HDO.out]; rfl
    obtain ⟨F7, e7, hV⟩ : ∃ F7 e7, F.sync = (F7, e7) := ⟨_, _, rfl⟩
    have HV := Lib.hid (hd.trans hV)
    have hA := Try_Sync F fa la fl fc ll lc w1 S HF1.out HS1.out
    rw [hV] at hA
    have HA := Lib.hid hA
    clear hd hV hA HDO
    go_wp2_with fail
    with_reducible refine HA.out.mono ?_
    rintro e w2 ⟨ga, gl, gc, ma, ml, mc, rfl, hR, hb2⟩
    have s2 := hb2.size
    have B1 := HQ3.out.ext hb2
    have m3 := B1.marks
    have q3 := B1.cells
    have l3 := B1.lt
    have c2 := (B1.five (.slice ga gl gc) (.slice ma ml mc) (.int .i64 F7.fuse) (.int .i64 F7.fault) (.bool F7.off)).cells
    have bel2 : Below w.heap.size w w2 := (by repeat (first | (with_reducible exact Below.refl _ _) | (with_reducible exact Below.refl _ _) | (with_reducible refine Below.setCell ?_ (by first | omega | (simp; done) | (simp; omega)) _) | (with_reducible refine Below.alloc ?_ (by first | omega | (simp; done) | (simp; omega)) _) | (with_reducible refine Below.drew ?_) | (with_reducible refine below_drewN ?_ _) | (with_reducible refine Below.trans ?_ (hb2.mono (by first | omega | (simp; done) | (simp; omega)))) | (with_reducible refine Below.trans ?_ (BEL1.out.mono (by first | omega | (simp; done) | (simp; omega))))))
    have HR := Lib.hid hR
    clear HA hR hb2 B1 q1 q2 l1 l2
    go_wp2
    rw [HV.out]
    refine bodyPost_ret (v := .tuple #[.agg #[.slice ga gl gc, .slice ma ml mc, .int .i64 F7.fuse, .int .i64 F7.fault, .bool F7.off], .int .i64 e7]) (by simp [results, Try.results20, go_sem, c2]) rfl ⟨ga, gl, gc, ma, ml, mc, rfl, ?_, ?_⟩
    · refine (HR.out.same (Only.size (p := w.heap.size + 1 + 1) (by repeat (first | (with_reducible exact Only.refl _ _) | (with_reducible refine Only.set ?_ _ _) | (with_reducible refine Only.alloc ?_ _) | (with_reducible refine Only.drew ?_)))) (fun b h hlt => Only.block (p := w.heap.size + 1 + 1) (by repeat (first | (with_reducible exact Only.refl _ _) | (with_reducible refine Only.set ?_ _ _) | (with_reducible refine Only.alloc ?_ _) | (with_reducible refine Only.drew ?_))) b hlt ?_)).mono (T := Or S w) (fun b h => ?_)
      · rcases h with h | h
        · have := HSS.out b h; omega
        · omega
      · rcases h with h | h
        · exact .inl h
        · exact .inr (by omega)
    · exact (by repeat (first | (with_reducible exact Below.refl _ _) | (with_reducible exact Below.refl _ _) | (with_reducible refine Below.setCell ?_ (by first | omega | (simp; done) | (simp; omega)) _) | (with_reducible refine Below.alloc ?_ (by first | omega | (simp; done) | (simp; omega)) _) | (with_reducible refine Below.drew ?_) | (with_reducible refine below_drewN ?_ _) | (with_reducible refine Below.trans ?_ (bel2.mono (by first | omega | (simp; done) | (simp; omega))))))
  · by_cases h4 : k0 = 4
    · subst h4
      have hd : F.does X = F.light X.n := by rw [HDO.out]; rfl
      obtain ⟨F7, e7, hV⟩ : ∃ F7 e7, F.light X.n = (F7, e7) := ⟨_, _, rfl⟩
      have HV := Lib.hid (hd.trans hV)
      have hA := Try_Light F fa la fl fc ll lc X.n w1 S HF1.out HS1.out HX1.out.n
      rw [hV] at hA
      have HA := Lib.hid hA
      clear hd hV hA HDO
      go_wp2_with fail
      with_reducible refine HA.out.mono ?_
      rintro e w2 ⟨ga, gl, gc, ma, ml, mc, rfl, hR, hb2⟩
      have s2 := hb2.size
      have B1 := HQ3.out.ext hb2
      have m3 := B1.marks
      have q3 := B1.cells
      have l3 := B1.lt
      have c2 := (B1.five (.slice ga gl gc) (.slice ma ml mc) (.int .i64 F7.fuse) (.int .i64 F7.fault) (.bool F7.off)).cells
      have bel2 : Below w.heap.size w w2 := (by repeat (first | (with_reducible exact Below.refl _ _) | (with_reducible exact Below.refl _ _) | (with_reducible refine Below.setCell ?_ (by first | omega | (simp; done) | (simp; omega)) _) | (with_reducible refine Below.alloc ?_ (by first | omega | (simp; done) | (simp; omega)) _) | (with_reducible refine Below.drew ?_) | (with_reducible refine below_drewN ?_ _) | (with_reducible refine Below.trans ?_ (hb2.mono (by first | omega | (simp; done) | (simp; omega)))) | (with_reducible refine Below.trans ?_ (BEL1.out.mono (by first | omega | (simp; done) | (simp; omega))))))
      have HR := Lib.hid hR
      clear HA hR hb2 B1 q1 q2 l1 l2
      go_wp2
      rw [HV.out]
      refine bodyPost_ret (v := .tuple #[.agg #[.slice ga gl gc, .slice ma ml mc, .int .i64 F7.fuse, .int .i64 F7.fault, .bool F7.off], .int .i64 e7]) (by simp [results, Try.results20, go_sem, c2]) rfl ⟨ga, gl, gc, ma, ml, mc, rfl, ?_, ?_⟩
      · refine (HR.out.same (Only.size (p := w.heap.size + 1 + 1) (by repeat (first | (with_reducible exact Only.refl _ _) | (with_reducible refine Only.set ?_ _ _) | (with_reducible refine Only.alloc ?_ _) | (with_reducible refine Only.drew ?_)))) (fun b h hlt => Only.block (p := w.heap.size + 1 + 1) (by repeat (first | (with_reducible exact Only.refl _ _) | (with_reducible refine Only.set ?_ _ _) | (with_reducible refine Only.alloc ?_ _) | (with_reducible refine Only.drew ?_))) b hlt ?_)).mono (T := Or S w) (fun b h => ?_)
        · rcases h with h | h
          · have := HSS.out b h; omega
          · omega
        · rcases h with h | h
          · exact .inl h
          · exact .inr (by omega)
      · exact (by repeat (first | (with_reducible exact Below.refl _ _) | (with_reducible exact Below.refl _ _) | (with_reducible refine Below.setCell ?_ (by first | omega | (simp; done) | (simp; omega)) _) | (with_reducible refine Below.alloc ?_ (by first | omega | (simp; done) | (simp; omega)) _) | (with_reducible refine Below.drew ?_) | (with_reducible refine below_drewN ?_ _) | (with_reducible refine Below.trans ?_ (bel2.mono (by first | omega | (simp; done) | (simp; omega))))))
    · by_cases h5 : k0 = 5
      · subst h5
        have hd : F.does X = F.refuse X.n := by rw [HDO.out]; rfl
        obtain ⟨F7, e7, hV⟩ : ∃ F7 e7, F.refuse X.n = (F7, e7) := ⟨_, _, rfl⟩
        have HV := Lib.hid (hd.trans hV)
        have hA := Try_Refuse F fa la fl fc ll lc X.n w1 S HF1.out HS1.out HX1.out.n
        rw [hV] at hA
        have HA := Lib.hid hA
        clear hd hV hA HDO
        go_wp2_with fail
        with_reducible refine HA.out.mono ?_
        rintro e w2 ⟨ga, gl, gc, ma, ml, mc, rfl, hR, hb2⟩
        have s2 := hb2.size
        have B1 := HQ3.out.ext hb2
        have m3 := B1.marks
        have q3 := B1.cells
        have l3 := B1.lt
        have c2 := (B1.five (.slice ga gl gc) (.slice ma ml mc) (.int .i64 F7.fuse) (.int .i64 F7.fault) (.bool F7.off)).cells
        have bel2 : Below w.heap.size w w2 := (by repeat (first | (with_reducible exact Below.refl _ _) | (with_reducible exact Below.refl _ _) | (with_reducible refine Below.setCell ?_ (by first | omega | (simp; done) | (simp; omega)) _) | (with_reducible refine Below.alloc ?_ (by first | omega | (simp; done) | (simp; omega)) _) | (with_reducible refine Below.drew ?_) | (with_reducible refine below_drewN ?_ _) | (with_reducible refine Below.trans ?_ (hb2.mono (by first | omega | (simp; done) | (simp; omega)))) | (with_reducible refine Below.trans ?_ (BEL1.out.mono (by first | omega | (simp; done) | (simp; omega))))))
        have HR := Lib.hid hR
        clear HA hR hb2 B1 q1 q2 l1 l2
        go_wp2
        rw [HV.out]
        refine bodyPost_ret (v := .tuple #[.agg #[.slice ga gl gc, .slice ma ml mc, .int .i64 F7.fuse, .int .i64 F7.fault, .bool F7.off], .int .i64 e7]) (by simp [results, Try.results20, go_sem, c2]) rfl ⟨ga, gl, gc, ma, ml, mc, rfl, ?_, ?_⟩
        · refine (HR.out.same (Only.size (p := w.heap.size + 1 + 1) (by repeat (first | (with_reducible exact Only.refl _ _) | (with_reducible refine Only.set ?_ _ _) | (with_reducible refine Only.alloc ?_ _) | (with_reducible refine Only.drew ?_)))) (fun b h hlt => Only.block (p := w.heap.size + 1 + 1) (by repeat (first | (with_reducible exact Only.refl _ _) | (with_reducible refine Only.set ?_ _ _) | (with_reducible refine Only.alloc ?_ _) | (with_reducible refine Only.drew ?_))) b hlt ?_)).mono (T := Or S w) (fun b h => ?_)
          · rcases h with h | h
            · have := HSS.out b h; omega
            · omega
          · rcases h with h | h
            · exact .inl h
            · exact .inr (by omega)
        · exact (by repeat (first | (with_reducible exact Below.refl _ _) | (with_reducible exact Below.refl _ _) | (with_reducible refine Below.setCell ?_ (by first | omega | (simp; done) | (simp; omega)) _) | (with_reducible refine Below.alloc ?_ (by first | omega | (simp; done) | (simp; omega)) _) | (with_reducible refine Below.drew ?_) | (with_reducible refine below_drewN ?_ _) | (with_reducible refine Below.trans ?_ (bel2.mono (by first | omega | (simp; done) | (simp; omega))))))
      · by_cases h6 : k0 = 6
        · subst h6
          have hd : F.does X = F.crash X.keep X.tear X.n := by rw [HDO.out]; rfl
          obtain ⟨F7, e7, hV⟩ : ∃ F7 e7, F.crash X.keep X.tear X.n = (F7, e7) := ⟨_, _, rfl⟩
          have HV := Lib.hid (hd.trans hV)
          have hA := Try_Crash F fa la ka fl fc ll lc kl kc X.keep X.tear X.n w1 S HF1.out HX1.out.keep HS1.out HX1.out.tear HX1.out.n
          rw [hV] at hA
          have HA := Lib.hid hA
          clear hd hV hA HDO
          go_wp2_with fail
          with_reducible refine HA.out.mono ?_
          rintro e w2 ⟨ga, gl, gc, ma, ml, mc, rfl, hR, hb2⟩
          have s2 := hb2.size
          have B1 := HQ3.out.ext hb2
          have m3 := B1.marks
          have q3 := B1.cells
          have l3 := B1.lt
          have c2 := (B1.five (.slice ga gl gc) (.slice ma ml mc) (.int .i64 F7.fuse) (.int .i64 F7.fault) (.bool F7.off)).cells
          have bel2 : Below w.heap.size w w2 := (by repeat (first | (with_reducible exact Below.refl _ _) | (with_reducible exact Below.refl _ _) | (with_reducible refine Below.setCell ?_ (by first | omega | (simp; done) | (simp; omega)) _) | (with_reducible refine Below.alloc ?_ (by first | omega | (simp; done) | (simp; omega)) _) | (with_reducible refine Below.drew ?_) | (with_reducible refine below_drewN ?_ _) | (with_reducible refine Below.trans ?_ (hb2.mono (by first | omega | (simp; done) | (simp; omega)))) | (with_reducible refine Below.trans ?_ (BEL1.out.mono (by first | omega | (simp; done) | (simp; omega))))))
          have HR := Lib.hid hR
          clear HA hR hb2 B1 q1 q2 l1 l2
          go_wp2
          rw [HV.out]
          refine bodyPost_ret (v := .tuple #[.agg #[.slice ga gl gc, .slice ma ml mc, .int .i64 F7.fuse, .int .i64 F7.fault, .bool F7.off], .int .i64 e7]) (by simp [results, Try.results20, go_sem, c2]) rfl ⟨ga, gl, gc, ma, ml, mc, rfl, ?_, ?_⟩
          · refine (HR.out.same (Only.size (p := w.heap.size + 1 + 1) (by repeat (first | (with_reducible exact Only.refl _ _) | (with_reducible refine Only.set ?_ _ _) | (with_reducible refine Only.alloc ?_ _) | (with_reducible refine Only.drew ?_)))) (fun b h hlt => Only.block (p := w.heap.size + 1 + 1) (by repeat (first | (with_reducible exact Only.refl _ _) | (with_reducible refine Only.set ?_ _ _) | (with_reducible refine Only.alloc ?_ _) | (with_reducible refine Only.drew ?_))) b hlt ?_)).mono (T := Or S w) (fun b h => ?_)
            · rcases h with h | h
              · have := HSS.out b h; omega
              · omega
            · rcases h with h | h
              · exact .inl h
              · exact .inr (by omega)
          · exact (by repeat (first | (with_reducible exact Below.refl _ _) | (with_reducible exact Below.refl _ _) | (with_reducible refine Below.setCell ?_ (by first | omega | (simp; done) | (simp; omega)) _) | (with_reducible refine Below.alloc ?_ (by first | omega | (simp; done) | (simp; omega)) _) | (with_reducible refine Below.drew ?_) | (with_reducible refine below_drewN ?_ _) | (with_reducible refine Below.trans ?_ (bel2.mono (by first | omega | (simp; done) | (simp; omega))))))
        · have hd : F.does X = F.append X.bytes := by rw [HDO.out, if_neg h3, if_neg h4, if_neg h5, if_neg h6]
          have z3 : ((k0 : Int) == 3) = false := by simp; omega
          have z4 : ((k0 : Int) == 4) = false := by simp; omega
          have z5 : ((k0 : Int) == 5) = false := by simp; omega
          have z6 : ((k0 : Int) == 6) = false := by simp; omega
          clear h3 h4 h5 h6
          obtain ⟨F7, e7, hV⟩ : ∃ F7 e7, F.append X.bytes = (F7, e7) := ⟨_, _, rfl⟩
          have HV := Lib.hid (hd.trans hV)
          have hA := Try_Append F fa la ba fl fc ll lc bl bc X.bytes w1 S _ HF1.out HS1.out HX1.out.bytes.s
          rw [hV] at hA
          have HA := Lib.hid hA
          clear hd hV hA HDO
          go_wp2_with fail
          with_reducible refine HA.out.mono ?_
          rintro e w2 ⟨ga, gl, gc, ma, ml, mc, rfl, hR, hb2⟩
          have s2 := hb2.size
          have B1 := HQ3.out.ext hb2
          have m3 := B1.marks
          have q3 := B1.cells
          have l3 := B1.lt
          have c2 := (B1.five (.slice ga gl gc) (.slice ma ml mc) (.int .i64 F7.fuse) (.int .i64 F7.fault) (.bool F7.off)).cells
          have bel2 : Below w.heap.size w w2 := (by repeat (first | (with_reducible exact Below.refl _ _) | (with_reducible exact Below.refl _ _) | (with_reducible refine Below.setCell ?_ (by first | omega | (simp; done) | (simp; omega)) _) | (with_reducible refine Below.alloc ?_ (by first | omega | (simp; done) | (simp; omega)) _) | (with_reducible refine Below.drew ?_) | (with_reducible refine below_drewN ?_ _) | (with_reducible refine Below.trans ?_ (hb2.mono (by first | omega | (simp; done) | (simp; omega)))) | (with_reducible refine Below.trans ?_ (BEL1.out.mono (by first | omega | (simp; done) | (simp; omega))))))
          have HR := Lib.hid hR
          clear HA hR hb2 B1 q1 q2 l1 l2
          go_wp2
          rw [HV.out]
          refine bodyPost_ret (v := .tuple #[.agg #[.slice ga gl gc, .slice ma ml mc, .int .i64 F7.fuse, .int .i64 F7.fault, .bool F7.off], .int .i64 e7]) (by simp [results, Try.results20, go_sem, c2]) rfl ⟨ga, gl, gc, ma, ml, mc, rfl, ?_, ?_⟩
          · refine (HR.out.same (Only.size (p := w.heap.size + 1 + 1) (by repeat (first | (with_reducible exact Only.refl _ _) | (with_reducible refine Only.set ?_ _ _) | (with_reducible refine Only.alloc ?_ _) | (with_reducible refine Only.drew ?_)))) (fun b h hlt => Only.block (p := w.heap.size + 1 + 1) (by repeat (first | (with_reducible exact Only.refl _ _) | (with_reducible refine Only.set ?_ _ _) | (with_reducible refine Only.alloc ?_ _) | (with_reducible refine Only.drew ?_))) b hlt ?_)).mono (T := Or S w) (fun b h => ?_)
            · rcases h with h | h
              · have := HSS.out b h; omega
              · omega
            · rcases h with h | h
              · exact .inl h
              · exact .inr (by omega)
          · exact (by repeat (first | (with_reducible exact Below.refl _ _) | (with_reducible exact Below.refl _ _) | (with_reducible refine Below.setCell ?_ (by first | omega | (simp; done) | (simp; omega)) _) | (with_reducible refine Below.alloc ?_ (by first | omega | (simp; done) | (simp; omega)) _) | (with_reducible refine Below.drew ?_) | (with_reducible refine below_drewN ?_ _) | (with_reducible refine Below.trans ?_ (bel2.mono (by first | omega | (simp; done) | (simp; omega))))))
end Go.Proofs.Ytmjmjjakhmeogaa
