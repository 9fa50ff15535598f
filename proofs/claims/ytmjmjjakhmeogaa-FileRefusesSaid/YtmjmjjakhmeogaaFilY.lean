/-
  Layer 10: the reference's Crash, walked.
-/
import Derived.Test.YtmjmjjakhmeogaaFilX
import Derived.Lib.SmallJoins
namespace Go.Dav
set_option linter.unusedVariables false
set_option linter.unusedSimpArgs false
open Go Go.RowKit
/-- A file is handed back. -/
def GivesF (w : World) (S : Nat → Prop) (F : FileD) (e : Ending) (w' : World) : Prop :=
  ∃ fa fl fc la ll lc, e = .returned (.agg #[.slice fa fl fc, .slice la ll lc, .int .i64 F.fuse, .int .i64 F.fault, .bool F.off]) ∧ FileS w' (Or S w) fa fl fc la ll lc F ∧ Below w.heap.size w w'
theorem u8s_set (l : List UInt8) (i : Nat) (x : UInt8) : (u8s l).set i (.int .u8 (x.toNat : Int)) = u8s (l.set i x) := by simp [u8s, List.map_set]
end Go.Dav
namespace Go.Proofs.Ytmjmjjakhmeogaa
set_option linter.unusedVariables false
set_option linter.unusedSimpArgs false
open Go.RowKit Go.Dav Go.Joins
attribute [local go_sem] Gives ite_val ite_val_true

def TryCrOuter (L : World) (n₀ : Nat) (F : FileD) (keep : List Bool) (tear cut : Int) (v : Value) (en at_ ix : Value) (wr : World) : Prop :=
  ∃ k : Nat, k ≤ F.loose.length ∧ ix = .int .i64 k ∧ en = .int .i64 (endOf F keep tear cut k 0 : Int) ∧ at_ = .int .i64 ((F.firm.length + sumTo F.loose k : Nat) : Int) ∧ wr.ownsRow n₀ 5 1 v F.many (u8s (rowOf F keep tear cut k 0)) ∧ Below n₀ L wr
def TryCrInner (L : World) (n₀ : Nat) (F : FileD) (keep : List Bool) (tear cut : Int) (v : Value) (k : Nat) (p : List UInt8) (en at_ jx : Value) (wr : World) : Prop :=
  ∃ j : Nat, j ≤ p.length ∧ jx = .int .i64 j ∧ en = .int .i64 (endOf F keep tear cut k j : Int) ∧ at_ = .int .i64 ((F.firm.length + sumTo F.loose k + j : Nat) : Int) ∧ wr.ownsRow n₀ 5 1 v F.many (u8s (rowOf F keep tear cut k j)) ∧ Below n₀ L wr

set_option maxRecDepth 8000 in
set_option maxHeartbeats 8000000 in
theorem Try_refCrash (F : FileD) (fa la ka : Option Addr) (fl fc ll lc kl kc : Nat) (keep : List Bool) (tear cut : Int) (w : World) (S : Nat → Prop) (hF : FileS w S fa fl fc la ll lc F) (hK : BoolsAt w ka kl kc keep) (hS : ∀ b, S b → b < w.heap.size) (hr : F.right = true) (ht : I64' tear) (hcut : I64' cut) :
    Calls Try.prog 57 #[.agg #[.slice fa fl fc, .slice la ll lc, .int .i64 F.fuse, .int .i64 F.fault, .bool F.off], .slice ka kl kc, .int .i64 tear, .int .i64 cut] w (GivesF w S (F.crash keep tear cut).1) := by
  have hW : Below w.heap.size w ((w.alloc (.cells [.slice fa fl fc, .slice la ll lc, .int .i64 F.fuse, .int .i64 F.fault, .bool F.off].toArray 25)).alloc (.cells #[.slice none 0 0, .slice none 0 0, .int .i64 0, .int .i64 0, .bool false] 25)) := (by repeat (first | (with_reducible exact Below.refl _ _) | (with_reducible exact Below.refl _ _) | (with_reducible refine Below.setCell ?_ (by first | omega | (simp; done) | (simp; omega)) _) | (with_reducible refine Below.alloc ?_ (by first | omega | (simp; done) | (simp; omega)) _) | (with_reducible refine Below.drew ?_) | (with_reducible refine below_drewN ?_ _)))
  have hf0 := (Blk.new w [.slice fa fl fc, .slice la ll lc, .int .i64 F.fuse, .int .i64 F.fault, .bool F.off] 25).alloc (o := (.cells #[.slice none 0 0, .slice none 0 0, .int .i64 0, .int .i64 0, .bool false] 25))
  have B0 := Blk.new' (w.alloc (.cells [.slice fa fl fc, .slice la ll lc, .int .i64 F.fuse, .int .i64 F.fault, .bool F.off].toArray 25)) [.slice none 0 0, .slice none 0 0, .int .i64 0, .int .i64 0, .bool false] 25 (p := w.heap.size + 1) (by simp)
  have hmany := (FileD.right_spec.1 hr).2.2.2.2
  have hA := Try_AllOwn F fa la fl fc ll lc _ (hF.ext hW).at_ (by omega)
  have HA := Lib.hid hA
  have HF := Lib.hid hF
  have HK := Lib.hid hK
  have HSS := Lib.hid hS
  have HR := Lib.hid hr
  have HF0 := Lib.hid hf0
  have HB0 := Lib.hid B0
  have HM := Lib.hid hmany
  obtain ⟨L, hL⟩ : ∃ L, ((w.alloc (.cells [.slice fa fl fc, .slice la ll lc, .int .i64 F.fuse, .int .i64 F.fault, .bool F.off].toArray 25)).alloc (.cells #[.slice none 0 0, .slice none 0 0, .int .i64 0, .int .i64 0, .bool false] 25)) = L := ⟨_, rfl⟩
  have hLs : L.heap.size = w.heap.size + 1 + 1 := by rw [← hL]; simp
  have HWL := Lib.hid hW
  have HFL := Lib.hid (hF.firm.at_.hlen.symm : fl = F.firm.length)
  have HL := Lib.hid hL
  clear hW hf0 B0 hA hF hK hS hr ht hcut hmany hL
  go_enter Try.func57, Try.ntmps57
  go_wp2_with fail
  refine HA.out.mono ?_; rintro e w1 ⟨v, rfl, hown, hb1⟩
  rw [HL.out] at HWL HF0 HB0 hown hb1
  rw [FileD.all_length] at hown
  clear HL HA
  have s1 := hb1.size
  rw [hLs] at hown
  have B1 := HF0.out.ext hb1
  have q1 := B1.cells
  have l1 := B1.lt
  have HB1 := Lib.hid B1
  have HO1 := Lib.hid hown
  have HW1 := Lib.hid (hb1.mono (Nat.le_of_eq hLs.symm))
  clear B1 hb1 hown
  go_wp2_with fail
  go_loopw  [10, 11, 12] (fun en at_ ix wr => TryCrOuter L (w.heap.size + 1 + 1) F keep tear cut v en at_ ix wr) (fun _ _ ix _ => ll - (intOf ix).toNat)
  case atStart =>
    refine ⟨0, Nat.zero_le _, rfl, ?_, ?_, ?_, HW1.out⟩
    · rw [endOf_zero]; simp [crashTo, HFL.out]
    · rw [sumTo_zero]; simp [HFL.out]
    · rw [rowOf_zero]; exact HO1.out
  case round =>
    obtain ⟨k, hk, rfl, rfl, rfl, hown, hbl⟩ := hrel
    obtain ⟨wo, rfl⟩ : ∃ wo : World, wo = wr := ⟨_, rfl⟩
    have hll : F.loose.length = ll := HF.out.loose.hlen
    have hll2 : ll ≤ 140737488355328 := HF.out.loose.hfew
    have hsz := hbl.size
    have Bk := HF0.out.below hbl (by omega)
    have qk := Bk.cells
    have lk := Bk.lt
    have HOWN := Lib.hid hown
    have HBL := Lib.hid hbl
    clear hown hbl q1 l1 Bk
    by_cases hlt : k < F.loose.length
    · obtain ⟨p, hp⟩ : ∃ p, F.loose[k]? = some p := ⟨_, List.getElem?_eq_getElem hlt⟩
      obtain ⟨b, o, pa, pl, pc, rfl, hb, hSb, hc, hP⟩ := HF.out.loose.hat k p hp
      have hpl := hP.at_.hlen
      have hkl : (k : Int) < (ll : Int) := by omega
      have hp2 : pl ≤ 524288 := by have := loose_le hp; have := HM.out; omega
      have htk : F.firm.length + sumTo F.loose k + pl ≤ F.many := by
        have h1 := sumTo_succ hp
        have h2 := sumTo_mono F.loose (k + 1)
        unfold FileD.many
        omega
      have HP := Lib.hid hp
      have HLT := Lib.hid hlt
      have HTK := Lib.hid htk
      have HPL := Lib.hid hpl
      have HC := Lib.hid hc
      have HBB := Lib.hid hb
      obtain ⟨en0, hen0⟩ : ∃ en0, endOf F keep tear cut k 0 = en0 := ⟨_, rfl⟩
      obtain ⟨A0, hA0⟩ : ∃ A0, F.firm.length + sumTo F.loose k = A0 := ⟨_, rfl⟩
      have HEN0 := Lib.hid hen0
      have HA0 := Lib.hid hA0
      rw [hen0, hA0]
      clear hp hlt hP hk hSb htk hpl hc hb hen0 hA0 hll
      go_wp2_with fail
      go_loopw [10, 11, 13] (fun en at_ jx wr => TryCrInner L (w.heap.size + 1 + 1) F keep tear cut v k p en at_ jx wr) (fun _ _ jx _ => pl - (intOf jx).toNat)
      case atStart =>
        refine ⟨0, Nat.zero_le _, rfl, by rw [HEN0.out], by rw [HA0.out]; rfl, HOWN.out, HBL.out⟩
      case round =>
        obtain ⟨j, hj, rfl, rfl, rfl, hown, hbl⟩ := hrel
        have hj2 : j ≤ pl := by have := HPL.out; omega
        have hsr := hbl.size
        have Bk := HF0.out.below hbl (by omega)
        have qk := Bk.cells
        have lk := Bk.lt
        have hbw : Below w.heap.size w wr := HWL.out.trans (hbl.mono (by omega))
        have hcell : wr.cell? ⟨b, o + k, none⟩ = some (.slice pa pl pc) := (hbw.cell (p := ⟨b, o + k, none⟩) HBB.out).trans HC.out
        have HOWN2 := Lib.hid hown
        have HBL2 := Lib.hid hbl
        have HBW := Lib.hid hbw
        clear hown hbl hbw Bk
        by_cases hjl : j < p.length
        · have hj3 : (j : Int) < (pl : Int) := by have := HPL.out; omega
          obtain ⟨en, hen⟩ : ∃ en, endOf F keep tear cut k j = en := ⟨_, rfl⟩
          obtain ⟨A, hA⟩ : ∃ A, F.firm.length + sumTo F.loose k + j = A := ⟨_, rfl⟩
          obtain ⟨M, hM⟩ : ∃ M, F.many = M := ⟨_, rfl⟩
          have HOWN3 := HOWN2.out
          rw [hM] at HOWN3
          have hAM : A < M := by have := HTK.out; have := HPL.out; omega
          have hMl : M ≤ 524288 := by have := HM.out; omega
          obtain ⟨g, cap, rfl⟩ := ownsRow_form HOWN3 (by omega)
          have hAi : (A : Int) ≤ 524288 := by omega
          have hcA : wr.cell? ⟨g, A, none⟩ = some (.int .u8 (((rowOf F keep tear cut k j)[A]'(by rw [rowOf_length _ _ _ _ _ _ (by rw [pieceOf_get HP.out]; exact hj)]; omega)).toNat : Int)) := by
            rw [HOWN3.cellAt A (by omega)]
            exact u8s_get (List.getElem?_eq_getElem _)
          obtain ⟨x0, hx0⟩ : ∃ x0, wr.cell? ⟨g, A, none⟩ = some (.int .u8 x0) := ⟨_, hcA⟩
          have hfA := HOWN3.frozenAt A
          have hgn := (HOWN3.lt g rfl).1
          have HSTAY := Lib.hid (rowOf_stays (keep := keep) (tear := tear) (cut := cut) HP.out hjl)
          have HGO := Lib.hid (rowOf_goes (keep := keep) (tear := tear) (cut := cut) HP.out hjl)
          have HEN := Lib.hid hen
          have HAA := Lib.hid hA
          have HMM := Lib.hid hM
          have HJL := Lib.hid hjl
          have HOWN4 := Lib.hid HOWN3
          rw [hen, hA]
          have hAm : (A : Int) < (M : Int) := by omega
          clear hen hA hM HOWN3 HOWN2 hcA hj hjl
          by_cases c1 : k < kl
          · obtain ⟨x, hx⟩ : ∃ x, keep[k]? = some x := ⟨_, List.getElem?_eq_getElem (by have := HK.out.hlen; omega)⟩
            obtain ⟨kb, ko, rfl, hkb, hkc⟩ := HK.out.hat k x hx
            have hkcell : wr.cell? ⟨kb, ko + k, none⟩ = some (.bool x) := (HBW.out.cell (p := ⟨kb, ko + k, none⟩) hkb).trans hkc
            have c2 : (k : Int) < (kl : Int) := by omega
            have HX := Lib.hid hx
            clear hkc hx
            by_cases g1 : (k : Int) = tear
            · have g2 : ((k : Int) == tear) = true := by simp [g1]
              by_cases g3 : (j : Int) < cut
              · have HB := Lib.hid (show staysB keep tear cut k j = true by unfold staysB; rw [if_pos g1]; simp [g3])
                clear g1
                obtain ⟨h1, h2⟩ := HSTAY.out HB.out
                rw [HAA.out] at h2
                have hown := HOWN4.out
                rw [← h1] at hown
                have HOWN5 := Lib.hid hown
                have HEN5 := Lib.hid h2
                have hA1 : F.firm.length + sumTo F.loose k + (j + 1) = A + 1 := by have := HAA.out; omega
                have HA1 := Lib.hid hA1
                clear h1 h2 hown HOWN4 hA1 HEN HX
                go_wp2_with fail
                go_roundw
                case rel => exact ⟨j + 1, HJL.out, by go_num, by rw [HEN5.out]; go_num, by rw [HA1.out]; go_num, by rw [HMM.out]; exact HOWN5.out, HBL2.out⟩
                case measure => simp [intOf]; omega
              · have HB := Lib.hid (show staysB keep tear cut k j = false by unfold staysB; rw [if_pos g1]; simp [g3])
                clear g1
                obtain ⟨h1, h2⟩ := HGO.out HB.out
                rw [HAA.out] at h1
                rw [HEN.out] at h2
                have hown := (HOWN4.out.stored A (.int .u8 0)).1
                have e0 : (Value.int .u8 0) = .int .u8 ((0 : UInt8).toNat : Int) := rfl
                rw [show (u8s (rowOf F keep tear cut k j)).set A (.int .u8 0) = u8s (rowOf F keep tear cut k (j + 1)) by rw [h1, ← u8s_set]; rfl] at hown
                have HOWN5 := Lib.hid hown
                have HEN5 := Lib.hid h2
                have hA1 : F.firm.length + sumTo F.loose k + (j + 1) = A + 1 := by have := HAA.out; omega
                have HA1 := Lib.hid hA1
                have HBL5 := Lib.hid (HBL2.out.setCell (p := ⟨g, A, none⟩) hgn (.int .u8 0))
                clear h1 h2 hown HOWN4 hA1 HEN HX e0
                go_wp2_with fail
                go_roundw
                case rel => exact ⟨j + 1, HJL.out, by go_num, by rw [HEN5.out], by rw [HA1.out]; go_num, by rw [HMM.out]; exact HOWN5.out, HBL5.out⟩
                case measure => simp [intOf]; omega
            · have g2 : ((k : Int) == tear) = false := by simp [g1]
              cases x with
              | true =>
                have HB := Lib.hid (show staysB keep tear cut k j = true by unfold staysB; rw [if_neg g1]; simp [HX.out])
                clear g1
                obtain ⟨h1, h2⟩ := HSTAY.out HB.out
                rw [HAA.out] at h2
                have hown := HOWN4.out
                rw [← h1] at hown
                have HOWN5 := Lib.hid hown
                have HEN5 := Lib.hid h2
                have hA1 : F.firm.length + sumTo F.loose k + (j + 1) = A + 1 := by have := HAA.out; omega
                have HA1 := Lib.hid hA1
                clear h1 h2 hown HOWN4 hA1 HEN HX
                go_wp2_with fail
                go_roundw
                case rel => exact ⟨j + 1, HJL.out, by go_num, by rw [HEN5.out]; go_num, by rw [HA1.out]; go_num, by rw [HMM.out]; exact HOWN5.out, HBL2.out⟩
                case measure => simp [intOf]; omega
              | false =>
                have HB := Lib.hid (show staysB keep tear cut k j = false by unfold staysB; rw [if_neg g1]; simp [HX.out])
                clear g1
                obtain ⟨h1, h2⟩ := HGO.out HB.out
                rw [HAA.out] at h1
                rw [HEN.out] at h2
                have hown := (HOWN4.out.stored A (.int .u8 0)).1
                have e0 : (Value.int .u8 0) = .int .u8 ((0 : UInt8).toNat : Int) := rfl
                rw [show (u8s (rowOf F keep tear cut k j)).set A (.int .u8 0) = u8s (rowOf F keep tear cut k (j + 1)) by rw [h1, ← u8s_set]; rfl] at hown
                have HOWN5 := Lib.hid hown
                have HEN5 := Lib.hid h2
                have hA1 : F.firm.length + sumTo F.loose k + (j + 1) = A + 1 := by have := HAA.out; omega
                have HA1 := Lib.hid hA1
                have HBL5 := Lib.hid (HBL2.out.setCell (p := ⟨g, A, none⟩) hgn (.int .u8 0))
                clear h1 h2 hown HOWN4 hA1 HEN HX e0
                go_wp2_with fail
                go_roundw
                case rel => exact ⟨j + 1, HJL.out, by go_num, by rw [HEN5.out], by rw [HA1.out]; go_num, by rw [HMM.out]; exact HOWN5.out, HBL5.out⟩
                case measure => simp [intOf]; omega
          · have c2 : ¬ (k : Int) < (kl : Int) := by omega
            have HX := Lib.hid (show keep[k]? = none from List.getElem?_eq_none (by have := HK.out.hlen; omega))
            by_cases g1 : (k : Int) = tear
            · have g2 : ((k : Int) == tear) = true := by simp [g1]
              by_cases g3 : (j : Int) < cut
              · have HB := Lib.hid (show staysB keep tear cut k j = true by unfold staysB; rw [if_pos g1]; simp [g3])
                clear g1
                obtain ⟨h1, h2⟩ := HSTAY.out HB.out
                rw [HAA.out] at h2
                have hown := HOWN4.out
                rw [← h1] at hown
                have HOWN5 := Lib.hid hown
                have HEN5 := Lib.hid h2
                have hA1 : F.firm.length + sumTo F.loose k + (j + 1) = A + 1 := by have := HAA.out; omega
                have HA1 := Lib.hid hA1
                clear h1 h2 hown HOWN4 hA1 HEN HX
                go_wp2_with fail
                go_roundw
                case rel => exact ⟨j + 1, HJL.out, by go_num, by rw [HEN5.out]; go_num, by rw [HA1.out]; go_num, by rw [HMM.out]; exact HOWN5.out, HBL2.out⟩
                case measure => simp [intOf]; omega
              · have HB := Lib.hid (show staysB keep tear cut k j = false by unfold staysB; rw [if_pos g1]; simp [g3])
                clear g1
                obtain ⟨h1, h2⟩ := HGO.out HB.out
                rw [HAA.out] at h1
                rw [HEN.out] at h2
                have hown := (HOWN4.out.stored A (.int .u8 0)).1
                have e0 : (Value.int .u8 0) = .int .u8 ((0 : UInt8).toNat : Int) := rfl
                rw [show (u8s (rowOf F keep tear cut k j)).set A (.int .u8 0) = u8s (rowOf F keep tear cut k (j + 1)) by rw [h1, ← u8s_set]; rfl] at hown
                have HOWN5 := Lib.hid hown
                have HEN5 := Lib.hid h2
                have hA1 : F.firm.length + sumTo F.loose k + (j + 1) = A + 1 := by have := HAA.out; omega
                have HA1 := Lib.hid hA1
                have HBL5 := Lib.hid (HBL2.out.setCell (p := ⟨g, A, none⟩) hgn (.int .u8 0))
                clear h1 h2 hown HOWN4 hA1 HEN HX e0
                go_wp2_with fail
                go_roundw
                case rel => exact ⟨j + 1, HJL.out, by go_num, by rw [HEN5.out], by rw [HA1.out]; go_num, by rw [HMM.out]; exact HOWN5.out, HBL5.out⟩
                case measure => simp [intOf]; omega
            · have g2 : ((k : Int) == tear) = false := by simp [g1]
              have HB := Lib.hid (show staysB keep tear cut k j = false by unfold staysB; rw [if_neg g1]; simp [HX.out])
              clear g1
              obtain ⟨h1, h2⟩ := HGO.out HB.out
              rw [HAA.out] at h1
              rw [HEN.out] at h2
              have hown := (HOWN4.out.stored A (.int .u8 0)).1
              have e0 : (Value.int .u8 0) = .int .u8 ((0 : UInt8).toNat : Int) := rfl
              rw [show (u8s (rowOf F keep tear cut k j)).set A (.int .u8 0) = u8s (rowOf F keep tear cut k (j + 1)) by rw [h1, ← u8s_set]; rfl] at hown
              have HOWN5 := Lib.hid hown
              have HEN5 := Lib.hid h2
              have hA1 : F.firm.length + sumTo F.loose k + (j + 1) = A + 1 := by have := HAA.out; omega
              have HA1 := Lib.hid hA1
              have HBL5 := Lib.hid (HBL2.out.setCell (p := ⟨g, A, none⟩) hgn (.int .u8 0))
              clear h1 h2 hown HOWN4 hA1 HEN HX e0
              go_wp2_with fail
              go_roundw
              case rel => exact ⟨j + 1, HJL.out, by go_num, by rw [HEN5.out], by rw [HA1.out]; go_num, by rw [HMM.out]; exact HOWN5.out, HBL5.out⟩
              case measure => simp [intOf]; omega
        · have hje : j = p.length := by omega
          have hj3 : ¬ (j : Int) < (pl : Int) := by have := HPL.out; omega
          have hE := endOf_next (keep := keep) (tear := tear) (cut := cut) HP.out
          have hR := rowOf_next (keep := keep) (tear := tear) (cut := cut) HP.out
          have hS1 := sumTo_succ HP.out
          rw [← hje] at hE hR hS1
          have hown := HOWN2.out
          rw [hR] at hown
          have HE := Lib.hid hE
          have HOWN3 := Lib.hid hown
          obtain ⟨en, hen⟩ : ∃ en, endOf F keep tear cut k j = en := ⟨_, rfl⟩
          have hen2 := hE.symm.trans hen
          obtain ⟨A, hA⟩ : ∃ A, F.firm.length + sumTo F.loose k + j = A := ⟨_, rfl⟩
          have hA2 : F.firm.length + sumTo F.loose (k + 1) = A := by omega
          have HEN := Lib.hid hen2
          have HAA := Lib.hid hA2
          rw [hen, hA]
          clear hje hjl hj hE hR hS1 hown HOWN2 hen hen2 hA hA2 HE
          go_wp2_with fail
          go_roundw
          case rel => exact ⟨k + 1, HLT.out, by go_num, by rw [HEN.out], by rw [HAA.out], HOWN3.out, HBL2.out⟩
          case measure => simp [intOf]; omega
    · have hke : k = F.loose.length := by omega
      have hkl : ¬ (k : Int) < (ll : Int) := by omega
      have hop : (F.crash keep tear cut).1 = { firm := (crashTo F keep tear cut F.loose.length).1, loose := [], fuse := -1, fault := -1, off := false } := by
        unfold FileD.crash; rw [if_pos HR.out]
      have hown := HOWN.out
      rw [hke] at hown
      obtain ⟨en, hen⟩ : ∃ en, endOf F keep tear cut k 0 = en := ⟨_, rfl⟩
      have hen2 : en = (crashTo F keep tear cut F.loose.length).1.length := by rw [← hen, endOf_zero, hke]
      have hcl := crashTo_len F keep tear cut F.loose.length
      rw [sumTo_all] at hcl
      have henl : en ≤ F.many := by unfold FileD.many; omega
      have henm : en ≤ 524288 := by have := HM.out; omega
      obtain ⟨a', c', rfl, h1', h2', h3', h4'⟩ := own_cells hown
      have hCT := (h4'.take henl)
      rw [u8s_take] at hCT
      have hend := rowOf_end F keep tear cut
      rw [← hke, hen, hke] at hend
      rw [hend] at hCT
      have hby : BytesS wo (fun b => w.heap.size + 1 + 1 ≤ b) a' en c' (crashTo F keep tear cut F.loose.length).1 := BytesS.of_cells hCT (by omega) h2' (by omega) h3'
      have HBY := Lib.hid hby
      have HOP := Lib.hid hop
      have B2 := HB0.out.below HBL.out (by omega)
      have q3 := B2.cells
      have m3 := B2.marks
      have l3 := B2.lt
      have henc : (en : Int) ≤ (c' : Int) := by omega
      have hbw : Below w.heap.size w wo := HWL.out.trans (HBL.out.mono (by omega))
      have HBW := Lib.hid hbw
      rw [hen]
      clear hke hlt hop hown hen hen2 hcl henl h1' h2' h3' h4' hCT hend hby hbw
      have hr2 := ((((B2.set 0 (.slice a' en c')).set 1 (.slice none 0 0)).set 2 (.int .i64 (-1))).set 3 (.int .i64 (-1))).set 4 (.bool false)
      have c2 := hr2.cells
      simp only [List.set_cons_zero, List.set_cons_succ] at c2
      go_wp2
      rw [HOP.out]
      refine bodyPost_ret (v := .agg #[.slice a' en c', .slice none 0 0, .int .i64 (-1), .int .i64 (-1), .bool false]) (by simp [results, Try.results57, go_sem, c2]) rfl ⟨a', en, c', none, 0, 0, rfl, ⟨?_, LooseS.nil_, by unfold I64'; simp, by unfold I64'; simp⟩, ?_⟩
      · refine (HBY.out.same (Only.size (p := w.heap.size + 1) (by repeat (first | (with_reducible exact Only.refl _ _) | (with_reducible refine Only.set ?_ _ _) | (with_reducible refine Only.alloc ?_ _) | (with_reducible refine Only.drew ?_)))) (fun b h hlt => Only.block (p := w.heap.size + 1) (by repeat (first | (with_reducible exact Only.refl _ _) | (with_reducible refine Only.set ?_ _ _) | (with_reducible refine Only.alloc ?_ _) | (with_reducible refine Only.drew ?_))) b hlt ?_)).mono (T := Or S w) (fun b h => ?_)
        · omega
        · exact .inr (by omega)
      · exact (by repeat (first | (with_reducible exact Below.refl _ _) | (with_reducible exact Below.refl _ _) | (with_reducible refine Below.setCell ?_ (by first | omega | (simp; done) | (simp; omega)) _) | (with_reducible refine Below.alloc ?_ (by first | omega | (simp; done) | (simp; omega)) _) | (with_reducible refine Below.drew ?_) | (with_reducible refine below_drewN ?_ _) | (with_reducible refine Below.trans ?_ (HBW.out.mono (by first | omega | (simp; done) | (simp; omega))))))
end Go.Proofs.Ytmjmjjakhmeogaa
