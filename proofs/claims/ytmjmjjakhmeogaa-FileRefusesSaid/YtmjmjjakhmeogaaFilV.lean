/-
  Layer 10: Crash, walked: the program's.
-/
import Derived.Test.YtmjmjjakhmeogaaFilU
import Derived.Test.YtmjmjjakhmeogaaFirm
namespace Go.Dav
set_option linter.unusedVariables false
set_option linter.unusedSimpArgs false
open Go Go.RowKit
structure BoolsAt (W : World) (a : Option Addr) (len cap : Nat) (l : List Bool) : Prop where
  hlen : l.length = len
  hcap : len ≤ cap
  hfew : len ≤ 140737488355328
  hat : ∀ (k : Nat) (x : Bool), l[k]? = some x → ∃ b o, a = some ⟨b, o, none⟩ ∧ b < W.heap.size ∧ W.cell? ⟨b, o + k, none⟩ = some (.bool x)
theorem BoolsAt.ext {W W' : World} {a : Option Addr} {len cap : Nat} {l : List Bool} (h : BoolsAt W a len cap l) (hb : Below W.heap.size W W') : BoolsAt W' a len cap l :=
  ⟨h.hlen, h.hcap, h.hfew, fun k x hk => by
    obtain ⟨b, o, h1, h2, h3⟩ := h.hat k x hk
    exact ⟨b, o, h1, Nat.lt_of_lt_of_le h2 hb.size, by rw [hb.cell (p := ⟨b, o + k, none⟩) h2]; exact h3⟩⟩
theorem FirmOf.bytes {e : TypeId} {S : Nat → Prop} {n : Nat} {v : Value} {l : List UInt8} {W : World} (h : FirmOf e S n v l W) (hl : l.length ≤ 140737488355328) : ∃ a c, v = .slice a l.length c ∧ BytesS W (fun b => S b ∨ n ≤ b) a l.length c l := by
  rcases h with ⟨a, rfl, h2, h3⟩ | h
  · exact ⟨a, _, rfl, BytesS.of_cells (h2.mono fun b hb => .inl hb) (Nat.le_refl _) (by unfold maxLen; omega) hl h3⟩
  · obtain ⟨a, c, rfl, h1, h2, h3, h4⟩ := own_cells h
    exact ⟨a, c, rfl, BytesS.of_cells (h4.mono fun b hb => .inr hb) h1 h2 hl h3⟩
end Go.Dav
namespace Go.Proofs.Ytmjmjjakhmeogaa
set_option linter.unusedVariables false
set_option linter.unusedSimpArgs false
open Go.RowKit Go.Dav
attribute [local go_sem] Gives ite_val ite_val_true

def TryCrashRel (w w1 : World) (S : Nat → Prop) (G n₀ : Nat) (F : FileD) (keep : List Bool) (tear cut : Int) (ix lost : Value) (wr : World) : Prop :=
  ∃ (k : Nat) (v : Value), k ≤ F.loose.length ∧ ix = .int .i64 k ∧ lost = .int .i64 ((crashTo F keep tear cut k).2 : Int) ∧ Blk wr G [v, .slice none 0 0, .int .i64 (-1), .int .i64 (-1), .bool false] 25 ∧
    FirmOf 5 S n₀ v (crashTo F keep tear cut k).1 wr ∧ Below n₀ w1 wr

set_option maxRecDepth 8000 in
set_option maxHeartbeats 8000000 in
theorem Try_Crash_yes (F : FileD) (fa la ka : Option Addr) (fl fc ll lc kl kc : Nat) (keep : List Bool) (tear cut : Int) (w : World) (S : Nat → Prop) (hF : FileS w S fa fl fc la ll lc F) (hK : BoolsAt w ka kl kc keep) (hS : ∀ b, S b → b < w.heap.size) (hr : F.right = true) (ht : I64' tear) (hcut : I64' cut) :
    Calls Try.prog 31 #[.agg #[.slice fa fl fc, .slice la ll lc, .int .i64 F.fuse, .int .i64 F.fault, .bool F.off], .slice ka kl kc, .int .i64 tear, .int .i64 cut] w (GivesFile w S (F.crash keep tear cut).1 (F.crash keep tear cut).2) := by
  have hW : Below w.heap.size w ((w.alloc (.cells [.slice fa fl fc, .slice la ll lc, .int .i64 F.fuse, .int .i64 F.fault, .bool F.off].toArray 25)).alloc (.cells #[.slice none 0 0, .slice none 0 0, .int .i64 0, .int .i64 0, .bool false] 25)) := (by repeat (first | (with_reducible exact Below.refl _ _) | (with_reducible exact Below.refl _ _) | (with_reducible refine Below.setCell ?_ (by first | omega | (simp; done) | (simp; omega)) _) | (with_reducible refine Below.alloc ?_ (by first | omega | (simp; done) | (simp; omega)) _) | (with_reducible refine Below.drew ?_) | (with_reducible refine below_drewN ?_ _)))
  have hf0 := (Blk.new w [.slice fa fl fc, .slice la ll lc, .int .i64 F.fuse, .int .i64 F.fault, .bool F.off] 25).alloc (o := (.cells #[.slice none 0 0, .slice none 0 0, .int .i64 0, .int .i64 0, .bool false] 25))
  have B0 := Blk.new' (w.alloc (.cells [.slice fa fl fc, .slice la ll lc, .int .i64 F.fuse, .int .i64 F.fault, .bool F.off].toArray 25)) [.slice none 0 0, .slice none 0 0, .int .i64 0, .int .i64 0, .bool false] 25 (p := w.heap.size + 1) (by simp)
  have hC := Try_Check F fa la fl fc ll lc _ (hF.ext hW).at_
  rw [FileD.err_right hr] at hC
  have HC := Lib.hid hC
  have HF := Lib.hid (hF.ext hW)
  have HK := Lib.hid (hK.ext hW)
  have HK0 := Lib.hid hK
  have HSS := Lib.hid hS
  have HR := Lib.hid hr
  have HF0 := Lib.hid hf0
  have HB0 := Lib.hid B0
  have HTT := Lib.hid ht
  have HCT := Lib.hid hcut
  have f0 : (0 : Int) ≤ (fl : Int) := by omega
  have f1 : (fl : Int) ≤ (fc : Int) := by have := hF.firm.at_.hcap; omega
  have f2 : fl ≤ fc := hF.firm.at_.hcap
  clear hW hf0 B0 hC hF hK hS hr ht hcut
  go_enter Try.func31, Try.ntmps31
  go_wp2_with fail
  refine HC.out.mono ?_; rintro e w1 ⟨rfl, hb1⟩
  have s1 := hb1.size
  simp only [World.size_alloc] at s1
  have B1 := HF0.out.ext hb1
  have q1 := B1.cells
  have l1 := B1.lt
  have HF1 := Lib.hid B1
  have HB1 := Lib.hid (HB0.out.ext hb1)
  have HW1 := Lib.hid hb1
  clear B1 hb1 HC HF0 HB0
  go_wp2_with fail
  refine (Try_New w1).mono ?_; rintro e w2 ⟨rfl, hb2⟩
  have s2 := hb2.size
  have B1 := HF1.out.ext hb2
  have HB2 := Lib.hid (HB1.out.ext hb2)
  clear q1 l1
  have q1 := B1.cells
  have l1 := B1.lt
  have HF2 := Lib.hid B1
  have HW2 := Lib.hid hb2
  clear B1 hb2 HF1 HB1
  have HF3 := Lib.hid (HF2.out.alloc (o := .cells #[.slice fa fl fl, .slice none 0 0, .int .i64 (-1), .int .i64 (-1), .bool false] 25))
  have hG := Blk.new w2 [.slice fa fl fl, .slice none 0 0, .int .i64 (-1), .int .i64 (-1), .bool false] 25
  have HG := Lib.hid hG
  have HB3 := Lib.hid (HB2.out.alloc (o := .cells #[.slice fa fl fl, .slice none 0 0, .int .i64 (-1), .int .i64 (-1), .bool false] 25))
  have hm1 := (FileD.right_spec.1 HR.out).2.2.2.2
  have hm2 : F.firm.length ≤ F.many := by unfold FileD.many; omega
  have hw1L : Below w1.heap.size w1 (w2.alloc (.cells #[.slice fa fl fl, .slice none 0 0, .int .i64 (-1), .int .i64 (-1), .bool false] 25)) := (by repeat (first | (with_reducible exact Below.refl _ _) | (with_reducible exact Below.refl _ _) | (with_reducible refine Below.setCell ?_ (by first | omega | (simp; done) | (simp; omega)) _) | (with_reducible refine Below.alloc ?_ (by first | omega | (simp; done) | (simp; omega)) _) | (with_reducible refine Below.drew ?_) | (with_reducible refine below_drewN ?_ _) | (with_reducible refine Below.trans ?_ (HW2.out.mono (by first | omega | (simp; done) | (simp; omega))))))
  have HFL := Lib.hid ((HF.out.ext HW1.out).ext hw1L)
  have HKL := Lib.hid ((HK.out.ext HW1.out).ext hw1L)
  have hfirm : FirmOf 5 S w2.heap.size (.slice fa fl fl) (crashTo F keep tear cut 0).1 (w2.alloc (.cells #[.slice fa fl fl, .slice none 0 0, .int .i64 (-1), .int .i64 (-1), .bool false] 25)) := by
    have e : fl = F.firm.length := HFL.out.firm.at_.hlen.symm
    refine .inl ⟨fa, by show _ = Value.slice fa F.firm.length F.firm.length; rw [← e], ?_, fun h => ?_⟩
    · show CellsS _ S fa F.firm.length (u8s F.firm)
      rw [← e]; exact HFL.out.firm.cells
    · have := HFL.out.firm.at_.hnil h
      show F.firm.length = 0; omega
  have HFIRM := Lib.hid hfirm
  have HM := Lib.hid (And.intro hm1 hm2)
  clear hG hm1 hm2 hw1L hfirm HF2
  go_wp2_with fail
  go_loopw [36, 12] (fun ix lost wr => TryCrashRel w (w2.alloc (.cells #[.slice fa fl fl, .slice none 0 0, .int .i64 (-1), .int .i64 (-1), .bool false] 25)) S w2.heap.size w2.heap.size F keep tear cut ix lost wr) (fun ix _ _ => ll - (intOf ix).toNat)
  case atStart => exact ⟨0, _, Nat.zero_le _, rfl, rfl, HG.out, HFIRM.out, Below.refl _ _⟩
  case round =>
    obtain ⟨k, v, hk, rfl, rfl, hgb, hfo, hbl⟩ := hrel
    have hlo := crashTo_le F keep tear cut k
    have hsm := sumTo_mono F.loose k
    obtain ⟨lost, hlost⟩ : ∃ lost, (crashTo F keep tear cut k).2 = lost := ⟨_, rfl⟩
    obtain ⟨out, hout⟩ : ∃ out, (crashTo F keep tear cut k).1 = out := ⟨_, rfl⟩
    rw [hlost, hout] at hlo
    rw [hout] at hfo
    rw [hlost]
    have hmany : out.length + lost ≤ 524288 := by
      have h1 := HM.out.1
      unfold FileD.many at h1
      omega
    have hloI : (lost : Int) ≤ 524288 := by omega
    have hFk := HF3.out.below hbl (by have := HF3.out.lt; simp at this; omega)
    have q1 := hFk.cells
    have q2 := hgb.cells
    have m2 := hgb.marks
    have l1 := hFk.lt
    have l2 := hgb.lt
    have hk2 : k ≤ ll := by have := HFL.out.loose.hlen; omega
    have hll : ll ≤ 140737488355328 := HFL.out.loose.hfew
    have HST := Lib.hid (show crashTo F keep tear cut k = (out, lost) from by rw [← hlost, ← hout])
    have HFO := Lib.hid hfo
    have HBL := Lib.hid hbl
    have HGB := Lib.hid hgb
    clear hlost hout hfo hbl hgb hFk hlo hsm
    by_cases hlt : k < F.loose.length
    · obtain ⟨p, hp⟩ : ∃ p, F.loose[k]? = some p := ⟨_, List.getElem?_eq_getElem hlt⟩
      obtain ⟨b, o, pa, pl, pc, rfl, hb, hSb, hc, hP⟩ := HFL.out.loose.hat k p hp
      have hcell : wr.cell? ⟨b, o + k, none⟩ = some (.slice pa pl pc) := (HBL.out.cell (p := ⟨b, o + k, none⟩) (by have := HSS.out b hSb; show b < _; omega)).trans hc
      have hpl := hP.at_.hlen
      have hp2 : pl ≤ 524288 := by have := loose_le hp; have := HM.out.1; omega
      have hp3 : (pl : Int) ≤ 524288 := by omega
      have hpc : pl ≤ pc := hP.at_.hcap
      have hpne : pl ≠ 0 := by
        intro h
        have := List.all_eq_true.1 (FileD.right_spec.1 HR.out).1 p (List.mem_of_getElem? hp)
        have hnil : p = [] := List.length_eq_zero_iff.1 (by omega)
        rw [hnil] at this; cases this
      have hkl : (k : Int) < (ll : Int) := by have := HFL.out.loose.hlen; omega
      have HLT := Lib.hid hlt
      have hstep := crashTo_succ (keep := keep) (tear := tear) (cut := cut) hp
      rw [HST.out] at hstep
      have hsle := staysOf_le keep tear cut k p
      have HSTEP := Lib.hid hstep
      have HP := Lib.hid hP
      have HPL := Lib.hid hpl
      have htk : F.firm.length + sumTo F.loose k + pl ≤ 524288 := by
        have h1 := sumTo_succ hp
        have h2 := sumTo_mono F.loose (k + 1)
        have h3 := HM.out.1
        unfold FileD.many at h3
        omega
      have HTK := Lib.hid htk
      clear hstep hlt hk hP hp hb hSb hc htk
      by_cases g1 : (k : Int) = tear
      · have g1' : ((k : Int) == tear) = true := by simp [g1]
        by_cases c0 : cut < 0
        · have HE := Lib.hid (show staysOf keep tear cut k p = 0 by unfold staysOf; rw [if_pos g1]; omega)
          have c1 : ¬ (pl : Int) < 0 := by omega
          clear g1 hsle
          have hval : crashTo F keep tear (cut) (k + 1) = (out, lost + pl) := by
            rw [HSTEP.out]
            unfold crashStep
            rw [HE.out, if_neg (by omega), HPL.out]
          have HVAL := Lib.hid hval
          clear hval
          go_wp2_with fail
          go_roundw
          case rel => exact ⟨k + 1, v, HLT.out, by go_num, by rw [HVAL.out]; go_num, HGB.out, by rw [HVAL.out]; exact HFO.out, HBL.out⟩
          case measure => simp [intOf]; omega
        · obtain ⟨mx, rfl⟩ : ∃ mx : Nat, cut = (mx : Int) := ⟨cut.toNat, by omega⟩
          by_cases c1 : pl < mx
          · have HE := Lib.hid (show staysOf keep tear (mx : Int) k p = pl by unfold staysOf; rw [if_pos g1, hpl]; omega)
            have c2 : (pl : Int) < (mx : Int) := by omega
            have g10 : (0 : Int) < (pl : Int) := by omega
            clear g1 hsle
            have hval : crashTo F keep tear ((mx : Int)) (k + 1) = (out ++ List.replicate lost 0 ++ p.take pl, pl - pl) := by
              rw [HSTEP.out]
              unfold crashStep
              rw [HE.out, if_pos (by omega), HPL.out]
            have HVAL := Lib.hid hval
            clear hval
            go_wp2_with fail
            have hstc : pl ≤ pc := by omega
            refine wp_region_any (by kernel_rfl) ?_
            refine wpAny_takeD (i := 0) (v := ?_) (some 65) rfl rfl (by kernel_rfl) (by kernel_rfl) (by kernel_rfl) (fun _ _ _ h => h) (Or.inl ⟨by rfl, ?_⟩) ?_
            rotate_left
            · intro w'; go_simp; rfl
            simp only [Act.put, List.setIfInBounds_toArray, List.set_cons_zero, List.set_cons_succ]
            refine wpAny_takeD (i := 2) (v := ?_) (some 67) rfl rfl (by kernel_rfl) (by kernel_rfl) (by kernel_rfl) (fun _ _ _ h => h) (Or.inl ⟨by rfl, ?_⟩) ?_
            rotate_left
            · intro w'; go_simp; rfl
            simp only [Act.put, List.setIfInBounds_toArray, List.set_cons_zero, List.set_cons_succ]
            refine wpAny_takeD (i := 4) (v := ?_) (some 69) rfl rfl (by kernel_rfl) (by kernel_rfl) (by kernel_rfl) (fun _ _ _ h => h) (Or.inl ⟨by rfl, ?_⟩) ?_
            rotate_left
            · intro w'; go_simp; rfl
            simp only [Act.put, List.setIfInBounds_toArray, List.set_cons_zero, List.set_cons_succ]
            refine wpAny_takeD (i := 5) (v := ?_) (some 70) rfl rfl (by kernel_rfl) (by kernel_rfl) (by kernel_rfl) (fun _ _ _ h => h) (Or.inl ⟨by rfl, ?_⟩) ?_
            rotate_left
            · intro w'; go_simp; rfl
            simp only [Act.put, List.setIfInBounds_toArray, List.set_cons_zero, List.set_cons_succ]
            refine wpAny_takeD (i := 6) (v := ?_) (some 71) rfl rfl (by kernel_rfl) (by kernel_rfl) (by kernel_rfl) (fun _ _ _ h => h) (Or.inl ⟨by rfl, ?_⟩) ?_
            rotate_left
            · intro w'; go_simp; rfl
            simp only [Act.put, List.setIfInBounds_toArray, List.set_cons_zero, List.set_cons_succ]
            refine wpAny_runsD (i := 1) (v := v) (w' := wr.drew) (some 66) (by kernel_rfl) rfl rfl (by rfl) ?_ ?_
            · go_simp
            simp only [Act.put, List.setIfInBounds_toArray, List.set_cons_zero, List.set_cons_succ]
            obtain ⟨i0, hi, hz0, hz1, hz2⟩ := info_parts Try_infoU8
            obtain ⟨v3, w3, hr3, hf3, hg3⟩ := firm_zeros (P := Try.prog) (W := wr.drew) 22 3 22 5 i0 .i64 Try.underlying22 Try.underlying3 hi hz0 hz1 hz2 S w2.heap.size (by show _ ≤ wr.heap.size; omega) v out (HFO.out.ext ((Below.refl _ wr).drew)) lost (by omega)
            refine wpAny_runsD (i := 3) (v := v3) (w' := w3) (some 68) (by kernel_rfl) rfl rfl (by rfl) ?_ ?_
            · exact run_append_op (s := .tmp 66) (x := .tmp 67) (v1 := v) (v2 := .int .i64 (lost : Int)) rfl (by rfl) (by rfl) hr3
            simp only [Act.put, List.setIfInBounds_toArray, List.set_cons_zero, List.set_cons_succ]
            clear hr3
            have hPw := HP.out.same HBL.out.size (fun b hb _ => HBL.out.block b (by have := HSS.out b hb; omega))
            have hx3 := (hPw.same (W' := w3) hg3.size (fun b hb hlt => hg3.block b hlt (.inl (by have := HSS.out b hb; omega)))).cells.take (k := pl) (by omega)
            rw [u8s_take] at hx3
            have hpane : pa ≠ none := fun e => by
              obtain ⟨b0, o0, h1, _⟩ := HP.out.at_.hat 0 (p[0]'(by omega)) (List.getElem?_eq_getElem (by omega))
              rw [e] at h1; cases h1
            have hs3 := hg3.size
            simp only [World.size_drew] at hs3
            obtain ⟨v4, w4, hr4, hs4, hown4, hg4⟩ := firm_append (P := Try.prog) (W := w3) Try_elemU8 22 S w2.heap.size (by omega) v3 (out ++ List.replicate lost 0) hf3 S pa pl pc (p.take pl) hx3 hpane (by omega) (by simp; omega)
            obtain ⟨out', hout'⟩ : ∃ out', out ++ List.replicate lost 0 ++ p.take pl = out' := ⟨_, rfl⟩
            rw [hout'] at hown4
            have hval' := HVAL.out
            rw [hout'] at hval'
            have HVAL2 := Lib.hid hval'
            clear hval' hout' HVAL
            obtain ⟨a4, c4, rfl, _⟩ := own_cells hown4
            refine wpAny_runsD (i := 7) (v := .slice a4 out'.length c4) (w' := w4) (some 72) (by kernel_rfl) rfl rfl (by rfl) ?_ ?_
            · exact run_append_op (s := .tmp 68) (x := .tmp 71) (v1 := v3) (v2 := .slice pa pl pc) rfl (by rfl) (by rfl) hr4
            simp only [Act.put, List.setIfInBounds_toArray, List.set_cons_zero, List.set_cons_succ]
            clear hr4
            refine wpAny_runsD (i := 8) (v := .pointer (some ⟨w2.heap.size, 0, none⟩)) (w' := w4) (some 73) (by kernel_rfl) rfl rfl (by rfl) ?_ ?_
            · go_simp
            simp only [Act.put, List.setIfInBounds_toArray, List.set_cons_zero, List.set_cons_succ]
            have hG4 := hg4.blk (hg3.blk HGB.out.drew (by decide)) (by decide)
            have q4 := hG4.cells
            have m4 := hG4.marks
            refine wpAny_skipsD (i := 9) (w' := w4.setCell ⟨w2.heap.size, 0, none⟩ (.slice a4 out'.length c4)) none (by kernel_rfl) rfl rfl (by rfl) ?_ ?_
            · go_simp
            simp only [Act.put, List.setIfInBounds_toArray, List.set_cons_zero, List.set_cons_succ]
            refine wpAny_done (by kernel_rfl) ?_ _
            have hbel4 := ((HBL.out.drew.trans (hg3.below (by simp; omega))).trans (hg4.below (by omega))).setCell (p := ⟨w2.heap.size, 0, none⟩) (Nat.le_refl _) (.slice a4 out'.length c4)
            have hG5 := hG4.set 0 (.slice a4 out'.length c4)
            have hown5 := ownsRow_set_other (i := 0) (u := .slice a4 out'.length c4) hown4 hG4 (by decide)
            have HG5 := Lib.hid hG5
            have HOWN5 := Lib.hid hown5
            have HBEL4 := Lib.hid hbel4
            clear hx3 hpane hPw hf3 hg3 hs4 hown4 hg4 hG4 q4 m4 hbel4 hG5 hown5
            go_wp2_with fail
            go_roundw
            case rel => exact ⟨k + 1, _, HLT.out, by go_num, by rw [HVAL2.out]; go_num, HG5.out, by rw [HVAL2.out]; exact .inr HOWN5.out, HBEL4.out⟩
            case measure => simp [intOf]; omega
          · have c2 : ¬ (pl : Int) < (mx : Int) := by omega
            by_cases c3 : mx = 0
            · subst c3
              have HE := Lib.hid (show staysOf keep tear ((0 : Nat) : Int) k p = 0 by unfold staysOf; rw [if_pos g1]; omega)
              clear g1 hsle
              have hval : crashTo F keep tear (((0 : Nat) : Int)) (k + 1) = (out, lost + pl) := by
                rw [HSTEP.out]
                unfold crashStep
                rw [HE.out, if_neg (by omega), HPL.out]
              have HVAL := Lib.hid hval
              clear hval
              go_wp2_with fail
              go_roundw
              case rel => exact ⟨k + 1, v, HLT.out, by go_num, by rw [HVAL.out]; go_num, HGB.out, by rw [HVAL.out]; exact HFO.out, HBL.out⟩
              case measure => simp [intOf]; omega
            · have HE := Lib.hid (show staysOf keep tear (mx : Int) k p = mx by unfold staysOf; rw [if_pos g1, hpl]; omega)
              have g10 : (0 : Int) < (mx : Int) := by omega
              have g11 : (mx : Int) ≤ (pl : Int) := by omega
              clear g1 hsle
              have hval : crashTo F keep tear ((mx : Int)) (k + 1) = (out ++ List.replicate lost 0 ++ p.take mx, pl - mx) := by
                rw [HSTEP.out]
                unfold crashStep
                rw [HE.out, if_pos (by omega), HPL.out]
              have HVAL := Lib.hid hval
              clear hval
              go_wp2_with fail
              have hstc : mx ≤ pc := by omega
              refine wp_region_any (by kernel_rfl) ?_
              refine wpAny_takeD (i := 0) (v := ?_) (some 65) rfl rfl (by kernel_rfl) (by kernel_rfl) (by kernel_rfl) (fun _ _ _ h => h) (Or.inl ⟨by rfl, ?_⟩) ?_
              rotate_left
              · intro w'; go_simp; rfl
              simp only [Act.put, List.setIfInBounds_toArray, List.set_cons_zero, List.set_cons_succ]
              refine wpAny_takeD (i := 2) (v := ?_) (some 67) rfl rfl (by kernel_rfl) (by kernel_rfl) (by kernel_rfl) (fun _ _ _ h => h) (Or.inl ⟨by rfl, ?_⟩) ?_
              rotate_left
              · intro w'; go_simp; rfl
              simp only [Act.put, List.setIfInBounds_toArray, List.set_cons_zero, List.set_cons_succ]
              refine wpAny_takeD (i := 4) (v := ?_) (some 69) rfl rfl (by kernel_rfl) (by kernel_rfl) (by kernel_rfl) (fun _ _ _ h => h) (Or.inl ⟨by rfl, ?_⟩) ?_
              rotate_left
              · intro w'; go_simp; rfl
              simp only [Act.put, List.setIfInBounds_toArray, List.set_cons_zero, List.set_cons_succ]
              refine wpAny_takeD (i := 5) (v := ?_) (some 70) rfl rfl (by kernel_rfl) (by kernel_rfl) (by kernel_rfl) (fun _ _ _ h => h) (Or.inl ⟨by rfl, ?_⟩) ?_
              rotate_left
              · intro w'; go_simp; rfl
              simp only [Act.put, List.setIfInBounds_toArray, List.set_cons_zero, List.set_cons_succ]
              refine wpAny_takeD (i := 6) (v := ?_) (some 71) rfl rfl (by kernel_rfl) (by kernel_rfl) (by kernel_rfl) (fun _ _ _ h => h) (Or.inl ⟨by rfl, ?_⟩) ?_
              rotate_left
              · intro w'; go_simp; rfl
              simp only [Act.put, List.setIfInBounds_toArray, List.set_cons_zero, List.set_cons_succ]
              refine wpAny_runsD (i := 1) (v := v) (w' := wr.drew) (some 66) (by kernel_rfl) rfl rfl (by rfl) ?_ ?_
              · go_simp
              simp only [Act.put, List.setIfInBounds_toArray, List.set_cons_zero, List.set_cons_succ]
              obtain ⟨i0, hi, hz0, hz1, hz2⟩ := info_parts Try_infoU8
              obtain ⟨v3, w3, hr3, hf3, hg3⟩ := firm_zeros (P := Try.prog) (W := wr.drew) 22 3 22 5 i0 .i64 Try.underlying22 Try.underlying3 hi hz0 hz1 hz2 S w2.heap.size (by show _ ≤ wr.heap.size; omega) v out (HFO.out.ext ((Below.refl _ wr).drew)) lost (by omega)
              refine wpAny_runsD (i := 3) (v := v3) (w' := w3) (some 68) (by kernel_rfl) rfl rfl (by rfl) ?_ ?_
              · exact run_append_op (s := .tmp 66) (x := .tmp 67) (v1 := v) (v2 := .int .i64 (lost : Int)) rfl (by rfl) (by rfl) hr3
              simp only [Act.put, List.setIfInBounds_toArray, List.set_cons_zero, List.set_cons_succ]
              clear hr3
              have hPw := HP.out.same HBL.out.size (fun b hb _ => HBL.out.block b (by have := HSS.out b hb; omega))
              have hx3 := (hPw.same (W' := w3) hg3.size (fun b hb hlt => hg3.block b hlt (.inl (by have := HSS.out b hb; omega)))).cells.take (k := mx) (by omega)
              rw [u8s_take] at hx3
              have hpane : pa ≠ none := fun e => by
                obtain ⟨b0, o0, h1, _⟩ := HP.out.at_.hat 0 (p[0]'(by omega)) (List.getElem?_eq_getElem (by omega))
                rw [e] at h1; cases h1
              have hs3 := hg3.size
              simp only [World.size_drew] at hs3
              obtain ⟨v4, w4, hr4, hs4, hown4, hg4⟩ := firm_append (P := Try.prog) (W := w3) Try_elemU8 22 S w2.heap.size (by omega) v3 (out ++ List.replicate lost 0) hf3 S pa mx pc (p.take mx) hx3 hpane (by omega) (by simp; omega)
              obtain ⟨out', hout'⟩ : ∃ out', out ++ List.replicate lost 0 ++ p.take mx = out' := ⟨_, rfl⟩
              rw [hout'] at hown4
              have hval' := HVAL.out
              rw [hout'] at hval'
              have HVAL2 := Lib.hid hval'
              clear hval' hout' HVAL
              obtain ⟨a4, c4, rfl, _⟩ := own_cells hown4
              refine wpAny_runsD (i := 7) (v := .slice a4 out'.length c4) (w' := w4) (some 72) (by kernel_rfl) rfl rfl (by rfl) ?_ ?_
              · exact run_append_op (s := .tmp 68) (x := .tmp 71) (v1 := v3) (v2 := .slice pa mx pc) rfl (by rfl) (by rfl) hr4
              simp only [Act.put, List.setIfInBounds_toArray, List.set_cons_zero, List.set_cons_succ]
              clear hr4
              refine wpAny_runsD (i := 8) (v := .pointer (some ⟨w2.heap.size, 0, none⟩)) (w' := w4) (some 73) (by kernel_rfl) rfl rfl (by rfl) ?_ ?_
              · go_simp
              simp only [Act.put, List.setIfInBounds_toArray, List.set_cons_zero, List.set_cons_succ]
              have hG4 := hg4.blk (hg3.blk HGB.out.drew (by decide)) (by decide)
              have q4 := hG4.cells
              have m4 := hG4.marks
              refine wpAny_skipsD (i := 9) (w' := w4.setCell ⟨w2.heap.size, 0, none⟩ (.slice a4 out'.length c4)) none (by kernel_rfl) rfl rfl (by rfl) ?_ ?_
              · go_simp
              simp only [Act.put, List.setIfInBounds_toArray, List.set_cons_zero, List.set_cons_succ]
              refine wpAny_done (by kernel_rfl) ?_ _
              have hbel4 := ((HBL.out.drew.trans (hg3.below (by simp; omega))).trans (hg4.below (by omega))).setCell (p := ⟨w2.heap.size, 0, none⟩) (Nat.le_refl _) (.slice a4 out'.length c4)
              have hG5 := hG4.set 0 (.slice a4 out'.length c4)
              have hown5 := ownsRow_set_other (i := 0) (u := .slice a4 out'.length c4) hown4 hG4 (by decide)
              have HG5 := Lib.hid hG5
              have HOWN5 := Lib.hid hown5
              have HBEL4 := Lib.hid hbel4
              clear hx3 hpane hPw hf3 hg3 hs4 hown4 hg4 hG4 q4 m4 hbel4 hG5 hown5
              go_wp2_with fail
              go_roundw
              case rel => exact ⟨k + 1, _, HLT.out, by go_num, by rw [HVAL2.out]; go_num, HG5.out, by rw [HVAL2.out]; exact .inr HOWN5.out, HBEL4.out⟩
              case measure => simp [intOf]; omega
      · have g1' : ((k : Int) == tear) = false := by simp [g1]
        by_cases c1 : k < kl
        · obtain ⟨x, hx⟩ : ∃ x, keep[k]? = some x := ⟨_, List.getElem?_eq_getElem (by have := HK0.out.hlen; omega)⟩
          obtain ⟨kb, ko, rfl, hkb, hkc⟩ := HK0.out.hat k x hx
          have hbw0 : Below w.heap.size w (w2.alloc (.cells #[.slice fa fl fl, .slice none 0 0, .int .i64 (-1), .int .i64 (-1), .bool false] 25)) := (by repeat (first | (with_reducible exact Below.refl _ _) | (with_reducible exact Below.refl _ _) | (with_reducible refine Below.setCell ?_ (by first | omega | (simp; done) | (simp; omega)) _) | (with_reducible refine Below.alloc ?_ (by first | omega | (simp; done) | (simp; omega)) _) | (with_reducible refine Below.drew ?_) | (with_reducible refine below_drewN ?_ _) | (with_reducible refine Below.trans ?_ (HW2.out.mono (by first | omega | (simp; done) | (simp; omega)))) | (with_reducible refine Below.trans ?_ (HW1.out.mono (by first | omega | (simp; done) | (simp; omega))))))
          have hkcell : wr.cell? ⟨kb, ko + k, none⟩ = some (.bool x) := ((hbw0.trans (HBL.out.mono (by omega))).cell (p := ⟨kb, ko + k, none⟩) hkb).trans hkc
          have c2 : (k : Int) < (kl : Int) := by omega
          cases x with
          | true =>
            have HE := Lib.hid (show staysOf keep tear cut k p = pl by unfold staysOf; rw [if_neg g1, if_pos hx, hpl])
            have g10 : (0 : Int) < (pl : Int) := by omega
            clear g1 hsle hx hkc hbw0
            have hval : crashTo F keep tear (cut) (k + 1) = (out ++ List.replicate lost 0 ++ p.take pl, pl - pl) := by
              rw [HSTEP.out]
              unfold crashStep
              rw [HE.out, if_pos (by omega), HPL.out]
            have HVAL := Lib.hid hval
            clear hval
            go_wp2_with fail
            have hstc : pl ≤ pc := by omega
            refine wp_region_any (by kernel_rfl) ?_
            refine wpAny_takeD (i := 0) (v := ?_) (some 65) rfl rfl (by kernel_rfl) (by kernel_rfl) (by kernel_rfl) (fun _ _ _ h => h) (Or.inl ⟨by rfl, ?_⟩) ?_
            rotate_left
            · intro w'; go_simp; rfl
            simp only [Act.put, List.setIfInBounds_toArray, List.set_cons_zero, List.set_cons_succ]
            refine wpAny_takeD (i := 2) (v := ?_) (some 67) rfl rfl (by kernel_rfl) (by kernel_rfl) (by kernel_rfl) (fun _ _ _ h => h) (Or.inl ⟨by rfl, ?_⟩) ?_
            rotate_left
            · intro w'; go_simp; rfl
            simp only [Act.put, List.setIfInBounds_toArray, List.set_cons_zero, List.set_cons_succ]
            refine wpAny_takeD (i := 4) (v := ?_) (some 69) rfl rfl (by kernel_rfl) (by kernel_rfl) (by kernel_rfl) (fun _ _ _ h => h) (Or.inl ⟨by rfl, ?_⟩) ?_
            rotate_left
            · intro w'; go_simp; rfl
            simp only [Act.put, List.setIfInBounds_toArray, List.set_cons_zero, List.set_cons_succ]
            refine wpAny_takeD (i := 5) (v := ?_) (some 70) rfl rfl (by kernel_rfl) (by kernel_rfl) (by kernel_rfl) (fun _ _ _ h => h) (Or.inl ⟨by rfl, ?_⟩) ?_
            rotate_left
            · intro w'; go_simp; rfl
            simp only [Act.put, List.setIfInBounds_toArray, List.set_cons_zero, List.set_cons_succ]
            refine wpAny_takeD (i := 6) (v := ?_) (some 71) rfl rfl (by kernel_rfl) (by kernel_rfl) (by kernel_rfl) (fun _ _ _ h => h) (Or.inl ⟨by rfl, ?_⟩) ?_
            rotate_left
            · intro w'; go_simp; rfl
            simp only [Act.put, List.setIfInBounds_toArray, List.set_cons_zero, List.set_cons_succ]
            refine wpAny_runsD (i := 1) (v := v) (w' := wr.drew) (some 66) (by kernel_rfl) rfl rfl (by rfl) ?_ ?_
            · go_simp
            simp only [Act.put, List.setIfInBounds_toArray, List.set_cons_zero, List.set_cons_succ]
            obtain ⟨i0, hi, hz0, hz1, hz2⟩ := info_parts Try_infoU8
            obtain ⟨v3, w3, hr3, hf3, hg3⟩ := firm_zeros (P := Try.prog) (W := wr.drew) 22 3 22 5 i0 .i64 Try.underlying22 Try.underlying3 hi hz0 hz1 hz2 S w2.heap.size (by show _ ≤ wr.heap.size; omega) v out (HFO.out.ext ((Below.refl _ wr).drew)) lost (by omega)
            refine wpAny_runsD (i := 3) (v := v3) (w' := w3) (some 68) (by kernel_rfl) rfl rfl (by rfl) ?_ ?_
            · exact run_append_op (s := .tmp 66) (x := .tmp 67) (v1 := v) (v2 := .int .i64 (lost : Int)) rfl (by rfl) (by rfl) hr3
            simp only [Act.put, List.setIfInBounds_toArray, List.set_cons_zero, List.set_cons_succ]
            clear hr3
            have hPw := HP.out.same HBL.out.size (fun b hb _ => HBL.out.block b (by have := HSS.out b hb; omega))
            have hx3 := (hPw.same (W' := w3) hg3.size (fun b hb hlt => hg3.block b hlt (.inl (by have := HSS.out b hb; omega)))).cells.take (k := pl) (by omega)
            rw [u8s_take] at hx3
            have hpane : pa ≠ none := fun e => by
              obtain ⟨b0, o0, h1, _⟩ := HP.out.at_.hat 0 (p[0]'(by omega)) (List.getElem?_eq_getElem (by omega))
              rw [e] at h1; cases h1
            have hs3 := hg3.size
            simp only [World.size_drew] at hs3
            obtain ⟨v4, w4, hr4, hs4, hown4, hg4⟩ := firm_append (P := Try.prog) (W := w3) Try_elemU8 22 S w2.heap.size (by omega) v3 (out ++ List.replicate lost 0) hf3 S pa pl pc (p.take pl) hx3 hpane (by omega) (by simp; omega)
            obtain ⟨out', hout'⟩ : ∃ out', out ++ List.replicate lost 0 ++ p.take pl = out' := ⟨_, rfl⟩
            rw [hout'] at hown4
            have hval' := HVAL.out
            rw [hout'] at hval'
            have HVAL2 := Lib.hid hval'
            clear hval' hout' HVAL
            obtain ⟨a4, c4, rfl, _⟩ := own_cells hown4
            refine wpAny_runsD (i := 7) (v := .slice a4 out'.length c4) (w' := w4) (some 72) (by kernel_rfl) rfl rfl (by rfl) ?_ ?_
            · exact run_append_op (s := .tmp 68) (x := .tmp 71) (v1 := v3) (v2 := .slice pa pl pc) rfl (by rfl) (by rfl) hr4
            simp only [Act.put, List.setIfInBounds_toArray, List.set_cons_zero, List.set_cons_succ]
            clear hr4
            refine wpAny_runsD (i := 8) (v := .pointer (some ⟨w2.heap.size, 0, none⟩)) (w' := w4) (some 73) (by kernel_rfl) rfl rfl (by rfl) ?_ ?_
            · go_simp
            simp only [Act.put, List.setIfInBounds_toArray, List.set_cons_zero, List.set_cons_succ]
            have hG4 := hg4.blk (hg3.blk HGB.out.drew (by decide)) (by decide)
            have q4 := hG4.cells
            have m4 := hG4.marks
            refine wpAny_skipsD (i := 9) (w' := w4.setCell ⟨w2.heap.size, 0, none⟩ (.slice a4 out'.length c4)) none (by kernel_rfl) rfl rfl (by rfl) ?_ ?_
            · go_simp
            simp only [Act.put, List.setIfInBounds_toArray, List.set_cons_zero, List.set_cons_succ]
            refine wpAny_done (by kernel_rfl) ?_ _
            have hbel4 := ((HBL.out.drew.trans (hg3.below (by simp; omega))).trans (hg4.below (by omega))).setCell (p := ⟨w2.heap.size, 0, none⟩) (Nat.le_refl _) (.slice a4 out'.length c4)
            have hG5 := hG4.set 0 (.slice a4 out'.length c4)
            have hown5 := ownsRow_set_other (i := 0) (u := .slice a4 out'.length c4) hown4 hG4 (by decide)
            have HG5 := Lib.hid hG5
            have HOWN5 := Lib.hid hown5
            have HBEL4 := Lib.hid hbel4
            clear hx3 hpane hPw hf3 hg3 hs4 hown4 hg4 hG4 q4 m4 hbel4 hG5 hown5
            go_wp2_with fail
            go_roundw
            case rel => exact ⟨k + 1, _, HLT.out, by go_num, by rw [HVAL2.out]; go_num, HG5.out, by rw [HVAL2.out]; exact .inr HOWN5.out, HBEL4.out⟩
            case measure => simp [intOf]; omega
          | false =>
            have HE := Lib.hid (show staysOf keep tear cut k p = 0 by unfold staysOf; rw [if_neg g1, if_neg (by rw [hx]; simp)])
            clear g1 hsle hx hkc hbw0
            have hval : crashTo F keep tear (cut) (k + 1) = (out, lost + pl) := by
              rw [HSTEP.out]
              unfold crashStep
              rw [HE.out, if_neg (by omega), HPL.out]
            have HVAL := Lib.hid hval
            clear hval
            go_wp2_with fail
            go_roundw
            case rel => exact ⟨k + 1, v, HLT.out, by go_num, by rw [HVAL.out]; go_num, HGB.out, by rw [HVAL.out]; exact HFO.out, HBL.out⟩
            case measure => simp [intOf]; omega
        · have c2 : ¬ (k : Int) < (kl : Int) := by omega
          have HE := Lib.hid (show staysOf keep tear cut k p = 0 by unfold staysOf; rw [if_neg g1, if_neg (by rw [List.getElem?_eq_none (by have := HK0.out.hlen; omega)]; simp)])
          clear g1 hsle
          have hval : crashTo F keep tear (cut) (k + 1) = (out, lost + pl) := by
            rw [HSTEP.out]
            unfold crashStep
            rw [HE.out, if_neg (by omega), HPL.out]
          have HVAL := Lib.hid hval
          clear hval
          go_wp2_with fail
          go_roundw
          case rel => exact ⟨k + 1, v, HLT.out, by go_num, by rw [HVAL.out]; go_num, HGB.out, by rw [HVAL.out]; exact HFO.out, HBL.out⟩
          case measure => simp [intOf]; omega
    · have hkl : k = F.loose.length := by omega
      have hk3 : ¬ ((k : Int) < (ll : Int)) := by have := HFL.out.loose.hlen; omega
      have hop : F.crash keep tear cut = ({ firm := out, loose := [], fuse := -1, fault := -1, off := false }, 0) := by
        unfold FileD.crash
        rw [if_pos HR.out, ← hkl, HST.out]
      have HOP := Lib.hid hop
      obtain ⟨ga, gc, rfl, hby⟩ := HFO.out.bytes (by omega)
      have B1 := HB3.out.below HBL.out (by have := HB3.out.lt; simp at this; omega)
      have HBY := Lib.hid hby
      have q3 := B1.cells
      have m3 := B1.marks
      have l3 := B1.lt
      have nG : w2.heap.size ≠ w.heap.size + 1 := by omega
      have hsw := HBL.out.size
      simp only [World.size_alloc] at hsw
      clear hkl hlt hk hop hby
      have hr2 := ((((B1.set 0 (.slice ga out.length gc)).set 1 (.slice none 0 0)).set 2 (.int .i64 (-1))).set 3 (.int .i64 (-1))).set 4 (.bool false)
      have c2 := hr2.cells
      simp only [List.set_cons_zero, List.set_cons_succ] at c2
      go_wp2
      rw [HOP.out]
      refine bodyPost_ret (v := .tuple #[.agg #[.slice ga out.length gc, .slice none 0 0, .int .i64 (-1), .int .i64 (-1), .bool false], .int .i64 0]) (by simp [results, Try.results31, go_sem, c2]) rfl ⟨ga, out.length, gc, none, 0, 0, rfl, ⟨?_, LooseS.nil_, by unfold I64'; simp, by unfold I64'; simp⟩, ?_⟩
      · refine (HBY.out.same (Only.size (p := w.heap.size + 1) (by repeat (first | (with_reducible exact Only.refl _ _) | (with_reducible refine Only.set ?_ _ _) | (with_reducible refine Only.alloc ?_ _) | (with_reducible refine Only.drew ?_)))) (fun b h hlt => Only.block (p := w.heap.size + 1) (by repeat (first | (with_reducible exact Only.refl _ _) | (with_reducible refine Only.set ?_ _ _) | (with_reducible refine Only.alloc ?_ _) | (with_reducible refine Only.drew ?_))) b hlt ?_)).mono (T := Or S w) (fun b h => ?_)
        · rcases h with h | h
          · have := HSS.out b h; omega
          · omega
        · rcases h with h | h
          · exact .inl h
          · exact .inr (by omega)
      · have hb0 : Below w.heap.size w (w2.alloc (.cells #[.slice fa fl fl, .slice none 0 0, .int .i64 (-1), .int .i64 (-1), .bool false] 25)) := (by repeat (first | (with_reducible exact Below.refl _ _) | (with_reducible exact Below.refl _ _) | (with_reducible refine Below.setCell ?_ (by first | omega | (simp; done) | (simp; omega)) _) | (with_reducible refine Below.alloc ?_ (by first | omega | (simp; done) | (simp; omega)) _) | (with_reducible refine Below.drew ?_) | (with_reducible refine below_drewN ?_ _) | (with_reducible refine Below.trans ?_ (HW2.out.mono (by first | omega | (simp; done) | (simp; omega)))) | (with_reducible refine Below.trans ?_ (HW1.out.mono (by first | omega | (simp; done) | (simp; omega))))))
        have hb4 := hb0.trans (HBL.out.mono (by omega))
        exact (by repeat (first | (with_reducible exact Below.refl _ _) | (with_reducible exact Below.refl _ _) | (with_reducible refine Below.setCell ?_ (by first | omega | (simp; done) | (simp; omega)) _) | (with_reducible refine Below.alloc ?_ (by first | omega | (simp; done) | (simp; omega)) _) | (with_reducible refine Below.drew ?_) | (with_reducible refine below_drewN ?_ _) | (with_reducible refine Below.trans ?_ (hb4.mono (by first | omega | (simp; done) | (simp; omega))))))
end Go.Proofs.Ytmjmjjakhmeogaa
