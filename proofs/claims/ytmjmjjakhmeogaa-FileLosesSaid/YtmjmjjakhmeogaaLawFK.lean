/-
  Layer 10: FileLoses, walked: for every deeds, every marks and every two numbers it answers true.
-/
import Derived.Test.YtmjmjjakhmeogaaLawFJ
import Derived.Deep.DeepCutAuto
namespace Go.Dav
set_option linter.unusedVariables false
set_option linter.unusedSimpArgs false
open Go Go.RowKit
/-- A row of just these bytes. -/
def RowIs (x : List UInt8) (v : Value) (W : World) : Prop := ∃ a n c, v = .slice a n c ∧ BytesAt W a n c x
theorem RowIs.later {x : List UInt8} : ∀ v W W', RowIs x v W → Below W.heap.size W W' → RowIs x v W' := fun _ _ _ ⟨a, n, c, h1, h2⟩ hb => ⟨a, n, c, h1, h2.ext hb⟩
/-- Just this slice, whose pieces are these. -/
def LooseIs (L : List (List UInt8)) (v : Value) (W : World) : Prop := ∃ a n c, v = .slice a n c ∧ LooseAt W a n c L
theorem LooseIs.later {L : List (List UInt8)} : ∀ v W W', LooseIs L v W → Below W.heap.size W W' → LooseIs L v W' := fun _ _ _ ⟨a, n, c, h1, h2⟩ hb => ⟨a, n, c, h1, h2.ext hb⟩
theorem FileD.Quiet.does {F : FileD} {X : DeedD} (hq : F.Quiet) (h1 : X.which < 4) (h2 : X.bytes ≠ []) : (F.does X).1.Quiet ∧ ((F.does X).2 = 0 ∨ (F.does X).2 = 8) := by
  have hx : X.asks := ⟨by omega, fun _ => h2⟩
  by_cases hm : 524288 - (F.many : Int) < X.more
  · rw [FileD.does_quiet hq hx, if_pos hm]; exact ⟨hq, .inr rfl⟩
  · rw [FileD.does_quiet hq hx, if_neg hm]; exact ⟨hq.go hx hm, .inl rfl⟩
end Go.Dav
namespace Go.Proofs.Ytmjmjjakhmeogaa
set_option linter.unusedVariables false
set_option linter.unusedSimpArgs false
open Go.RowKit Go.Dav
attribute [local go_sem] Gives ite_val ite_val_true

def TryLosesRel (w : World) (p5 p7 n : Nat) (a0 a1 : Int) (ix : Value) (wr : World) : Prop :=
  ∃ (k : Nat) (F : FileD) (fa la : Option Addr) (fl fc ll lc : Nat), k ≤ n ∧ ix = .int .i64 k ∧ Blk wr p5 [.int .i64 a0, .int .i64 a1] 47 ∧ Blk wr p7 [.slice fa fl fc, .slice la ll lc, .int .i64 F.fuse, .int .i64 F.fault, .bool F.off] 25 ∧ FileIn wr [p7] fa fl fc la ll lc F ∧ F.Quiet ∧ Below w.heap.size w wr

set_option maxRecDepth 8000 in
set_option maxHeartbeats 16000000 in
theorem Try_FileLoses (da ka : Option Addr) (dl dc kl kc : Nat) (D : List DeedV) (keep : List Bool) (a0 a1 : Int) (w : World) (hD : DeedsAt w da D) (hDl : D.length = dl) (hdc : dl ≤ dc) (hdl : dl ≤ 140737488355328) (hK : BoolsAt w ka kl kc keep) (h0 : I64' a0) (h1 : I64' a1) :
    Calls Try.prog 5 #[.slice da dl dc, .slice ka kl kc, .agg #[.int .i64 a0, .int .i64 a1]] w fun e w' => e = .returned (.bool true) ∧ Below w.heap.size w w' := by
  have HD := Lib.hid hD
  have HDL := Lib.hid hDl
  have HK := Lib.hid hK
  have H0 := Lib.hid h0
  have H1 := Lib.hid h1
  have HB5 := Lib.hid (Blk.new w [.int .i64 a0, .int .i64 a1] 47)
  have bel0 : Below w.heap.size w (w.alloc (.cells #[.int .i64 a0, .int .i64 a1] 47)) := (by repeat (first | (with_reducible exact Below.refl _ _) | (with_reducible exact Below.refl _ _) | (with_reducible refine Below.setCell ?_ (by first | omega | (simp; done) | (simp; omega)) _) | (with_reducible refine Below.alloc ?_ (by first | omega | (simp; done) | (simp; omega)) _) | (with_reducible refine Below.drew ?_) | (with_reducible refine below_drewN ?_ _)))
  have BEL0 := Lib.hid bel0
  clear hD hDl hK h0 h1 bel0
  go_enter Try.func5, Try.ntmps5
  go_wp2_with fail
  refine (Try_wakes10 _).mono ?_; rintro e w1 ⟨rfl, hb⟩
  have s1 := hb.size
  simp only [World.size_alloc] at s1
  have HB51 := Lib.hid (HB5.out.ext hb)
  have bel : Below w.heap.size w w1 := (by repeat (first | (with_reducible exact Below.refl _ _) | (with_reducible exact Below.refl _ _) | (with_reducible refine Below.setCell ?_ (by first | omega | (simp; done) | (simp; omega)) _) | (with_reducible refine Below.alloc ?_ (by first | omega | (simp; done) | (simp; omega)) _) | (with_reducible refine Below.drew ?_) | (with_reducible refine below_drewN ?_ _) | (with_reducible refine Below.trans ?_ (hb.mono (by first | omega | (simp; done) | (simp; omega)))) | (with_reducible refine Below.trans ?_ (BEL0.out.mono (by first | omega | (simp; done) | (simp; omega))))))
  have BEL1 := Lib.hid bel
  clear hb HB5 BEL0 bel
  go_wp2_with fail
  refine (Try_New w1).mono ?_; rintro e w2 ⟨rfl, hb⟩
  have s2 := hb.size
  have HB52 := Lib.hid (HB51.out.ext hb)
  have bel2 : Below w.heap.size w w2 := (by repeat (first | (with_reducible exact Below.refl _ _) | (with_reducible exact Below.refl _ _) | (with_reducible refine Below.setCell ?_ (by first | omega | (simp; done) | (simp; omega)) _) | (with_reducible refine Below.alloc ?_ (by first | omega | (simp; done) | (simp; omega)) _) | (with_reducible refine Below.drew ?_) | (with_reducible refine below_drewN ?_ _) | (with_reducible refine Below.trans ?_ (hb.mono (by first | omega | (simp; done) | (simp; omega)))) | (with_reducible refine Below.trans ?_ (BEL1.out.mono (by first | omega | (simp; done) | (simp; omega))))))
  have BEL2 := Lib.hid bel2
  have HB2 := Lib.hid (Blk.new w2 [.slice none 0 0, .slice none 0 0, .int .i64 (-1), .int .i64 (-1), .bool false] 25)
  clear hb HB51 bel2 BEL1
  go_wp2_with fail
  refine (Try_few da dl dc _ hdc hdl).mono ?_; rintro e w6 ⟨rfl, hb⟩
  have s6 := hb.size
  simp only [World.size_alloc] at s6
  have hB6 := Lib.hid (HB2.out.ext hb)
  have hB5 := Lib.hid ((HB52.out.alloc (.cells #[.slice none 0 0, .slice none 0 0, .int .i64 (-1), .int .i64 (-1), .bool false] 25)).ext hb)
  have bel6 : Below w.heap.size w w6 := (by repeat (first | (with_reducible exact Below.refl _ _) | (with_reducible exact Below.refl _ _) | (with_reducible refine Below.setCell ?_ (by first | omega | (simp; done) | (simp; omega)) _) | (with_reducible refine Below.alloc ?_ (by first | omega | (simp; done) | (simp; omega)) _) | (with_reducible refine Below.drew ?_) | (with_reducible refine below_drewN ?_ _) | (with_reducible refine Below.trans ?_ (hb.mono (by first | omega | (simp; done) | (simp; omega)))) | (with_reducible refine Below.trans ?_ (BEL2.out.mono (by first | omega | (simp; done) | (simp; omega))))))
  have BEL6 := Lib.hid bel6
  have hp7 : w.heap.size < w2.heap.size := by omega
  obtain ⟨p7, hpe⟩ : ∃ p7, w2.heap.size = p7 := ⟨_, rfl⟩
  obtain ⟨n, hn⟩ : ∃ n, min dl 40 = n := ⟨_, rfl⟩
  have hn1 : n ≤ dl := by omega
  have hn2 : (n : Int) ≤ 40 := by omega
  have HN := Lib.hid hn
  have HPE := Lib.hid hpe
  rw [hn]
  rw [hpe] at hp7 hB6
  have HP7 := Lib.hid hp7
  clear hb bel6 HB2 BEL2 s1 s2 s6 hn hpe HB52
  go_wp2_with fail
  rw [HPE.out]
  go_loopw [30] (fun ix wr => TryLosesRel w w.heap.size p7 n a0 a1 ix wr) (fun ix _ => n - (intOf ix).toNat)
  case atStart => exact ⟨0, FileD.none, none, none, 0, 0, 0, 0, Nat.zero_le _, rfl, hB5.out, hB6.out, FileIn.none_ _ _, FileD.quiet_none, BEL6.out⟩
  case round =>
    obtain ⟨k, F, fa, la, fl, fc, ll, lc, hk, rfl, hb5, hb7, hf, hq, hbl⟩ := hrel
    have q7 := hb7.cells
    have l7 := hb7.lt
    have HB5 := Lib.hid hb5
    have HB7 := Lib.hid hb7
    have HF := Lib.hid hf
    have HQ := Lib.hid hq
    have HBL := Lib.hid hbl
    clear hb5 hb7 hf hq hbl hB5 hB6 BEL6
    by_cases hlt : k < n
    · obtain ⟨d, hd⟩ : ∃ d, D[k]? = some d := ⟨_, List.getElem?_eq_getElem (by have := HDL.out; omega)⟩
      obtain ⟨b, o, rfl, hb, hcs, hX⟩ := HD.out k d hd
      have hd0 := hcs 0 _ rfl
      have hd1 := hcs 1 _ rfl
      have hd2 := hcs 2 _ rfl
      have hd3 := hcs 3 _ rfl
      have hd4 := hcs 4 _ rfl
      rw [Nat.add_zero] at hd0
      have hcw := fun j => HBL.out.cell (p := ⟨b, o + k * 5 + j, none⟩) hb
      have hc0 := (HBL.out.cell (p := ⟨b, o + k * 5, none⟩) hb).trans hd0
      have hc1 := (hcw 1).trans hd1
      have hc2 := (hcw 2).trans hd2
      have hc3 := (hcw 3).trans hd3
      have hc4 := (hcw 4).trans hd4
      have HX := Lib.hid (hX.ext HBL.out)
      have hkl : (k : Int) < (n : Int) := by omega
      have HLT := Lib.hid hlt
      clear hd hcs hX hd0 hd1 hd2 hd3 hd4 hcw hlt hk hb
      go_upto_region 7 with fail
      obtain ⟨W1, hW1⟩ : ∃ W1, wr.alloc (.cells [.int .i64 d.X.kind, .int .i64 d.X.n, .int .i64 d.X.tear, .slice d.ba d.bl d.bc, .slice d.ka d.kl d.kc].toArray 34) = W1 := ⟨_, rfl⟩
      have a1 : Below wr.heap.size wr W1 := by rw [← hW1]; exact (by repeat (first | (with_reducible exact Below.refl _ _) | (with_reducible exact Below.refl _ _) | (with_reducible refine Below.setCell ?_ (by first | omega | (simp; done) | (simp; omega)) _) | (with_reducible refine Below.alloc ?_ (by first | omega | (simp; done) | (simp; omega)) _) | (with_reducible refine Below.drew ?_) | (with_reducible refine below_drewN ?_ _)))
      have b9 : Blk W1 wr.heap.size [.int .i64 d.X.kind, .int .i64 d.X.n, .int .i64 d.X.tear, .slice d.ba d.bl d.bc, .slice d.ka d.kl d.kc] 34 := by rw [← hW1]; exact Blk.new _ _ _
      have A1 := Lib.hid a1
      have B9 := Lib.hid b9
      have HX1 := Lib.hid (HX.out.ext a1)
      rw [hW1]
      clear a1 b9 hW1 hc0 hc1 hc2 hc3 hc4
      go_cut [42] (fun s42 wc => s42 = .bool (decide (d.X.which < 4) && !d.X.bytes.isEmpty) ∧ Below W1.heap.size W1 wc)
      case first =>
        have q9 := B9.out.cells
        have l9 := B9.out.lt
        go_wp2_with fail
        refine (Try_which d.X d.ba d.ka d.bl d.bc d.kl d.kc W1 HX1.out.kind).mono ?_; rintro e w8 ⟨rfl, hb⟩
        have q98 := (B9.out.ext hb).cells
        have l98 := (B9.out.ext hb).lt
        have hbn := HX1.out.bytes.hlen
        clear q9 l9
        by_cases h4 : d.X.which < 4
        · have h4' : (d.X.which : Int) < 4 := by omega
          by_cases h0 : d.bl = 0
          · have hv : d.X.bytes.isEmpty = true := by rw [List.isEmpty_iff]; exact List.length_eq_zero_iff.1 (hbn.trans h0)
            rw [h0] at q98
            clear hbn h0
            have HV := Lib.hid hv
            clear hv
            go_wp2_with fail
            go_meet
            case rel => exact ⟨by simp [HV.out], hb⟩
          · have hv : d.X.bytes.isEmpty = false := by
              cases hbb : d.X.bytes with
              | nil => rw [hbb] at hbn; exact absurd hbn.symm h0
              | cons => rfl
            have h0' : (0 : Int) < (d.bl : Int) := by omega
            clear hbn h0
            have HV := Lib.hid hv
            clear hv
            go_wp2_with fail
            go_meet
            case rel => exact ⟨by simp [HV.out, h4]; omega, hb⟩
        · have h4' : ¬ (d.X.which : Int) < 4 := by omega
          clear hbn
          go_wp2_with fail
          go_meet
          case rel => exact ⟨by simp [h4], hb⟩
      case rest =>
        obtain ⟨rfl, hbc⟩ := hcut
        have B9c := Lib.hid (B9.out.ext hbc)
        have acc := A1.out.trans (hbc.mono A1.out.size)
        have HB5c := Lib.hid (HB5.out.ext acc)
        have HB7c := Lib.hid (HB7.out.ext acc)
        have HFc := Lib.hid (HF.out.ext acc)
        have HXc := Lib.hid (HX1.out.ext hbc)
        have BELc := Lib.hid (HBL.out.trans (acc.mono HBL.out.size))
        have s9 := (B9.out.ext hbc).lt
        clear hbc acc HB5 HB7 HF HX HX1 A1 B9 HBL q7 l7
        cases hdb : (decide (d.X.which < 4) && !d.X.bytes.isEmpty) with
        | false =>
          clear hdb
          go_wp2_with fail
          go_roundw
          case rel => exact ⟨k + 1, F, fa, la, fl, fc, ll, lc, by have := HLT.out; omega, by go_num, HB5c.out, HB7c.out, HFc.out, HQ.out, BELc.out⟩
          case measure => simp [intOf]; omega
        | true =>
          have hw4 : d.X.which < 4 := by simp at hdb; omega
          have hbn : d.X.bytes ≠ [] := fun e => by rw [e] at hdb; simp at hdb
          have hqd := HQ.out.does hw4 hbn
          have HQD := Lib.hid hqd
          have q9 := B9c.out.cells
          have l9 := B9c.out.lt
          have q7 := HB7c.out.cells
          have l7 := HB7c.out.lt
          clear hdb hw4 hbn hqd
          go_wp2_with fail
          obtain ⟨F1, e1, hV⟩ : ∃ F1 e1, F.does d.X = (F1, e1) := ⟨_, _, rfl⟩
          have hqd := HQD.out
          have hA := Try_does F d.X fa la d.ba d.ka fl fc ll lc d.bl d.bc d.kl d.kc wc _ HFc.out HXc.out (fun b h => h.1)
          rw [hV] at hA hqd
          with_reducible refine hA.mono ?_
          rintro e w7 ⟨na, nl, nc, oa, ol, oc, rfl, hR, hb⟩
          have s7 := hb.size
          have HFN := Lib.hid (FileIn.of_or (l := [p7]) hR (by simp; omega))
          have HB57 := Lib.hid (HB5c.out.ext hb)
          have HB77 := Lib.hid (HB7c.out.ext hb)
          have q77 := (HB7c.out.ext hb).cells
          have m77 := (HB7c.out.ext hb).marks
          have l77 := (HB7c.out.ext hb).lt
          have BEL7 := Lib.hid (BELc.out.trans (hb.mono (by have := BELc.out.size; omega)))
          have HE1 := Lib.hid hqd
          clear hA hR hb hqd HQD hV q9 l9 q7 l7 HB5c HB7c HFc HXc B9c BELc
          rcases HE1.out.2 with he | he
          all_goals
            dsimp only at he
            subst he
            go_wp2_with fail
            have o1 := Only.five w7 p7 (.slice na nl nc) (.slice oa ol oc) (.int .i64 F1.fuse) (.int .i64 F1.fault) (.bool F1.off)
            have hbV := (HB77.out.five (.slice na nl nc) (.slice oa ol oc) (.int .i64 F1.fuse) (.int .i64 F1.fault) (.bool F1.off)).alloc (.cells [.slice na nl nc, .slice oa ol oc, .int .i64 F1.fuse, .int .i64 F1.fault, .bool F1.off].toArray 25)
            have hb5V := (HB57.out.only o1 (by have := HP7.out; omega)).alloc (.cells [.slice na nl nc, .slice oa ol oc, .int .i64 F1.fuse, .int .i64 F1.fault, .bool F1.off].toArray 25)
            have hfV := (HFN.out.only o1 (by simp)).alloc' (.cells [.slice na nl nc, .slice oa ol oc, .int .i64 F1.fuse, .int .i64 F1.fault, .bool F1.off].toArray 25)
            have belV := (below_only BEL7.out o1 (by have := BEL7.out.size; omega) (Nat.le_of_lt HP7.out)).alloc (by have := BEL7.out.size; simp; omega) (.cells [.slice na nl nc, .slice oa ol oc, .int .i64 F1.fuse, .int .i64 F1.fault, .bool F1.off].toArray 25)
            go_roundw
            case rel => exact ⟨k + 1, F1, na, oa, nl, nc, ol, oc, by have := HLT.out; omega, by go_num, hb5V, hbV, hfV, HE1.out.1, belV⟩
            case measure => simp [intOf]; omega
    · have hkl : ¬ ((k : Int) < (n : Int)) := by omega
      clear hlt
      go_wp2_with fail
      have HFS := Lib.hid (show FileS wr (Free [p7] wr) fa fl fc la ll lc F from HF.out)
      refine' wp_region_seq [.inl _, .inr (RowIs F.all), .inl _, .inl _, .inr (RowIs F.all), .inl _] (by kernel_rfl) (by kernel_rfl) ?main1
      case main1 =>
        refine wpParts_det (by rfl) (fun W hE hN => ?_) ?_
        · have hc := fun b o h => hE.cell (p := ⟨b, o, none⟩) h
          go_simp; refine ⟨Below.refl _ _, ?_⟩; rfl
        simp only [Act.put, List.setIfInBounds_toArray, List.set_cons_zero, List.set_cons_succ]
        refine wpParts_any rfl (RowIs.later) (by rfl) (fun W hE hN => ?_) (fun u1 => ?_)
        · go_simp; refine ⟨Below.refl _ _, ?_⟩; refine (Try_content F fa la fl fc ll lc W _ (HFS.out.ext hE) (fun b h => Nat.lt_of_lt_of_le h.1 hE.size) HQ.out.right).mono ?_; rintro e w' ⟨ra, rl, rc, rfl, hR, hb⟩; exact ⟨_, rfl, hb, ra, rl, rc, rfl, hR.at_⟩
        simp only [Act.put, List.setIfInBounds_toArray, List.set_cons_zero, List.set_cons_succ]
        refine wpParts_det (by rfl) (fun W hE hN => ?_) ?_
        · go_simp; refine ⟨Below.refl _ _, ?_⟩; rfl
        simp only [Act.put, List.setIfInBounds_toArray, List.set_cons_zero, List.set_cons_succ]
        refine wpParts_det (by rfl) (fun W hE hN => ?_) ?_
        · have hc := fun b o h => hE.cell (p := ⟨b, o, none⟩) h
          go_simp; refine ⟨Below.refl _ _, ?_⟩; rfl
        simp only [Act.put, List.setIfInBounds_toArray, List.set_cons_zero, List.set_cons_succ]
        refine wpParts_any rfl (RowIs.later) (by rfl) (fun W hE hN => ?_) (fun u4 => ?_)
        · simp [near, Oper.looksAt, Op.operands] at hN; go_simp; exact Below.refl _ _
        simp only [Act.put, List.setIfInBounds_toArray, List.set_cons_zero, List.set_cons_succ]
        refine wpParts_det (by rfl) (fun W hE hN => ?_) ?_
        · go_simp; refine ⟨Below.refl _ _, ?_⟩; rfl
        simp only [Act.put, List.setIfInBounds_toArray, List.set_cons_zero, List.set_cons_succ]
        refine wpParts_end fun W3 hE3 hG3 => ?_
        have hcW3 := fun b o h => hE3.cell (p := ⟨b, o, none⟩) h
        have hfW3 := fun b o h => hE3.frozen (p := ⟨b, o, none⟩) h
        obtain ⟨⟨xa, xl, xc, rfl, hx⟩, _⟩ := hG3
        have s3 := hE3.size
        have HX3 := Lib.hid hx
        have HB53 := Lib.hid (HB5.out.ext hE3)
        have HB73 := Lib.hid (HB7.out.ext hE3)
        have HF3 := Lib.hid (HFS.out.ext hE3)
        have BEL3 := Lib.hid (HBL.out.trans (hE3.mono HBL.out.size))
        have hS3 : ∀ b, Free [p7] wr b → b < W3.heap.size := fun b h => Nat.lt_of_lt_of_le h.1 hE3.size
        have q5 := HB53.out.cells
        have l5 := HB53.out.lt
        have q73 := HB73.out.cells
        have l73 := HB73.out.lt
        obtain ⟨N, hN⟩ : ∃ N, (crashTo F keep a0 a1 F.loose.length).1 = N := ⟨_, rfl⟩
        have HN' := Lib.hid hN
        have HS3 := Lib.hid hS3
        clear hx hE3 q7 l7 HB5 HB7 HF HFS HBL hN hS3 hcW3 hfW3
        go_wp2_with fail
        have hA := Try_Crash F fa la ka fl fc ll lc kl kc keep a0 a1 W3 _ HF3.out (HK.out.ext BEL3.out) HS3.out H0.out H1.out
        obtain ⟨C, hC⟩ : ∃ C : FileD, C = { firm := N, loose := [], fuse := -1, fault := -1, off := false } := ⟨_, rfl⟩
        rw [show F.crash keep a0 a1 = (C, 0) by unfold FileD.crash; rw [if_pos HQ.out.right, HN'.out, hC]] at hA
        with_reducible refine hA.mono ?_
        rintro e w4 ⟨na, nl, nc, oa, ol, oc, rfl, hR, hb⟩
        have s4 := hb.size
        have hCf : C.firm = N := by rw [hC]
        have hCl : C.loose = [] := by rw [hC]
        have hCo : C.off = false := by rw [hC]
        have hCa : C.all = N := by rw [hC]; simp [FileD.all]
        have hCr : C.right = true := by
          have h := FileD.does_right (X := ⟨6, a1, a0, [], keep⟩) HQ.out.right
          rw [show F.does ⟨6, a1, a0, [], keep⟩ = F.crash keep a0 a1 from rfl] at h
          rw [show F.crash keep a0 a1 = (C, 0) by unfold FileD.crash; rw [if_pos HQ.out.right, HN'.out, hC]] at h
          exact h
        have hol : ol = 0 := by rw [← hR.loose.hlen, hCl]; rfl
        rw [hCo]
        subst hol
        have HCR := Lib.hid hCr
        have HCA := Lib.hid hCa
        have HR := Lib.hid hR
        have HB54 := Lib.hid (HB53.out.ext hb)
        have HB74 := Lib.hid (HB73.out.ext hb)
        have HF4 := Lib.hid (HF3.out.ext hb)
        have HX4 := Lib.hid (HX3.out.ext hb)
        have BEL4 := Lib.hid (BEL3.out.trans (hb.mono BEL3.out.size))
        have q74 := (HB73.out.ext hb).cells
        have l74 := (HB73.out.ext hb).lt
        have HCO := Lib.hid hCo
        clear hA hR hb hC hCf hCl hCo hCa hCr q5 l5 q73 l73 HB53 HB73 HF3 HX3 BEL3
        go_wp2_with fail
        obtain ⟨V, hV⟩ : ∃ V, w4.alloc (.cells #[.slice na nl nc, .slice oa 0 oc, .int .i64 C.fuse, .int .i64 C.fault, .bool false] 25) = V := ⟨_, rfl⟩
        have aV : Below w4.heap.size w4 V := by rw [← hV]; exact (by repeat (first | (with_reducible exact Below.refl _ _) | (with_reducible exact Below.refl _ _) | (with_reducible refine Below.setCell ?_ (by first | omega | (simp; done) | (simp; omega)) _) | (with_reducible refine Below.alloc ?_ (by first | omega | (simp; done) | (simp; omega)) _) | (with_reducible refine Below.drew ?_) | (with_reducible refine below_drewN ?_ _)))
        have bV : Blk V w4.heap.size [.slice na nl nc, .slice oa 0 oc, .int .i64 C.fuse, .int .i64 C.fault, .bool false] 25 := by rw [← hV]; exact Blk.new _ _ _
        have hRV := HR.out.ext aV
        rw [hV]
        have hA := Try_content C na oa nl nc 0 oc V (fun b => b < V.heap.size) hRV.at_.s (fun b h => h) HCR.out
        rw [HCO.out, HCA.out] at hA
        with_reducible refine hA.mono ?_
        rintro e w5 ⟨ya, yl, yc, rfl, hY, hb⟩
        have bb := aV.trans (hb.mono aV.size)
        have HB55 := Lib.hid (HB54.out.ext bb)
        have HB75 := Lib.hid (HB74.out.ext bb)
        have HF5 := Lib.hid (HF4.out.ext bb)
        have HR5 := Lib.hid (HR.out.ext bb)
        have HX5 := Lib.hid (HX4.out.ext bb)
        have HY5 := Lib.hid hY.at_
        have HBC5 := Lib.hid (bV.ext hb)
        have BEL5 := Lib.hid (BEL4.out.trans (bb.mono BEL4.out.size))
        have qc := (bV.ext hb).cells
        have lc5 := (bV.ext hb).lt
        clear hA hY hb bb aV bV hRV hV HB54 HB74 HF4 HR HX4 BEL4 q74 l74
        go_wp2_with fail
        have hA := Try_Check C na oa nl nc 0 oc w5 HR5.out.at_
        rw [FileD.err_right HCR.out, HCO.out] at hA
        with_reducible refine hA.mono ?_
        rintro e w6' ⟨rfl, hb⟩
        have HB56 := Lib.hid (HB55.out.ext hb)
        have HB76 := Lib.hid (HB75.out.ext hb)
        have HF6 := Lib.hid (HF5.out.ext hb)
        have HX6 := Lib.hid (HX5.out.ext hb)
        have HY6 := Lib.hid (HY5.out.ext hb)
        have BEL6' := Lib.hid (BEL5.out.trans (hb.mono BEL5.out.size))
        have qc6 := (HBC5.out.ext hb).cells
        have lc6 := (HBC5.out.ext hb).lt
        have q76 := (HB75.out.ext hb).cells
        have l76 := (HB75.out.ext hb).lt
        have hlo := crashTo_len F keep a0 a1 F.loose.length
        rw [HN'.out, sumTo_all] at hlo
        have hnl := HY6.out.hlen
        have hyc := HY6.out.hcap
        have hxl := HX6.out.hlen
        rw [FileD.all_length] at hxl
        obtain ⟨t, ht⟩ := crashTo_firm F keep a0 a1 F.loose.length
        rw [HN'.out] at ht
        have hfl := HF6.out.firm.at_.hlen
        have hma := (FileD.right_spec.1 HQ.out.right).2.2.2.2
        have hlt' := congrArg List.length ht
        rw [List.length_append] at hlt'
        have g1 : decide (xl < yl) = false := decide_eq_false (by unfold FileD.many at hxl; omega)
        have g2 : decide (yl < fl) = false := decide_eq_false (by omega)
        have g3 : (fl : Int) ≤ (yc : Int) := by omega
        have g4 : fl ≤ yl := by omega
        have g5 : (yl : Int) ≤ 524288 := by unfold FileD.many at hma; omega
        have HT := Lib.hid ht
        clear hA hb HB55 HB75 HF5 HX5 HY5 HBC5 BEL5 qc lc5 HR5 hlo hnl hxl ht hlt' hma hyc hfl
        go_wp2_with fail
        have hba := HY6.out.head (m := fl) g4
        rw [HT.out, List.take_left' (by rw [← HF6.out.firm.at_.hlen])] at hba
        have HBA := Lib.hid hba
        clear hba
        refine' wp_region_seq [.inl _, .inl _, .inl _, .inl _, .inl _, .inl _, .inl _] (by kernel_rfl) (by kernel_rfl) ?main2
        case main2 =>
          refine wpParts_det (by rfl) (fun W hE hN => ?_) ?_
          · go_simp; refine ⟨Below.refl _ _, ?_⟩; rfl
          simp only [Act.put, List.setIfInBounds_toArray, List.set_cons_zero, List.set_cons_succ]
          refine wpParts_det (by rfl) (fun W hE hN => ?_) ?_
          · go_simp; refine ⟨Below.refl _ _, ?_⟩; rfl
          simp only [Act.put, List.setIfInBounds_toArray, List.set_cons_zero, List.set_cons_succ]
          refine wpParts_det (by rfl) (fun W hE hN => ?_) ?_
          · go_simp; refine ⟨Below.refl _ _, ?_⟩; rfl
          simp only [Act.put, List.setIfInBounds_toArray, List.set_cons_zero, List.set_cons_succ]
          refine wpParts_det (by rfl) (fun W hE hN => ?_) ?_
          · go_simp; refine ⟨Below.refl _ _, ?_⟩; rfl
          simp only [Act.put, List.setIfInBounds_toArray, List.set_cons_zero, List.set_cons_succ]
          refine wpParts_det (by rfl) (fun W hE hN => ?_) ?_
          · have hc := fun b o h => hE.cell (p := ⟨b, o, none⟩) h
            go_simp; refine ⟨Below.refl _ _, ?_⟩; rfl
          simp only [Act.put, List.setIfInBounds_toArray, List.set_cons_zero, List.set_cons_succ]
          refine wpParts_det (by rfl) (fun W hE hN => ?_) ?_
          · go_simp; refine ⟨Below.refl _ _, ?_⟩; have hA := Try_bytesEqual _ _ _ _ _ _ _ _ W (HBA.out.ext hE) (HF6.out.firm.at_.ext hE); rw [decide_eq_true rfl] at hA; refine hA.mono ?_; rintro e w' ⟨rfl, hb⟩; refine ⟨?_, hb⟩; rfl
          simp only [Act.put, List.setIfInBounds_toArray, List.set_cons_zero, List.set_cons_succ]
          refine wpParts_det (by rfl) (fun W hE hN => ?_) ?_
          · go_simp; refine ⟨Below.refl _ _, ?_⟩; rfl
          simp only [Act.put, List.setIfInBounds_toArray, List.set_cons_zero, List.set_cons_succ]
          refine wpParts_end fun W7 hE7 hG7 => ?_
          have hcW7 := fun b o h => hE7.cell (p := ⟨b, o, none⟩) h
          have hfW7 := fun b o h => hE7.frozen (p := ⟨b, o, none⟩) h
          have HF7 := Lib.hid (HF6.out.ext hE7)
          have HY7 := Lib.hid (HY6.out.ext hE7)
          have BEL7 := Lib.hid (BEL6'.out.trans (hE7.mono BEL6'.out.size))
          have q57 := (HB56.out.ext hE7).cells
          have l57 := (HB56.out.ext hE7).lt
          have hll := HF7.out.loose.hlen
          have hllf := HF7.out.loose.hfew
          have hll' : (ll : Int) ≤ 140737488355328 := by omega
          have HLL := Lib.hid hll
          have hma := (FileD.right_spec.1 HQ.out.right).2.2.2.2
          have HMA := Lib.hid hma
          have HG5 := Lib.hid g5
          have hK7 := HK.out.ext BEL7.out
          have HK7 := Lib.hid hK7
          have hfl' : fl ≤ 524288 := by have := HF7.out.firm.at_.hlen; unfold FileD.many at hma; omega
          clear hcW7 hfW7 hE7 hG7 HB56 HB76 HF6 HX6 HY6 BEL6' qc6 lc6 q76 l76 HBA hll hllf hma hK7 g1 g2 g3 g4 HCR HCA HCO HT
          go_wp2_with fail
          go_loopg [17, 117] ll (fun g pl ix wx => ∃ i : Nat, i ≤ ll ∧ g = ll - i ∧ ix = .int .i64 i ∧ pl = .int .i64 ((fl + sumTo F.loose i : Nat) : Int) ∧ W7 = wx)
          case atStart => exact ⟨0, Nat.zero_le _, rfl, rfl, by rw [sumTo_zero]; rfl, rfl⟩
          case round =>
            obtain ⟨i, hi, rfl, rfl, rfl, rfl⟩ := hrel
            by_cases hil : i < ll
            · obtain ⟨p, hp⟩ : ∃ p, F.loose[i]? = some p := ⟨_, List.getElem?_eq_getElem (by have := HLL.out; omega)⟩
              obtain ⟨bb, oo, pa, pl, pc, rfl, hbb, hbs, hcell, hpb⟩ := HF7.out.loose.hat i p hp
              have hili : (i : Int) < (ll : Int) := by omega
              have HIL := Lib.hid hil
              have HP := Lib.hid hp
              have HPB := Lib.hid hpb.at_
              have hpl := hpb.at_.hlen
              have hsm := sumTo_mono F.loose (i + 1)
              rw [sumTo_succ hp] at hsm
              have hplm : fl + sumTo F.loose i + pl ≤ 524288 := by
                have h1 := HMA.out
                have h2 := HF7.out.firm.at_.hlen
                unfold FileD.many at h1
                omega
              have HPL := Lib.hid hpl
              have HPLM := Lib.hid hplm
              obtain ⟨pz, hpz⟩ : ∃ pz, fl + sumTo F.loose i = pz := ⟨_, rfl⟩
              rw [hpz]
              have HPZ := Lib.hid hpz
              have hpz2 : (pz : Int) + (pl : Int) ≤ 524288 := by omega
              clear hp hpb hbs hsm hplm hpl hil hi hpz
              go_upto_region 24 with fail
              go_cut [20] (fun s20 wc => s20 = .bool (decide (keep[i]? = some true) && !decide ((i : Int) = a0)) ∧ W7 = wc)
              case first =>
                clear hcell
                by_cases hik : i < kl
                · obtain ⟨kb, hkb⟩ : ∃ kb, keep[i]? = some kb := ⟨_, List.getElem?_eq_getElem (by have := HK7.out.hlen; omega)⟩
                  obtain ⟨b', o', rfl, hb', hc'⟩ := HK7.out.hat i kb hkb
                  have hik' : (i : Int) < (kl : Int) := by omega
                  clear hik
                  have HKB := Lib.hid hkb
                  clear hkb
                  cases kb with
                  | false =>
                    go_wp2_with fail
                    go_meet
                    case rel => exact ⟨by simp [HKB.out], rfl⟩
                  | true =>
                    by_cases hia : (i : Int) = a0
                    · have hia' : ((i : Int) != a0) = false := by simp [hia]
                      have HIA := Lib.hid hia
                      clear hia
                      go_wp2_with fail
                      go_meet
                      case rel => exact ⟨by simp [HKB.out, HIA.out], rfl⟩
                    · have hia' : ((i : Int) != a0) = true := by simp [hia]
                      have HIA := Lib.hid hia
                      clear hia
                      go_wp2_with fail
                      go_meet
                      case rel => exact ⟨by simp [HKB.out, HIA.out], rfl⟩
                · have hik' : ¬ (i : Int) < (kl : Int) := by omega
                  have HKN := Lib.hid (show keep[i]? = none from List.getElem?_eq_none (by have := HK7.out.hlen; omega))
                  clear hik
                  go_wp2_with fail
                  go_meet
                  case rel => first | exact ⟨by simp [HKN.out], rfl⟩ | exact ⟨_, ⟨by simp [HKN.out], rfl⟩, rfl⟩
              case rest =>
                obtain ⟨rfl, rfl⟩ := hcut
                obtain ⟨wh, hwh⟩ : ∃ wh, (decide (keep[i]? = some true) && !decide ((i : Int) = a0)) = wh := ⟨_, rfl⟩
                rw [hwh]
                have HWH := Lib.hid hwh
                clear hwh hcell
                go_wp2_with fail
                go_loopg [17, 140] pl (fun g q jx wx => ∃ j : Nat, j ≤ pl ∧ g = pl - j ∧ jx = .int .i64 j ∧ q = .int .i64 ((pz + j : Nat) : Int) ∧ W7 = wx)
                case atStart => exact ⟨0, Nat.zero_le _, rfl, rfl, rfl, rfl⟩
                case round =>
                  obtain ⟨j, hj, rfl, rfl, rfl, rfl⟩ := hrel
                  by_cases hjl : j < pl
                  · obtain ⟨x, hx⟩ : ∃ x, p[j]? = some x := ⟨_, List.getElem?_eq_getElem (by have := HPL.out; omega)⟩
                    obtain ⟨b2, o2, rfl, hb2, hc2⟩ := HPB.out.hat j x hx
                    have hjli : (j : Int) < (pl : Int) := by omega
                    have HX := Lib.hid hx
                    have HJL := Lib.hid hjl
                    have hcb := crash_byte F keep a0 a1 HP.out hx
                    rw [HN'.out, show F.firm.length = fl from HF7.out.firm.at_.hlen, HPZ.out] at hcb
                    have HCB := Lib.hid hcb
                    clear hx hjl hj hcb
                    go_upto_region 28 with fail
                    go_cut [23] (fun s23 wc => s23 = .bool (staysB keep a0 a1 i j) ∧ W7 = wc)
                    case first =>
                      clear hc2
                      cases wh with
                      | true =>
                        go_wp2_with fail
                        go_meet
                        case rel =>
                          have h := HWH.out
                          simp at h
                          exact ⟨by simp [staysB, h.1, h.2], rfl⟩
                      | false =>
                        by_cases hia : (i : Int) = a0
                        · have hia' : ((i : Int) == a0) = true := by simp [hia]
                          have HIA := Lib.hid hia
                          clear hia
                          by_cases hja : (j : Int) < a1
                          · go_wp2_with fail
                            go_meet
                            case rel => exact ⟨by simp [staysB, HIA.out, hja], rfl⟩
                          · go_wp2_with fail
                            go_meet
                            case rel => first | exact ⟨by simp [staysB, HIA.out]; omega, rfl⟩ | exact ⟨_, ⟨by simp [staysB, HIA.out]; omega, rfl⟩, rfl⟩
                        · have hia' : ((i : Int) == a0) = false := by simp [hia]
                          have HIA := Lib.hid hia
                          clear hia
                          go_wp2_with fail
                          go_meet
                          case rel =>
                            have h := HWH.out
                            simp [HIA.out] at h
                            exact ⟨by simp [staysB, HIA.out, h], rfl⟩
                    case rest =>
                      obtain ⟨rfl, rfl⟩ := hcut
                      clear hc2
                      cases hst : staysB keep a0 a1 i j with
                      | true =>
                        have hnx := HCB.out.1 hst
                        obtain ⟨b3, o3, rfl, hb3, hc3⟩ := HY7.out.hat (pz + j) x hnx
                        have hpn := (List.getElem?_eq_some_iff.1 hnx).1
                        have hyl := HY7.out.hlen
                        have h1 : ((pz : Int) + (j : Int)) < (yl : Int) := by omega
                        have h2 : ¬ ((yl : Int) ≤ ((pz : Int) + (j : Int))) := by omega
                        clear hnx hpn hyl hst
                        go_wp2_with fail
                        all_goals
                          go_roundg (pl - (j + 1))
                          case measure => have := HJL.out; omega
                          case rel => exact ⟨j + 1, HJL.out, rfl, by go_num, by go_num, rfl⟩
                      | false =>
                        by_cases hpn : pz + j < yl
                        · --{B2
                          obtain ⟨hn0, hn1⟩ := HCB.out.2 hst (by rw [HY7.out.hlen]; exact hpn)
                          rw [HY7.out.hlen] at hn1
                          obtain ⟨b3, o3, rfl, hb3, hc3⟩ := HY7.out.hat (pz + j) 0 hn0
                          have h1 : ((pz : Int) + (j : Int)) < (yl : Int) := by omega
                          have h2 : ¬ ((yl : Int) ≤ ((pz : Int) + (j : Int))) := by omega
                          have h3 : (((pz : Int) + (j : Int)) == (yl : Int) - 1) = false := by simp; omega
                          clear hn0 hn1 hst hpn
                          go_wp2_with fail
                          all_goals
                            go_roundg (pl - (j + 1))
                            case measure => have := HJL.out; omega
                            case rel => exact ⟨j + 1, HJL.out, rfl, by go_num, by go_num, rfl⟩
                        · --{B3
                          have h1 : ¬ ((pz : Int) + (j : Int)) < (yl : Int) := by omega
                          have h2 : ((yl : Int) ≤ ((pz : Int) + (j : Int))) := by omega
                          have h3 : (((pz : Int) + (j : Int)) == (yl : Int) - 1) = false := by simp; omega
                          clear hst hpn
                          go_wp2_with fail
                          all_goals
                            go_roundg (pl - (j + 1))
                            case measure => have := HJL.out; omega
                            case rel => exact ⟨j + 1, HJL.out, rfl, by go_num, by go_num, rfl⟩
                  · have hjli : ¬ (j : Int) < (pl : Int) := by omega
                    obtain rfl : j = pl := by omega
                    clear hjl hj
                    go_wp2_with fail
                    go_roundg (ll - (i + 1))
                    case measure => have := HIL.out; omega
                    case rel => exact ⟨i + 1, HIL.out, rfl, by go_num, by rw [sumTo_succ HP.out, ← Nat.add_assoc, HPZ.out, HPL.out]; simp, rfl⟩
            · have hili : ¬ (i : Int) < (ll : Int) := by omega
              have bel := BEL7.out
              clear hil hi
              go_wp2
              go_ret
              exact ⟨rfl, bel⟩
end Go.Proofs.Ytmjmjjakhmeogaa
