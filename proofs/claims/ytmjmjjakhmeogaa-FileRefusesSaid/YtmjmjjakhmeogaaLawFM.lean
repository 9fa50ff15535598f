/-
  Layer 10: FileRefuses, walked: for every deeds and every number it answers true.
-/
import Derived.Test.YtmjmjjakhmeogaaLawFL
namespace Go.Dav
set_option linter.unusedVariables false
set_option linter.unusedSimpArgs false
open Go Go.RowKit
def FileD.bad (F : FileD) (m : Int) : FileD := { F with fault := max m (-1) }
theorem FileD.refs {F : FileD} {X : DeedD} (hq : F.Quiet) (hx : X.asks) (m : Int) :
    ((F.does X).2 = 8 ∧ ((F.bad m).does X).2 = 8) ∨ ((F.does X).2 = 0 ∧ (F.bad m).does X = (F, 9) ∧ m = 0) ∨
    ((F.does X).2 = 0 ∧ ((F.bad m).does X).2 = 0 ∧ m ≠ 0 ∧ (F.does X).1.Quiet ∧ ((F.bad m).does X).1 = (F.does X).1.bad (m - 1)) := by
  have e := FileD.does_bad hq hx (m := max m (-1)) (by omega)
  rw [FileD.does_quiet hq hx, show (F.bad m).does X = _ from e]
  by_cases hm : 524288 - (F.many : Int) < X.more
  · rw [if_pos hm, if_pos hm]; exact .inl ⟨rfl, rfl⟩
  · rw [if_neg hm, if_neg hm]
    by_cases h0 : m = 0
    · rw [if_pos (by omega)]; exact .inr (.inl ⟨rfl, rfl, h0⟩)
    · rw [if_neg (by omega)]
      refine .inr (.inr ⟨rfl, rfl, h0, hq.go hx hm, ?_⟩)
      unfold FileD.bad
      rw [show (if 0 < max m (-1) then max m (-1) - 1 else -1) = max (m - 1) (-1) by split <;> omega]
theorem refuse_none (n : Int) : FileD.none.refuse n = (FileD.none.bad n, 0) := by
  unfold FileD.refuse FileD.set
  rw [if_pos (show FileD.none.right = true from rfl), if_neg (by decide)]
  rfl
theorem FileD.bad_off {F : FileD} (hq : F.Quiet) : F.bad (-1) = F := by
  unfold FileD.bad
  have := hq.fault
  cases F
  simp_all
end Go.Dav
namespace Go.Proofs.Ytmjmjjakhmeogaa
set_option linter.unusedVariables false
set_option linter.unusedSimpArgs false
open Go.RowKit Go.Dav
attribute [local go_sem] Gives ite_val ite_val_true

def TryRefusesRel (w : World) (p5 p6 n : Nat) (left ix : Value) (wr : World) : Prop :=
  ∃ (k : Nat) (m : Int) (F : FileD), k ≤ n ∧ ix = .int .i64 k ∧ left = .int .i64 m ∧ (-(k : Int) ≤ m ∧ m ≤ 255) ∧ TryBox wr p5 [p5, p6] F ∧ TryBox wr p6 [p5, p6] (F.bad m) ∧ F.Quiet ∧ Below w.heap.size w wr

set_option maxRecDepth 8000 in
set_option maxHeartbeats 16000000 in
theorem Try_FileRefuses (da : Option Addr) (dl dc n0 : Nat) (D : List DeedV) (w : World) (hD : DeedsAt w da D) (hDl : D.length = dl) (hdc : dl ≤ dc) (hdl : dl ≤ 140737488355328) (hn0 : n0 ≤ 255) :
    Calls Try.prog 8 #[.slice da dl dc, .int .u8 (n0 : Int)] w fun e w' => e = .returned (.bool true) ∧ Below w.heap.size w w' := by
  have HD := Lib.hid hD
  have HDL := Lib.hid hDl
  have hn0' : (n0 : Int) ≤ 255 := by omega
  clear hD hDl
  go_enter Try.func8, Try.ntmps8
  go_wp2_with fail
  refine (Try_wakes10 w).mono ?_; rintro e w1 ⟨rfl, hb1⟩
  have s1 := hb1.size
  go_wp2_with fail
  refine (Try_New w1).mono ?_; rintro e w2 ⟨rfl, hb2⟩
  have s2 := hb2.size
  have bel2 : Below w.heap.size w w2 := (by repeat (first | (with_reducible exact Below.refl _ _) | (with_reducible exact Below.refl _ _) | (with_reducible refine Below.setCell ?_ (by first | omega | (simp; done) | (simp; omega)) _) | (with_reducible refine Below.alloc ?_ (by first | omega | (simp; done) | (simp; omega)) _) | (with_reducible refine Below.drew ?_) | (with_reducible refine below_drewN ?_ _) | (with_reducible refine Below.trans ?_ (hb2.mono (by first | omega | (simp; done) | (simp; omega)))) | (with_reducible refine Below.trans ?_ (hb1.mono (by first | omega | (simp; done) | (simp; omega))))))
  have BEL2 := Lib.hid bel2
  have HB2 := Lib.hid (Blk.new w2 [.slice none 0 0, .slice none 0 0, .int .i64 (-1), .int .i64 (-1), .bool false] 25)
  clear hb1 hb2 bel2
  go_wp2_with fail
  have hA : Calls Try.prog 34 #[.agg #[.slice none 0 0, .slice none 0 0, .int .i64 (-1), .int .i64 (-1), .bool false], .int .i64 (n0 : Int)] (w2.alloc (.cells #[.slice none 0 0, .slice none 0 0, .int .i64 (-1), .int .i64 (-1), .bool false] 25)) _ := Try_Refuse FileD.none none none 0 0 0 0 (n0 : Int) _ _ (FileIn.none_ (w2.alloc (.cells #[.slice none 0 0, .slice none 0 0, .int .i64 (-1), .int .i64 (-1), .bool false] 25)) [w2.heap.size]) (fun b h => h.1) (by unfold I64'; omega)
  rw [refuse_none] at hA
  with_reducible refine hA.mono ?_
  rintro e w3 ⟨na, nl, nc, oa, ol, oc, rfl, hR, hb⟩
  have s3 := hb.size
  simp only [World.size_alloc] at s3
  obtain ⟨G, hG⟩ : ∃ G : FileD, FileD.none.bad (n0 : Int) = G := ⟨_, rfl⟩
  rw [hG] at hR ⊢
  have hB3 := HB2.out.ext hb
  have hF3 := FileIn.of_or (l := [w2.heap.size]) hR (by simp)
  have bel3 : Below w.heap.size w w3 := (by repeat (first | (with_reducible exact Below.refl _ _) | (with_reducible exact Below.refl _ _) | (with_reducible refine Below.setCell ?_ (by first | omega | (simp; done) | (simp; omega)) _) | (with_reducible refine Below.alloc ?_ (by first | omega | (simp; done) | (simp; omega)) _) | (with_reducible refine Below.drew ?_) | (with_reducible refine below_drewN ?_ _) | (with_reducible refine Below.trans ?_ (hb.mono (by first | omega | (simp; done) | (simp; omega)))) | (with_reducible refine Below.trans ?_ (BEL2.out.mono (by first | omega | (simp; done) | (simp; omega))))))
  have HB3 := Lib.hid (hB3.alloc (.cells [.slice na nl nc, .slice oa ol oc, .int .i64 G.fuse, .int .i64 G.fault, .bool G.off].toArray 25))
  have HG3 := Lib.hid (Blk.new w3 [.slice na nl nc, .slice oa ol oc, .int .i64 G.fuse, .int .i64 G.fault, .bool G.off] 25)
  have HF3 := Lib.hid (hF3.alloc (.cells [.slice na nl nc, .slice oa ol oc, .int .i64 G.fuse, .int .i64 G.fault, .bool G.off].toArray 25))
  have BEL3 := Lib.hid bel3
  have HG := Lib.hid hG
  clear hA hR hB3 hF3 bel3 hb HB2 BEL2 hG
  go_wp2_with fail
  refine (Try_few da dl dc _ hdc hdl).mono ?_; rintro e w6 ⟨rfl, hb⟩
  have s6 := hb.size
  simp only [World.size_alloc] at s6
  have hB5 := HB3.out.ext hb
  have hB6 := HG3.out.ext hb
  have hF6 := HF3.out.ext hb
  have bel6 : Below w.heap.size w w6 := (by repeat (first | (with_reducible exact Below.refl _ _) | (with_reducible exact Below.refl _ _) | (with_reducible refine Below.setCell ?_ (by first | omega | (simp; done) | (simp; omega)) _) | (with_reducible refine Below.alloc ?_ (by first | omega | (simp; done) | (simp; omega)) _) | (with_reducible refine Below.drew ?_) | (with_reducible refine below_drewN ?_ _) | (with_reducible refine Below.trans ?_ (hb.mono (by first | omega | (simp; done) | (simp; omega)))) | (with_reducible refine Below.trans ?_ (BEL3.out.mono (by first | omega | (simp; done) | (simp; omega))))))
  obtain ⟨p5, hp5⟩ : ∃ p5, w2.heap.size = p5 := ⟨_, rfl⟩
  obtain ⟨p6, hp6⟩ : ∃ p6, w3.heap.size = p6 := ⟨_, rfl⟩
  obtain ⟨n, hn⟩ : ∃ n, min dl 40 = n := ⟨_, rfl⟩
  have hn1 : n ≤ dl := by omega
  have hn2 : (n : Int) ≤ 40 := by omega
  have hp56 : p5 < p6 := by omega
  have hw5 : w.heap.size ≤ p5 := by omega
  rw [hn]
  rw [hp5] at hB5 hF6
  rw [hp6] at hB6 hF6
  have HBX5 := Lib.hid (show TryBox w6 p5 [p5, p6] FileD.none from ⟨none, none, 0, 0, 0, 0, hB5, FileIn.none_ _ _⟩)
  have HBX6 := Lib.hid (show TryBox w6 p6 [p5, p6] (FileD.none.bad (n0 : Int)) from ⟨na, oa, nl, nc, ol, oc, by rw [HG.out]; exact hB6, by rw [HG.out]; exact hF6.less (by simp)⟩)
  have BEL6 := Lib.hid bel6
  have HP5 := Lib.hid hp5
  have HP6 := Lib.hid hp6
  have HP56 := Lib.hid hp56
  have HW5 := Lib.hid hw5
  clear hb s1 s2 s3 s6 hB5 hB6 hF6 bel6 HB3 HG3 HF3 BEL3 hn hp5 hp6 hp56 hw5 HG
  go_wp2_with fail
  rw [HP5.out, HP6.out]
  go_loopw [8, 32] (fun left ix wr => TryRefusesRel w p5 p6 n left ix wr) (fun _ ix _ => n - (intOf ix).toNat)
  case atStart => exact ⟨0, (n0 : Int), FileD.none, Nat.zero_le _, rfl, rfl, ⟨by omega, by omega⟩, HBX5.out, HBX6.out, FileD.quiet_none, BEL6.out⟩
  case round =>
    obtain ⟨k, m, F, hk, rfl, rfl, hm, hb5, hb6, hq, hbl⟩ := hrel
    have HB5 := Lib.hid hb5
    have HB6 := Lib.hid hb6
    have HQ := Lib.hid hq
    have HBL := Lib.hid hbl
    have HM := Lib.hid hm
    have hm1 := hm.1
    have hm2 := hm.2
    clear hb5 hb6 hq hbl hm HBX5 HBX6 BEL6
    by_cases hlt : k < n
    · obtain ⟨d, hd⟩ : ∃ d, D[k]? = some d := ⟨_, List.getElem?_eq_getElem (by have := HDL.out; omega)⟩
      obtain ⟨b, o, rfl, hb, hcs, hX⟩ := HD.out k d hd
      have hd0 := hcs 0 _ rfl
      have hd1 := hcs 1 _ rfl
      have hd2 := hcs 2 _ rfl
      have hd3 := hcs 3 _ rfl
      have hd4 := hcs 4 _ rfl
      rw [Nat.add_zero] at hd0
      have hcw := fun j => HBL.out.cell (p := ⟨b, o + k * 5 + j, none⟩) hb
      have hc0 := (HBL.out.cell (p := ⟨b, o + k * 5, none⟩) hb).trans hd0
      have hc1 := (hcw 1).trans hd1
      have hc2 := (hcw 2).trans hd2
      have hc3 := (hcw 3).trans hd3
      have hc4 := (hcw 4).trans hd4
      have HX := Lib.hid (hX.ext HBL.out)
      have hkl : (k : Int) < (n : Int) := by omega
      have HLT := Lib.hid hlt
      clear hd hcs hX hd0 hd1 hd2 hd3 hd4 hcw hlt hk hb
      go_upto_region 11 with fail
      obtain ⟨W1, hW1⟩ : ∃ W1, wr.alloc (.cells [.int .i64 d.X.kind, .int .i64 d.X.n, .int .i64 d.X.tear, .slice d.ba d.bl d.bc, .slice d.ka d.kl d.kc].toArray 34) = W1 := ⟨_, rfl⟩
      have a1 : Below wr.heap.size wr W1 := by rw [← hW1]; exact (by repeat (first | (with_reducible exact Below.refl _ _) | (with_reducible exact Below.refl _ _) | (with_reducible refine Below.setCell ?_ (by first | omega | (simp; done) | (simp; omega)) _) | (with_reducible refine Below.alloc ?_ (by first | omega | (simp; done) | (simp; omega)) _) | (with_reducible refine Below.drew ?_) | (with_reducible refine below_drewN ?_ _)))
      have b9 : Blk W1 wr.heap.size [.int .i64 d.X.kind, .int .i64 d.X.n, .int .i64 d.X.tear, .slice d.ba d.bl d.bc, .slice d.ka d.kl d.kc] 34 := by rw [← hW1]; exact Blk.new _ _ _
      have A1 := Lib.hid a1
      have B9 := Lib.hid b9
      have HX1 := Lib.hid (HX.out.ext a1)
      rw [hW1]
      clear a1 b9 hW1 hc0 hc1 hc2 hc3 hc4
      go_cut [49] (fun s49 wc => s49 = .bool (!d.X.asksB) ∧ Below W1.heap.size W1 wc)
      case first =>
        have q9 := B9.out.cells
        have l9 := B9.out.lt
        go_wp2_with fail
        refine (Try_which d.X d.ba d.ka d.bl d.bc d.kl d.kc W1 HX1.out.kind).mono ?_; rintro e w8 ⟨rfl, hb⟩
        have q98 := (B9.out.ext hb).cells
        have l98 := (B9.out.ext hb).lt
        have hbn := HX1.out.bytes.hlen
        have HB := Lib.hid hb
        have HX8 := Lib.hid (HX1.out.ext hb)
        have B98 := Lib.hid (B9.out.ext hb)
        clear q9 l9 hb
        by_cases h4 : 3 < d.X.which
        · have h4' : (3 : Int) < (d.X.which : Int) := by omega
          have HV := Lib.hid (show d.X.asksB = false by unfold DeedD.asksB; rw [decide_eq_false (by omega), decide_eq_false (by omega)]; rfl)
          clear hbn
          go_wp2_with fail
          go_meet
          case rel => first | exact ⟨by simp [HV.out], HB.out⟩ | exact ⟨_, ⟨by simp [HV.out], HB.out⟩, rfl⟩
        · have h4' : decide ((3 : Int) < (d.X.which : Int)) = false := decide_eq_false (by omega)
          have h4'' : ¬ (3 : Int) < (d.X.which : Int) := by omega
          go_wp2_with fail
          refine (Try_which d.X d.ba d.ka d.bl d.bc d.kl d.kc w8 HX8.out.kind).mono ?_; rintro e w9 ⟨rfl, hb⟩
          have q99 := (B98.out.ext hb).cells
          have l99 := (B98.out.ext hb).lt
          have HB9 := Lib.hid (HB.out.trans (hb.mono HB.out.size))
          clear q98 l98 hb
          by_cases h3 : d.X.which = 3
          · have h3' : ¬ (d.X.which : Int) < 3 := by omega
            have HV := Lib.hid (show d.X.asksB = true by unfold DeedD.asksB; rw [decide_eq_true h3]; rfl)
            clear hbn h4
            go_wp2_with fail
            go_meet
            case rel => exact ⟨by simp [HV.out], HB9.out⟩
          · have h3' : (d.X.which : Int) < 3 := by omega
            by_cases h0 : d.bl = 0
            · have hv : d.X.bytes.isEmpty = true := by rw [List.isEmpty_iff]; exact List.length_eq_zero_iff.1 (hbn.trans h0)
              have HV := Lib.hid (show d.X.asksB = false by unfold DeedD.asksB; rw [decide_eq_false h3, hv]; simp)
              rw [h0] at q99
              clear hbn h0 hv h3 h4
              go_wp2_with fail
              go_meet
              case rel => first | exact ⟨by simp [HV.out], HB9.out⟩ | exact ⟨_, ⟨by simp [HV.out], HB9.out⟩, rfl⟩
            · have hv : d.X.bytes.isEmpty = false := by
                cases hbb : d.X.bytes with
                | nil => rw [hbb] at hbn; exact absurd hbn.symm h0
                | cons => rfl
              have h0' : ((d.bl : Int) == 0) = false := by simp; omega
              have HV := Lib.hid (show d.X.asksB = true by unfold DeedD.asksB; rw [decide_eq_true (show d.X.which < 3 by omega), hv]; simp)
              have HH0 := Lib.hid h0
              clear hbn h0 hv h3 h4
              go_wp2_with fail
              go_meet
              case rel => exact ⟨by simp [HV.out], HB9.out⟩
      case rest =>
        obtain ⟨rfl, hbc⟩ := hcut
        have B9c := Lib.hid (B9.out.ext hbc)
        have acc := A1.out.trans (hbc.mono A1.out.size)
        have HB5c := Lib.hid (HB5.out.ext acc)
        have HB6c := Lib.hid (HB6.out.ext acc)
        have HXc := Lib.hid (HX1.out.ext hbc)
        have BELc := Lib.hid (HBL.out.trans (acc.mono HBL.out.size))
        clear hbc acc HB5 HB6 HX HX1 A1 B9 HBL
        cases hdb : d.X.asksB with
        | false =>
          clear hdb
          go_wp2_with fail
          go_roundw
          case rel => exact ⟨k + 1, m, F, by have := HLT.out; omega, by go_num, rfl, ⟨by have := HM.out; omega, by have := HM.out; omega⟩, HB5c.out, HB6c.out, HQ.out, BELc.out⟩
          case measure => simp [intOf]; omega
        | true =>
          have HAS := Lib.hid (DeedD.asks_of hdb)
          clear hdb
          obtain ⟨fa, la, fl, fc, ll, lc, hb5, hf5⟩ := HB5c.out
          obtain ⟨ga, ha, gl, gc, hl, hc, hb6, hf6⟩ := HB6c.out
          have hls := FileD.refs HQ.out HAS.out m
          obtain ⟨G, hG⟩ : ∃ G, F.bad m = G := ⟨_, rfl⟩
          rw [hG] at hb6 hf6 hls
          have HG := Lib.hid hG
          have q9 := B9c.out.cells
          have l9 := B9c.out.lt
          have q5 := hb5.cells
          have l5 := hb5.lt
          have HBB5 := Lib.hid hb5
          have HBB6 := Lib.hid hb6
          have HF5 := Lib.hid hf5
          have HF6 := Lib.hid hf6
          have HLS := Lib.hid hls
          clear hG hb5 hb6 hf5 hf6 hls
          go_wp2_with fail
          obtain ⟨F1, e1, hV1⟩ : ∃ F1 e1, F.does d.X = (F1, e1) := ⟨_, _, rfl⟩
          obtain ⟨G1, e2, hV2⟩ : ∃ G1 e2, G.does d.X = (G1, e2) := ⟨_, _, rfl⟩
          have hls := HLS.out
          have hA := Try_does F d.X fa la d.ba d.ka fl fc ll lc d.bl d.bc d.kl d.kc wc _ HF5.out HXc.out (fun b h => h.1)
          rw [hV1] at hA hls
          rw [hV2] at hls
          with_reducible refine hA.mono ?_
          rintro e w7 ⟨na, nl, nc, oa, ol, oc, rfl, hR, hb⟩
          have s7 := hb.size
          have l6c := HBB6.out.lt
          have HL6 := Lib.hid (show p5 < w7.heap.size ∧ p6 < w7.heap.size ∧ w.heap.size ≤ w7.heap.size from ⟨by omega, by omega, by have := BELc.out.size; omega⟩)
          have a2 := (Below.refl _ w7).alloc (Nat.le_refl _) (.cells [.slice na nl nc, .slice oa ol oc, .int .i64 F1.fuse, .int .i64 F1.fault, .bool F1.off].toArray 25)
          have bb2 := hb.trans (a2.mono hb.size)
          have HFN := Lib.hid ((FileIn.of_or (l := [p5, p6]) hR (by simp; omega)).alloc' (.cells [.slice na nl nc, .slice oa ol oc, .int .i64 F1.fuse, .int .i64 F1.fault, .bool F1.off].toArray 25))
          have HB57 := Lib.hid (HB5c.out.ext bb2)
          have HB67 := Lib.hid (HBB6.out.ext bb2)
          have HF67 := Lib.hid (HF6.out.ext bb2)
          have HX7 := Lib.hid (HXc.out.ext bb2)
          have HB97 := Lib.hid (B9c.out.ext bb2)
          have HBN := Lib.hid (Blk.new w7 [.slice na nl nc, .slice oa ol oc, .int .i64 F1.fuse, .int .i64 F1.fault, .bool F1.off] 25)
          have BEL7 := Lib.hid (BELc.out.trans (bb2.mono BELc.out.size))
          have q67 := (HBB6.out.ext hb).cells
          have l67 := (HBB6.out.ext hb).lt
          have q97 := (B9c.out.ext hb).cells
          have l97 := (B9c.out.ext hb).lt
          have HLS2 := Lib.hid hls
          have HV2 := Lib.hid hV2
          clear hA hR hb a2 bb2 hls HLS hV1 hV2 q9 l9 q5 l5 HB5c HB6c B9c HXc BELc HBB5 HBB6 HF5 HF6 l6c
          go_wp2_with fail
          have hA := Try_does G d.X ga ha d.ba d.ka gl gc hl hc d.bl d.bc d.kl d.kc _ _ HF67.out HX7.out (fun b h => h.1)
          rw [HV2.out] at hA
          with_reducible refine hA.mono ?_
          rintro e w8 ⟨ra, rl, rc, sa, sl, sc, rfl, hR, hb⟩
          have s8 := hb.size
          simp only [World.size_alloc] at s8
          have l67c := HB67.out.lt
          simp only [World.size_alloc] at l67c
          have l57c := HB57.out.lt
          simp only [World.size_alloc] at l57c
          obtain ⟨V, hV⟩ : ∃ V, w8.alloc (.cells [.slice ra rl rc, .slice sa sl sc, .int .i64 G1.fuse, .int .i64 G1.fault, .bool G1.off].toArray 25) = V := ⟨_, rfl⟩
          have a2 : Below w8.heap.size w8 V := by rw [← hV]; exact (Below.refl _ w8).alloc (Nat.le_refl _) (.cells [.slice ra rl rc, .slice sa sl sc, .int .i64 G1.fuse, .int .i64 G1.fault, .bool G1.off].toArray 25)
          have bb2 := hb.trans (a2.mono hb.size)
          have HFR := Lib.hid ((FileIn.of_or (l := [p5, p6]) hR (by simp; omega)).ext a2)
          have HFN8 := Lib.hid (HFN.out.ext bb2)
          have HB58 := Lib.hid (HB57.out.ext bb2)
          have HB68 := Lib.hid (HB67.out.ext bb2)
          have HF68 := Lib.hid (HF67.out.ext bb2)
          have HX8 := Lib.hid (HX7.out.ext bb2)
          have HB98 := Lib.hid (HB97.out.ext bb2)
          have HBN8 := Lib.hid (HBN.out.ext bb2)
          have HBR := Lib.hid (show Blk V w8.heap.size [.slice ra rl rc, .slice sa sl sc, .int .i64 G1.fuse, .int .i64 G1.fault, .bool G1.off] 25 by rw [← hV]; exact Blk.new w8 [.slice ra rl rc, .slice sa sl sc, .int .i64 G1.fuse, .int .i64 G1.fault, .bool G1.off] 25)
          have BEL8 := Lib.hid (BEL7.out.trans (bb2.mono BEL7.out.size))
          have HB9w := Lib.hid (HB97.out.ext hb)
          have HB5w := Lib.hid (HB57.out.ext hb)
          have HA2 := Lib.hid a2
          have HLL := Lib.hid (show p5 < w7.heap.size ∧ p6 < w7.heap.size ∧ w7.heap.size < w8.heap.size ∧ w.heap.size ≤ w7.heap.size from ⟨HL6.out.1, HL6.out.2.1, by omega, HL6.out.2.2⟩)
          have HV := Lib.hid hV
          clear hA hR hb a2 bb2 hV HFN HB57 HB67 HF67 HX7 HB97 HBN BEL7 q67 l67 q97 l97 l67c l57c s7 s8
          rcases HLS2.out with ⟨x1, x2⟩ | ⟨x1, x2, x3⟩ | ⟨x1, x2, x3, x4, x5⟩
          · skip
            subst x1 x2
            go_wp2_with fail
            rw [HV.out]
            go_roundw
            case rel => exact ⟨k + 1, m, F, by have := HLT.out; omega, by go_num, rfl, ⟨by have := HM.out; omega, by have := HM.out; omega⟩, HB58.out, ⟨ga, ha, gl, gc, hl, hc, by rw [HG.out]; exact HB68.out, by rw [HG.out]; exact HF68.out⟩, HQ.out, BEL8.out⟩
            case measure => simp [intOf]; omega
          · skip
            simp only [Prod.mk.injEq] at x1 x2
            obtain ⟨x2, rfl⟩ := x2
            subst x1 x3
            subst x2
            obtain ⟨xa, ya, xl, xc, yl, yc, hb5, hf5⟩ := HB5w.out
            have q5 := hb5.cells
            have l5 := hb5.lt
            have HB5V := Lib.hid (hb5.ext HA2.out)
            have HF5V := Lib.hid (hf5.ext HA2.out)
            clear hb5 hf5
            go_wp2_with fail
            rw [HV.out]
            have hA := Try_Same G1 G1 ra sa xa ya rl rc sl sc xl xc yl yc V HFR.out.at_ HF5V.out.at_
            rw [show (G1.right && (G1.right && G1.one G1)) = true by rw [HQ.out.right, FileD.one_self]; rfl] at hA
            with_reducible refine hA.mono ?_
            rintro e wb ⟨rfl, hb⟩
            have HB5b := Lib.hid (HB58.out.ext hb)
            have HB6b := Lib.hid (HB68.out.ext hb)
            have HFRb := Lib.hid (HFR.out.ext hb)
            have BELb := Lib.hid (BEL8.out.trans (hb.mono BEL8.out.size))
            have qRb := (HBR.out.ext hb).cells
            have lRb := (HBR.out.ext hb).lt
            have q6b := HB6b.out.cells
            have m6b := HB6b.out.marks
            have l6b := HB6b.out.lt
            clear hA hb q5 l5 HB5V HF5V
            go_wp2_with fail
            obtain ⟨U9, hU9⟩ : ∃ U, (((((wb.setCell ⟨p6, 0, none⟩ (.slice ra rl rc)).setCell ⟨p6, 1, none⟩ (.slice sa sl sc)).setCell ⟨p6, 2, none⟩ (.int .i64 G1.fuse)).setCell ⟨p6, 3, none⟩ (.int .i64 G1.fault)).setCell ⟨p6, 4, none⟩ (.bool G1.off)) = U := ⟨_, rfl⟩
            have o6 : Only p6 wb U9 := by rw [← hU9]; exact Only.five _ _ _ _ _ _ _
            have hx5 := HB5b.out.only o6 (List.mem_cons_of_mem _ List.mem_cons_self) (Nat.ne_of_lt HP56.out)
            have hx6 : TryBox U9 p6 [p5, p6] G1 := by rw [← hU9]; exact Try_setBox HB6b.out HFRb.out (List.mem_cons_of_mem _ List.mem_cons_self)
            have hbel := below_only BELb.out o6 BELb.out.size (Nat.le_of_lt (Nat.lt_of_le_of_lt HW5.out HP56.out))
            rw [hU9]
            go_roundw
            case rel => exact ⟨k + 1, -1, G1, by have := HLT.out; omega, by go_num, by go_num, ⟨by omega, by omega⟩, hx5, by rw [FileD.bad_off HQ.out]; exact hx6, HQ.out, hbel⟩
            case measure => simp [intOf]; omega
          · skip
            subst x1 x2
            obtain ⟨m1, rfl⟩ : ∃ m1, m = m1 + 1 := ⟨m - 1, by omega⟩
            rw [show m1 + 1 - 1 = m1 by omega] at x5
            subst x5
            have hrr : (F1.bad m1).right = true := x4.bad (by omega)
            have HQ1 := Lib.hid x4
            have HRR := Lib.hid hrr
            have hz : (m1 + 1 == 0) = false := by simp; omega
            have qN := HBN8.out.cells
            have lN := HBN8.out.lt
            have qR := HBR.out.cells
            have lR := HBR.out.lt
            have HFN9 := Lib.hid (FileIn.get _ _ _ _ _ _ _ _ _ HFN8.out)
            have HFR9 := Lib.hid (FileIn.get _ _ _ _ _ _ _ _ _ HFR.out)
            clear x4 hrr x3
            go_wp2_with fail
            rw [HV.out]
            refine' wp_region_seq [.inl _, .inl _, .inl _, .inl _, .inl _, .inl _, .inl _, .inl _, .inr (TryRowS V.heap.size F1.all), .inl _, .inr (TryRowS V.heap.size F1.all), .inl _, .inl _, .inl _, .inl _, .inl _, .inl _, .inl _, .inl _, .inl _, .inl _, .inl _] (by kernel_rfl) (by kernel_rfl) ?main1
            case main1 =>
              refine wpParts_det (by rfl) (fun W hE hN => ?_) ?_
              · go_simp; refine ⟨Below.refl _ _, ?_⟩; rfl
              simp only [Act.put, List.setIfInBounds_toArray, List.set_cons_zero, List.set_cons_succ]
              refine wpParts_det (by rfl) (fun W hE hN => ?_) ?_
              · go_simp; refine ⟨Below.refl _ _, ?_⟩; rfl
              simp only [Act.put, List.setIfInBounds_toArray, List.set_cons_zero, List.set_cons_succ]
              refine wpParts_det (by rfl) (fun W hE hN => ?_) ?_
              · go_simp; refine ⟨Below.refl _ _, ?_⟩; rfl
              simp only [Act.put, List.setIfInBounds_toArray, List.set_cons_zero, List.set_cons_succ]
              refine wpParts_det (by rfl) (fun W hE hN => ?_) ?_
              · go_simp; refine ⟨Below.refl _ _, ?_⟩; rfl
              simp only [Act.put, List.setIfInBounds_toArray, List.set_cons_zero, List.set_cons_succ]
              refine wpParts_det (by rfl) (fun W hE hN => ?_) ?_
              · go_simp; refine ⟨Below.refl _ _, ?_⟩; rfl
              simp only [Act.put, List.setIfInBounds_toArray, List.set_cons_zero, List.set_cons_succ]
              refine wpParts_det (by rfl) (fun W hE hN => ?_) ?_
              · go_simp; refine ⟨Below.refl _ _, ?_⟩; rfl
              simp only [Act.put, List.setIfInBounds_toArray, List.set_cons_zero, List.set_cons_succ]
              refine wpParts_det (by rfl) (fun W hE hN => ?_) ?_
              · go_simp; refine ⟨Below.refl _ _, ?_⟩; rfl
              simp only [Act.put, List.setIfInBounds_toArray, List.set_cons_zero, List.set_cons_succ]
              refine wpParts_det (by rfl) (fun W hE hN => ?_) ?_
              · have hc := fun b o h => hE.cell (p := ⟨b, o, none⟩) h
                go_simp; refine ⟨Below.refl _ _, ?_⟩; rfl
              simp only [Act.put, List.setIfInBounds_toArray, List.set_cons_zero, List.set_cons_succ]
              refine wpParts_any rfl (Try_rowS_later) (by rfl) (fun W hE hN => ?_) (fun u8 => ?_)
              · go_simp; refine ⟨Below.refl _ _, ?_⟩; refine (Try_content F1 na oa nl nc ol oc W _ (HFN9.out.ext hE) (fun b h => Nat.lt_of_lt_of_le h.1 hE.size) HQ1.out.right).mono ?_; rintro e w' ⟨ya, yl, yc, rfl, hR, hb⟩; exact ⟨_, rfl, hb, ya, yl, yc, rfl, hR.mono fun b h => Nat.le_trans hE.size h⟩
              simp only [Act.put, List.setIfInBounds_toArray, List.set_cons_zero, List.set_cons_succ]
              refine wpParts_det (by rfl) (fun W hE hN => ?_) ?_
              · have hc := fun b o h => hE.cell (p := ⟨b, o, none⟩) h
                go_simp; refine ⟨Below.refl _ _, ?_⟩; rfl
              simp only [Act.put, List.setIfInBounds_toArray, List.set_cons_zero, List.set_cons_succ]
              refine wpParts_any rfl (Try_rowS_later) (by rfl) (fun W hE hN => ?_) (fun u10 => ?_)
              · go_simp; refine ⟨Below.refl _ _, ?_⟩; refine (Try_content (F1.bad m1) ra sa rl rc sl sc W _ (HFR9.out.ext hE) (fun b h => Nat.lt_of_lt_of_le h.1 hE.size) HRR.out).mono ?_; rintro e w' ⟨ya, yl, yc, rfl, hR, hb⟩; exact ⟨_, rfl, hb, ya, yl, yc, rfl, hR.mono fun b h => Nat.le_trans hE.size h⟩
              simp only [Act.put, List.setIfInBounds_toArray, List.set_cons_zero, List.set_cons_succ]
              refine wpParts_det (by rfl) (fun W hE hN => ?_) ?_
              · simp [near, Oper.looksAt, Op.operands, Call.operands] at hN; obtain ⟨⟨a2, n2, c2, rfl, hr2⟩, ⟨a1, n1, c1, rfl, hr1⟩⟩ := hN; go_simp; refine ⟨Below.refl _ _, ?_⟩; have hA := Try_bytesEqual a1 a2 n1 c1 n2 c2 F1.all F1.all W hr1.at_ hr2.at_; rw [decide_eq_true rfl] at hA; refine hA.mono ?_; rintro e w' ⟨rfl, hb⟩; refine ⟨?_, hb⟩; rfl
              simp only [Act.put, List.setIfInBounds_toArray, List.set_cons_zero, List.set_cons_succ]
              refine wpParts_det (by rfl) (fun W hE hN => ?_) ?_
              · go_simp; refine ⟨Below.refl _ _, ?_⟩; rfl
              simp only [Act.put, List.setIfInBounds_toArray, List.set_cons_zero, List.set_cons_succ]
              refine wpParts_det (by rfl) (fun W hE hN => ?_) ?_
              · go_simp; refine ⟨Below.refl _ _, ?_⟩; rfl
              simp only [Act.put, List.setIfInBounds_toArray, List.set_cons_zero, List.set_cons_succ]
              refine wpParts_det (by rfl) (fun W hE hN => ?_) ?_
              · go_simp; refine ⟨Below.refl _ _, ?_⟩; rfl
              simp only [Act.put, List.setIfInBounds_toArray, List.set_cons_zero, List.set_cons_succ]
              refine wpParts_det (by rfl) (fun W hE hN => ?_) ?_
              · go_simp; refine ⟨Below.refl _ _, ?_⟩; rfl
              simp only [Act.put, List.setIfInBounds_toArray, List.set_cons_zero, List.set_cons_succ]
              refine wpParts_det (by rfl) (fun W hE hN => ?_) ?_
              · have hc := fun b o h => hE.cell (p := ⟨b, o, none⟩) h
                go_simp; refine ⟨Below.refl _ _, ?_⟩; rfl
              simp only [Act.put, List.setIfInBounds_toArray, List.set_cons_zero, List.set_cons_succ]
              refine wpParts_det (by rfl) (fun W hE hN => ?_) ?_
              · go_simp; refine ⟨Below.refl _ _, ?_⟩; rfl
              simp only [Act.put, List.setIfInBounds_toArray, List.set_cons_zero, List.set_cons_succ]
              refine wpParts_det (by rfl) (fun W hE hN => ?_) ?_
              · have hc := fun b o h => hE.cell (p := ⟨b, o, none⟩) h
                go_simp; refine ⟨Below.refl _ _, ?_⟩; rfl
              simp only [Act.put, List.setIfInBounds_toArray, List.set_cons_zero, List.set_cons_succ]
              refine wpParts_det (by rfl) (fun W hE hN => ?_) ?_
              · go_simp; refine ⟨Below.refl _ _, ?_⟩; have hA := Try_bytesEqual na ra nl nc rl rc F1.firm F1.firm W (HFN9.out.firm.at_.ext hE) (HFR9.out.firm.at_.ext hE); rw [decide_eq_true rfl] at hA; refine hA.mono ?_; rintro e w' ⟨rfl, hb⟩; refine ⟨?_, hb⟩; rfl
              simp only [Act.put, List.setIfInBounds_toArray, List.set_cons_zero, List.set_cons_succ]
              refine wpParts_det (by rfl) (fun W hE hN => ?_) ?_
              · go_simp; refine ⟨Below.refl _ _, ?_⟩; rfl
              simp only [Act.put, List.setIfInBounds_toArray, List.set_cons_zero, List.set_cons_succ]
              refine wpParts_det (by rfl) (fun W hE hN => ?_) ?_
              · go_simp; refine ⟨Below.refl _ _, ?_⟩; rfl
              simp only [Act.put, List.setIfInBounds_toArray, List.set_cons_zero, List.set_cons_succ]
              refine wpParts_end fun Wa hEa hGa => ?_
              have hcWa := fun b o h => hEa.cell (p := ⟨b, o, none⟩) h
              have hfWa := fun b o h => hEa.frozen (p := ⟨b, o, none⟩) h
              have HB5a := Lib.hid (HB58.out.ext hEa)
              have HB6a := Lib.hid (HB68.out.ext hEa)
              have HFNa := Lib.hid (HFN8.out.ext hEa)
              have HFRa := Lib.hid (HFR.out.ext hEa)
              have HBNa := Lib.hid (HBN8.out.ext hEa)
              have HBRa := Lib.hid (HBR.out.ext hEa)
              have BELa := Lib.hid (BEL8.out.trans (hEa.mono BEL8.out.size))
              have qNa := HBNa.out.cells
              have lNa := HBNa.out.lt
              have qRa := HBRa.out.cells
              have lRa := HBRa.out.lt
              clear hEa hGa hcWa hfWa qN lN qR lR
              go_wp2_with fail
              obtain ⟨D, hD⟩ : ∃ D, Wa.drew = D := ⟨_, rfl⟩
              have aD : Below Wa.heap.size Wa D := by rw [← hD]; exact (Below.refl _ Wa).drew
              have HD5 := Lib.hid (HB5a.out.ext aD)
              have HD6 := Lib.hid (HB6a.out.ext aD)
              have HDN := Lib.hid (HBNa.out.ext aD)
              have HDR := Lib.hid (HBRa.out.ext aD)
              have HFD := Lib.hid (HFNa.out.ext aD)
              have HGD := Lib.hid (HFRa.out.ext aD)
              have BELD := Lib.hid (BELa.out.trans (aD.mono BELa.out.size))
              have n1 : w8.heap.size ≠ p5 := by have := HLL.out; omega
              have n3 : p6 ≠ p5 := by have := HP56.out; omega
              have n4 : p6 ≠ w7.heap.size := by have := HLL.out; omega
              clear aD HB5a HB6a HFNa HFRa HBNa HBRa qNa lNa qRa lRa
              refine wp_region_any (by kernel_rfl) ?_
              rw [show ({ Wa with drawn := Wa.drawn + 1 } : World) = D from hD]
              obtain ⟨_, _, _, _, _, _, hb5D, _⟩ := HD5.out
              have HBD5 := Lib.hid hb5D
              clear hb5D
              obtain ⟨D5, hD5⟩ : ∃ D5, (((((D.setCell ⟨p5, 0, none⟩ (.slice na nl nc)).setCell ⟨p5, 1, none⟩ (.slice oa ol oc)).setCell ⟨p5, 2, none⟩ (.int .i64 F1.fuse)).setCell ⟨p5, 3, none⟩ (.int .i64 F1.fault)).setCell ⟨p5, 4, none⟩ (.bool F1.off)) = D5 := ⟨_, rfl⟩
              have o5 : Only p5 D D5 := by rw [← hD5]; exact Only.five _ _ _ _ _ _ _
              have h55 : TryBox D5 p5 [p5, p6] F1 := by rw [← hD5]; exact Try_setBox HBD5.out HFD.out List.mem_cons_self
              have hB6 : Blk D5 p6 _ _ := HD6.out.only o5 n3
              have hBR : Blk D5 w8.heap.size _ _ := HDR.out.only o5 n1
              have hG5 := HGD.out.only o5 List.mem_cons_self
              obtain ⟨U9, hU9⟩ : ∃ U, (((((D5.setCell ⟨p6, 0, none⟩ (.slice ra rl rc)).setCell ⟨p6, 1, none⟩ (.slice sa sl sc)).setCell ⟨p6, 2, none⟩ (.int .i64 (F1.bad m1).fuse)).setCell ⟨p6, 3, none⟩ (.int .i64 (F1.bad m1).fault)).setCell ⟨p6, 4, none⟩ (.bool (F1.bad m1).off)) = U := ⟨_, rfl⟩
              have o6 : Only p6 D5 U9 := by rw [← hU9]; exact Only.five _ _ _ _ _ _ _
              have hx5 : TryBox U9 p5 [p5, p6] F1 := h55.only o6 (List.mem_cons_of_mem _ List.mem_cons_self) n3.symm
              have hx6 : TryBox U9 p6 [p5, p6] (F1.bad m1) := by rw [← hU9]; exact Try_setBox hB6 hG5 (List.mem_cons_of_mem _ List.mem_cons_self)
              have hbel := below_only (below_only BELD.out o5 BELD.out.size HW5.out) o6 (Nat.le_trans BELD.out.size o5.size) (Nat.le_of_lt (Nat.lt_of_le_of_lt HW5.out HP56.out))
              have HREL := Lib.hid (And.intro hx5 (And.intro hx6 hbel))
              have HU9 := Lib.hid hU9
              have HUD := Lib.hid hD5
              have HHB6 := Lib.hid hB6
              have HHBR := Lib.hid hBR
              clear hx5 hx6 hbel o5 o6 hU9 hB6 hBR h55 hG5 hD5
              refine wpAny_all (rs := [0, 1]) (by kernel_rfl) (by simp) fun j hj => ?_
              simp only [List.mem_cons, List.not_mem_nil, or_false] at hj
              rcases hj with rfl | rfl
              · refine wpOp_valD (v := .agg #[.slice na nl nc, .slice oa ol oc, .int .i64 F1.fuse, .int .i64 F1.fault, .bool F1.off]) (w' := D) (some 104) rfl rfl rfl (Try_load5 rfl rfl HDN.out) ?_
                simp only [Act.put, List.setIfInBounds_toArray, List.set_cons_zero, List.set_cons_succ]
                refine wpAny_all (rs := [1, 2]) (by kernel_rfl) (by simp) fun j hj => ?_
                simp only [List.mem_cons, List.not_mem_nil, or_false] at hj
                rcases hj with rfl | rfl
                · refine wpOp_valD (v := .agg #[.slice ra rl rc, .slice sa sl sc, .int .i64 (F1.bad m1).fuse, .int .i64 (F1.bad m1).fault, .bool (F1.bad m1).off]) (w' := D) (some 105) rfl rfl rfl (Try_load5 rfl rfl HDR.out) ?_
                  simp only [Act.put, List.setIfInBounds_toArray, List.set_cons_zero, List.set_cons_succ]
                  refine wpAny_skipsD (i := 2) none (by kernel_rfl) rfl rfl rfl (Try_store5 rfl rfl rfl HBD5.out) ?_
                  rw [HUD.out]
                  simp only [Act.put, List.setIfInBounds_toArray, List.set_cons_zero, List.set_cons_succ]
                  refine wpAny_skipsD (i := 3) none (by kernel_rfl) rfl rfl rfl (Try_store5 rfl rfl rfl HHB6.out) ?_
                  simp only [Act.put, List.setIfInBounds_toArray, List.set_cons_zero, List.set_cons_succ]
                  refine wpAny_done (by kernel_rfl) ?_ _
                  rw [HU9.out]
                  go_wp2_with fail
                  go_roundw
                  case rel => exact ⟨k + 1, m1, F1, by have := HLT.out; omega, by go_num, by go_num, ⟨by have := HM.out; omega, by have := HM.out; omega⟩, HREL.out.1, HREL.out.2.1, HQ1.out, HREL.out.2.2⟩
                  case measure => simp [intOf]; omega
                · refine wpOp_skipD none rfl rfl rfl (Try_store5 rfl rfl rfl HBD5.out) ?_
                  rw [HUD.out]
                  simp only [Act.put, List.setIfInBounds_toArray, List.set_cons_zero, List.set_cons_succ]
                  refine wpAny_runsD (i := 1) (some 105) (by kernel_rfl) rfl rfl rfl (Try_load5 rfl rfl HHBR.out) ?_
                  simp only [Act.put, List.setIfInBounds_toArray, List.set_cons_zero, List.set_cons_succ]
                  refine wpAny_skipsD (i := 3) none (by kernel_rfl) rfl rfl rfl (Try_store5 rfl rfl rfl HHB6.out) ?_
                  simp only [Act.put, List.setIfInBounds_toArray, List.set_cons_zero, List.set_cons_succ]
                  refine wpAny_done (by kernel_rfl) ?_ _
                  rw [HU9.out]
                  go_wp2_with fail
                  go_roundw
                  case rel => exact ⟨k + 1, m1, F1, by have := HLT.out; omega, by go_num, by go_num, ⟨by have := HM.out; omega, by have := HM.out; omega⟩, HREL.out.1, HREL.out.2.1, HQ1.out, HREL.out.2.2⟩
                  case measure => simp [intOf]; omega
              · refine wpOp_valD (v := .agg #[.slice ra rl rc, .slice sa sl sc, .int .i64 (F1.bad m1).fuse, .int .i64 (F1.bad m1).fault, .bool (F1.bad m1).off]) (w' := D) (some 105) rfl rfl rfl (Try_load5 rfl rfl HDR.out) ?_
                simp only [Act.put, List.setIfInBounds_toArray, List.set_cons_zero, List.set_cons_succ]
                refine wpAny_runsD (i := 0) (some 104) (by kernel_rfl) rfl rfl rfl (Try_load5 rfl rfl HDN.out) ?_
                simp only [Act.put, List.setIfInBounds_toArray, List.set_cons_zero, List.set_cons_succ]
                refine wpAny_skipsD (i := 2) none (by kernel_rfl) rfl rfl rfl (Try_store5 rfl rfl rfl HBD5.out) ?_
                rw [HUD.out]
                simp only [Act.put, List.setIfInBounds_toArray, List.set_cons_zero, List.set_cons_succ]
                refine wpAny_skipsD (i := 3) none (by kernel_rfl) rfl rfl rfl (Try_store5 rfl rfl rfl HHB6.out) ?_
                simp only [Act.put, List.setIfInBounds_toArray, List.set_cons_zero, List.set_cons_succ]
                refine wpAny_done (by kernel_rfl) ?_ _
                rw [HU9.out]
                go_wp2_with fail
                go_roundw
                case rel => exact ⟨k + 1, m1, F1, by have := HLT.out; omega, by go_num, by go_num, ⟨by have := HM.out; omega, by have := HM.out; omega⟩, HREL.out.1, HREL.out.2.1, HQ1.out, HREL.out.2.2⟩
                case measure => simp [intOf]; omega
    · have hkl : ¬ ((k : Int) < (n : Int)) := by omega
      clear hlt
      have bel := HBL.out
      go_wp2
      go_ret
      exact ⟨rfl, bel⟩
end Go.Proofs.Ytmjmjjakhmeogaa
