/-
  Layer 10: FileStays, walked: for every deeds it answers true.
-/
import Derived.Test.YtmjmjjakhmeogaaLawFH
namespace Go.Proofs.Ytmjmjjakhmeogaa
set_option linter.unusedVariables false
set_option linter.unusedSimpArgs false
open Go.RowKit Go.Dav
attribute [local go_sem] Gives ite_val ite_val_true

def TryStaysRel (w : World) (p3 n : Nat) (v4 ix : Value) (wr : World) : Prop :=
  ∃ (k : Nat) (F : FileD) (fa la ga : Option Addr) (fl fc ll lc gl gc : Nat), k ≤ n ∧ ix = .int .i64 k ∧ v4 = .slice ga gl gc ∧ Blk wr p3 [.slice fa fl fc, .slice la ll lc, .int .i64 F.fuse, .int .i64 F.fault, .bool F.off] 25 ∧ FileIn wr [p3] fa fl fc la ll lc F ∧
    BytesS wr (Free [p3] wr) ga gl gc F.firm ∧ F.right = true ∧ Below w.heap.size w wr

theorem Try_free_ext {W W' : World} {l : List Nat} {a : Option Addr} {n c : Nat} {x : List UInt8} (h : BytesS W (Free l W) a n c x) (hb : Below W.heap.size W W') : BytesS W' (Free l W') a n c x :=
  (h.ext hb).mono fun b k => ⟨Nat.lt_of_lt_of_le k.1 hb.size, k.2⟩
theorem Try_free_only {W W' : World} {l : List Nat} {p : Nat} {a : Option Addr} {n c : Nat} {x : List UInt8} (h : BytesS W (Free l W) a n c x) (k : Only p W W') (hp : p ∈ l) : BytesS W' (Free l W') a n c x :=
  (h.same k.size fun b hb hlt => k.block b hlt fun e => hb.2 (e ▸ hp)).mono fun b hb => ⟨Nat.lt_of_lt_of_le hb.1 k.size, hb.2⟩

set_option maxRecDepth 8000 in
set_option maxHeartbeats 16000000 in
theorem Try_FileStays (da : Option Addr) (dl dc : Nat) (D : List DeedV) (w : World) (hD : DeedsAt w da D) (hDl : D.length = dl) (hdc : dl ≤ dc) (hdl : dl ≤ 140737488355328) (hdn : da = none → dc = 0) :
    Calls Try.prog 7 #[.slice da dl dc] w fun e w' => e = .returned (.bool true) ∧ Below w.heap.size w w' := by
  have HD := Lib.hid hD
  have HDL := Lib.hid hDl
  clear hD hDl
  go_enter Try.func7, Try.ntmps7
  go_wp2_with fail
  refine (Try_wakes10 w).mono ?_; rintro e w1 ⟨rfl, hb1⟩
  have s1 := hb1.size
  go_wp2_with fail
  refine (Try_New w1).mono ?_; rintro e w2 ⟨rfl, hb2⟩
  have s2 := hb2.size
  have bel2 : Below w.heap.size w w2 := (by repeat (first | (with_reducible exact Below.refl _ _) | (with_reducible exact Below.refl _ _) | (with_reducible refine Below.setCell ?_ (by first | omega | (simp; done) | (simp; omega)) _) | (with_reducible refine Below.alloc ?_ (by first | omega | (simp; done) | (simp; omega)) _) | (with_reducible refine Below.drew ?_) | (with_reducible refine below_drewN ?_ _) | (with_reducible refine Below.trans ?_ (hb2.mono (by first | omega | (simp; done) | (simp; omega)))) | (with_reducible refine Below.trans ?_ (hb1.mono (by first | omega | (simp; done) | (simp; omega))))))
  have BEL2 := Lib.hid bel2
  have HB2 := Lib.hid (Blk.new w2 [.slice none 0 0, .slice none 0 0, .int .i64 (-1), .int .i64 (-1), .bool false] 25)
  clear hb1 hb2 bel2
  go_wp2_with fail
  refine (Try_few da dl dc _ hdc hdl).mono ?_; rintro e w6 ⟨rfl, hb⟩
  have s6 := hb.size
  simp only [World.size_alloc] at s6
  have hB6 := Lib.hid (HB2.out.ext hb)
  have bel6 : Below w.heap.size w w6 := (by repeat (first | (with_reducible exact Below.refl _ _) | (with_reducible exact Below.refl _ _) | (with_reducible refine Below.setCell ?_ (by first | omega | (simp; done) | (simp; omega)) _) | (with_reducible refine Below.alloc ?_ (by first | omega | (simp; done) | (simp; omega)) _) | (with_reducible refine Below.drew ?_) | (with_reducible refine below_drewN ?_ _) | (with_reducible refine Below.trans ?_ (hb.mono (by first | omega | (simp; done) | (simp; omega)))) | (with_reducible refine Below.trans ?_ (BEL2.out.mono (by first | omega | (simp; done) | (simp; omega))))))
  have BEL6 := Lib.hid bel6
  have hp3 : w.heap.size ≤ w2.heap.size := by omega
  obtain ⟨p3, hpe⟩ : ∃ p3, w2.heap.size = p3 := ⟨_, rfl⟩
  obtain ⟨n, hn⟩ : ∃ n, min dl 40 = n := ⟨_, rfl⟩
  have hn1 : n ≤ dl := by omega
  have hn2 : (n : Int) ≤ 40 := by omega
  have HN := Lib.hid hn
  have HPE := Lib.hid hpe
  rw [hn]
  rw [hpe] at hp3 hB6
  clear hb bel6 HB2 BEL2 s1 s2 s6 hn hpe
  go_wp2_with fail
  rw [HPE.out]
  go_loopw [4, 15] (fun v4 ix wr => TryStaysRel w p3 n v4 ix wr) (fun _ ix _ => n - (intOf ix).toNat)
  case atStart => exact ⟨0, FileD.none, none, none, none, 0, 0, 0, 0, 0, 0, Nat.zero_le _, rfl, rfl, hB6.out, FileIn.none_ _ _, BytesS.nil_, rfl, BEL6.out⟩
  case round =>
    obtain ⟨k, F, fa, la, ga, fl, fc, ll, lc, gl, gc, hk, rfl, rfl, hb3, hf, hg, hr, hbl⟩ := hrel
    have q3 := hb3.cells
    have l3 := hb3.lt
    have HB3 := Lib.hid hb3
    have HF := Lib.hid hf
    have HG := Lib.hid hg
    have HR := Lib.hid hr
    have HBL := Lib.hid hbl
    clear hb3 hf hg hr hbl
    by_cases hlt : k < n
    · obtain ⟨d, hd⟩ : ∃ d, D[k]? = some d := ⟨_, List.getElem?_eq_getElem (by have := HDL.out; omega)⟩
      obtain ⟨b, o, rfl, hb, hcs, hX⟩ := HD.out k d hd
      have hd0 := hcs 0 _ rfl
      have hd1 := hcs 1 _ rfl
      have hd2 := hcs 2 _ rfl
      have hd3 := hcs 3 _ rfl
      have hd4 := hcs 4 _ rfl
      rw [Nat.add_zero] at hd0
      have hcw := fun j => HBL.out.cell (p := ⟨b, o + k * 5 + j, none⟩) hb
      have hc0 := (HBL.out.cell (p := ⟨b, o + k * 5, none⟩) hb).trans hd0
      have hc1 := (hcw 1).trans hd1
      have hc2 := (hcw 2).trans hd2
      have hc3 := (hcw 3).trans hd3
      have hc4 := (hcw 4).trans hd4
      have HX := Lib.hid (hX.ext HBL.out)
      have hkl : (k : Int) < (n : Int) := by omega
      have HLT := Lib.hid hlt
      clear hd hcs hX hd0 hd1 hd2 hd3 hd4 hcw hlt hk hb
      go_wp2_with fail
      obtain ⟨F1, e1, hV⟩ : ∃ F1 e1, F.does d.X = (F1, e1) := ⟨_, _, rfl⟩
      have HV := Lib.hid hV
      have a1 := (Below.refl _ wr).alloc (Nat.le_refl _) (.cells [.int .i64 d.X.kind, .int .i64 d.X.n, .int .i64 d.X.tear, .slice d.ba d.bl d.bc, .slice d.ka d.kl d.kc].toArray 34)
      have b9 := Blk.new wr [.int .i64 d.X.kind, .int .i64 d.X.n, .int .i64 d.X.tear, .slice d.ba d.bl d.bc, .slice d.ka d.kl d.kc] 34
      have hA := Try_does F d.X fa la d.ba d.ka fl fc ll lc d.bl d.bc d.kl d.kc _ (Free [p3] _) (HF.out.alloc' (.cells [.int .i64 d.X.kind, .int .i64 d.X.n, .int .i64 d.X.tear, .slice d.ba d.bl d.bc, .slice d.ka d.kl d.kc].toArray 34)) (HX.out.ext a1) (fun b h => h.1)
      rw [hV] at hA
      with_reducible refine hA.mono ?_
      rintro e w7 ⟨na, nl, nc, oa, ol, oc, rfl, hR, hb⟩
      have s7 := hb.size
      simp only [World.size_alloc] at s7
      have bb := a1.trans (hb.mono (by simp))
      have a2 := (Below.refl _ w7).alloc (Nat.le_refl _) (.cells [.slice na nl nc, .slice oa ol oc, .int .i64 F1.fuse, .int .i64 F1.fault, .bool F1.off].toArray 25)
      have bb2 := bb.trans (a2.mono (by omega))
      have HFN := Lib.hid (FileIn.of_or (l := [p3]) hR (by simp; omega))
      have HG7 := Lib.hid (Try_free_ext HG.out bb)
      have HB37 := Lib.hid (HB3.out.ext bb)
      have BEL70 := Lib.hid (HBL.out.trans (bb.mono (by have := HBL.out.size; omega)))
      have HX7 := Lib.hid (HX.out.ext bb2)
      have q37 := (HB3.out.ext bb).cells
      have m37 := (HB3.out.ext bb).marks
      have l37 := (HB3.out.ext bb).lt
      have q9 := (b9.ext hb).cells
      have HB9 := Lib.hid ((b9.ext hb).ext a2)
      have l9 := (b9.ext hb).lt
      have BEL7 := Lib.hid (HBL.out.trans (bb2.mono (by have := HBL.out.size; omega)))
      have herr := FileD.does_err HR.out d.X
      rw [hV] at herr
      have hri := FileD.does_right HR.out d.X
      rw [hV] at hri
      obtain ⟨t, ht⟩ := FileD.does_firm F d.X
      rw [hV] at ht
      have HRI := Lib.hid hri
      have HT := Lib.hid ht
      clear hA hV hR hb bb a1 b9 a2 bb2 HG HF HB3 HX HBL q3 hri ht
      by_cases z2 : e1 = 2
      · subst z2
        obtain ⟨hw3, hnil⟩ := herr.2 rfl
        have hbl0 : d.bl = 0 := by rw [← HX7.out.bytes.hlen, hnil]; rfl
        have HK := Lib.hid HX7.out.kind
        have hw3' : (d.X.which : Int) < 3 := by omega
        have HBL0 := Lib.hid hbl0
        clear herr hnil hw3 hbl0
        go_wp2_with fail
        refine (Try_which d.X d.ba d.ka d.bl d.bc d.kl d.kc _ HK.out).mono ?_; rintro e w8 ⟨rfl, hb⟩
        have q98 := (HB9.out.ext hb).cells
        have l98 := (HB9.out.ext hb).lt
        have bel8 := BEL7.out.trans (hb.mono (by have := BEL7.out.size; omega))
        rw [HBL0.out] at q98
        clear hb q9 l9 q37 m37 l37
        go_wp2
        go_ret
        exact ⟨rfl, bel8⟩
      · have z3 : e1 ≠ 200 := herr.1
        have z2' : (e1 == 2) = false := by simp [z2]
        have z3' : (e1 == 200) = false := by simp [z3]
        clear herr
        go_wp2_with fail
        have o1 := Only.five w7 p3 (.slice na nl nc) (.slice oa ol oc) (.int .i64 F1.fuse) (.int .i64 F1.fault) (.bool F1.off)
        have hbV := (HB37.out.five (.slice na nl nc) (.slice oa ol oc) (.int .i64 F1.fuse) (.int .i64 F1.fault) (.bool F1.off)).alloc (.cells [.slice na nl nc, .slice oa ol oc, .int .i64 F1.fuse, .int .i64 F1.fault, .bool F1.off].toArray 25)
        have hfV := (HFN.out.only o1 (by simp)).alloc' (.cells [.slice na nl nc, .slice oa ol oc, .int .i64 F1.fuse, .int .i64 F1.fault, .bool F1.off].toArray 25)
        have hgV := Try_free_ext (Try_free_only HG7.out o1 (by simp)) ((Below.refl _ _).alloc (Nat.le_refl _) (.cells [.slice na nl nc, .slice oa ol oc, .int .i64 F1.fuse, .int .i64 F1.fault, .bool F1.off].toArray 25))
        have belV := (below_only BEL70.out o1 (by have := BEL70.out.size; omega) hp3).alloc (by have := BEL70.out.size; simp; omega) (.cells [.slice na nl nc, .slice oa ol oc, .int .i64 F1.fuse, .int .i64 F1.fault, .bool F1.off].toArray 25)
        obtain ⟨V, hV⟩ : ∃ V, (((((w7.setCell ⟨p3, 0, none⟩ (.slice na nl nc)).setCell ⟨p3, 1, none⟩ (.slice oa ol oc)).setCell ⟨p3, 2, none⟩ (.int .i64 F1.fuse)).setCell ⟨p3, 3, none⟩ (.int .i64 F1.fault)).setCell ⟨p3, 4, none⟩ (.bool F1.off)).alloc (.cells [.slice na nl nc, .slice oa ol oc, .int .i64 F1.fuse, .int .i64 F1.fault, .bool F1.off].toArray 25) = V := ⟨_, rfl⟩
        rw [hV] at hbV hfV hgV belV ⊢
        have hA := Try_HasPrefix na ga nl nc gl gc F.firm t V (by rw [← HT.out]; exact hfV.firm.at_) hgV.at_
        with_reducible refine hA.mono ?_
        rintro e w9 ⟨rfl, hb⟩
        have HB9' := Lib.hid (hbV.ext hb)
        have HF9 := Lib.hid (hfV.ext hb)
        have BEL9 := Lib.hid (belV.trans (hb.mono (by have := belV.size; omega)))
        have q39 := (hbV.ext hb).cells
        have l39 := (hbV.ext hb).lt
        clear hA hb o1 hbV hfV hgV belV hV HG7 HB37 HFN HX7 q37 m37 l37 q9 l9 HB9 BEL7 BEL70
        go_wp2_with fail
        have hA := Try_Check F1 na oa nl nc ol oc w9 HF9.out.at_
        rw [FileD.err_right HRI.out] at hA
        with_reducible refine hA.mono ?_
        rintro e wa ⟨rfl, hb⟩
        have HBa := Lib.hid (HB9'.out.ext hb)
        have HFa := Lib.hid (HF9.out.ext hb)
        have BELa := Lib.hid (BEL9.out.trans (hb.mono (by have := BEL9.out.size; omega)))
        have q3a := HBa.out.cells
        have l3a := HBa.out.lt
        clear hA hb HB9' HF9 BEL9 q39 l39
        go_wp2_with fail
        go_roundw
        case rel => exact ⟨k + 1, F1, na, oa, na, nl, nc, ol, oc, nl, nc, by have := HLT.out; omega, by go_num, rfl, HBa.out, HFa.out, HFa.out.firm, HRI.out, BELa.out⟩
        case measure => simp [intOf]; omega
    · have hkl : ¬ ((k : Int) < (n : Int)) := by omega
      clear hlt
      have bel := HBL.out
      go_wp2
      go_ret
      exact ⟨rfl, bel⟩
end Go.Proofs.Ytmjmjjakhmeogaa
