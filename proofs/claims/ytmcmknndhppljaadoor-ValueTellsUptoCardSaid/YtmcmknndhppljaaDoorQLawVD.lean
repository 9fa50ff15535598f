/-
  The law ValueTells, walked.
-/
import Derived.Test.YtmcmknndhppljaaDoorQTldA
import Derived.Deep.DeepCutAuto
namespace Go.Dav
set_option linter.unusedVariables false
set_option linter.unusedSimpArgs false
open Go Go.RowKit
theorem strs_of_cells {W : World} {S : Nat → Prop} {a : Option Addr} {n c : Nat} {l : List ByteArray} (h : CellsS W S a n (strsV l)) (hc : n ≤ c) (hm : c ≤ maxLen) (hf : n ≤ 140737488355328) (hn : a = none → c = 0) (hs : ∀ s ∈ l, s.size ≤ 17592186044416) : StrsAt W a n c l :=
  ⟨by have := h.len; rwa [strsV_len] at this, hc, hm, hf, fun k s hk => by
    obtain ⟨b, o, g1, g2, _, g3⟩ := h.at_ k (.string s) (by unfold strsV; rw [List.getElem?_map, hk]; rfl)
    exact ⟨b, o, g1, g2, g3⟩, hn, hs⟩
end Go.Dav
namespace Go.Proofs.YtmcmknndhppljaaDoor
set_option linter.unusedVariables false
set_option linter.unusedSimpArgs false
open Go.RowKit Go.Dav
attribute [local go_sem] Gives ite_val ite_val_true

set_option maxRecDepth 8000 in
set_option maxHeartbeats 16000000 in
theorem Tryd_ValueTells (d : Nat) (x : ValN d) (v : Value) (pa : Option Addr) (pn pc : Nat) (l : List ByteArray) (i : Int) (w : World) (hv : ValAt w d v x) (hp : StrsAt w pa pn pc l) (hpn : pn ≤ 1048576) (hN : GlobAt w 0 [.int .i64 0, .int .i64 0] 143) :
    Calls Tryd.prog 6 #[v, .slice pa pn pc, .int .i64 i] w fun e' w' => e' = .returned (.bool true) ∧ Below w.heap.size w w' := by
  obtain ⟨d, rfl⟩ := hv.pos
  obtain ⟨ka, kl, kc, qa, ql, qc, h⟩ := hv
  obtain ⟨kind, n, s, kids, keys⟩ := x
  obtain ⟨rfl⟩ : v = .agg #[.int .i64 kind, .int .i64 n, .string s, .slice ka kl kc, .slice qa ql qc] := h.val
  have hv : ValAt w (d + 1) (.agg #[.int .i64 kind, .int .i64 n, .string s, .slice ka kl kc, .slice qa ql qc]) (⟨kind, n, s, kids, keys⟩ : ValF (ValN d)) := ⟨ka, kl, kc, qa, ql, qc, h⟩
  have hg : ∀ W, Below w.heap.size w W → GlobAt W 0 [.int .i64 0, .int .i64 0] 143 := fun W hb => hN.ext hb
  obtain ⟨X, hX⟩ : ∃ X : ValN (d + 1), (⟨kind, n, s, kids, keys⟩ : ValF (ValN d)) = X := ⟨_, rfl⟩
  have hXk : X.to.kids = kids := by rw [← hX]; rfl
  have hXi : X.to.kind = kind := by rw [← hX]; rfl
  replace hv : ValAt w (d + 1) (.agg #[.int .i64 kind, .int .i64 n, .string s, .slice ka kl kc, .slice qa ql qc]) X := hX ▸ hv
  obtain ⟨r, hr⟩ : ∃ r, rightV (d + 1) X = r := ⟨_, rfl⟩
  obtain ⟨pm, hpm⟩ : ∃ pm, min pn 10 = pm := ⟨_, rfl⟩
  have hL := hp.take (m := pm) (by omega)
  obtain ⟨L, hLe⟩ : ∃ L, l.take pm = L := ⟨_, rfl⟩
  rw [hLe] at hL
  have e1 : min (pn : Int) 10 = (pm : Int) := by omega
  have p1 : (pm : Int) ≤ 10 := by omega
  have p1' : pm ≤ 10 := by omega
  have p3 : pm ≤ pc := by have := hp.hcap; omega
  have HL := Lib.hid hL
  have hLl : L.length = pm := hL.hlen
  have HLl := Lib.hid hLl
  have HSZ := Lib.hid (show ∀ s ∈ L, s.size ≤ 17592186044416 from hL.hsz)
  have b0 : Below w.heap.size w (w.alloc (.cells #[.int .i64 kind, .int .i64 n, .string s, .slice ka kl kc, .slice qa ql qc] 39)) := (by repeat (first | (with_reducible exact Below.refl _ _) | (with_reducible exact Below.refl _ _) | (with_reducible refine Below.setCell ?_ (by first | omega | (simp; done) | (simp; omega)) _) | (with_reducible refine Below.alloc ?_ (by first | omega | (simp; done) | (simp; omega)) _) | (with_reducible refine Below.drew ?_) | (with_reducible refine below_drewN ?_ _)))
  obtain ⟨key, hkey⟩ : ∃ key, (L[0]?).getD kA = key := ⟨_, rfl⟩
  have HKEY := Lib.hid hkey
  obtain ⟨g1, hg1⟩ : ∃ g1, getV d X key = g1 := ⟨_, rfl⟩
  obtain ⟨g2, hg2⟩ : ∃ g2, kidV d X 5 i = g2 := ⟨_, rfl⟩
  obtain ⟨g3, hg3⟩ : ∃ g3, pathR (d + 1) X L = g3 := ⟨_, rfl⟩
  obtain ⟨g4, hg4⟩ : ∃ g4, lenV d X = g4 := ⟨_, rfl⟩
  have HGT := Lib.hid (fun W (hb : Below w.heap.size w W) => by have q := Tryd_Get d X _ key w W hv hb (hg W hb); rw [hg1] at q; exact q)
  have HAT := Lib.hid (fun W (hb : Below w.heap.size w W) => by have q := Tryd_At d X _ i w W hv hb (hg W hb); rw [hg2] at q; exact q)
  have HPT := Lib.hid (fun W sa sc (hb : Below w.heap.size w W) (hs : StrsAt W sa pm sc L) => by have q := Tryd_Path d X _ sa pm sc L w W hv hb hs (hg W hb); rw [hg3] at q; exact q)
  have HLN := Lib.hid (fun W (hb : Below w.heap.size w W) => by have q := Tryd_Len d X _ W (ValAt.ext hb _ hv) (hg W hb); rw [hg4] at q; exact q)
  have HRG := Lib.hid (fun W (hb : Below w.heap.size w W) (h : r = true) => by have q := Tryd_rGet d X _ key w W hv hb (hr.trans h); rw [hg1] at q; exact q)
  have HRP := Lib.hid (fun W sa sc (hb : Below w.heap.size w W) (hs : StrsAt W sa pm sc L) (h : r = true) => by have q := Tryd_rPath L (d + 1) X _ sa pm sc w W hv (hr.trans h) hb hs; rw [show pathV (d + 1) X L = g3 from by rw [← hg3]; unfold pathR; rw [if_pos (hr.trans h)]] at q; exact q)
  have HRL := Lib.hid (fun W (hb : Below w.heap.size w W) (h : r = true) => by have q := Tryd_rLen d X _ W (ValAt.ext hb _ hv) (hr.trans h); rw [hg4] at q; exact q)
  have HG1 := Lib.hid hg1
  have HG2 := Lib.hid hg2
  have HG3 := Lib.hid hg3
  have HG4 := Lib.hid hg4
  have HW := Lib.hid (Tryd_wakes04 _ (hg _ b0))
  have B0 := Lib.hid b0
  have X0 := Lib.hid (Blk.new w [.int .i64 kind, .int .i64 n, .string s, .slice ka kl kc, .slice qa ql qc] 39)
  have HV := Lib.hid hv
  have HG := Lib.hid hg
  have HR := Lib.hid hr
  have HK := Lib.hid h.kidsAt
  have HLEN := Lib.hid (show kids.length = kl from h.hlen)
  have HXK := Lib.hid hXk
  have HXI := Lib.hid hXi
  clear hr hg hv hN b0 hkey hg1 hg2 hg3 hg4 hp hL hLe hpm hLl hX hXk hXi h
  go_enter Tryd.func6, Tryd.ntmps6
  go_wp2_with fail
  refine HW.out.mono ?_; rintro e' w1 ⟨rfl, hb1⟩
  have B1 := Lib.hid (B0.out.trans (hb1.mono B0.out.size))
  have X1 := Lib.hid (X0.out.ext hb1)
  have q1 := X1.out.cells
  have lt1 := X1.out.lt
  have HL1 := Lib.hid ((HL.out.ext (B0.out.trans (hb1.mono B0.out.size))).ext (show Below w1.heap.size w1 (w1.alloc (.cells #[] 9)) from (by repeat (first | (with_reducible exact Below.refl _ _) | (with_reducible exact Below.refl _ _) | (with_reducible refine Below.setCell ?_ (by first | omega | (simp; done) | (simp; omega)) _) | (with_reducible refine Below.alloc ?_ (by first | omega | (simp; done) | (simp; omega)) _) | (with_reducible refine Below.drew ?_) | (with_reducible refine below_drewN ?_ _)))))
  clear hb1 HW X0 B0 HL
  go_wp2_with (at_builtin; refine wpList_append_fullS rfl (.tmp 19) (.tmp 24) 37 rfl Tryd_elemStr (fun _ => False) (some ⟨w1.heap.size, 0, none⟩) 0 [] rfl ⟨rfl, fun k v h => by simp at h⟩ (fun b => b < (w1.alloc (.cells #[] 9)).heap.size) pa pm pc (strsV L) (by first | rfl | (rw [← e1]; rfl)) HL1.out.cells (strsV_one _) (fun h => by cases h) (by unfold maxLen; omega) (by omega) ?_; intro sa sc w2 hcs h1 h2 h3 hb2; have B2 := Lib.hid ((B1.out.alloc B1.out.size _).trans (hb2.mono (by have := B1.out.size; simp; omega))); have X2 := Lib.hid ((X1.out.alloc (.cells #[] 9)).ext hb2); have q2 := X2.out.cells; have lt2 := X2.out.lt; have HS2 := Lib.hid (strs_of_cells (l := L) (by rw [List.nil_append, Nat.zero_add] at hcs; exact hcs) (by omega) h2 (by omega) h3 HSZ.out); clear HL1 hcs h1 h2 h3 hb2)
  refine (Tryd_rRight (d + 1) X _ _ (ValAt.ext B2.out _ HV.out)).mono ?_; rw [HR.out]; rintro e' w3 ⟨rfl, hb3⟩
  have B3 := Lib.hid (B2.out.trans (hb3.mono B2.out.size))
  have X3 := Lib.hid (X2.out.ext hb3)
  have HS3 := Lib.hid (HS2.out.ext hb3)
  have q3 := X3.out.cells
  have lt3 := X3.out.lt
  clear hb3 X2 B2 HS2 q2 lt2
  go_upto_if 30 with fail
  go_cut [8] (fun s8 wc => s8 = .string key ∧ w3 = wc)
  case first =>
    by_cases h0 : 0 < pm
    · obtain ⟨k0, hk0⟩ : ∃ k0, L[0]? = some k0 := ⟨_, List.getElem?_eq_getElem (by rw [HLl.out]; omega)⟩
      obtain ⟨b, o, rfl, hb, hcell⟩ := HS3.out.hat 0 k0 hk0
      rw [Nat.add_zero] at hcell
      have hkk : key = k0 := by rw [← HKEY.out, hk0]; rfl
      subst hkk
      have h0' : (0 : Int) < (pm : Int) := by omega
      have d0 : decide (0 < pm) = true := decide_eq_true h0
      have d0' : decide ((0 : Int) < (pm : Int)) = true := decide_eq_true h0'
      clear hk0
      go_wp2_with fail
      go_meet
      case rel => exact ⟨rfl, rfl⟩
    · have hp0 : pm = 0 := by omega
      subst hp0
      have HKK := Lib.hid (show key = kA from by rw [← HKEY.out, show L = [] from List.length_eq_zero_iff.1 HLl.out]; rfl)
      go_wp2_with fail
      go_meet
      case rel => exact ⟨by rw [HKK.out]; rfl, rfl⟩
  case rest =>
    obtain ⟨rfl, rfl⟩ := hcut
    cases r with
    | false =>
      have hn1 : g1 = none := by rw [← HG1.out]; unfold getV; rw [if_neg (fun hh => by rw [HR.out] at hh; cases hh.2.1)]
      have hn2 : g2 = none := by rw [← HG2.out]; unfold kidV; rw [if_neg (fun hh => by rw [HR.out] at hh; cases hh.2.2)]
      have hn3 : g3 = none := by rw [← HG3.out]; unfold pathR; rw [if_neg (by rw [HR.out]; decide)]
      have hn4 : g4 = (0, false) := by rw [← HG4.out]; unfold lenV; rw [if_neg (by rw [HR.out]; decide)]
      subst hn1
      subst hn2
      subst hn3
      subst hn4
      have HTD := Lib.hid (fun W => show Calls Tryd.prog 25 #[.agg #[.int .i64 0, .int .i64 0, .string ⟨#[]⟩, .slice none 0 0, .slice none 0 0], .bool false, .agg #[.int .i64 0, .int .i64 0, .string ⟨#[]⟩, .slice none 0 0, .slice none 0 0], .bool false] W (fun e w' => e = .returned (.bool true) ∧ Below W.heap.size W w') from Tryd_told none false rfl (.agg zeroL.toArray) 0 0 ⟨#[]⟩ none none 0 0 0 0 W W rfl (fun z h => by cases h) (fun z h => by cases h) (Below.refl _ _))
      have C4 := Lib.hid (show Below w3.heap.size w3 (w3.alloc (.cells #[.int .i64 0, .int .i64 0, .string ⟨#[]⟩, .slice none 0 0, .slice none 0 0] 39)) from (by repeat (first | (with_reducible exact Below.refl _ _) | (with_reducible exact Below.refl _ _) | (with_reducible refine Below.setCell ?_ (by first | omega | (simp; done) | (simp; omega)) _) | (with_reducible refine Below.alloc ?_ (by first | omega | (simp; done) | (simp; omega)) _) | (with_reducible refine Below.drew ?_) | (with_reducible refine below_drewN ?_ _))))
      have X4 := Lib.hid (X3.out.alloc (.cells #[.int .i64 0, .int .i64 0, .string ⟨#[]⟩, .slice none 0 0, .slice none 0 0] 39))
      have P4 := Lib.hid (Blk.new w3 [.int .i64 0, .int .i64 0, .string ⟨#[]⟩, .slice none 0 0, .slice none 0 0] 39)
      go_wp2_with fail
      refine (HGT.out _ (B3.out.trans (C4.out.mono B3.out.size))).mono ?_; rintro e' w5 ⟨⟨u, rfl, hu⟩, hb5⟩
      obtain rfl := (show u = .tuple #[.agg zeroL.toArray, .bool false] from hu)
      simp only [zeroL]
      have C5 := Lib.hid (C4.out.trans (hb5.mono C4.out.size))
      have X5 := Lib.hid (X4.out.ext hb5)
      have P5 := Lib.hid (P4.out.ext hb5)
      have q5 := P5.out.cells
      have l5 := P5.out.lt
      have x5 := X5.out.cells
      have y5 := X5.out.lt
      obtain ⟨p11, hp11⟩ : ∃ p11, w5.heap.size = p11 := ⟨_, rfl⟩
      have HP35 := Lib.hid (show w3.heap.size < p11 from by rw [← hp11]; exact P5.out.lt)
      have HP11 := Lib.hid hp11
      clear hb5 hu X4 P4 C4 q3 lt3 hp11
      go_wp2_with fail
      refine (HTD.out _).mono ?_; rintro e' w6 ⟨rfl, hb6⟩
      have c5 : Below w3.heap.size w3 (w5.alloc (.cells #[.int .i64 0, .int .i64 0, .string ⟨#[]⟩, .slice none 0 0, .slice none 0 0] 39)) := by have h := C5.out; have s := h.size; exact (by repeat (first | (with_reducible exact Below.refl _ _) | (with_reducible exact Below.refl _ _) | (with_reducible refine Below.setCell ?_ (by first | omega | (simp; done) | (simp; omega)) _) | (with_reducible refine Below.alloc ?_ (by first | omega | (simp; done) | (simp; omega)) _) | (with_reducible refine Below.drew ?_) | (with_reducible refine below_drewN ?_ _) | (with_reducible refine Below.trans ?_ (h.mono (by first | omega | (simp; done) | (simp; omega))))))
      have C6 := Lib.hid (c5.trans (hb6.mono c5.size))
      have X6 := Lib.hid ((X5.out.alloc (.cells #[.int .i64 0, .int .i64 0, .string ⟨#[]⟩, .slice none 0 0, .slice none 0 0] 39)).ext hb6)
      have P6 := Lib.hid ((P5.out.alloc (.cells #[.int .i64 0, .int .i64 0, .string ⟨#[]⟩, .slice none 0 0, .slice none 0 0] 39)).ext hb6)
      have Q6 := Lib.hid ((Blk.new w5 [.int .i64 0, .int .i64 0, .string ⟨#[]⟩, .slice none 0 0, .slice none 0 0] 39).ext hb6)
      rw [HP11.out] at Q6 ⊢
      have x6 := X6.out.cells
      have y6 := X6.out.lt
      clear hb6 c5 X5 P5 C5 q5 l5 x5 y5
      go_wp2_with fail
      refine (HAT.out _ (B3.out.trans (C6.out.mono B3.out.size))).mono ?_; rintro e' w7 ⟨⟨u, rfl, hu⟩, hb7⟩
      obtain rfl := (show u = .tuple #[.agg zeroL.toArray, .bool false] from hu)
      simp only [zeroL]
      have hne1 : w.heap.size ≠ p11 := by have := X3.out.lt; have := HP35.out; omega
      have hne2 : p11 ≠ w.heap.size := Ne.symm hne1
      have hne3 : p11 ≠ w3.heap.size := by have := HP35.out; omega
      have hne4 : w3.heap.size ≠ p11 := Ne.symm hne3
      have C7 := Lib.hid (C6.out.trans (hb7.mono C6.out.size))
      have X7 := Lib.hid (X6.out.ext hb7)
      have P7 := Lib.hid (P6.out.ext hb7)
      have Q7 := Lib.hid (Q6.out.ext hb7)
      have x7 := X7.out.cells
      have y7 := X7.out.lt
      have q7 := Q7.out.cells
      have l7 := Q7.out.lt
      have m7 := Q7.out.marks
      have r7 := P7.out.cells
      have s7 := P7.out.lt
      clear hb7 hu X6 P6 Q6 C6 x6 y6
      go_wp2_with fail
      obtain ⟨W8, hW⟩ : ∃ W8, ((((w7.setCell ⟨p11, 0, none⟩ (.int .i64 0)).setCell ⟨p11, 1, none⟩ (.int .i64 0)).setCell ⟨p11, 2, none⟩ (.string ⟨#[]⟩)).setCell ⟨p11, 3, none⟩ (.slice none 0 0)).setCell ⟨p11, 4, none⟩ (.slice none 0 0) = W8 := ⟨_, rfl⟩
      have C8 := Lib.hid (show Below w3.heap.size w3 W8 from by rw [← hW]; exact below_only C7.out (Only.fiveV _ _ _ _ _ _ _) C7.out.size (by have := HP35.out; omega))
      have X8 := Lib.hid (X7.out.fiveS2 (p := p11) (hne1) (.int .i64 0) (.int .i64 0) (.string ⟨#[]⟩) (.slice none 0 0) (.slice none 0 0))
      rw [hW] at X8
      have P8 := Lib.hid (show Blk W8 w3.heap.size [.int .i64 0, .int .i64 0, .string ⟨#[]⟩, .slice none 0 0, .slice none 0 0] 39 from by rw [← hW]; exact P7.out.fiveS2 hne4 _ _ _ _ _)
      have Q8 := Lib.hid (show Blk W8 p11 [.int .i64 0, .int .i64 0, .string ⟨#[]⟩, .slice none 0 0, .slice none 0 0] 39 from by rw [← hW]; exact Q7.out.fiveV _ _ _ _ _)
      try rw [hW]
      clear hW C7 X7 P7 Q7 x7 y7 q7 l7 m7 r7 s7 hne1 hne2 hne3 hne4
      refine (HTD.out _).mono ?_; rintro e' w9 ⟨rfl, hb9⟩
      have C9 := Lib.hid (C8.out.trans (hb9.mono C8.out.size))
      have X9 := Lib.hid (X8.out.ext hb9)
      have P9 := Lib.hid (P8.out.ext hb9)
      have Q9 := Lib.hid (Q8.out.ext hb9)
      have x9 := X9.out.cells
      have y9 := X9.out.lt
      clear hb9 C8 X8 P8 Q8
      go_wp2_with fail
      refine (HPT.out _ _ _ (B3.out.trans (C9.out.mono B3.out.size)) (HS3.out.ext C9.out)).mono ?_; rintro e' w10 ⟨⟨u, rfl, hu⟩, hb10⟩
      obtain rfl := (show u = .tuple #[.agg zeroL.toArray, .bool false] from hu)
      simp only [zeroL]
      have hne1 : w.heap.size ≠ p11 := by have := X3.out.lt; have := HP35.out; omega
      have hne2 : p11 ≠ w.heap.size := Ne.symm hne1
      have hne3 : p11 ≠ w3.heap.size := by have := HP35.out; omega
      have hne4 : w3.heap.size ≠ p11 := Ne.symm hne3
      have C10 := Lib.hid (C9.out.trans (hb10.mono C9.out.size))
      have X10 := Lib.hid (X9.out.ext hb10)
      have P10 := Lib.hid (P9.out.ext hb10)
      have Q10 := Lib.hid (Q9.out.ext hb10)
      have x7 := X10.out.cells
      have y7 := X10.out.lt
      have q7 := Q10.out.cells
      have l7 := Q10.out.lt
      have m7 := Q10.out.marks
      have r7 := P10.out.cells
      have s7 := P10.out.lt
      clear hb10 hu X9 P9 Q9 C9 x9 y9
      go_wp2_with fail
      obtain ⟨W11, hW⟩ : ∃ W11, ((((w10.setCell ⟨p11, 0, none⟩ (.int .i64 0)).setCell ⟨p11, 1, none⟩ (.int .i64 0)).setCell ⟨p11, 2, none⟩ (.string ⟨#[]⟩)).setCell ⟨p11, 3, none⟩ (.slice none 0 0)).setCell ⟨p11, 4, none⟩ (.slice none 0 0) = W11 := ⟨_, rfl⟩
      have C11 := Lib.hid (show Below w3.heap.size w3 W11 from by rw [← hW]; exact below_only C10.out (Only.fiveV _ _ _ _ _ _ _) C10.out.size (by have := HP35.out; omega))
      have X11 := Lib.hid (X10.out.fiveS2 (p := p11) (hne1) (.int .i64 0) (.int .i64 0) (.string ⟨#[]⟩) (.slice none 0 0) (.slice none 0 0))
      rw [hW] at X11
      try rw [hW]
      clear hW C10 X10 P10 Q10 x7 y7 q7 l7 m7 r7 s7 hne1 hne2 hne3 hne4
      refine (HTD.out _).mono ?_; rintro e' w12 ⟨rfl, hb12⟩
      have C12 := Lib.hid (C11.out.trans (hb12.mono C11.out.size))
      have X12 := Lib.hid (X11.out.ext hb12)
      have x9 := X12.out.cells
      have y9 := X12.out.lt
      clear hb12 C11 X11
      go_wp2_with fail
      refine (HLN.out _ (B3.out.trans (C12.out.mono B3.out.size))).mono ?_; rintro e' w13 ⟨rfl, hb13⟩
      have C13 := Lib.hid (C12.out.trans (hb13.mono C12.out.size))
      clear hb13
      go_wp2
      go_ret
      exact ⟨rfl, B3.out.trans (C13.out.mono B3.out.size)⟩
    | true =>
      have HR1 := Lib.hid (show ∀ z, g1.map (AnyV.mk d) = some z → rightV z.d z.x = true from fun z hz => by
        rw [← HG1.out] at hz
        cases hgg : getV d X key with
        | none => rw [hgg] at hz; cases hz
        | some y =>
          rw [hgg] at hz
          cases hz
          obtain ⟨_, _, j, hj⟩ := getV_kid hgg
          exact right_kid HR.out hj)
      have HR3 := Lib.hid (show ∀ z, g3 = some z → rightV z.d z.x = true from fun z hz => by
        have h := HG3.out
        unfold pathR at h
        rw [if_pos HR.out] at h
        exact (pathV_right _ _ _ _ HR.out (h.trans hz)).1)
      have C4 := Lib.hid (show Below w3.heap.size w3 (w3.alloc (.cells #[.int .i64 0, .int .i64 0, .string ⟨#[]⟩, .slice none 0 0, .slice none 0 0] 39)) from (by repeat (first | (with_reducible exact Below.refl _ _) | (with_reducible exact Below.refl _ _) | (with_reducible refine Below.setCell ?_ (by first | omega | (simp; done) | (simp; omega)) _) | (with_reducible refine Below.alloc ?_ (by first | omega | (simp; done) | (simp; omega)) _) | (with_reducible refine Below.drew ?_) | (with_reducible refine below_drewN ?_ _))))
      have X4 := Lib.hid (X3.out.alloc (.cells #[.int .i64 0, .int .i64 0, .string ⟨#[]⟩, .slice none 0 0, .slice none 0 0] 39))
      have P4 := Lib.hid (Blk.new w3 [.int .i64 0, .int .i64 0, .string ⟨#[]⟩, .slice none 0 0, .slice none 0 0] 39)
      go_wp2_with fail
      refine (HRG.out _ (B3.out.trans (C4.out.mono B3.out.size)) (by first | trivial | rfl)).mono ?_; rintro e' w5 ⟨⟨u, rfl, hu⟩, hb5⟩
      obtain ⟨u, rfl, hu1⟩ := hu.parts
      obtain ⟨k1, n1, s1, a1, l1, c1, e1, f1, h1, rfl⟩ := hu1.agg
      obtain ⟨b1, hb1⟩ : ∃ b1, g1.isSome = b1 := ⟨_, rfl⟩
      rw [hb1]
      have HB1 := Lib.hid hb1
      have HU1 := Lib.hid hu1
      have hp35 : w.heap.size < w3.heap.size := X3.out.lt
      have hne1 : w.heap.size ≠ w3.heap.size := by omega
      have hne2 : w3.heap.size ≠ w.heap.size := Ne.symm hne1
      have HP35 := Lib.hid (show w3.heap.size < w3.heap.size + 1 from by omega)
      have C5 := Lib.hid (C4.out.trans (hb5.mono C4.out.size))
      have X5 := Lib.hid (X4.out.ext hb5)
      have P5 := Lib.hid (P4.out.ext hb5)
      have x5 := X5.out.cells
      have y5 := X5.out.lt
      have q5 := P5.out.cells
      have l5 := P5.out.lt
      have m5 := P5.out.marks
      clear hb1 hu hu1 hb5 C4 X4 P4 q3 lt3 hp35
      go_wp2_with fail
      obtain ⟨W6, hW⟩ : ∃ W6, ((((w5.setCell ⟨w3.heap.size, 0, none⟩ (.int .i64 k1)).setCell ⟨w3.heap.size, 1, none⟩ (.int .i64 n1)).setCell ⟨w3.heap.size, 2, none⟩ (.string s1)).setCell ⟨w3.heap.size, 3, none⟩ (.slice a1 l1 c1)).setCell ⟨w3.heap.size, 4, none⟩ (.slice e1 f1 h1) = W6 := ⟨_, rfl⟩
      have C6 := Lib.hid (show Below w3.heap.size w3 W6 from by rw [← hW]; exact below_only C5.out (Only.fiveV _ _ _ _ _ _ _) C5.out.size (by have := HP35.out; omega))
      have X6 := Lib.hid (X5.out.fiveS2 (p := w3.heap.size) (hne1) (.int .i64 k1) (.int .i64 n1) (.string s1) (.slice a1 l1 c1) (.slice e1 f1 h1))
      rw [hW] at X6
      have P6 := Lib.hid (show Blk W6 w3.heap.size [.int .i64 k1, .int .i64 n1, .string s1, .slice a1 l1 c1, .slice e1 f1 h1] 39 from by rw [← hW]; exact P5.out.fiveV _ _ _ _ _)
      try rw [hW]
      clear hW C5 X5 P5 x5 y5 q5 l5 m5 HP35 hne1 hne2
      refine (HGT.out _ (B3.out.trans (C6.out.mono B3.out.size))).mono ?_; rintro e' w7 ⟨⟨u, rfl, hu⟩, hb7⟩
      obtain ⟨u, rfl, hu2⟩ := hu.parts
      obtain ⟨k2, n2, s2, a2, l2, c2, e2, f2, h2, rfl⟩ := hu2.agg
      rw [HB1.out]
      have HU2 := Lib.hid hu2
      have C7 := Lib.hid (C6.out.trans (hb7.mono C6.out.size))
      have X7 := Lib.hid (X6.out.ext hb7)
      have P7 := Lib.hid (P6.out.ext hb7)
      have q7 := P7.out.cells
      have l7 := P7.out.lt
      obtain ⟨p11, hp11⟩ : ∃ p11, w7.heap.size = p11 := ⟨_, rfl⟩
      have HP35 := Lib.hid (show w3.heap.size < p11 from by rw [← hp11]; exact P7.out.lt)
      have HP11 := Lib.hid hp11
      have c7 : Below w3.heap.size w3 (w7.alloc (.cells #[.int .i64 k2, .int .i64 n2, .string s2, .slice a2 l2 c2, .slice e2 f2 h2] 39)) := by have h := C7.out; have s := h.size; exact (by repeat (first | (with_reducible exact Below.refl _ _) | (with_reducible exact Below.refl _ _) | (with_reducible refine Below.setCell ?_ (by first | omega | (simp; done) | (simp; omega)) _) | (with_reducible refine Below.alloc ?_ (by first | omega | (simp; done) | (simp; omega)) _) | (with_reducible refine Below.drew ?_) | (with_reducible refine below_drewN ?_ _) | (with_reducible refine Below.trans ?_ (h.mono (by first | omega | (simp; done) | (simp; omega))))))
      have HT1 := Lib.hid (Tryd_told (g1.map (AnyV.mk d)) b1 (by rw [← HB1.out]; cases g1 <;> rfl) _ k1 n1 s1 a1 e1 l1 c1 f1 h1 w _ HU2.out.toP (fun z hz => HU1.out.toP) HR1.out (B3.out.trans (c7.mono B3.out.size)))
      clear hu hu2 hb7 C6 X6 P6 hp11
      go_wp2_with fail
      refine HT1.out.mono ?_; rintro e' w8 ⟨rfl, hb8⟩
      have C8 := Lib.hid (c7.trans (hb8.mono c7.size))
      have X8 := Lib.hid ((X7.out.alloc (.cells #[.int .i64 k2, .int .i64 n2, .string s2, .slice a2 l2 c2, .slice e2 f2 h2] 39)).ext hb8)
      have P8 := Lib.hid ((P7.out.alloc (.cells #[.int .i64 k2, .int .i64 n2, .string s2, .slice a2 l2 c2, .slice e2 f2 h2] 39)).ext hb8)
      have Q8 := Lib.hid ((Blk.new w7 [.int .i64 k2, .int .i64 n2, .string s2, .slice a2 l2 c2, .slice e2 f2 h2] 39).ext hb8)
      rw [HP11.out] at Q8 ⊢
      have x8 := X8.out.cells
      have y8 := X8.out.lt
      clear hb8 c7 HT1 HU1 HU2 X7 P7 C7 q7 l7
      go_wp2_with fail
      refine (HAT.out _ (B3.out.trans (C8.out.mono B3.out.size))).mono ?_; rintro e' w9 ⟨⟨u, rfl, hu⟩, hb9⟩
      obtain ⟨u, rfl, hu3⟩ := hu.parts
      obtain ⟨k3, n3, s3, a3, l3, c3, e3, f3, h3, rfl⟩ := hu3.agg
      obtain ⟨b2, hb2⟩ : ∃ b2, g2.isSome = b2 := ⟨_, rfl⟩
      rw [hb2]
      have HB2 := Lib.hid hb2
      have HU3 := Lib.hid hu3
      have hne1 : w.heap.size ≠ p11 := by have := X3.out.lt; have := HP35.out; omega
      have hne2 : p11 ≠ w.heap.size := Ne.symm hne1
      have hne3 : p11 ≠ w3.heap.size := by have := HP35.out; omega
      have hne4 : w3.heap.size ≠ p11 := Ne.symm hne3
      have C9 := Lib.hid (C8.out.trans (hb9.mono C8.out.size))
      have X9 := Lib.hid (X8.out.ext hb9)
      have P9 := Lib.hid (P8.out.ext hb9)
      have Q9 := Lib.hid (Q8.out.ext hb9)
      have x9 := X9.out.cells
      have y9 := X9.out.lt
      have q9 := Q9.out.cells
      have l9 := Q9.out.lt
      have m9 := Q9.out.marks
      clear hb2 hu hu3 hb9 C8 X8 P8 Q8 x8 y8
      go_upto_region 16 with fail
      obtain ⟨WA, hW⟩ : ∃ WA, ((((w9.setCell ⟨p11, 0, none⟩ (.int .i64 k3)).setCell ⟨p11, 1, none⟩ (.int .i64 n3)).setCell ⟨p11, 2, none⟩ (.string s3)).setCell ⟨p11, 3, none⟩ (.slice a3 l3 c3)).setCell ⟨p11, 4, none⟩ (.slice e3 f3 h3) = WA := ⟨_, rfl⟩
      have CA := Lib.hid (show Below w3.heap.size w3 WA from by rw [← hW]; exact below_only C9.out (Only.fiveV _ _ _ _ _ _ _) C9.out.size (by have := HP35.out; omega))
      have XA := Lib.hid (X9.out.fiveS2 (p := p11) (hne1) (.int .i64 k3) (.int .i64 n3) (.string s3) (.slice a3 l3 c3) (.slice e3 f3 h3))
      rw [hW] at XA
      have PA := Lib.hid (show Blk WA w3.heap.size [.int .i64 k1, .int .i64 n1, .string s1, .slice a1 l1 c1, .slice e1 f1 h1] 39 from by rw [← hW]; exact P9.out.fiveS2 hne4 _ _ _ _ _)
      have QA := Lib.hid (show Blk WA p11 [.int .i64 k3, .int .i64 n3, .string s3, .slice a3 l3 c3, .slice e3 f3 h3] 39 from by rw [← hW]; exact Q9.out.fiveV _ _ _ _ _)
      try rw [hW]
      clear hW C9 X9 P9 Q9 x9 y9 q9 l9 m9 hne1 hne2 hne3 hne4
      have HBV := Lib.hid (show b2 = (decide (kind = 5) && (decide (0 ≤ i) && decide (i < (kl : Int)))) from by
        rw [← HB2.out, ← HG2.out]
        unfold kidV
        rw [HXI.out, HXK.out]
        by_cases h1 : kind = 5
        · by_cases h2 : 0 ≤ i
          · rw [if_pos ⟨h1, h2, HR.out⟩, decide_eq_true h1, decide_eq_true h2]
            by_cases h3 : i < (kl : Int)
            · rw [List.getElem?_eq_getElem (by have := HLEN.out; omega), decide_eq_true h3]; rfl
            · rw [List.getElem?_eq_none (by have := HLEN.out; omega), decide_eq_false h3]; rfl
          · rw [if_neg (fun hh => h2 hh.2.1), decide_eq_false h2]; simp
        · rw [if_neg (fun hh => h1 hh.1), decide_eq_false h1]; rfl)
      have xa := XA.out.cells
      have ya := XA.out.lt
      go_cut [10] (fun s10 wc => s10 = .bool b2 ∧ WA = wc)
      case first =>
        by_cases h1 : kind = 5
        · by_cases h2 : i < 0
          · have HB := Lib.hid (show b2 = false from by rw [HBV.out, decide_eq_false (show ¬ 0 ≤ i by omega)]; simp)
            have d1 : decide (i ≥ 0) = false := decide_eq_false (by omega)
            have d2 : decide (0 ≤ i) = false := decide_eq_false (by omega)
            have g0 : ¬ (0 ≤ i) := by omega
            clear HBV
            subst h1
            go_wp2_with fail
            go_meet
            case rel => exact ⟨by rw [HB.out], rfl⟩
          · have d1 : decide (i ≥ 0) = true := decide_eq_true (by omega)
            have d2 : decide (0 ≤ i) = true := decide_eq_true (by omega)
            have g0 : 0 ≤ i := by omega
            by_cases h3 : i < (kl : Int)
            · have HB := Lib.hid (show b2 = true from by rw [HBV.out, decide_eq_true h1, decide_eq_true g0, decide_eq_true h3]; rfl)
              have d3 : decide (i < (kl : Int)) = true := decide_eq_true h3
              clear HBV
              subst h1
              go_wp2_with fail
              go_meet
              case rel => exact ⟨by rw [HB.out], rfl⟩
            · have HB := Lib.hid (show b2 = false from by rw [HBV.out, decide_eq_false h3]; simp)
              have d3 : decide (i < (kl : Int)) = false := decide_eq_false h3
              clear HBV
              subst h1
              go_wp2_with fail
              go_meet
              case rel => exact ⟨by rw [HB.out], rfl⟩
        · have HB := Lib.hid (show b2 = false from by rw [HBV.out, decide_eq_false h1]; rfl)
          have d5 : (kind == 5) = false := by rw [beq_eq_false_iff_ne]; exact h1
          clear HBV
          go_wp2_with fail
          go_meet
          case rel => exact ⟨by rw [HB.out], rfl⟩
      case rest =>
        obtain ⟨rfl, rfl⟩ := hcut
        have xa := XA.out.cells
        have ya := XA.out.lt
        have pa' := PA.out.cells
        have la := PA.out.lt
        have ma := PA.out.marks
        have qa' := QA.out.cells
        have lqa := QA.out.lt
        cases g2 with
        | none =>
          obtain rfl : b2 = false := HB2.out.symm
          have HT2 := Lib.hid (Tryd_told none false rfl _ k1 n1 s1 a1 e1 l1 c1 f1 h1 w WA HU3.out.toP (fun z h => by cases h) (fun z h => by cases h) (B3.out.trans (CA.out.mono B3.out.size)))
          clear HBV
          go_wp2_with fail
          refine HT2.out.mono ?_; rintro e' wB ⟨rfl, hbB⟩
          have CB := Lib.hid (CA.out.trans (hbB.mono CA.out.size))
          have XB := Lib.hid (XA.out.ext hbB)
          have PB := Lib.hid (PA.out.ext hbB)
          have QB := Lib.hid (QA.out.ext hbB)
          clear hbB HT2 CA XA PA QA xa ya pa' la ma qa' lqa HU3
          have xb := XB.out.cells
          have yb := XB.out.lt
          go_wp2_with fail
          refine (HRP.out _ _ _ (B3.out.trans (CB.out.mono B3.out.size)) (HS3.out.ext CB.out) (by first | trivial | rfl)).mono ?_; rintro e' wC ⟨⟨u, rfl, hu⟩, hbC⟩
          obtain ⟨u, rfl, hu4⟩ := hu.parts
          obtain ⟨k6, n6, s6, a6, l6, c6, e6, f6, h6, rfl⟩ := hu4.agg
          obtain ⟨b3, hb3⟩ : ∃ b3, g3.isSome = b3 := ⟨_, rfl⟩
          rw [hb3]
          have HB3 := Lib.hid hb3
          have HU6 := Lib.hid hu4
          have hne1 : w.heap.size ≠ p11 := by have := X3.out.lt; have := HP35.out; omega
          have hne2 : p11 ≠ w.heap.size := Ne.symm hne1
          have hne3 : p11 ≠ w3.heap.size := by have := HP35.out; omega
          have hne4 : w3.heap.size ≠ p11 := Ne.symm hne3
          have hne5 : w.heap.size ≠ w3.heap.size := by have := X3.out.lt; omega
          have hne6 : w3.heap.size ≠ w.heap.size := Ne.symm hne5
          have CC := Lib.hid (CB.out.trans (hbC.mono CB.out.size))
          have XC := Lib.hid (XB.out.ext hbC)
          have PC := Lib.hid (PB.out.ext hbC)
          have QC := Lib.hid (QB.out.ext hbC)
          have xc := XC.out.cells
          have yc := XC.out.lt
          have pc' := PC.out.cells
          have lc := PC.out.lt
          have mc := PC.out.marks
          have qc' := QC.out.cells
          have lqc := QC.out.lt
          have mqc := QC.out.marks
          clear hb3 hu hu4 hbC CB XB PB QB xb yb
          go_wp2_with fail
          obtain ⟨WD, hW⟩ : ∃ WD, ((((wC.setCell ⟨w3.heap.size, 0, none⟩ (.int .i64 k6)).setCell ⟨w3.heap.size, 1, none⟩ (.int .i64 n6)).setCell ⟨w3.heap.size, 2, none⟩ (.string s6)).setCell ⟨w3.heap.size, 3, none⟩ (.slice a6 l6 c6)).setCell ⟨w3.heap.size, 4, none⟩ (.slice e6 f6 h6) = WD := ⟨_, rfl⟩
          have CD := Lib.hid (show Below w3.heap.size w3 WD from by rw [← hW]; exact below_only CC.out (Only.fiveV _ _ _ _ _ _ _) CC.out.size (Nat.le_refl _))
          have XD := Lib.hid (XC.out.fiveS2 hne5 (.int .i64 k6) (.int .i64 n6) (.string s6) (.slice a6 l6 c6) (.slice e6 f6 h6))
          have PD := Lib.hid (PC.out.fiveV (.int .i64 k6) (.int .i64 n6) (.string s6) (.slice a6 l6 c6) (.slice e6 f6 h6))
          have QD := Lib.hid (QC.out.fiveS2 hne3 (.int .i64 k6) (.int .i64 n6) (.string s6) (.slice a6 l6 c6) (.slice e6 f6 h6))
          rw [hW] at XD PD QD
          try rw [hW]
          clear hW CC XC PC QC xc yc pc' lc mc qc' lqc mqc
          refine (HPT.out _ _ _ (B3.out.trans (CD.out.mono B3.out.size)) (HS3.out.ext CD.out)).mono ?_; rintro e' wE ⟨⟨u, rfl, hu⟩, hbE⟩
          obtain ⟨u, rfl, hu7⟩ := hu.parts
          obtain ⟨k7, n7, s7, a7, l7, c7, e7, f7, h7, rfl⟩ := hu7.agg
          rw [HB3.out]
          have HU7 := Lib.hid hu7
          have CE := Lib.hid (CD.out.trans (hbE.mono CD.out.size))
          have XE := Lib.hid (XD.out.ext hbE)
          have PE := Lib.hid (PD.out.ext hbE)
          have QE := Lib.hid (QD.out.ext hbE)
          have xe := XE.out.cells
          have ye := XE.out.lt
          have pe := PE.out.cells
          have le := PE.out.lt
          have qe := QE.out.cells
          have lqe := QE.out.lt
          have mqe := QE.out.marks
          clear hu hu7 hbE CD XD PD QD
          go_wp2_with fail
          obtain ⟨WF, hW⟩ : ∃ WF, ((((wE.setCell ⟨p11, 0, none⟩ (.int .i64 k7)).setCell ⟨p11, 1, none⟩ (.int .i64 n7)).setCell ⟨p11, 2, none⟩ (.string s7)).setCell ⟨p11, 3, none⟩ (.slice a7 l7 c7)).setCell ⟨p11, 4, none⟩ (.slice e7 f7 h7) = WF := ⟨_, rfl⟩
          have CF := Lib.hid (show Below w3.heap.size w3 WF from by rw [← hW]; exact below_only CE.out (Only.fiveV _ _ _ _ _ _ _) CE.out.size (by have := HP35.out; omega))
          have XF := Lib.hid (XE.out.fiveS2 hne1 (.int .i64 k7) (.int .i64 n7) (.string s7) (.slice a7 l7 c7) (.slice e7 f7 h7))
          rw [hW] at XF
          try rw [hW]
          clear hW CE XE PE QE xe ye pe le qe lqe mqe hne1 hne2 hne3 hne4 hne5 hne6
          have HT3 := Lib.hid (Tryd_told g3 b3 HB3.out _ k6 n6 s6 a6 e6 l6 c6 f6 h6 w WF HU7.out (fun z hz => HU6.out) HR3.out (B3.out.trans (CF.out.mono B3.out.size)))
          refine HT3.out.mono ?_; rintro e' wG ⟨rfl, hbG⟩
          have CG := Lib.hid (CF.out.trans (hbG.mono CF.out.size))
          have XG := Lib.hid (XF.out.ext hbG)
          have xg := XG.out.cells
          have yg := XG.out.lt
          clear hbG HT3 CF XF HU6 HU7
          go_wp2_with fail
          obtain ⟨gn, gb⟩ := g4
          refine (HLN.out _ (B3.out.trans (CG.out.mono B3.out.size))).mono ?_; rintro e' wH ⟨rfl, hbH⟩
          have CH := Lib.hid (CG.out.trans (hbH.mono CG.out.size))
          have XH := Lib.hid (XG.out.ext hbH)
          have xh := XH.out.cells
          have yh := XH.out.lt
          clear hbH CG XG xg yg
          go_wp2_with fail
          refine (HRL.out _ (B3.out.trans (CH.out.mono B3.out.size)) (by first | trivial | rfl)).mono ?_; rintro e' wI ⟨rfl, hbI⟩
          have CI := Lib.hid (CH.out.trans (hbI.mono CH.out.size))
          clear hbI CH XH xh yh
          go_wp2
          go_ret
          exact ⟨rfl, B3.out.trans (CI.out.mono B3.out.size)⟩
        | some y =>
          obtain rfl : b2 = true := HB2.out.symm
          obtain ⟨j, rfl⟩ : ∃ j : Nat, i = j := by
            have h := HG2.out
            unfold kidV at h
            split at h
            · rename_i hc; exact ⟨i.toNat, by omega⟩
            · cases h
          have hj := HG2.out
          unfold kidV at hj
          rw [HXI.out, HXK.out] at hj
          have h5 : kind = 5 := by
            by_cases h5 : kind = 5
            · exact h5
            · rw [if_neg (fun hh => h5 hh.1)] at hj; cases hj
          rw [if_pos ⟨h5, by omega, HR.out⟩, Int.toNat_natCast] at hj
          have hjl : (j : Int) < (kl : Int) := by have := (List.getElem?_eq_some_iff.1 hj).1; have := HLEN.out; omega
          obtain ⟨b, o, k5, n5, s5, a5, l5, c5, e5, f5, h5', rfl, hb, y0, y1, y2, y3, y4, hval⟩ := HK.out.get hj
          have hbb := B3.out.trans (CA.out.mono B3.out.size)
          have z0 := (hbb.cell (p := ⟨b, o + j * 5, none⟩) hb).trans y0
          have z1 := (hbb.cell (p := ⟨b, o + j * 5 + 1, none⟩) hb).trans y1
          have z2 := (hbb.cell (p := ⟨b, o + j * 5 + 2, none⟩) hb).trans y2
          have z3 := (hbb.cell (p := ⟨b, o + j * 5 + 3, none⟩) hb).trans y3
          have z4 := (hbb.cell (p := ⟨b, o + j * 5 + 4, none⟩) hb).trans y4
          have hbA := Nat.lt_of_lt_of_le hb hbb.size
          have hry := right_kid HR.out (i := j) (by rw [HXK.out]; exact hj)
          have hk5 : kind < 6 := by omega
          have HVK := Lib.hid (show ValAt w d (.agg #[.int .i64 k5, .int .i64 n5, .string s5, .slice a5 l5 c5, .slice e5 f5 h5']) y from hval)
          have HRY := Lib.hid hry
          have hne1 : w.heap.size ≠ p11 := by have := X3.out.lt; have := HP35.out; omega
          have hne2 : p11 ≠ w.heap.size := Ne.symm hne1
          have hne3 : p11 ≠ w3.heap.size := by have := HP35.out; omega
          have hne4 : w3.heap.size ≠ p11 := Ne.symm hne3
          have hne5 : w.heap.size ≠ w3.heap.size := by have := X3.out.lt; omega
          have hne6 : w3.heap.size ≠ w.heap.size := Ne.symm hne5
          clear HBV hj y0 y1 y2 y3 y4 hval hry hbb h5 hk5
          go_wp2_with fail
          have HPS := HP35
          obtain ⟨WB, hW⟩ : ∃ WB, ((((WA.setCell ⟨w3.heap.size, 0, none⟩ (.int .i64 k5)).setCell ⟨w3.heap.size, 1, none⟩ (.int .i64 n5)).setCell ⟨w3.heap.size, 2, none⟩ (.string s5)).setCell ⟨w3.heap.size, 3, none⟩ (.slice a5 l5 c5)).setCell ⟨w3.heap.size, 4, none⟩ (.slice e5 f5 h5') = WB := ⟨_, rfl⟩
          have CS := Lib.hid (show Below w3.heap.size w3 WB from by rw [← hW]; exact below_only CA.out (Only.fiveV _ _ _ _ _ _ _) CA.out.size (Nat.le_refl _))
          have XS := Lib.hid (show Blk WB w.heap.size [.int .i64 kind, .int .i64 n, .string s, .slice (some ⟨b, o, none⟩) kl kc, .slice qa ql qc] 39 from by rw [← hW]; exact XA.out.fiveS2 hne5 _ _ _ _ _)
          have PS := Lib.hid (show Blk WB w3.heap.size [.int .i64 k5, .int .i64 n5, .string s5, .slice a5 l5 c5, .slice e5 f5 h5'] 39 from by rw [← hW]; exact PA.out.fiveV _ _ _ _ _)
          have QS := Lib.hid (show Blk WB p11 [.int .i64 k3, .int .i64 n3, .string s3, .slice a3 l3 c3, .slice e3 f3 h3] 39 from by rw [← hW]; exact QA.out.fiveS2 hne3 _ _ _ _ _)
          try rw [hW]
          clear hW
          have HT2 := Lib.hid (Tryd_told (some ⟨d, y⟩) true rfl _ k5 n5 s5 a5 e5 l5 c5 f5 h5' w WB HU3.out.toP (fun z hz => by cases hz; exact HVK.out) (fun z hz => by cases hz; exact HRY.out) (B3.out.trans (CS.out.mono B3.out.size)))
          refine HT2.out.mono ?_; rintro e' wB ⟨rfl, hbB⟩
          have CB := Lib.hid (CS.out.trans (hbB.mono CS.out.size))
          have XB := Lib.hid (XS.out.ext hbB)
          have PB := Lib.hid (PS.out.ext hbB)
          have QB := Lib.hid (QS.out.ext hbB)
          clear hbB HT2 CA XA PA QA CS XS PS QS xa ya pa' la ma qa' lqa HU3 z0 z1 z2 z3 z4 hbA HVK HRY hne1 hne2 hne3 hne4 hne5 hne6 hb hjl
          have xb := XB.out.cells
          have yb := XB.out.lt
          go_wp2_with fail
          refine (HRP.out _ _ _ (B3.out.trans (CB.out.mono B3.out.size)) (HS3.out.ext CB.out) (by first | trivial | rfl)).mono ?_; rintro e' wC ⟨⟨u, rfl, hu⟩, hbC⟩
          obtain ⟨u, rfl, hu4⟩ := hu.parts
          obtain ⟨k6, n6, s6, a6, l6, c6, e6, f6, h6, rfl⟩ := hu4.agg
          obtain ⟨b3, hb3⟩ : ∃ b3, g3.isSome = b3 := ⟨_, rfl⟩
          rw [hb3]
          have HB3 := Lib.hid hb3
          have HU6 := Lib.hid hu4
          have hne1 : w.heap.size ≠ p11 := by have := X3.out.lt; have := HP35.out; omega
          have hne2 : p11 ≠ w.heap.size := Ne.symm hne1
          have hne3 : p11 ≠ w3.heap.size := by have := HP35.out; omega
          have hne4 : w3.heap.size ≠ p11 := Ne.symm hne3
          have hne5 : w.heap.size ≠ w3.heap.size := by have := X3.out.lt; omega
          have hne6 : w3.heap.size ≠ w.heap.size := Ne.symm hne5
          have CC := Lib.hid (CB.out.trans (hbC.mono CB.out.size))
          have XC := Lib.hid (XB.out.ext hbC)
          have PC := Lib.hid (PB.out.ext hbC)
          have QC := Lib.hid (QB.out.ext hbC)
          have xc := XC.out.cells
          have yc := XC.out.lt
          have pc' := PC.out.cells
          have lc := PC.out.lt
          have mc := PC.out.marks
          have qc' := QC.out.cells
          have lqc := QC.out.lt
          have mqc := QC.out.marks
          clear hb3 hu hu4 hbC CB XB PB QB xb yb
          go_wp2_with fail
          obtain ⟨WD, hW⟩ : ∃ WD, ((((wC.setCell ⟨w3.heap.size, 0, none⟩ (.int .i64 k6)).setCell ⟨w3.heap.size, 1, none⟩ (.int .i64 n6)).setCell ⟨w3.heap.size, 2, none⟩ (.string s6)).setCell ⟨w3.heap.size, 3, none⟩ (.slice a6 l6 c6)).setCell ⟨w3.heap.size, 4, none⟩ (.slice e6 f6 h6) = WD := ⟨_, rfl⟩
          have CD := Lib.hid (show Below w3.heap.size w3 WD from by rw [← hW]; exact below_only CC.out (Only.fiveV _ _ _ _ _ _ _) CC.out.size (Nat.le_refl _))
          have XD := Lib.hid (XC.out.fiveS2 hne5 (.int .i64 k6) (.int .i64 n6) (.string s6) (.slice a6 l6 c6) (.slice e6 f6 h6))
          have PD := Lib.hid (PC.out.fiveV (.int .i64 k6) (.int .i64 n6) (.string s6) (.slice a6 l6 c6) (.slice e6 f6 h6))
          have QD := Lib.hid (QC.out.fiveS2 hne3 (.int .i64 k6) (.int .i64 n6) (.string s6) (.slice a6 l6 c6) (.slice e6 f6 h6))
          rw [hW] at XD PD QD
          try rw [hW]
          clear hW CC XC PC QC xc yc pc' lc mc qc' lqc mqc
          refine (HPT.out _ _ _ (B3.out.trans (CD.out.mono B3.out.size)) (HS3.out.ext CD.out)).mono ?_; rintro e' wE ⟨⟨u, rfl, hu⟩, hbE⟩
          obtain ⟨u, rfl, hu7⟩ := hu.parts
          obtain ⟨k7, n7, s7, a7, l7, c7, e7, f7, h7, rfl⟩ := hu7.agg
          rw [HB3.out]
          have HU7 := Lib.hid hu7
          have CE := Lib.hid (CD.out.trans (hbE.mono CD.out.size))
          have XE := Lib.hid (XD.out.ext hbE)
          have PE := Lib.hid (PD.out.ext hbE)
          have QE := Lib.hid (QD.out.ext hbE)
          have xe := XE.out.cells
          have ye := XE.out.lt
          have pe := PE.out.cells
          have le := PE.out.lt
          have qe := QE.out.cells
          have lqe := QE.out.lt
          have mqe := QE.out.marks
          clear hu hu7 hbE CD XD PD QD
          go_wp2_with fail
          obtain ⟨WF, hW⟩ : ∃ WF, ((((wE.setCell ⟨p11, 0, none⟩ (.int .i64 k7)).setCell ⟨p11, 1, none⟩ (.int .i64 n7)).setCell ⟨p11, 2, none⟩ (.string s7)).setCell ⟨p11, 3, none⟩ (.slice a7 l7 c7)).setCell ⟨p11, 4, none⟩ (.slice e7 f7 h7) = WF := ⟨_, rfl⟩
          have CF := Lib.hid (show Below w3.heap.size w3 WF from by rw [← hW]; exact below_only CE.out (Only.fiveV _ _ _ _ _ _ _) CE.out.size (by have := HP35.out; omega))
          have XF := Lib.hid (XE.out.fiveS2 hne1 (.int .i64 k7) (.int .i64 n7) (.string s7) (.slice a7 l7 c7) (.slice e7 f7 h7))
          rw [hW] at XF
          try rw [hW]
          clear hW CE XE PE QE xe ye pe le qe lqe mqe hne1 hne2 hne3 hne4 hne5 hne6
          have HT3 := Lib.hid (Tryd_told g3 b3 HB3.out _ k6 n6 s6 a6 e6 l6 c6 f6 h6 w WF HU7.out (fun z hz => HU6.out) HR3.out (B3.out.trans (CF.out.mono B3.out.size)))
          refine HT3.out.mono ?_; rintro e' wG ⟨rfl, hbG⟩
          have CG := Lib.hid (CF.out.trans (hbG.mono CF.out.size))
          have XG := Lib.hid (XF.out.ext hbG)
          have xg := XG.out.cells
          have yg := XG.out.lt
          clear hbG HT3 CF XF HU6 HU7
          go_wp2_with fail
          obtain ⟨gn, gb⟩ := g4
          refine (HLN.out _ (B3.out.trans (CG.out.mono B3.out.size))).mono ?_; rintro e' wH ⟨rfl, hbH⟩
          have CH := Lib.hid (CG.out.trans (hbH.mono CG.out.size))
          have XH := Lib.hid (XG.out.ext hbH)
          have xh := XH.out.cells
          have yh := XH.out.lt
          clear hbH CG XG xg yg
          go_wp2_with fail
          refine (HRL.out _ (B3.out.trans (CH.out.mono B3.out.size)) (by first | trivial | rfl)).mono ?_; rintro e' wI ⟨rfl, hbI⟩
          have CI := Lib.hid (CH.out.trans (hbI.mono CH.out.size))
          clear hbI CH XH xh yh
          go_wp2
          go_ret
          exact ⟨rfl, B3.out.trans (CI.out.mono B3.out.size)⟩
end Go.Proofs.YtmcmknndhppljaaDoor
