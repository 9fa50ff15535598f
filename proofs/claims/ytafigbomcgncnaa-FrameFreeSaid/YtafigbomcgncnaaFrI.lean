/-
  Layer 11, the reference: Out.
-/
import Derived.Test.YtafigbomcgncnaaFrH
import Derived.Test.YtafigbomcgncnaaCrcB
namespace Go.Dav
set_option linter.unusedVariables false
set_option linter.unusedSimpArgs false
open Go Go.RowKit
theorem cells_of_blk' {W : World} {p t : Nat} {l : List UInt8} (h : Blk W p (u8s l) t) : CellsS W (fun b => b = p) (some ⟨p, 0, none⟩) l.length (u8s l) :=
  ⟨u8s_len l, fun k v hk => ⟨p, 0, rfl, h.lt, rfl, by rw [Nat.zero_add]; exact h.cell k hk⟩⟩
end Go.Dav
namespace Go.Proofs.Ytafigbomcgncnaa
set_option linter.unusedVariables false
set_option linter.unusedSimpArgs false
open Go.RowKit Go.Dav Go.Shelf
attribute [local go_sem] Gives ite_val ite_val_true Oper.semAt_some

set_option maxRecDepth 100000 in
set_option maxHeartbeats 8000000 in
theorem Try_refOut (a : Option Addr) (n c : Nat) (l : List UInt8) (w : World) (S : Nat → Prop) (hl : BytesS w S a n c l) (hn : n ≤ 1048576) :
    Calls Try.prog 20 #[.slice a n c] w fun e w' => ∃ v, e = .returned v ∧ w'.ownsRow w.heap.size 5 1 v (6 + n) (u8s (outOf l)) ∧ Below w.heap.size w w' := by
  have HL := Lib.hid hl
  have HLN := Lib.hid hl.at_.hlen
  have HNIL := Lib.hid hl.at_.hnil
  have hn' : (n : Int) ≤ 1048576 := by omega
  have t1 : (n : Int).tdiv 256 = (n : Int) / 256 := Int.tdiv_eq_ediv_of_nonneg (by omega)
  have t2 : (n : Int).tmod 256 = (n : Int) % 256 := Int.tmod_eq_emod_of_nonneg (by omega)
  have hb0 : Blk (w.alloc (.cells #[.int .u8 ((n : Int) / 256 % 256), .int .u8 ((n : Int) % 256)] 5)) w.heap.size (u8s (sizeOf2 n)) 5 := by rw [u8s_two]; exact Blk.new w _ _
  have hcs := cells_of_blk' (hb0.alloc (.cells #[] 5))
  have ho := World.ownsRow_made (e := 5) (size := 1) (w.alloc (.cells #[.int .u8 ((n : Int) / 256 % 256), .int .u8 ((n : Int) % 256)] 5)) #[] 0 (Nat.le_refl _) (by unfold maxLen; omega) rfl
  rw [World.size_alloc] at ho
  have HB0 := Lib.hid (hb0.alloc (.cells #[] 5))
  have CS1 := Lib.hid hcs
  have OWN1 := Lib.hid ho
  have BEL0 := Lib.hid (show Below w.heap.size w ((w.alloc (.cells #[.int .u8 ((n : Int) / 256 % 256), .int .u8 ((n : Int) % 256)] 5)).alloc (.cells #[] 5)) from (by repeat (first | (with_reducible exact Below.refl _ _) | (with_reducible exact Below.refl _ _) | (with_reducible refine Below.setCell ?_ (by first | omega | (simp; done) | (simp; omega)) _) | (with_reducible refine Below.alloc ?_ (by first | omega | (simp; done) | (simp; omega)) _) | (with_reducible refine Below.drew ?_) | (with_reducible refine below_drewN ?_ _))))
  clear hl hb0 hcs ho
  go_enter Try.func20, Try.ntmps20
  go_wp2_with (first | (at_builtin; refine wpList_append_rowS rfl (.tmp 16) (.tmp 17) 22 rfl Try_elemU8 (w.heap.size + 1) _ 0 [] rfl OWN1.out (fun b => b = w.heap.size) (some ⟨w.heap.size, 0, none⟩) 2 2 (u8s (sizeOf2 n)) rfl CS1.out (u8s_one _) (fun h => by cases h) (by unfold maxLen; omega) (by omega) (by simp) ?_; intro v1 w1 hown1 hgrow1; have bel1 := Lib.hid ((Below.refl (w.heap.size + 1) _).grown hgrow1 (by simp) (fun k hk => (OWN1.out.lt k hk).1)); have hs1 := bel1.out.size; simp only [World.size_alloc] at hs1; have HB1 := Lib.hid (HB0.out.below bel1.out (by omega)); have bw1 := BEL0.out.trans (bel1.out.mono (by omega)); have BW1 := Lib.hid bw1; have HL1 := Lib.hid (HL.out.ext bw1); obtain ⟨r1, c1, rfl, hz1⟩ := own_cells hown1; have HO1 := Lib.hid hown1; clear OWN1 CS1 hown1 hgrow1 bw1 hz1) | (at_builtin; refine wpList_append_rowS rfl (.tmp 19) (.tmp 20) 22 rfl Try_elemU8 (w.heap.size + 1) _ (0 + 2) ([] ++ u8s (sizeOf2 n)) rfl HO1.out S a n c (u8s l) rfl HL1.out.cells (u8s_one _) HNIL.out (by unfold maxLen; omega) (by omega) (by omega) ?_; intro v2 w2 hown2 hgrow2; have bel2 := Lib.hid (below_own bel1.out (by omega) HO1.out (Nat.le_refl _) hgrow2); have hs2 := hgrow2.size; have HB2 := Lib.hid (HB0.out.below bel2.out (by omega)); have bw2 := BEL0.out.trans (bel2.out.mono (by omega)); have BW2 := Lib.hid bw2; have HL2 := Lib.hid (HL.out.ext bw2); obtain ⟨r2, c2, rfl, hz2⟩ := own_cells hown2; have HO2 := Lib.hid hown2; have OWN3 := Lib.hid (World.ownsRow_made (e := 5) (size := 1) w2 #[] 0 (Nat.le_refl _) (by unfold maxLen; omega) rfl); have CS3 := Lib.hid (cells_of_blk' (HB2.out.alloc (.cells #[] 5))); clear HO1 hown2 hgrow2 bw2 hz2) | (at_builtin; refine wpList_append_rowS rfl (.tmp 22) (.tmp 23) 22 rfl Try_elemU8 w2.heap.size _ 0 [] rfl OWN3.out (fun b => b = w.heap.size) (some ⟨w.heap.size, 0, none⟩) 2 2 (u8s (sizeOf2 n)) rfl CS3.out (u8s_one _) (fun h => by cases h) (by unfold maxLen; omega) (by omega) (by simp) ?_; intro v3 w3 hown3 hgrow3; have bel3 := Lib.hid (((Below.refl w2.heap.size w2).alloc (Nat.le_refl _) (.cells #[] 5)).grown hgrow3 (by simp) (fun k hk => (OWN3.out.lt k hk).1)); have hs3 := bel3.out.size; have BW3 := Lib.hid (BW2.out.trans (bel3.out.mono (by omega))); have HL3 := Lib.hid (HL2.out.ext bel3.out); have HO23 := Lib.hid (ownsRow_ext HO2.out bel3.out); obtain ⟨r3, c3, rfl, hz3⟩ := own_cells hown3; have HO3 := Lib.hid hown3; clear OWN3 CS3 hown3 hgrow3 hz3))
  obtain ⟨s, hs⟩ : ∃ s, crcSum (sizeOf2 n ++ l) = s := ⟨_, rfl⟩
  have hsl : s < 4294967296 := by rw [← hs]; exact crcSum_lt _
  have ho := HO23.out
  rw [List.nil_append, ← u8s_append, Nat.zero_add] at ho
  obtain ⟨_, _, ee, hby⟩ := own_bytes ho (by omega)
  cases ee
  have hA := Try_refMore 0 _ _ _ _ (by omega) w3 hby.at_
  have HA := Lib.hid (hA.mono (R' := fun e w' => e = .returned (.int .u32 (s : Int)) ∧ Below w3.heap.size w3 w') (fun e w' h => by rw [← hs]; exact h))
  have HSL := Lib.hid hsl
  have HS := Lib.hid hs
  clear ho hby hA hs hsl HO2 HO23
  refine HA.out.mono ?_; rintro e w4 ⟨rfl, hb4⟩
  have hs4 := hb4.size
  have BW4 := Lib.hid (BW3.out.trans (hb4.mono BW3.out.size))
  have HO4 := Lib.hid (ownsRow_ext HO3.out hb4)
  clear hb4 HA HO3
  go_wp2_with fail
  refine (Try_refLaid s HSL.out w4).mono ?_; rintro e w5 ⟨p, rfl, hp, hbp, hb5⟩
  have hs5 := hb5.size
  have BW5 := Lib.hid (BW4.out.trans (hb5.mono BW4.out.size))
  have HO5 := Lib.hid (ownsRow_ext HO4.out hb5)
  have CSP := Lib.hid (cells_of_blk' hbp)
  clear hb5 HO4 hbp
  go_wp2_with (first | (at_builtin; refine wpList_append_rowS rfl (.tmp 25) (.tmp 28) 22 rfl Try_elemU8 w2.heap.size _ (0 + 2) ([] ++ u8s (sizeOf2 n)) rfl HO5.out (fun b => b = p) (some ⟨p, 0, none⟩) 4 4 (u8s (crcFour s)) rfl CSP.out (u8s_one _) (fun h => by cases h) (by unfold maxLen; omega) (by omega) (by omega) ?_; intro v6 w6 hown6 hgrow6; have bel6 := Lib.hid (below_own BW5.out (by omega) HO5.out (by omega) hgrow6); have hs6 := hgrow6.size; have HL6 := Lib.hid (HL.out.ext bel6.out); obtain ⟨r6, c6, rfl, hz6⟩ := own_cells hown6; have HO6 := Lib.hid hown6; clear HO5 hown6 hgrow6 hz6) | (at_builtin; refine wpList_append_rowS rfl (.tmp 30) (.tmp 31) 22 rfl Try_elemU8 w2.heap.size _ (0 + 2 + 4) ([] ++ u8s (sizeOf2 n) ++ u8s (crcFour s)) rfl HO6.out S a n c (u8s l) rfl HL6.out.cells (u8s_one _) HNIL.out (by unfold maxLen; omega) (by omega) (by omega) ?_; intro v7 w7 hown7 hgrow7; have bel7 := Lib.hid (below_own bel6.out (by omega) HO6.out (by omega) hgrow7); have HO7 := Lib.hid hown7; clear HO6 hown7 hgrow7))
  go_ret
  refine ⟨_, rfl, ?_, bel7.out⟩
  have h := HO7.out.mono (base' := w.heap.size) (by omega)
  rw [List.nil_append, ← u8s_append, ← u8s_append] at h
  have e : outOf l = sizeOf2 n ++ crcFour s ++ l := by unfold outOf; rw [HLN.out, HS.out]
  rw [e]
  exact h
end Go.Proofs.Ytafigbomcgncnaa
