/-
  The law of layer 14: NodeBack, walked.
-/
import Derived.Test.YtfhhcpolicdfpaaQNodAB
import Derived.Test.YtfhhcpolicdfpaaNdP
import Derived.Test.YtfhhcpolicdfpaaQLawNB
import Derived.Test.YtfhhcpolicdfpaaQLawNA
namespace Go.Proofs.Ytfhhcpolicdfpaa
set_option linter.unusedVariables false
set_option linter.unusedSimpArgs false
open Go.RowKit Go.Dav
attribute [local go_sem] Gives ite_val ite_val_true
set_option maxHeartbeats 1000000 in
theorem Try_bCloneOwn (a : Option Addr) (al ac : Nat) (x : List UInt8) (S : Nat → Prop) (w : World) (hx : BytesS w S a al ac x) :
    Calls Try.prog 12 #[.slice a al ac] w (GivesOwn 5 w x) := by
  cases a with
  | none =>
    have h0 := hx.at_.hnil rfl
    have h1 := hx.at_.hcap
    obtain rfl : al = 0 := by omega
    subst h0
    have hx0 : x = [] := List.length_eq_zero_iff.1 hx.at_.hlen
    subst hx0
    clear hx h1
    have knil := @Try_eqNil
    go_enter Try.func12, Try.ntmps12
    go_wp2
    go_ret
    exact ⟨_, rfl, World.ownsRow_nil _ _ _ _, (by repeat (first | (with_reducible exact Below.refl _ _) | (with_reducible exact Below.refl _ _) | (with_reducible refine Below.setCell ?_ (by first | omega | (simp; done) | (simp; omega)) _) | (with_reducible refine Below.alloc ?_ (by first | omega | (simp; done) | (simp; omega)) _) | (with_reducible refine Below.drew ?_) | (with_reducible refine below_drewN ?_ _)))⟩
  | some ad =>
    have hc := (hx.cells.ext ((Below.refl _ w).alloc (Nat.le_refl _) (.cells #[] 5)))
    have hf := hx.at_.hfew
    have hl := hx.at_.hlen
    have HX := Lib.hid hc
    clear hx hc
    have knil := @Try_eqNil
    go_enter Try.func12, Try.ntmps12
    have hown := World.ownsRow_made (e := 5) (size := 1) w #[] 0 (Nat.le_refl _) (by unfold maxLen; omega) rfl
    go_wp2_with (at_builtin; refine wpList_append_rowS rfl (.tmp 5) (.tmp 6) 22 rfl Try_elemU8 w.heap.size _ 0 [] rfl hown S (some ad) al ac (u8s x) rfl HX.out (u8s_one x) (fun h => by cases h) (by unfold maxLen; omega) (by omega) (by simp) ?_; intro v' w1 hown1 hgrow)
    rw [Nat.zero_add, List.nil_append] at hown1
    have hbel : Below w.heap.size w w1 := ((Below.refl _ w).alloc (Nat.le_refl _) _).grown hgrow (by simp) (fun k hk => (hown.lt k hk).1)
    have HO := Lib.hid hown1
    clear hown1 hgrow
    go_wp2
    go_ret
    exact ⟨_, rfl, by rw [hl]; exact HO.out, hbel⟩
set_option maxRecDepth 8000 in
set_option maxHeartbeats 8000000 in
theorem Try_NodeBack (N0 : NodeD) (ia ka : Option Addr) (il ic kl kc : Nat) (w : World) (more : UInt8) (hN : NodeS w (fun b => b < w.heap.size) ia il ic ka kl kc N0) (hF : nodeFine N0) :
    Calls Try.prog 9 #[.agg #[.bool N0.leaf, .slice ia il ic, .slice ka kl kc], .int .u8 (more.toNat : Int)] w fun e w' => e = .returned (.bool true) ∧ Below w.heap.size w w' := by
  have hF2 : nodeFine (ownN N0) := by
    refine ⟨fun x hx => ?_, fun x hx => ?_⟩
    · obtain ⟨y, hy, rfl⟩ := List.mem_map.1 hx
      exact hF.1 y (List.mem_of_mem_take hy)
    · obtain ⟨y, hy, rfl⟩ := List.mem_map.1 hx
      exact hF.2 y (List.mem_of_mem_take hy)
  have HF2 := Lib.hid hF2
  clear hF hF2
  obtain ⟨f0, hf0⟩ : ∃ f, N0.leaf = f := ⟨_, rfl⟩
  rw [hf0]
  obtain ⟨w0, hw0⟩ : ∃ w0, w.alloc (.cells #[.bool f0, .slice ia il ic, .slice ka kl kc] 28) = w0 := ⟨_, rfl⟩
  have hb0 : Below w.heap.size w w0 := by rw [← hw0]; exact (by repeat (first | (with_reducible exact Below.refl _ _) | (with_reducible exact Below.refl _ _) | (with_reducible refine Below.setCell ?_ (by first | omega | (simp; done) | (simp; omega)) _) | (with_reducible refine Below.alloc ?_ (by first | omega | (simp; done) | (simp; omega)) _) | (with_reducible refine Below.drew ?_) | (with_reducible refine below_drewN ?_ _)))
  have Q0 : Blk w0 w.heap.size [.bool f0, .slice ia il ic, .slice ka kl kc] 28 := by rw [← hw0]; exact Blk.new w _ _
  have HN0 := Lib.hid (hN.ext hb0)
  have HF0 := Lib.hid hf0
  have HB0 := Lib.hid hb0
  have HQ0 := Lib.hid Q0
  clear hN hb0 Q0 hf0
  go_enter Try.func9, Try.ntmps9
  go_wp2_with fail
  clear hw0
  (with_reducible refine (Try_wakes14 _).mono ?_); rintro e w1 ⟨rfl, hb1⟩
  have hq1 := HQ0.out.ext hb1
  have c1 := hq1.cells
  have m1 := hq1.marks
  have l1 := hq1.lt
  have HN1 := Lib.hid (HN0.out.ext hb1)
  have HB1 := Lib.hid (HB0.out.trans (hb1.mono HB0.out.size))
  have hown := Try_own N0 ia ka il ic kl kc _ w1 (HN1.out.mono (fun b h => Nat.lt_of_lt_of_le h HB1.out.size)) (fun b h => h)
  rw [HF0.out] at hown
  have HOWN := Lib.hid hown
  clear hb1 hown hq1
  go_wp2_with fail
  (with_reducible refine HOWN.out.mono ?_); rintro e w2 ⟨ja, jl, jc, la, ll, lc, rfl, hN2, hb2⟩
  obtain ⟨N, hNN⟩ : ∃ N, ownN N0 = N := ⟨_, rfl⟩
  have hlf : N.leaf = f0 := by rw [← hNN]; exact HF0.out
  rw [hNN] at hN2
  have HFN := Lib.hid (show nodeFine N by rw [← hNN]; exact HF2.out)
  clear HF2
  obtain ⟨w3, hw3⟩ : ∃ w3, w2.alloc (.cells #[.bool f0, .slice ja jl jc, .slice la ll lc] 28) = w3 := ⟨_, rfl⟩
  have hb3 : Below w2.heap.size w2 w3 := by rw [← hw3]; exact (Below.refl _ _).alloc (Nat.le_refl _) _
  have Q3 : Blk w3 w2.heap.size [.bool f0, .slice ja jl jc, .slice la ll lc] 28 := by rw [← hw3]; exact Blk.new w2 _ _
  have c3 := Q3.cells
  have m3 := Q3.marks
  have l3 := Q3.lt
  have HQ3 := Lib.hid Q3
  have HN3 := Lib.hid (hN2.ext hb3)
  have HB3 := Lib.hid ((HB1.out.trans (hb2.mono HB1.out.size)).trans (hb3.mono (by have := HB1.out.size; have := hb2.size; omega)))
  have HLF := Lib.hid hlf
  clear hb2 hN2 hNN hlf hb3 Q3 c1 m1 l1 HOWN HN1 HQ0 HN0
  go_wp2_with fail
  clear hw3
  have HEN := Lib.hid (Try_Encode N ja la jl jc ll lc _ w3 (HN3.out.mono (fun b h => h) |>.s) (fun b h => h))
  rw [HLF.out] at HEN
  (with_reducible refine HEN.out.mono ?_); rintro e w4 ⟨ba, bn, bc, rfl, hB, hb4⟩
  have q4 := HQ3.out.ext hb4
  have HQ4 := Lib.hid q4
  have HN4 := Lib.hid (HN3.out.ext hb4)
  have HB4 := Lib.hid (HB3.out.trans (hb4.mono HB3.out.size))
  have c4 := q4.cells
  have m4 := q4.marks
  have l4 := q4.lt
  have HBY := Lib.hid hB
  clear hB hb4 q4 c3 m3 l3 HQ3 HN3 HB3 HEN
  cases hok : nodeOk N with
  | false =>
    have e0 := nodeE_240 hok
    have hch := Try_nCheck N ja la jl jc ll lc _ w4 HN4.out
    rw [e0, HLF.out] at hch
    have HCH := Lib.hid hch
    clear hok hch
    go_wp2_with fail
    (with_reducible refine HCH.out.mono ?_); rintro e w5 ⟨rfl, hb5⟩
    have HB5 := Lib.hid (HB4.out.trans (hb5.mono HB4.out.size))
    clear hb5
    go_wp2
    go_ret
    exact ⟨rfl, HB5.out⟩
  | true =>
    have e0 := nodeE_0 hok
    have hB := HBY.out
    rw [if_pos hok] at hB
    have hne : nodeBytes N ≠ [] := by unfold nodeBytes; simp
    have hpl := plainA_of hB.at_ hne
    have hfw := bytes_few hok
    have hln := hB.at_.hlen
    obtain ⟨L, hL⟩ : ∃ L, nodeBytes N = L := ⟨_, rfl⟩
    rw [hL] at hB hfw hln
    have HBY2 := Lib.hid hB
    have HPL := Lib.hid hpl
    have HOK := Lib.hid hok
    have HL := Lib.hid hL
    have HLN := Lib.hid hln
    have hbn : bn ≤ 1388 := by omega
    have hd := dec_bytes (a := ba) (n := bn) (c := bc) hok HFN.out (by rw [hL]; omega)
    rw [hL] at hd
    have HD := Lib.hid hd
    clear hok hB hne hpl hfw hln hL hd HBY
    go_wp2_with fail
    have hdc := Try_Decode _ ba bn bc L w4 HBY2.out.at_.s HPL.out (fun b h => h)
    rw [HD.out.2.1, HD.out.2.2] at hdc
    (with_reducible refine hdc.mono ?_); rintro e w5 ⟨pa, pl, pc, qa, ql, qc, rfl, hP, hb5⟩
    have HP5 := Lib.hid hP
    have HQ5 := Lib.hid (HQ4.out.ext hb5)
    have HN5 := Lib.hid (HN4.out.ext hb5)
    have HY5 := Lib.hid (HBY2.out.ext hb5)
    have HB5 := Lib.hid (HB4.out.trans (hb5.mono HB4.out.size))
    clear hP hb5 hdc c4 m4 l4 HQ4 HN4 HBY2 HB4
    rw [HLF.out]
    go_wp2_with fail
    obtain ⟨w6, hw6⟩ : ∃ w6, w5.alloc (.cells #[.bool f0, .slice pa pl pc, .slice qa ql qc] 28) = w6 := ⟨_, rfl⟩
    rw [hw6]
    have hb6 : Below w5.heap.size w5 w6 := by rw [← hw6]; exact (Below.refl _ _).alloc (Nat.le_refl _) _
    have R6 : Blk w6 w5.heap.size [.bool f0, .slice pa pl pc, .slice qa ql qc] 28 := by rw [← hw6]; exact Blk.new w5 _ _
    have HR6 := Lib.hid R6
    have HQ6 := Lib.hid (HQ5.out.ext hb6)
    have HN6 := Lib.hid (HN5.out.ext hb6)
    have HP6 := Lib.hid (HP5.out.ext hb6)
    have HY6 := Lib.hid (HY5.out.ext hb6)
    have HB6 := Lib.hid (HB5.out.trans (hb6.mono HB5.out.size))
    clear hw6 hb6 R6 HQ5 HN5 HP5 HY5 HB5
    (with_reducible refine (Try_bCloneOwn ba bn bc L _ w6 HY6.out).mono ?_); rintro e w7 ⟨cv, rfl, ho7, hb7⟩
    rw [HLN.out] at ho7
    have HO7 := Lib.hid ho7
    have hs7 := hb7.size
    have HB67 := Lib.hid hb7
    clear ho7 hb7
    go_wp2_with (at_builtin; refine wpList_append_rowS rfl (.tmp 40) (.tmp 42) 22 rfl Try_elemU8 w6.heap.size _ bn (u8s L) rfl (HO7.out.alloc _) (fun _ => True) (some ⟨w7.heap.size, 0, none⟩) 1 1 (u8s [more]) rfl (cells_one trivial (by simp) ((Blk.new w7 [_] _).cell 0 rfl)) (u8s_one _) (fun h => by cases h) (by unfold maxLen; omega) (by omega) (by simp; omega) ?_; intro v' w8 hown hgrow)
    have hown : w8.ownsRow w6.heap.size 5 1 v' (bn + 1) (u8s (L ++ [more])) := by unfold u8s at hown ⊢; rw [List.map_append]; exact hown
    obtain ⟨ca, cc, rfl, hC, hcp⟩ := own_copy hown (by omega)
    have hb68 : Below w6.heap.size w6 w8 := below_own (B := w6.heap.size) (HB67.out.alloc hs7 _) (by simp; omega) (HO7.out.alloc _) (Nat.le_refl _) hgrow
    have HQ8 := Lib.hid (HQ6.out.ext hb68)
    have HR8 := Lib.hid (HR6.out.ext hb68)
    have HN8 := Lib.hid (HN6.out.ext hb68)
    have HP8 := Lib.hid (HP6.out.ext hb68)
    have HY8 := Lib.hid (HY6.out.ext hb68)
    have HB8 := Lib.hid (HB6.out.trans (hb68.mono HB6.out.size))
    have HC := Lib.hid hC
    have HCP := Lib.hid hcp
    have HLB := Lib.hid (long_bad (N := N) (s := ⟨ca, bn + 1, cc, L ++ [more], true⟩) (r := [more]) HOK.out HFN.out (by rw [HL.out]) (by simp))
    clear hown hgrow hC hcp hb68 HQ6 HR6 HN6 HP6 HY6 HB6 HO7 HB67 hs7
    go_wp2_with fail
    have hdc := Try_Decode _ ca (bn + 1) cc (L ++ [more]) w8 HC.out.at_.s HCP.out (fun b h => h)
    rw [HLB.out] at hdc
    generalize decN ⟨ca, bn + 1, cc, L ++ [more], true⟩ = Z at hdc
    (with_reducible refine hdc.mono ?_); rintro e w9 ⟨za, zl, zc, ya, yl, yc, rfl, _, hb9⟩
    have q9 := HQ8.out.ext hb9
    have r9 := HR8.out.ext hb9
    have HQ9 := Lib.hid q9
    have HN9 := Lib.hid (HN8.out.ext hb9)
    have HP9 := Lib.hid (HP8.out.ext hb9)
    have HY9 := Lib.hid (HY8.out.ext hb9)
    have HB9 := Lib.hid (HB8.out.trans (hb9.mono HB8.out.size))
    have cq := q9.cells
    have mq := q9.marks
    have lq := q9.lt
    have cr := r9.cells
    have mr := r9.marks
    have lr := r9.lt
    clear hdc hb9 q9 r9 HQ8 HR8 HN8 HP8 HY8 HB8 HC HCP HLB
    go_wp2_with fail
    obtain ⟨w10, hw10⟩ : ∃ w10, w9.alloc (.cells #[.bool Z.leaf, .slice za zl zc, .slice ya yl yc] 28) = w10 := ⟨_, rfl⟩
    rw [hw10]
    have hb10 : Below w9.heap.size w9 w10 := by rw [← hw10]; exact (Below.refl _ _).alloc (Nat.le_refl _) _
    have HQ10 := Lib.hid (HQ9.out.ext hb10)
    have HY10 := Lib.hid (HY9.out.ext hb10)
    have HB10 := Lib.hid (HB9.out.trans (hb10.mono HB9.out.size))
    have hsm := Try_nSame N N pa qa ja la pl pc ql qc jl jc ll lc _ _ w10 (HP9.out.ext hb10) (HN9.out.ext hb10)
    rw [HLF.out, sameN_self HOK.out] at hsm
    have HSM := Lib.hid hsm
    clear hsm hw10 hb10 HQ9 HN9 HP9 HY9 HB9 cq mq lq cr mr lr
    (with_reducible refine HSM.out.mono ?_); rintro e w11 ⟨rfl, hb11⟩
    have HY11 := Lib.hid (HY10.out.ext hb11)
    have HB11 := Lib.hid (HB10.out.trans (hb11.mono HB10.out.size))
    clear HSM hb11 HY10 HB10 HQ10
    go_wp2_with fail
    go_loopw [66] (fun ix wr => ∃ k : Nat, k ≤ bn ∧ ix = .int .i64 k ∧ Below w11.heap.size w11 wr) (fun ix _ => bn - (intOf ix).toNat)
    case atStart => exact ⟨0, Nat.zero_le _, rfl, Below.refl _ _⟩
    case round =>
      obtain ⟨k, hk, rfl, hbel⟩ := hrel
      have hbc := HY11.out.at_.hcap
      by_cases hlt : k < bn
      · have hlt' : (k : Int) < (bn : Int) := by omega
        have hk1 : ¬ (k : Int) < 0 := by omega
        have hk2 : (k : Int) ≤ (bc : Int) := by omega
        have hk3 : (k : Int) < 1388 := by omega
        have HLT := Lib.hid hlt
        have HYr := Lib.hid (HY11.out.ext hbel)
        have HBr := Lib.hid hbel
        have HCB := Lib.hid (cut_bad (N := N) (s := ⟨ba, k, bc, L.take k, true⟩) (r := L.drop k) HOK.out HFN.out (by rw [HL.out]; exact (List.take_append_drop k L).symm) (by intro e; have := congrArg List.length e; rw [List.length_drop, HLN.out] at this; simp at this; omega))
        clear hlt hk hbel hbc
        go_wp2_with fail
        have hdc := Try_Decode _ ba k bc (L.take k) wr (HYr.out.at_.s.takeC (by have := HLT.out; omega)) HPL.out (fun b h => h)
        rw [HCB.out] at hdc
        generalize decN ⟨ba, k, bc, L.take k, true⟩ = Y at hdc
        (with_reducible refine hdc.mono ?_); rintro e w12 ⟨xa, xl, xc, ua, ul, uc, rfl, _, hb12⟩
        have hb13 := HBr.out.trans (hb12.mono HBr.out.size)
        have hsz := hb13.size
        have HB13 := Lib.hid hb13
        clear hdc hb12 hb13
        go_wp2_with fail
        go_roundw
        case rel => exact ⟨k + 1, HLT.out, by go_num, by have h := HB13.out; exact (by repeat (first | (with_reducible exact Below.refl _ _) | (with_reducible exact Below.refl _ _) | (with_reducible refine Below.setCell ?_ (by first | omega | (simp; done) | (simp; omega)) _) | (with_reducible refine Below.alloc ?_ (by first | omega | (simp; done) | (simp; omega)) _) | (with_reducible refine Below.drew ?_) | (with_reducible refine below_drewN ?_ _) | (with_reducible refine Below.trans ?_ (h.mono (by first | omega | (simp; done) | (simp; omega))))))⟩
        case measure => simp [intOf]; have := HLT.out; omega
      · obtain rfl : k = bn := by omega
        have hlt' : ¬ (k : Int) < (k : Int) := by omega
        have HBr := Lib.hid (HB11.out.trans (hbel.mono HB11.out.size))
        clear hlt hk hbel hbc
        go_wp2
        go_ret
        exact ⟨rfl, HBr.out⟩
end Go.Proofs.Ytfhhcpolicdfpaa
