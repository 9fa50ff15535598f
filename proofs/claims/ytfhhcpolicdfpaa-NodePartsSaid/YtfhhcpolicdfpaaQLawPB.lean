/-
  The law of layer 14: NodeParts, walked.
-/
import Derived.Test.YtfhhcpolicdfpaaQNodAB
import Derived.Test.YtfhhcpolicdfpaaNdP
import Derived.Test.YtfhhcpolicdfpaaQLawPA
namespace Go.Proofs.Ytfhhcpolicdfpaa
set_option linter.unusedVariables false
set_option linter.unusedSimpArgs false
open Go.RowKit Go.Dav
attribute [local go_sem] Gives ite_val ite_val_true
set_option maxRecDepth 8000 in
set_option maxHeartbeats 8000000 in
theorem Try_NodeParts (N0 : NodeD) (ia ka : Option Addr) (il ic kl kc : Nat) (w : World) (x : Int) (hN : NodeS w (fun b => b < w.heap.size) ia il ic ka kl kc N0) :
    Calls Try.prog 7 #[.agg #[.bool N0.leaf, .slice ia il ic, .slice ka kl kc], .int .i64 x] w fun e w' => e = .returned (.bool true) ∧ Below w.heap.size w w' := by
  obtain ⟨f0, hf0⟩ : ∃ f, N0.leaf = f := ⟨_, rfl⟩
  rw [hf0]
  obtain ⟨w0, hw0⟩ : ∃ w0, w.alloc (.cells #[.bool f0, .slice ia il ic, .slice ka kl kc] 28) = w0 := ⟨_, rfl⟩
  have hb0 : Below w.heap.size w w0 := by rw [← hw0]; exact (by repeat (first | (with_reducible exact Below.refl _ _) | (with_reducible exact Below.refl _ _) | (with_reducible refine Below.setCell ?_ (by first | omega | (simp; done) | (simp; omega)) _) | (with_reducible refine Below.alloc ?_ (by first | omega | (simp; done) | (simp; omega)) _) | (with_reducible refine Below.drew ?_) | (with_reducible refine below_drewN ?_ _)))
  have Q0 : Blk w0 w.heap.size [.bool f0, .slice ia il ic, .slice ka kl kc] 28 := by rw [← hw0]; exact Blk.new w _ _
  have HN0 := Lib.hid (hN.ext hb0)
  have HF0 := Lib.hid hf0
  have HB0 := Lib.hid hb0
  have HQ0 := Lib.hid Q0
  clear hN hb0 Q0 hf0
  go_enter Try.func7, Try.ntmps7
  go_wp2_with fail
  clear hw0
  (with_reducible refine (Try_wakes14 _).mono ?_); rintro e w1 ⟨rfl, hb1⟩
  have hq1 := HQ0.out.ext hb1
  have c1 := hq1.cells
  have m1 := hq1.marks
  have l1 := hq1.lt
  have HN1 := Lib.hid (HN0.out.ext hb1)
  have HB1 := Lib.hid (HB0.out.trans (hb1.mono HB0.out.size))
  have hown := Try_own N0 ia ka il ic kl kc _ w1 (HN1.out.mono (fun b h => Nat.lt_of_lt_of_le h HB1.out.size)) (fun b h => h)
  rw [HF0.out] at hown
  have HOWN := Lib.hid hown
  clear hb1 hown hq1
  go_wp2_with fail
  (with_reducible refine HOWN.out.mono ?_); rintro e w2 ⟨ja, jl, jc, la, ll, lc, rfl, hN2, hb2⟩
  obtain ⟨N, hNN⟩ : ∃ N, ownN N0 = N := ⟨_, rfl⟩
  have hlf : N.leaf = f0 := by rw [← hNN]; exact HF0.out
  rw [hNN] at hN2
  obtain ⟨w3, hw3⟩ : ∃ w3, w2.alloc (.cells #[.bool f0, .slice ja jl jc, .slice la ll lc] 28) = w3 := ⟨_, rfl⟩
  have hb3 : Below w2.heap.size w2 w3 := by rw [← hw3]; exact (Below.refl _ _).alloc (Nat.le_refl _) _
  have Q3 : Blk w3 w2.heap.size [.bool f0, .slice ja jl jc, .slice la ll lc] 28 := by rw [← hw3]; exact Blk.new w2 _ _
  have c3 := Q3.cells
  have m3 := Q3.marks
  have l3 := Q3.lt
  have HQ3 := Lib.hid Q3
  have HN3 := Lib.hid (hN2.ext hb3)
  have HB3 := Lib.hid ((HB1.out.trans (hb2.mono HB1.out.size)).trans (hb3.mono (by have := HB1.out.size; have := hb2.size; omega)))
  have HLF := Lib.hid hlf
  clear hb2 hN2 hNN hlf hb3 Q3 c1 m1 l1 HOWN HN1 HQ0 HN0
  go_wp2_with fail
  clear hw3
  obtain ⟨⟨⟨rc, rn, rs, rl, rm⟩, er⟩, hr⟩ : ∃ r, redN N = r := ⟨_, rfl⟩
  have hred := Try_nRed N ja la jl jc ll lc _ w3 HN3.out
  rw [hr, HLF.out] at hred
  unfold redV at hred
  (with_reducible refine hred.mono ?_); rintro e w4 ⟨rfl, hb4⟩
  have HR := Lib.hid hr
  have q4 := HQ3.out.ext hb4
  have HQ4 := Lib.hid q4
  have HN4 := Lib.hid (HN3.out.ext hb4)
  have HB4 := Lib.hid (HB3.out.trans (hb4.mono HB3.out.size))
  have c4 := q4.cells
  have m4 := q4.marks
  have l4 := q4.lt
  have hjl := HN4.out.items.hlen
  have HJL := Lib.hid hjl
  clear hr hred hb4 q4 c3 m3 l3 hjl HQ3 HN3 HB3
  cases hok : nodeOk N with
  | false =>
    have e1 : er = 240 := by have := HR.out; rw [red_bad hok] at this; cases this; rfl
    subst e1
    clear hok
    go_wp2
    go_ret
    exact ⟨rfl, by have h := HB4.out; have hsz := h.size; exact (by repeat (first | (with_reducible exact Below.refl _ _) | (with_reducible exact Below.refl _ _) | (with_reducible refine Below.setCell ?_ (by first | omega | (simp; done) | (simp; omega)) _) | (with_reducible refine Below.alloc ?_ (by first | omega | (simp; done) | (simp; omega)) _) | (with_reducible refine Below.drew ?_) | (with_reducible refine below_drewN ?_ _) | (with_reducible refine Below.trans ?_ (h.mono (by first | omega | (simp; done) | (simp; omega))))))⟩
  | true =>
    have e1 : er = 0 := by have := red_err hok; rw [HR.out] at this; exact this
    subst e1
    have HOK := Lib.hid hok
    clear hok
    cases f0 with
    | false =>
      go_wp2
      go_ret
      exact ⟨rfl, by have h := HB4.out; have hsz := h.size; exact (by repeat (first | (with_reducible exact Below.refl _ _) | (with_reducible exact Below.refl _ _) | (with_reducible refine Below.setCell ?_ (by first | omega | (simp; done) | (simp; omega)) _) | (with_reducible refine Below.alloc ?_ (by first | omega | (simp; done) | (simp; omega)) _) | (with_reducible refine Below.drew ?_) | (with_reducible refine below_drewN ?_ _) | (with_reducible refine Below.trans ?_ (h.mono (by first | omega | (simp; done) | (simp; omega))))))⟩
    | true =>
      by_cases hj : jl < 2
      · have hj' : (jl : Int) < 2 := by omega
        clear hj
        go_wp2
        go_ret
        exact ⟨rfl, by have h := HB4.out; have hsz := h.size; exact (by repeat (first | (with_reducible exact Below.refl _ _) | (with_reducible exact Below.refl _ _) | (with_reducible refine Below.setCell ?_ (by first | omega | (simp; done) | (simp; omega)) _) | (with_reducible refine Below.alloc ?_ (by first | omega | (simp; done) | (simp; omega)) _) | (with_reducible refine Below.drew ?_) | (with_reducible refine below_drewN ?_ _) | (with_reducible refine Below.trans ?_ (h.mono (by first | omega | (simp; done) | (simp; omega))))))⟩
      · have hj' : ¬ (jl : Int) < 2 := by omega
        have hj6 : jl ≤ 6 := by have := (leaf_ok HLF.out HOK.out).2.2.2.1; have := HJL.out; omega
        have hj7 : (jl : Int) ≤ 6 := by omega
        obtain ⟨k, hcut, hk1, hk2⟩ := part_cut x jl (by omega) hj6
        have hjc := HN4.out.items.hcap
        have hkc : (k : Int) ≤ (jc : Int) := by omega
        have hkl : (k : Int) ≤ (jl : Int) := by omega
        have hlc : (jl : Int) ≤ (jc : Int) := by omega
        have hkn : ¬ jc = k := by omega
        have hzd : ¬ ((jl : Int) - 1 = 0) := by omega
        obtain ⟨y, hy⟩ : ∃ y, N.items[0]? = some y := ⟨_, List.getElem?_eq_getElem (by have := HJL.out; omega)⟩
        obtain ⟨b, o, _, _, _, _, _, _, rfl, _⟩ := HN4.out.items.hat 0 y hy
        obtain ⟨A, B, C, eA, eB, eC, eJ, eN, fA, fB⟩ := red_split HLF.out HOK.out (nodeS_fine HN4.out) hk1 (by have := HJL.out; omega)
        rw [HR.out] at eC
        obtain ⟨ac, an, as_, al, am⟩ := A
        obtain ⟨bc, bn, bs, bl, bm⟩ := B
        obtain rfl := (Prod.mk.inj eC).1
        have EA := Lib.hid eA
        have EB := Lib.hid eB
        have EJ := Lib.hid eJ
        have EN := Lib.hid (show rc = (jl : Int) by have := HJL.out; rw [← this]; exact eN)
        have FAB := Lib.hid (And.intro fA fB)
        have HKK := Lib.hid (And.intro hk1 hk2)
        clear hj hy eA eB eC eJ eN fA fB hk1 hk2 hjc
        go_wp2_with fail
        obtain ⟨w5, hw5⟩ : ∃ w5, w4.alloc (.cells #[.int .i64 rc, .int .i64 rn, .int .i64 (hi rs), .int .u64 (lo rs), .int .i64 rl, .int .i64 rm] 47) = w5 := ⟨_, rfl⟩
        rw [hw5]
        have hb5 : Below w4.heap.size w4 w5 := by rw [← hw5]; exact (Below.refl _ _).alloc (Nat.le_refl _) _
        have R5 : Blk w5 w4.heap.size [.int .i64 rc, .int .i64 rn, .int .i64 (hi rs), .int .u64 (lo rs), .int .i64 rl, .int .i64 rm] 47 := by rw [← hw5]; exact Blk.new w4 _ _
        have HN5 := Lib.hid (HN4.out.ext hb5)
        have hA := Try_nRed ⟨true, N.items.take k, []⟩ (some ⟨b, o, none⟩) none k k 0 0 _ w5 ⟨HN5.out.items.takeK (by have := HKK.out; omega), KidsS.nil_⟩
        rw [EA.out] at hA
        unfold redV at hA
        (with_reducible refine hA.mono ?_); rintro e w6 ⟨rfl, hb6⟩
        have q6 := (HQ4.out.ext hb5).ext hb6
        have HQ6 := Lib.hid q6
        have HR6 := Lib.hid (R5.ext hb6)
        have HN6 := Lib.hid (HN5.out.ext hb6)
        have hb46 := hb5.trans (hb6.mono hb5.size)
        have HB6 := Lib.hid (HB4.out.trans (hb46.mono HB4.out.size))
        have c6 := q6.cells
        have m6 := q6.marks
        have l6 := q6.lt
        clear hw5 hb5 R5 hA hb6 q6 hb46 c4 m4 l4 HQ4 HN4 HN5 HB4
        go_wp2_with fail
        obtain ⟨w7, hw7⟩ : ∃ w7, w6.alloc (.cells #[.int .i64 ac, .int .i64 an, .int .i64 (hi as_), .int .u64 (lo as_), .int .i64 al, .int .i64 am] 47) = w7 := ⟨_, rfl⟩
        rw [hw7]
        have hb7 : Below w6.heap.size w6 w7 := by rw [← hw7]; exact (Below.refl _ _).alloc (Nat.le_refl _) _
        have A7 : Blk w7 w6.heap.size [.int .i64 ac, .int .i64 an, .int .i64 (hi as_), .int .u64 (lo as_), .int .i64 al, .int .i64 am] 47 := by rw [← hw7]; exact Blk.new w6 _ _
        have HN7 := Lib.hid (HN6.out.ext hb7)
        have hB := Try_nRed ⟨true, N.items.drop k, []⟩ (some ⟨b, o + k * 4, none⟩) none (jl - k) (jc - k) 0 0 _ w7 ⟨HN7.out.items.dropK (by have := HKK.out; omega), KidsS.nil_⟩
        rw [EB.out] at hB
        unfold redV at hB
        (with_reducible refine hB.mono ?_); rintro e w8 ⟨rfl, hb8⟩
        have hb68 := hb7.trans (hb8.mono hb7.size)
        have HQ8 := Lib.hid (HQ6.out.ext hb68)
        have HR8 := Lib.hid (HR6.out.ext hb68)
        have A8 := A7.ext hb8
        have HA8 := Lib.hid A8
        have HB8 := Lib.hid (HB6.out.trans (hb68.mono HB6.out.size))
        have c8 := A8.cells
        have m8 := A8.marks
        have l8 := A8.lt
        clear hw7 hb7 A7 hB hb8 hb68 A8 c6 m6 l6 HQ6 HR6 HN6 HN7 HB6
        go_wp2_with fail
        obtain ⟨w9, hw9⟩ : ∃ w9, (w8.alloc (.cells #[.int .i64 bc, .int .i64 bn, .int .i64 (hi bs), .int .u64 (lo bs), .int .i64 bl, .int .i64 bm] 47)).alloc (.cells #[.int .i64 ac, .int .i64 an, .int .i64 (hi as_), .int .u64 (lo as_), .int .i64 al, .int .i64 am, .int .i64 bc, .int .i64 bn, .int .i64 (hi bs), .int .u64 (lo bs), .int .i64 bl, .int .i64 bm] 47) = w9 := ⟨_, rfl⟩
        rw [hw9]
        have hb9 : Below w8.heap.size w8 w9 := by rw [← hw9]; exact (by repeat (first | (with_reducible exact Below.refl _ _) | (with_reducible exact Below.refl _ _) | (with_reducible refine Below.setCell ?_ (by first | omega | (simp; done) | (simp; omega)) _) | (with_reducible refine Below.alloc ?_ (by first | omega | (simp; done) | (simp; omega)) _) | (with_reducible refine Below.drew ?_) | (with_reducible refine below_drewN ?_ _)))
        have J9 : Blk w9 (w8.heap.size + 1) [.int .i64 ac, .int .i64 an, .int .i64 (hi as_), .int .u64 (lo as_), .int .i64 al, .int .i64 am, .int .i64 bc, .int .i64 bn, .int .i64 (hi bs), .int .u64 (lo bs), .int .i64 bl, .int .i64 bm] 47 := by rw [← hw9]; exact Blk.new' _ [_, _, _, _, _, _, _, _, _, _, _, _] _ (by simp)
        have hJ := Try_Join' (w8.heap.size + 1) 0 2 2 [⟨ac, an, as_, al, am⟩, ⟨bc, bn, bs, bl, bm⟩] w9 rfl (by omega) J9.lt (fun k r hk j v hv => by
          rw [Nat.zero_add, J9.cells]
          exact Try_reds_flat _ k r hk j v hv) (fun r hr => by simp at hr; rcases hr with rfl | rfl; exact FAB.out.1; exact FAB.out.2)
        rw [EJ.out] at hJ
        simp only [Red.cells] at hJ
        have HJ := Lib.hid hJ
        (with_reducible refine HJ.out.mono ?_); rintro e w10 ⟨rfl, hb10⟩
        have hb80 := hb9.trans (hb10.mono hb9.size)
        have Q10 := HQ8.out.ext hb80
        have R10 := HR8.out.ext hb80
        have c10 := Q10.cells
        have m10 := Q10.marks
        have l10 := Q10.lt
        have d10 := R10.cells
        have n10 := R10.marks
        have k10 := R10.lt
        have HB10 := Lib.hid (HB8.out.trans (hb80.mono HB8.out.size))
        obtain rfl := EN.out
        clear hw9 hb9 J9 hJ HJ hb10 hb80 Q10 R10 c8 m8 l8 HQ8 HR8 HA8 HB8 EA EB EJ
        go_wp2
        go_ret
        exact ⟨rfl, by have h := HB10.out; have hsz := h.size; exact (by repeat (first | (with_reducible exact Below.refl _ _) | (with_reducible exact Below.refl _ _) | (with_reducible refine Below.setCell ?_ (by first | omega | (simp; done) | (simp; omega)) _) | (with_reducible refine Below.alloc ?_ (by first | omega | (simp; done) | (simp; omega)) _) | (with_reducible refine Below.drew ?_) | (with_reducible refine below_drewN ?_ _) | (with_reducible refine Below.trans ?_ (h.mono (by first | omega | (simp; done) | (simp; omega))))))⟩
end Go.Proofs.Ytfhhcpolicdfpaa
