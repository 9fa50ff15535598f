/-
  Layer 14: First and Red, walked.
-/
import Derived.Test.YtfhhcpolicdfpaaNdI
import Derived.Test.YtfhhcpolicdfpaaNdB
namespace Go.Dav
set_option linter.unusedVariables false
set_option linter.unusedSimpArgs false
open Go Go.RowKit
/-- A node's first key. -/
def firstKey (n : NodeD) : List UInt8 := (((partsOf n)[0]?).map pKey).getD []
def redsOf (n : NodeD) : List Red := (partsOf n).map pRed
/-- What Red answers. -/
def redN (n : NodeD) : Red × Int := if nodeOk n then joined (redsOf n) else (Red.zero, 240)
def GivesFirst (w : World) (S : Nat → Prop) (N : NodeD) (e : Ending) (w' : World) : Prop :=
  ∃ a n c, e = .returned (.tuple #[.slice a n c, .int .i64 (nodeE N)]) ∧ BytesS w' S a n c (if nodeOk N then firstKey N else []) ∧ Below w.heap.size w w'
theorem redsOf_succ {n : NodeD} {k : Nat} {x : PartD} (h : (partsOf n)[k]? = some x) : ((redsOf n).take (k + 1)).flatMap Red.cells = ((redsOf n).take k).flatMap Red.cells ++ (pRed x).cells := by
  unfold redsOf; rw [List.take_add_one, List.getElem?_map, h]; simp
theorem ownsRow_blk {w : World} {base e size n g : Nat} {xs : List Value} (h : Blk w g xs e) (hg : base ≤ g) (hx : xs.length = n * size) (hn : n ≤ maxLen) : w.ownsRow base e size (.slice (some ⟨g, 0, none⟩) n n) n xs :=
  ⟨hx, .inr ⟨g, n, xs.toArray, rfl, hg, h, Nat.le_refl _, hn, by simpa using hx, by simp [← hx]⟩⟩
theorem leastOf_pos (n : NodeD) : 0 < leastOf n := by unfold leastOf; cases n.leaf <;> simp
end Go.Dav
namespace Go.Proofs.Ytfhhcpolicdfpaa
set_option linter.unusedVariables false
set_option linter.unusedSimpArgs false
open Go.RowKit Go.Dav
attribute [local go_sem] Gives ite_val ite_val_true

set_option maxRecDepth 8000 in
set_option maxHeartbeats 4000000 in
theorem Try_First (N : NodeD) (ia ka : Option Addr) (il ic kl kc : Nat) (S : Nat → Prop) (w : World) (hN : NodeS w S ia il ic ka kl kc N) :
    Calls Try.prog 30 #[.agg #[.bool N.leaf, .slice ia il ic, .slice ka kl kc]] w (GivesFirst w S N) := by
  have hb0 : Below w.heap.size w (w.alloc (.cells #[.bool N.leaf, .slice ia il ic, .slice ka kl kc] 28)) := (by repeat (first | (with_reducible exact Below.refl _ _) | (with_reducible exact Below.refl _ _) | (with_reducible refine Below.setCell ?_ (by first | omega | (simp; done) | (simp; omega)) _) | (with_reducible refine Below.alloc ?_ (by first | omega | (simp; done) | (simp; omega)) _) | (with_reducible refine Below.drew ?_) | (with_reducible refine below_drewN ?_ _)))
  have hN0 := hN.ext hb0
  have hq0 : Blk (w.alloc (.cells #[.bool N.leaf, .slice ia il ic, .slice ka kl kc] 28)) w.heap.size [.bool N.leaf, .slice ia il ic, .slice ka kl kc] 28 := Blk.new w [.bool N.leaf, .slice ia il ic, .slice ka kl kc] 28
  have hc := Try_nCheck N ia ka il ic kl kc S _ hN0
  obtain ⟨f, hf⟩ : ∃ f, N.leaf = f := ⟨_, rfl⟩
  have HF := Lib.hid hf
  have HN0 := Lib.hid hN0
  have HB0 := Lib.hid hb0
  have HC := Lib.hid hc
  have HQ0 := Lib.hid hq0
  rw [hf] at HN0 HB0 HC HQ0 ⊢
  clear hb0 hN hN0 hq0 hc hf
  go_enter Try.func30, Try.ntmps30
  go_wp2_with fail
  (with_reducible refine HC.out.mono ?_); rintro e w1 ⟨rfl, hb1⟩
  have HB1 := Lib.hid (HB0.out.trans (hb1.mono HB0.out.size))
  have Q1 := Lib.hid (HQ0.out.ext hb1)
  have HN1 := Lib.hid (HN0.out.ext hb1)
  have c1 := Q1.out.cells
  have l1 := Q1.out.lt
  cases hok : nodeOk N with
  | false =>
    have e0 := nodeE_240 hok
    have HOK := Lib.hid hok
    clear hok
    go_wp2
    go_ret2
    exact ⟨none, 0, 0, by rw [nodeE_240 HOK.out]; rfl, by rw [HOK.out]; exact BytesS.nil_, HB1.out⟩
  | true =>
    have e0 := nodeE_0 hok
    have HOK := Lib.hid hok
    clear hok
    have hp := Try_parts N ia ka il ic kl kc S w1 HN1.out (shape_few (nodeOk_check HOK.out).1).2.2
    rw [HF.out] at hp
    have HP := Lib.hid hp
    clear hp hb1
    go_wp2_with fail
    (with_reducible refine HP.out.mono ?_); rintro e w2 ⟨pa, pn, pc, rfl, hPS, hb2⟩
    have HPS := Lib.hid hPS
    have HPL := Lib.hid hPS.hlen
    have hs2 := hb2.size
    have HB2 := Lib.hid (HB1.out.trans (hb2.mono HB1.out.size))
    have Q2 := Lib.hid (Q1.out.ext hb2)
    clear c1 hPS
    have c2 := Q2.out.cells
    have l2 := Q2.out.lt
    have hlp : 0 < (partsOf N).length := by
      have := (nodeOk_check HOK.out).2.1
      have := leastOf_pos N
      omega
    obtain ⟨x, hx⟩ : ∃ x, (partsOf N)[0]? = some x := ⟨_, List.getElem?_eq_getElem hlp⟩
    obtain ⟨b, o, u, rfl, hb, _, hcell, hu⟩ := HPS.out.hat 0 x hx
    obtain ⟨xa, xn, xc, hku, hkb⟩ := Try_key_of hu
    have hmn := fun W => Try_meth_name x u W
    have hen := fun args W => Try_en_name x args W
    have HU := Lib.hid hu
    have HKU := Lib.hid hku
    have HKB := Lib.hid hkb
    have HX := Lib.hid hx
    have hpn : 0 < pn := by have := HPL.out; omega
    have hpn' : (0 : Int) < (pn : Int) := by omega
    rw [Nat.add_zero] at hcell
    clear hu hku hkb hx hlp hb2
    go_wp2_with fail
    (with_reducible refine (Try_name HU.out HKU.out).mono ?_); rintro e w3 ⟨rfl, hb3⟩
    have HB3 := Lib.hid (HB2.out.trans (hb3.mono HB2.out.size))
    have HKB3 := Lib.hid (HKB.out.ext hb3)
    clear hb3
    go_wp2
    go_ret2
    exact ⟨xa, xn, xc, by rw [nodeE_0 HOK.out]; rfl, by rw [if_pos HOK.out]; unfold firstKey; rw [HX.out]; exact HKB3.out, HB3.out⟩

theorem Try_infoRed : (Try.prog.info? 47).map (fun i => (i.zero, i.size, i.bytes)) = some (some (.agg #[.int .i64 0, .int .i64 0, .int .i64 0, .int .u64 0, .int .i64 0, .int .i64 0]), 6, 48) := by kernel_rfl
set_option maxRecDepth 8000 in
set_option maxHeartbeats 8000000 in
theorem Try_nRed (N : NodeD) (ia ka : Option Addr) (il ic kl kc : Nat) (S : Nat → Prop) (w : World) (hN : NodeS w S ia il ic ka kl kc N) :
    Calls Try.prog 25 #[.agg #[.bool N.leaf, .slice ia il ic, .slice ka kl kc]] w fun e w' => e = .returned (.tuple #[redV (redN N).1, .int .i64 (redN N).2]) ∧ Below w.heap.size w w' := by
  have hb0 : Below w.heap.size w ((w.alloc (.cells #[.bool N.leaf, .slice ia il ic, .slice ka kl kc] 28)).alloc (.cells #[.int .i64 0, .int .i64 0, .int .i64 0, .int .u64 0, .int .i64 0, .int .i64 0] 47)) := (by repeat (first | (with_reducible exact Below.refl _ _) | (with_reducible exact Below.refl _ _) | (with_reducible refine Below.setCell ?_ (by first | omega | (simp; done) | (simp; omega)) _) | (with_reducible refine Below.alloc ?_ (by first | omega | (simp; done) | (simp; omega)) _) | (with_reducible refine Below.drew ?_) | (with_reducible refine below_drewN ?_ _)))
  have hN0 := hN.ext hb0
  have hq0 : Blk ((w.alloc (.cells #[.bool N.leaf, .slice ia il ic, .slice ka kl kc] 28)).alloc (.cells #[.int .i64 0, .int .i64 0, .int .i64 0, .int .u64 0, .int .i64 0, .int .i64 0] 47)) w.heap.size [.bool N.leaf, .slice ia il ic, .slice ka kl kc] 28 := (Blk.new w [.bool N.leaf, .slice ia il ic, .slice ka kl kc] 28).alloc _
  have hc := Try_nCheck N ia ka il ic kl kc S _ hN0
  obtain ⟨f, hf⟩ : ∃ f, N.leaf = f := ⟨_, rfl⟩
  have HF := Lib.hid hf
  have HN0 := Lib.hid hN0
  have HB0 := Lib.hid hb0
  have HC := Lib.hid hc
  have HQ0 := Lib.hid hq0
  rw [hf] at HN0 HB0 HC HQ0 ⊢
  clear hb0 hN hN0 hq0 hc hf
  have R0 := Lib.hid (Blk.new' (w.alloc (.cells #[.bool f, .slice ia il ic, .slice ka kl kc] 28)) [.int .i64 0, .int .i64 0, .int .i64 0, .int .u64 0, .int .i64 0, .int .i64 0] 47 (p := w.heap.size + 1) (by simp))
  go_enter Try.func25, Try.ntmps25
  go_wp2_with fail
  (with_reducible refine HC.out.mono ?_); rintro e w1 ⟨rfl, hb1⟩
  have HB1 := Lib.hid (HB0.out.trans (hb1.mono HB0.out.size))
  have Q1 := Lib.hid (HQ0.out.ext hb1)
  have HN1 := Lib.hid (HN0.out.ext hb1)
  have c1 := Q1.out.cells
  have l1 := Q1.out.lt
  have R1 := Lib.hid (R0.out.ext hb1)
  have d1 := R1.out.cells
  have m1 := R1.out.marks
  have n1 := R1.out.lt
  cases hok : nodeOk N with
  | false =>
    have e0 := nodeE_240 hok
    have HOK := Lib.hid hok
    clear hok
    go_wp2
    refine bodyPost_ret (v := .tuple #[.agg #[.int .i64 0, .int .i64 0, .int .i64 0, .int .u64 0, .int .i64 0, .int .i64 0], .int .i64 240]) (by simp [results, Try.results25, go_sem, d1, m1]) rfl ⟨?_, ?_⟩
    · have e : redN N = (Red.zero, 240) := by unfold redN; rw [HOK.out]; rfl
      rw [e]
      show _ = Ending.returned (.tuple #[redV Red.zero, .int .i64 240])
      unfold redV Red.zero
      dsimp only
      rw [hi_zero, lo_zero]
    · have h := HB1.out; exact (by repeat (first | (with_reducible exact Below.refl _ _) | (with_reducible exact Below.refl _ _) | (with_reducible refine Below.setCell ?_ (by first | omega | (simp; done) | (simp; omega)) _) | (with_reducible refine Below.alloc ?_ (by first | omega | (simp; done) | (simp; omega)) _) | (with_reducible refine Below.drew ?_) | (with_reducible refine below_drewN ?_ _) | (with_reducible refine Below.trans ?_ (h.mono (by first | omega | (simp; done) | (simp; omega))))))
  | true =>
    have e0 := nodeE_0 hok
    have HOK := Lib.hid hok
    clear hok d1 m1
    have hp := Try_parts N ia ka il ic kl kc S w1 HN1.out (shape_few (nodeOk_check HOK.out).1).2.2
    rw [HF.out] at hp
    have HP := Lib.hid hp
    clear hp hb1
    go_wp2_with fail
    (with_reducible refine HP.out.mono ?_); rintro e w2 ⟨pa, pn, pc, rfl, hPS, hb2⟩
    have HPS := Lib.hid hPS
    have HPL := Lib.hid hPS.hlen
    have hs2 := hb2.size
    have HB2 := Lib.hid (HB1.out.trans (hb2.mono HB1.out.size))
    have Q2 := Lib.hid (Q1.out.ext hb2)
    clear c1 hPS
    have c2 := Q2.out.cells
    have l2 := Q2.out.lt
    have R2 := Lib.hid (R1.out.ext hb2)
    have hp6 : (pn : Int) ≤ 6 := by have := HPL.out; have := (shape_few (nodeOk_check HOK.out).1).2.2; omega
    have hpn6 : pn ≤ 6 := by omega
    have HRL := Lib.hid (show (redsOf N).length = pn by unfold redsOf; rw [List.length_map, HPL.out])
    obtain ⟨i0, hi0, hz0, hz1, hz2⟩ := info_parts Try_infoRed
    have HI := Lib.hid (And.intro hi0 (And.intro hz0 (And.intro hz1 hz2)))
    clear hb2 hi0 hz0 hz1 hz2
    go_wp2_with fail
    go_loopg [23, 7] pn (fun g ix vx wr => ∃ k : Nat, k ≤ pn ∧ g = pn - k ∧ ix = .int .i64 k ∧ wr.ownsRow w2.heap.size 47 6 vx k (((redsOf N).take k).flatMap Red.cells) ∧ Below w2.heap.size w2 wr)
    case atStart => exact ⟨0, Nat.zero_le _, rfl, rfl, World.ownsRow_nil _ _ _ _, Below.refl _ _⟩
    case round =>
      obtain ⟨k, hk, rfl, rfl, hown, hbel⟩ := hrel
      have HO := Lib.hid hown
      have HB := Lib.hid hbel
      have hsw := hbel.size
      have HPW := Lib.hid (HPS.out.ext hbel)
      clear hown hbel
      by_cases hkn : k < pn
      · obtain ⟨x, hx⟩ : ∃ x, (partsOf N)[k]? = some x := ⟨_, List.getElem?_eq_getElem (by have := HPL.out; omega)⟩
        obtain ⟨b, o, u, rfl, hb, _, hcell, hu⟩ := HPW.out.hat k x hx
        have hmr := fun W => Try_meth_red x u W
        have her := fun args W => Try_en_red x args W
        have hred := Try_red hu
        obtain ⟨r, hr⟩ : ∃ r, pRed x = r := ⟨_, rfl⟩
        rw [hr] at hred
        unfold redV at hred
        have HRE := Lib.hid hred
        have HX := Lib.hid hx
        have HR := Lib.hid hr
        have HKN := Lib.hid hkn
        have hkn' : (k : Int) < (pn : Int) := by omega
        clear hx hu hkn hk hred hr
        go_wp2_with fail
        (with_reducible refine HRE.out.mono ?_); rintro e w3 ⟨rfl, hb3⟩
        have HB3 := Lib.hid (HB.out.trans (hb3.mono HB.out.size))
        have hs3 := HB3.out.size
        have HO3 := Lib.hid ((ownsRow_ext HO.out hb3).alloc (.cells #[.int .i64 r.c, .int .i64 r.n, .int .i64 (hi r.s), .int .u64 (lo r.s), .int .i64 r.l, .int .i64 r.m] 47))
        have HSR := Lib.hid ((ownsRow_blk (n := 1) (size := 6) (base := w3.heap.size) (xs := [.int .i64 r.c, .int .i64 r.n, .int .i64 (hi r.s), .int .u64 (lo r.s), .int .i64 r.l, .int .i64 r.m]) (Blk.new w3 [_, _, _, _, _, _] 47) (Nat.le_refl _) rfl (by unfold maxLen; omega)).cells (g := w3.heap.size) rfl)
        obtain ⟨hi0, hz0, hz1, hz2⟩ := HI.out
        clear hb3
        go_wp2_with (at_builtin; refine wpList_append_own _ rfl (.tmp 27) (.tmp 30) 90 rfl w2.heap.size 47 i0 _ 6 48 Try.underlying90 hi0 hz0 hz1 hz2 rfl (by decide) _ k (((redsOf N).take k).flatMap Red.cells) rfl HO3.out ⟨w3.heap.size, 0, none⟩ 1 1 [.int .i64 r.c, .int .i64 r.n, .int .i64 (hi r.s), .int .u64 (lo r.s), .int .i64 r.l, .int .i64 r.m] rfl rfl HSR.out (by intro u hu; simp at hu; rcases hu with rfl | rfl | rfl | rfl | rfl | rfl <;> rfl) (by unfold maxLen; omega) (by omega) (by simp; omega) ?_; intro v' w6 hown6 hgrow _)
        have HB6 := Lib.hid ((HB3.out.alloc (by omega) (.cells #[.int .i64 r.c, .int .i64 r.n, .int .i64 (hi r.s), .int .u64 (lo r.s), .int .i64 r.l, .int .i64 r.m] 47)).grown hgrow (by simp; omega) (fun k hk => (HO3.out.lt k hk).1))
        have HO6 := Lib.hid (show w6.ownsRow w2.heap.size 47 6 v' (k + 1) (((redsOf N).take (k + 1)).flatMap Red.cells) by rw [redsOf_succ HX.out, HR.out]; exact hown6)
        clear hown6 hgrow HO3 HSR hi0 hz0 hz1 hz2
        go_roundg (pn - (k + 1))
        case measure => have := HKN.out; omega
        case rel => exact ⟨k + 1, HKN.out, rfl, by go_num, HO6.out, HB6.out⟩
      · obtain rfl : k = pn := by omega
        have hk3 : ¬ (k : Int) < (k : Int) := by omega
        have hlp : 0 < k := by
          have h1 := (nodeOk_check HOK.out).2.1
          have h2 := leastOf_pos N
          have h3 := HPL.out
          omega
        have hown := HO.out
        rw [List.take_of_length_le (by rw [HRL.out]; omega)] at hown
        obtain ⟨g, cap, rfl, hg1, hg2, hg3, hg4⟩ := Try_reds_own hown hlp
        have hfit : ∀ r ∈ redsOf N, r.fits := fun r hr => by
          unfold redsOf at hr
          obtain ⟨x, hx, rfl⟩ := List.mem_map.1 hr
          obtain ⟨i, hi, he⟩ := List.mem_iff_getElem.1 hx
          obtain ⟨b, o, u, _, _, _, _, hu⟩ := HPS.out.hat i x (by rw [List.getElem?_eq_getElem hi, he])
          cases x with
          | inl y =>
            obtain ⟨_, _, _, _, _, _, _, _, _, hn⟩ := hu
            unfold pRed rowRed; dsimp only
            unfold I64 at hn
            split <;> simp [Red.fits, I64] <;> omega
          | inr y => obtain ⟨_, _, _, _, _, _, hfi⟩ := hu; exact hfi
        have hj := Try_Join' g 0 k cap (redsOf N) wr HRL.out (by omega) hg2 hg4 hfit
        have hrn : redN N = joined (redsOf N) := by unfold redN; rw [if_pos HOK.out]
        rw [← hrn] at hj
        obtain ⟨q, hq⟩ : ∃ q, redN N = q := ⟨_, rfl⟩
        rw [hq] at hj
        unfold Red.cells at hj
        have HQ := Lib.hid hq
        have HJ := Lib.hid hj
        have HBW := Lib.hid (HB2.out.trans (HB.out.mono HB2.out.size))
        have R3 := Lib.hid (R2.out.ext HB.out)
        clear hj hfit hrn hq hown hg1 hg3 hg4 hkn hlp
        go_wp2_with fail
        (with_reducible refine HJ.out.mono ?_); rintro e w5 ⟨rfl, hb5⟩
        have R5 := Lib.hid (R3.out.ext hb5)
        have d5 := R5.out.cells
        have m5 := R5.out.marks
        have l5 := R5.out.lt
        have HB5 := Lib.hid (HBW.out.trans (hb5.mono HBW.out.size))
        clear hb5 c2 l2
        go_wp2
        refine bodyPost_ret (v := .tuple #[redV q.1, .int .i64 q.2]) (by simp [results, Try.results25, go_sem, redV, d5, m5]) rfl ⟨by rw [HQ.out], ?_⟩
        have h := HB5.out; exact (by repeat (first | (with_reducible exact Below.refl _ _) | (with_reducible exact Below.refl _ _) | (with_reducible refine Below.setCell ?_ (by first | omega | (simp; done) | (simp; omega)) _) | (with_reducible refine Below.alloc ?_ (by first | omega | (simp; done) | (simp; omega)) _) | (with_reducible refine Below.drew ?_) | (with_reducible refine below_drewN ?_ _) | (with_reducible refine Below.trans ?_ (h.mono (by first | omega | (simp; done) | (simp; omega))))))
end Go.Proofs.Ytfhhcpolicdfpaa
