/-
  The stable sort of pairs, walked, for every length.
-/
import Derived.Test.YtmcmknndhppljaaDoorQSrtI
import Derived.Test.YtmcmknndhppljaaDoorQSrtJ
import Derived.Test.YtmcmknndhppljaaDoorVbD
namespace Go.Proofs.YtmcmknndhppljaaDoor
set_option linter.unusedVariables false
set_option linter.unusedSimpArgs false
open Go.RowKit Go.Dav
attribute [local go_sem] Gives ite_val ite_val_true

set_option maxRecDepth 8000 in
set_option maxHeartbeats 8000000 in
theorem Tryd_stableG (g n cap : Nat) (l : List PairE) (w : World) (hl : l.length = n) (hn : n ≤ 1000000) (hnc : n ≤ cap) (hp : PairsAt w g l 56) :
    Calls Tryd.prog 76 #[.slice (some ⟨g, 0, none⟩) n cap, .int .i64 (n : Int), .func (.func 56) #[] #[]] w (TrydSorts w g l fun l' => SegP l l' 0 n ∧ SortedS l' 0 n) := by
  have HL := Lib.hid hl
  have HP := Lib.hid hp
  have HINS := Lib.hid (fun (a b : Nat) (c : List PairE) (W : World) (h1 : c.length = n) (h2 : a ≤ b) (h3 : b ≤ n) (h4 : PairsAt W g c 56) => Tryd_insertion g n cap a b c W h1 h2 h3 hnc (by omega) h4)
  have HMRG := Lib.hid (fun (a m b : Nat) (c : List PairE) (W : World) (h1 : c.length = n) (h2 : a < m) (h3 : m < b) (h4 : b ≤ n) (h5 : PairsAt W g c 56) (h6 : SortedS c a m) (h7 : SortedS c m b) => Tryd_symMerge (b - a) g n cap a m b c W (Nat.le_refl _) h1 h2 h3 h4 hnc (by omega) h5 h6 h7)
  clear hl hp
  go_enter Tryd.func76, Tryd.ntmps76
  go_wp2_with fail
  go_loopw [7, 8] (fun av bv wr => ∃ (a : Nat) (c : List PairE), av = .int .i64 (a : Int) ∧ bv = .int .i64 ((a + 20 : Nat) : Int) ∧ a ≤ n ∧ BlocksTo c 20 a ∧ SegP l c 0 n ∧ PairsAt wr g c 56 ∧ OnlyS (· = g) w wr) (fun av _ _ => n - (intOf av).toNat)
  case atStart => exact ⟨0, l, rfl, rfl, Nat.zero_le _, BlocksTo.zero _ _, SegP.refl _ _ _, HP.out, OnlyS.refl _ _⟩
  case round =>
    obtain ⟨a, c, rfl, rfl, han, hbt, hsg, hpa, hon⟩ := hrel
    have HBT := Lib.hid hbt
    have HSG := Lib.hid hsg
    have HPA := Lib.hid hpa
    have HON := Lib.hid hon
    have hcl := hsg.len.trans HL.out
    clear hbt hsg hpa hon
    obtain ⟨b, hb⟩ : ∃ b, a + 20 = b := ⟨_, rfl⟩
    rw [hb]
    by_cases hle : b ≤ n
    · have g1 : (b : Int) ≤ (n : Int) := by omega
      have u1 : IntKind.i64.wrap ((b : Int) + 20) = ((b + 20 : Nat) : Int) := by rw [IntWalk.i64_in _ (by omega)]; omega
      have HC := Lib.hid (HINS.out a b c wr hcl (by omega) hle HPA.out)
      have HB := Lib.hid hb
      clear hcl hb
      go_wp2_with fail
      refine HC.out.mono ?_; rintro e w2 ⟨rfl, c2, ⟨hs2, hg2⟩, hp2, ho2⟩
      have HR := Lib.hid (show BlocksTo c2 20 b ∧ SegP l c2 0 n ∧ PairsAt w2 g c2 56 ∧ OnlyS (· = g) w w2 from ⟨by have h := HBT.out.step (c2 := c2) (by rw [HB.out]; exact hs2) (by rw [HB.out]; exact hg2); rwa [HB.out] at h, HSG.out.trans (hs2.wide (a := 0) (b := n) (by omega) hle) (Nat.le_refl _) (Nat.le_refl _), hp2, onlyS_trans HON.out ho2⟩)
      clear hs2 hg2 hp2 ho2 HC HBT HSG HPA HON
      go_wp2_with fail
      go_roundw
      case rel => exact ⟨b, c2, rfl, by go_num, hle, HR.out.1, HR.out.2.1, HR.out.2.2.1, HR.out.2.2.2⟩
      case measure => have := HB.out; simp [intOf]; omega
    · have g1 : ¬ (b : Int) ≤ (n : Int) := by omega
      have HC := Lib.hid (HINS.out a n c wr hcl han (Nat.le_refl _) HPA.out)
      have HB := Lib.hid hb
      clear hcl hb
      go_wp2_with fail
      refine HC.out.mono ?_; rintro e w2 ⟨rfl, c2, ⟨hs2, hg2⟩, hp2, ho2⟩
      have HR := Lib.hid (show BlocksFrom c2 20 0 n ∧ SegP l c2 0 n ∧ PairsAt w2 g c2 56 ∧ OnlyS (· = g) w w2 from ⟨HBT.out.finish (by have := HB.out; omega) hs2 hg2 han, HSG.out.trans (hs2.wide (a := 0) (b := n) (by omega) (Nat.le_refl _)) (Nat.le_refl _) (Nat.le_refl _), hp2, onlyS_trans HON.out ho2⟩)
      clear hs2 hg2 hp2 ho2 HC HBT HSG HPA HON HB HINS g1 hle
      go_wp2_with fail
      go_loopw [6, 7, 8, 9] (fun sv _ _ _ wr => ∃ (s : Nat) (c : List PairE), sv = .int .i64 (s : Int) ∧ 0 < s ∧ s ≤ 2 * n + 20 ∧ BlocksFrom c s 0 n ∧ SegP l c 0 n ∧ PairsAt wr g c 56 ∧ OnlyS (· = g) w wr) (fun sv _ _ _ _ => n - (intOf sv).toNat)
      case atStart => exact ⟨20, c2, rfl, by omega, by omega, HR.out.1, HR.out.2.1, HR.out.2.2.1, HR.out.2.2.2⟩
      case round =>
        obtain ⟨s, c3, rfl, hs0, hsn, hbf, hsg, hpa, hon⟩ := hrel
        clear HR
        by_cases hlt : s < n
        · have g1 : (s : Int) < (n : Int) := by omega
          obtain ⟨t, ht⟩ : ∃ t, 2 * s = t := ⟨_, rfl⟩
          have u1 : IntKind.i64.wrap (2 * (s : Int)) = (t : Int) := by rw [IntWalk.i64_in _ (by omega)]; omega
          have u2 : IntKind.i64.wrap ((s : Int) * 2) = (t : Int) := by rw [IntWalk.i64_in _ (by omega)]; omega
          have HR := Lib.hid (show Merging c3 s 0 n ∧ SegP l c3 0 n ∧ PairsAt wr g c3 56 ∧ OnlyS (· = g) w wr from ⟨Merging.start hbf, hsg, hpa, hon⟩)
          have HT := Lib.hid ht
          clear hbf hsg hpa hon ht
          go_wp2_with fail
          go_loopw [7, 8] (fun av bv wr => ∃ (a : Nat) (c : List PairE), av = .int .i64 (a : Int) ∧ bv = .int .i64 ((a + t : Nat) : Int) ∧ a ≤ n ∧ Merging c s a n ∧ SegP l c 0 n ∧ PairsAt wr g c 56 ∧ OnlyS (· = g) w wr) (fun av _ _ => n - (intOf av).toNat)
          case atStart => exact ⟨0, c3, rfl, by go_num, Nat.zero_le _, HR.out.1, HR.out.2.1, HR.out.2.2.1, HR.out.2.2.2⟩
          case round =>
            obtain ⟨a, c4, rfl, rfl, han4, hmg, hsg, hpa, hon⟩ := hrel
            have HMG := Lib.hid hmg
            have HSG := Lib.hid hsg
            have HPA := Lib.hid hpa
            have HON := Lib.hid hon
            have hcl := hsg.len.trans HL.out
            clear hmg hsg hpa hon HR
            obtain ⟨b, hb⟩ : ∃ b, a + t = b := ⟨_, rfl⟩
            obtain ⟨m, hm⟩ : ∃ m, a + s = m := ⟨_, rfl⟩
            rw [hb]
            have u3 : IntKind.i64.wrap ((a : Int) + (s : Int)) = (m : Int) := by rw [IntWalk.i64_in _ (by omega)]; omega
            by_cases hle : b ≤ n
            · have g1 : (b : Int) ≤ (n : Int) := by omega
              have u4 : IntKind.i64.wrap ((b : Int) + (t : Int)) = ((b + t : Nat) : Int) := by have := HT.out; rw [IntWalk.i64_in _ (by omega)]; omega
              have HC := Lib.hid (HMRG.out a m b c4 wr hcl (by omega) (by have := HT.out; omega) hle HPA.out (by have h := HMG.out.one (by have := HT.out; omega); rwa [hm] at h) (by have h := HMG.out.two (m := b) (by have := HT.out; omega) hle; rwa [hm] at h))
              have HB := Lib.hid hb
              clear hcl hb hm
              go_wp2_with fail
              refine HC.out.mono ?_; rintro e w5 ⟨rfl, c5, ⟨hs5, hg5⟩, hp5, ho5⟩
              have HR := Lib.hid (show Merging c5 s b n ∧ SegP l c5 0 n ∧ PairsAt w5 g c5 56 ∧ OnlyS (· = g) w w5 from ⟨by have h := HMG.out.step (c2 := c5) (by rw [HT.out, HB.out]; exact hs5) (by rw [HT.out, HB.out]; exact hg5); rwa [HT.out, HB.out] at h, HSG.out.trans (hs5.wide (a := 0) (b := n) (by omega) hle) (Nat.le_refl _) (Nat.le_refl _), hp5, onlyS_trans HON.out ho5⟩)
              clear hs5 hg5 hp5 ho5 HC HMG HSG HPA HON
              go_wp2_with fail
              go_roundw
              case rel => exact ⟨b, c5, rfl, by go_num, hle, HR.out.1, HR.out.2.1, HR.out.2.2.1, HR.out.2.2.2⟩
              case measure => have := HB.out; have := HT.out; simp [intOf]; omega
            · have g1 : ¬ (b : Int) ≤ (n : Int) := by omega
              by_cases hmn : m < n
              · have g2 : (m : Int) < (n : Int) := by omega
                have HC := Lib.hid (HMRG.out a m n c4 wr hcl (by omega) hmn (Nat.le_refl _) HPA.out (by have h := HMG.out.one (by omega); rwa [hm] at h) (by have h := HMG.out.two (m := n) (by have := HT.out; omega) (Nat.le_refl _); rwa [hm] at h))
                have HB := Lib.hid hb
                clear hcl hb hm
                go_wp2_with fail
                refine HC.out.mono ?_; rintro e w5 ⟨rfl, c5, ⟨hs5, hg5⟩, hp5, ho5⟩
                have HR := Lib.hid (show BlocksFrom c5 t 0 n ∧ SegP l c5 0 n ∧ PairsAt w5 g c5 56 ∧ OnlyS (· = g) w w5 from ⟨by have h := HMG.out.finish (c2 := c5) (by have := HT.out; have := HB.out; omega) han4 hs5 hg5; rwa [HT.out] at h, HSG.out.trans (hs5.wide (a := 0) (b := n) (by omega) (Nat.le_refl _)) (Nat.le_refl _) (Nat.le_refl _), hp5, onlyS_trans HON.out ho5⟩)
                clear hs5 hg5 hp5 ho5 HC HMG HSG HPA HON
                go_wp2_with fail
                go_roundw
                case rel => first | exact ⟨t, c5, rfl, by have := HT.out; omega, by have := HT.out; omega, HR.out.1, HR.out.2.1, HR.out.2.2.1, HR.out.2.2.2⟩ | ((repeat apply Exists.intro); exact ⟨⟨t, c5, rfl, by have := HT.out; omega, by have := HT.out; omega, HR.out.1, HR.out.2.1, HR.out.2.2.1, HR.out.2.2.2⟩, rfl⟩)
                case measure => have := HT.out; simp [intOf]; omega
              · have g2 : ¬ (m : Int) < (n : Int) := by omega
                have HR := Lib.hid (show BlocksFrom c4 t 0 n ∧ SegP l c4 0 n ∧ PairsAt wr g c4 56 ∧ OnlyS (· = g) w wr from ⟨by have h := HMG.out.last (by omega) han4; rwa [HT.out] at h, HSG.out, HPA.out, HON.out⟩)
                clear hcl hb hm HMG HSG HPA HON
                go_wp2_with fail
                go_roundw
                case rel => first | exact ⟨t, c4, rfl, by have := HT.out; omega, by have := HT.out; omega, HR.out.1, HR.out.2.1, HR.out.2.2.1, HR.out.2.2.2⟩ | ((repeat apply Exists.intro); exact ⟨⟨t, c4, rfl, by have := HT.out; omega, by have := HT.out; omega, HR.out.1, HR.out.2.1, HR.out.2.2.1, HR.out.2.2.2⟩, rfl⟩)
                case measure => have := HT.out; simp [intOf]; omega
        · have g1 : ¬ (s : Int) < (n : Int) := by omega
          have HE := Lib.hid (show SegP l c3 0 n ∧ SortedS c3 0 n from ⟨hsg, hbf.all (by omega)⟩)
          have HR := Lib.hid (And.intro hpa hon)
          clear hbf hsg hpa hon
          go_wp2
          go_end0
          exact ⟨rfl, c3, HE.out, HR.out.1, HR.out.2⟩

theorem Tryd_sortStableG (g n cap : Nat) (l : List PairE) (w : World) (hl : l.length = n) (hn : n ≤ 1000000) (hnc : n ≤ cap) (hp : PairsAt w g l 56) :
    Calls Tryd.prog 55 #[.slice (some ⟨g, 0, none⟩) n cap, .func (.func 56) #[] #[]] w (TrydSorts w g l fun l' => SegP l l' 0 n ∧ SortedS l' 0 n) := by
  have HC := Lib.hid (Tryd_stableG g n cap l w hl hn hnc hp)
  clear hl hp hn
  go_enter Tryd.func55, Tryd.ntmps55
  go_wp2_with fail
  refine HC.out.mono ?_; rintro e w1 ⟨rfl, m, hm, hpm, hom⟩
  go_wp2
  go_end0
  exact ⟨rfl, m, hm, hpm, hom⟩
end Go.Proofs.YtmcmknndhppljaaDoor
