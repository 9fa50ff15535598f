/-
  Layer 4: an object of pairs, walked, for so many pairs as the statements put in.
-/
import Derived.Test.YtmcmknndhppljaaDoorQSrtK
import Derived.Test.YtmcmknndhppljaaDoorVbK
namespace Go.Proofs.YtmcmknndhppljaaDoor
set_option linter.unusedVariables false
set_option linter.unusedSimpArgs false
open Go.RowKit Go.Dav
attribute [local go_sem] Gives GivesK ite_val ite_val_true

theorem Tryd_sortAnyG (B n rc : Nat) (ra : Option Addr) (l : List PairE) (w : World) (hown : w.ownsRow B 56 6 (.slice ra n rc) n (flatE l)) (hB : B ≤ w.heap.size) (hn : n ≤ 1000000) :
    Calls Tryd.prog 55 #[.slice ra n rc, .func (.func 56) #[] #[]] w fun e w' => e = .returned (.tuple #[]) ∧ ∃ m, m.length = n ∧ m.Perm l ∧ SortedS m 0 n ∧ RowOk w' B ra m 56 ∧ Below B w w' := by
  rcases Tryd_pairs_own hown with ⟨h1, rfl, rfl⟩ | ⟨g, c, h1, hg, hnc, hc, hl, hp⟩
  · cases h1
    refine (Tryd_sortNone w).mono ?_
    rintro e w' ⟨rfl, hb⟩
    exact ⟨rfl, [], rfl, List.Perm.refl _, SortedS.one (by simp), .inl rfl, hb.mono hB⟩
  · cases h1
    refine (Tryd_sortStableG g n _ l w hl hn hnc hp).mono ?_
    rintro e w' ⟨rfl, m, ⟨hs, ho⟩, hpm, hon⟩
    exact ⟨rfl, m, hs.len.trans hl, hs.perm, ho, .inr ⟨g, rfl, hg, hpm⟩, hon.below hB (fun k e => by subst e; exact hg)⟩
set_option maxRecDepth 8000 in
set_option maxHeartbeats 8000000 in
theorem Tryd_ObjectG (d : Nat) (f : PairE → ValN d) (a : Option Addr) (n c : Nat) (l : List PairE) (w : World) (hl : l.length = n) (hat : FlatAt w a (flatE l)) (hnil : a = none → c = 0) (hnc : n ≤ c) (hn : n ≤ 300) (hf : ∀ e ∈ l, ValAt w d (.agg #[.int .i64 e.k, .int .i64 e.n, .string e.s, .slice e.a1 e.l1 e.c1, .slice e.a2 e.l2 e.c2]) (f e)) (hks : ∀ e ∈ l, e.key.size ≤ 17592186044416) (hN : GlobAt w 0 [.int .i64 0, .int .i64 0] 143) :
    Calls Tryd.prog 23 #[.slice a n c] w fun e w' => TrydObjBack d f w n l e w' ∧ Below w.heap.size w w' := by
  have hn9 : n ≤ 1000000 := by omega
  have hone : ∀ u ∈ flatE l, u.oneCell' = true := fun u hu => by
    obtain ⟨e, _, hu⟩ := List.mem_flatMap.1 hu
    simp [PairE.cells] at hu
    rcases hu with rfl | rfl | rfl | rfl | rfl | rfl <;> rfl
  have b0 : Below w.heap.size w (w.alloc (.cells #[.int .i64 0, .int .i64 0, .string ⟨#[]⟩, .slice none 0 0, .slice none 0 0] 39)) := (by repeat (first | (with_reducible exact Below.refl _ _) | (with_reducible exact Below.refl _ _) | (with_reducible refine Below.setCell ?_ (by first | omega | (simp; done) | (simp; omega)) _) | (with_reducible refine Below.alloc ?_ (by first | omega | (simp; done) | (simp; omega)) _) | (with_reducible refine Below.drew ?_) | (with_reducible refine below_drewN ?_ _)))
  have HC := Lib.hid (Tryd_clonePairs a n c (flatE l) _ (by rw [flatE_len, hl]) hone (hat.ext b0) hnil hnc hn9)
  have HZ := Lib.hid (show Blk (w.alloc (.cells #[.int .i64 0, .int .i64 0, .string ⟨#[]⟩, .slice none 0 0, .slice none 0 0] 39)) w.heap.size zeroL 39 from Blk.new _ _ _)
  have HL := Lib.hid hl
  have HF := Lib.hid hf
  have HKS := Lib.hid hks
  have HN := Lib.hid hN
  have HB0 := Lib.hid b0
  have HSM := Lib.hid hn
  clear hone b0 hl hf hks hN hat hn
  go_enter Tryd.func23, Tryd.ntmps23
  go_wp2_with fail
  refine HC.out.mono ?_; rintro e w1 ⟨v, rfl, hown, hb1⟩
  obtain ⟨ra, rc, rfl⟩ := own_sliceW hown
  have hso := Tryd_sortAnyG (w.heap.size + 1) n rc ra l w1 (by have h := hown; rw [World.size_alloc] at h; exact h) (by have := hb1.size; simp at this; omega) (Nat.le_trans HSM.out (by omega))
  have HSO := Lib.hid hso
  have HB1 := Lib.hid (HB0.out.trans (hb1.mono HB0.out.size))
  have HZ1 := Lib.hid (HZ.out.ext hb1)
  have hs1 := hb1.size
  simp only [World.size_alloc] at hs1
  clear hown hso hb1 HZ HC
  go_wp2_with fail
  refine HSO.out.mono ?_; rintro e w2 ⟨rfl, m, hml, hmp, hms, hrow, hb2⟩
  have HZ2 := Lib.hid (HZ1.out.below hb2 (by omega))
  have HB2 := Lib.hid (HB1.out.trans (hb2.mono (by omega)))
  have hs2 := hb2.size
  have HML := Lib.hid hml
  have HMP := Lib.hid hmp
  have HMS := Lib.hid hms
  have HROW := Lib.hid hrow
  clear hml hmp hms hrow hb2 HSO HZ1 HB1
  have hfm : ∀ e ∈ m, ValAt w d (.agg #[.int .i64 e.k, .int .i64 e.n, .string e.s, .slice e.a1 e.l1 e.c1, .slice e.a2 e.l2 e.c2]) (f e) := fun e he => HF.out e (HMP.out.mem_iff.1 he)
  have hkm : ∀ e ∈ m, e.key.size ≤ 17592186044416 := fun e he => HKS.out e (HMP.out.mem_iff.1 he)
  have HFM := Lib.hid hfm
  have HKM := Lib.hid hkm
  clear hfm hkm HF HKS
  go_wp2_with fail
  go_loopw [15] (fun ix wr => ∃ (k : Nat) (kk : Option Addr) (kc : Nat) (qk : Option Addr) (qc : Nat), k ≤ n ∧ ix = .int .i64 (k : Int) ∧ ObjAt wr w.heap.size w2.heap.size (w.heap.size + 1) (w2.heap.size + 1) 39 9 56 ra m k kk kc qk qc ∧ noDup m k ∧ Below w.heap.size w wr ∧ w2.heap.size + 1 ≤ wr.heap.size) (fun ix _ => n - (intOf ix).toNat)
  case atStart =>
    have b3 : Below w2.heap.size w2 (w2.alloc (.cells #[.int .i64 6, .int .i64 0, .string ⟨#[]⟩, .slice none 0 0, .slice none 0 0] 39)) := (by repeat (first | (with_reducible exact Below.refl _ _) | (with_reducible exact Below.refl _ _) | (with_reducible refine Below.setCell ?_ (by first | omega | (simp; done) | (simp; omega)) _) | (with_reducible refine Below.alloc ?_ (by first | omega | (simp; done) | (simp; omega)) _) | (with_reducible refine Below.drew ?_) | (with_reducible refine below_drewN ?_ _)))
    exact ⟨0, none, 0, none, 0, Nat.zero_le _, by go_num, ⟨HZ2.out.ext b3, Blk.new _ _ _, HROW.out.ext b3, World.ownsRow_nil _ _ _ _, World.ownsRow_nil _ _ _ _⟩, fun i x y h => by omega, HB2.out.trans (b3.mono HB2.out.size), by simp⟩
  case round =>
    obtain ⟨k, kk, kc, qk, qc, hk, rfl, hob, hnd, hbel, hsz⟩ := hrel
    have HOB := Lib.hid hob
    have HND := Lib.hid hnd
    have HBEL := Lib.hid hbel
    clear hob hnd hbel
    by_cases hlt : k < n
    · have g1 : (k : Int) < (n : Int) := by omega
      obtain ⟨p, hp⟩ : ∃ p, m[k]? = some p := ⟨_, List.getElem?_eq_getElem (by have := HML.out; omega)⟩
      obtain ⟨g, rfl, hBg, hpa⟩ : ∃ g, ra = some ⟨g, 0, none⟩ ∧ w.heap.size + 1 ≤ g ∧ PairsAt wr g m 56 := by
        rcases HOB.out.row with h | h
        · rw [h] at hp; simp at hp
        · exact h
      obtain ⟨x0, x1, x2, x3, x4, x5⟩ := hpa.get hp
      have lg := hpa.lt
      have HP := Lib.hid hp
      have HPA := Lib.hid hpa
      have b4 : Below wr.heap.size wr (wr.alloc (.cells #[.string p.key, .int .i64 p.k, .int .i64 p.n, .string p.s, .slice p.a1 p.l1 p.c1, .slice p.a2 p.l2 p.c2] 56)) := (by repeat (first | (with_reducible exact Below.refl _ _) | (with_reducible exact Below.refl _ _) | (with_reducible refine Below.setCell ?_ (by first | omega | (simp; done) | (simp; omega)) _) | (with_reducible refine Below.alloc ?_ (by first | omega | (simp; done) | (simp; omega)) _) | (with_reducible refine Below.drew ?_) | (with_reducible refine below_drewN ?_ _)))
      have HOB4 := Lib.hid (HOB.out.ext b4)
      have HBEL4 := Lib.hid (HBEL.out.trans (b4.mono HBEL.out.size))
      have HB7 := Lib.hid (show Blk (wr.alloc (.cells #[.string p.key, .int .i64 p.k, .int .i64 p.n, .string p.s, .slice p.a1 p.l1 p.c1, .slice p.a2 p.l2 p.c2] 56)) wr.heap.size [.string p.key, .int .i64 p.k, .int .i64 p.n, .string p.s, .slice p.a1 p.l1 p.c1, .slice p.a2 p.l2 p.c2] 56 from Blk.new _ _ _)
      clear hp hpa b4
      by_cases hk0 : k = 0
      · subst hk0
        simp only [Nat.zero_mul, Nat.zero_add] at x0 x1 x2 x3 x4 x5
        go_wp2_with fail
        refine' wp_region_seq [.inl _, .inl _, .inl _, .inl undef, .inl undef, .inl undef, .inl undef, .inl undef, .inl undef, .inl undef, .inl undef, .inl undef, .inl _] (by kernel_rfl) (by kernel_rfl) ?main1
        case main1 =>
          refine wpParts_det (by rfl) (fun W hE hN => ?_) ?_
          · go_simp; refine ⟨Below.refl _ _, ?_⟩; rfl
          simp only [Act.put, List.setIfInBounds_toArray, List.set_cons_zero, List.set_cons_succ]
          refine wpParts_det (by rfl) (fun W hE hN => ?_) ?_
          · go_simp; refine ⟨Below.refl _ _, ?_⟩; rfl
          simp only [Act.put, List.setIfInBounds_toArray, List.set_cons_zero, List.set_cons_succ]
          refine wpParts_det (by rfl) (fun W hE hN => ?_) ?_
          · go_simp; refine ⟨Below.refl _ _, ?_⟩; rfl
          simp only [Act.put, List.setIfInBounds_toArray, List.set_cons_zero, List.set_cons_succ]
          refine wpParts_skip ?_ ?_
          · rfl
          simp only [Act.put, List.setIfInBounds_toArray, List.set_cons_zero, List.set_cons_succ]
          refine wpParts_skip ?_ ?_
          · rfl
          simp only [Act.put, List.setIfInBounds_toArray, List.set_cons_zero, List.set_cons_succ]
          refine wpParts_skip ?_ ?_
          · rfl
          simp only [Act.put, List.setIfInBounds_toArray, List.set_cons_zero, List.set_cons_succ]
          refine wpParts_skip ?_ ?_
          · rfl
          simp only [Act.put, List.setIfInBounds_toArray, List.set_cons_zero, List.set_cons_succ]
          refine wpParts_skip ?_ ?_
          · rfl
          simp only [Act.put, List.setIfInBounds_toArray, List.set_cons_zero, List.set_cons_succ]
          refine wpParts_skip ?_ ?_
          · rfl
          simp only [Act.put, List.setIfInBounds_toArray, List.set_cons_zero, List.set_cons_succ]
          refine wpParts_skip ?_ ?_
          · rfl
          simp only [Act.put, List.setIfInBounds_toArray, List.set_cons_zero, List.set_cons_succ]
          refine wpParts_skip ?_ ?_
          · rfl
          simp only [Act.put, List.setIfInBounds_toArray, List.set_cons_zero, List.set_cons_succ]
          refine wpParts_skip ?_ ?_
          · rfl
          simp only [Act.put, List.setIfInBounds_toArray, List.set_cons_zero, List.set_cons_succ]
          refine wpParts_det (by rfl) (fun W hE hN => ?_) ?_
          · go_simp; refine ⟨Below.refl _ _, ?_⟩; rfl
          simp only [Act.put, List.setIfInBounds_toArray, List.set_cons_zero, List.set_cons_succ]
          refine wpParts_end fun W2 hE2 hG2 => ?_
          have hcW2 := fun b o h => hE2.cell (p := ⟨b, o, none⟩) h
          have hfW2 := fun b o h => hE2.frozen (p := ⟨b, o, none⟩) h
          have HNDS := Lib.hid (show noDup m (0 + 1) from fun i x y h => by omega)
          have hob2 := HOB4.out.ext hE2
          have hb7 := HB7.out.ext hE2
          have HBEL2 := Lib.hid (HBEL4.out.trans (hE2.mono HBEL4.out.size))
          have hA5 : ¬ OwnTwo (.slice qk 0 qc) (.slice kk 0 kc) w2.heap.size := fun h => by
            rcases h with h | h
            · have := own_high hob2.keys h; omega
            · have := own_high hob2.kids h; omega
          have hA7 : ¬ OwnTwo (.slice qk 0 qc) (.slice kk 0 kc) wr.heap.size := fun h => by
            rcases h with h | h
            · exact own_apart hob2.keys hb7 (show 56 ≠ 9 by decide) h
            · exact own_apart hob2.kids hb7 (show 56 ≠ 39 by decide) h
          have HA5 := Lib.hid hA5
          have HA7 := Lib.hid hA7
          have HQ5 := Lib.hid hob2.box
          have HQ7 := Lib.hid hb7
          have HOB2 := Lib.hid hob2
          have q5 := hob2.box.cells
          have l5 := hob2.box.lt
          have q7 := hb7.cells
          have l7 := hb7.lt
          have HLTK := Lib.hid (show ∀ b, OwnTwo (.slice qk 0 qc) (.slice kk 0 kc) b → b < W2.heap.size from fun b hb => hb.elim (fun h => (hob2.keys.lt b h).2) (fun h => (hob2.kids.lt b h).2))
          have hsz2 : w2.heap.size + 1 ≤ W2.heap.size := by have := hE2.size; simp at this; omega
          obtain ⟨i0, hi0, hz0, hz1, hz2⟩ := info_parts Tryd_infoString
          obtain ⟨i1, hj0, hy0, hy1, hy2⟩ := info_parts Tryd_infoValue
          have HI0 := Lib.hid (And.intro hi0 (And.intro hz0 (And.intro hz1 hz2)))
          have HI1 := Lib.hid (And.intro hj0 (And.intro hy0 (And.intro hy1 hy2)))
          have HKN := Lib.hid (show 0 + 1 ≤ 1000000 by omega)
          clear hE2 hcW2 hfW2 hob2 hb7 hi0 hz0 hz1 hz2 hj0 hy0 hy1 hy2 lg hA5 hA7
          try clear x0 x1 x2 x3 x4 x5
          try clear y0
          go_wp2_with fail
          refine' wp_region_seqN (fam2 5 11 (by decide) (goes_onlyW (OwnTwo (.slice qk 0 qc) (.slice kk 0 kc))) (goes_onlyW (OwnW (.slice qk 0 qc))) (goes_onlyW (OwnW (.slice kk 0 kc))) (fun _ _ h => h.wide fun b => .inl) (fun _ _ h => h.wide fun b => .inr)) [.inl _, .inl _, .inl _, .inl _, .inr (SlOwn W2.heap.size 1 [.string p.key] 9), .inr (fun v W => W.ownsRow (w2.heap.size + 1) 9 1 v (0 + 1) (keysL m 0 ++ [.string p.key]) ∧ ∀ b, v.ownBlock = some b → ¬ OwnW (.slice kk 0 kc) b), .inl _, .inl _, .inl _, .inl _, .inr (SlOwn W2.heap.size 1 p.vcells 39), .inr (fun v W => W.ownsRow (w2.heap.size + 1) 39 5 v (0 + 1) (kidsL m 0 ++ p.vcells) ∧ ∀ b, v.ownBlock = some b → ¬ OwnW (.slice qk 0 qc) b), .inl _] (by kernel_rfl) (by kernel_rfl) ?main2
          case main2 =>
            refine wpPartsN_det rfl (by rfl) (fun W hE hN => ?_) ?_
            · go_simp; refine ⟨Below.refl _ _, ?_⟩; rfl
            simp only [Act.put, List.setIfInBounds_toArray, List.set_cons_zero, List.set_cons_succ]
            refine wpPartsN_det rfl (by rfl) (fun W hE hN => ?_) ?_
            · have q5 := (HQ5.out.onlyS hE HA5.out).cells; have q7 := (HQ7.out.onlyS hE HA7.out).cells; go_simp; refine ⟨Below.refl _ _, ?_⟩; rfl
            simp only [Act.put, List.setIfInBounds_toArray, List.set_cons_zero, List.set_cons_succ]
            refine wpPartsN_det rfl (by rfl) (fun W hE hN => ?_) ?_
            · go_simp; refine ⟨Below.refl _ _, ?_⟩; rfl
            simp only [Act.put, List.setIfInBounds_toArray, List.set_cons_zero, List.set_cons_succ]
            refine wpPartsN_det rfl (by rfl) (fun W hE hN => ?_) ?_
            · have q5 := (HQ5.out.onlyS hE HA5.out).cells; have q7 := (HQ7.out.onlyS hE HA7.out).cells; go_simp; refine ⟨Below.refl _ _, ?_⟩; rfl
            simp only [Act.put, List.setIfInBounds_toArray, List.set_cons_zero, List.set_cons_succ]
            refine wpPartsN_any rfl rfl (SlOwn.only HLTK.out) (by rfl) (fun W hE hN => ?_) (fun u4 => ?_)
            · go_simp; exact ⟨(by repeat (first | (with_reducible exact Below.refl _ _) | (with_reducible exact Below.refl _ _) | (with_reducible refine Below.setCell ?_ (by first | omega | (simp; done) | (simp; omega)) _) | (with_reducible refine Below.alloc ?_ (by first | omega | (simp; done) | (simp; omega)) _) | (with_reducible refine Below.drew ?_) | (with_reducible refine below_drewN ?_ _))), _, rfl, hE.size, Blk.new _ _ _⟩
            simp only [Act.put, List.setIfInBounds_toArray, List.set_cons_zero, List.set_cons_succ]
            refine wpPartsN_writes (K := OnlyS (OwnW (.slice qk 0 qc))) (L := OnlyS (OwnW (.slice kk 0 kc))) rfl rfl rfl (fun v W W' h hb => ⟨ownsRow_onlyS h.1 hb h.2, h.2⟩) (by rfl) (fun W hE hN => ?_) (fun u5 => ?_)
            · obtain ⟨⟨h4, rfl, _, hB4⟩, _⟩ := (show SlOwn W2.heap.size 1 [.string p.key] 9 u4 W ∧ True from hN); exact givesK_own2 (v := .slice qk 0 qc) (n := 0) (m := 1) rfl Tryd.underlying37 HI0.out.1 HI0.out.2.1 HI0.out.2.2.1 HI0.out.2.2.2 rfl (by decide) rfl rfl (ownsRow_onlyS HOB2.out.keys hE (own_not2 HOB2.out.kids HOB2.out.keys (show 9 ≠ 39 by decide))) rfl (fun j u hj => by rw [Addr.add_mid, Nat.zero_add, hB4.cells j, hj]) (by simp [Value.oneCell']) (by have := HKN.out; unfold maxLen; omega) (by have := HKN.out; omega) (by have := hE.size; omega) (.slice kk 0 kc) (own_not2 HOB2.out.kids HOB2.out.keys (show 9 ≠ 39 by decide)) (fun b hb => by have := (HOB2.out.kids.lt b hb).2; have := hE.size; omega)
            simp only [Act.put, List.setIfInBounds_toArray, List.set_cons_zero, List.set_cons_succ]
            refine wpPartsN_det rfl (by rfl) (fun W hE hN => ?_) ?_
            · go_simp; refine ⟨Below.refl _ _, ?_⟩; rfl
            simp only [Act.put, List.setIfInBounds_toArray, List.set_cons_zero, List.set_cons_succ]
            refine wpPartsN_det rfl (by rfl) (fun W hE hN => ?_) ?_
            · have q5 := (HQ5.out.onlyS hE HA5.out).cells; have q7 := (HQ7.out.onlyS hE HA7.out).cells; go_simp; refine ⟨Below.refl _ _, ?_⟩; rfl
            simp only [Act.put, List.setIfInBounds_toArray, List.set_cons_zero, List.set_cons_succ]
            refine wpPartsN_det rfl (by rfl) (fun W hE hN => ?_) ?_
            · go_simp; refine ⟨Below.refl _ _, ?_⟩; rfl
            simp only [Act.put, List.setIfInBounds_toArray, List.set_cons_zero, List.set_cons_succ]
            refine wpPartsN_det rfl (by rfl) (fun W hE hN => ?_) ?_
            · have q5 := (HQ5.out.onlyS hE HA5.out).cells; have q7 := (HQ7.out.onlyS hE HA7.out).cells; go_simp; refine ⟨Below.refl _ _, ?_⟩; rfl
            simp only [Act.put, List.setIfInBounds_toArray, List.set_cons_zero, List.set_cons_succ]
            refine wpPartsN_any rfl rfl (SlOwn.only HLTK.out) (by rfl) (fun W hE hN => ?_) (fun u10 => ?_)
            · go_simp; exact ⟨(by repeat (first | (with_reducible exact Below.refl _ _) | (with_reducible exact Below.refl _ _) | (with_reducible refine Below.setCell ?_ (by first | omega | (simp; done) | (simp; omega)) _) | (with_reducible refine Below.alloc ?_ (by first | omega | (simp; done) | (simp; omega)) _) | (with_reducible refine Below.drew ?_) | (with_reducible refine below_drewN ?_ _))), _, rfl, hE.size, Blk.new _ _ _⟩
            simp only [Act.put, List.setIfInBounds_toArray, List.set_cons_zero, List.set_cons_succ]
            refine wpPartsN_writes (K := OnlyS (OwnW (.slice kk 0 kc))) (L := OnlyS (OwnW (.slice qk 0 qc))) rfl rfl rfl (fun v W W' h hb => ⟨ownsRow_onlyS h.1 hb h.2, h.2⟩) (by rfl) (fun W hE hN => ?_) (fun u11 => ?_)
            · obtain ⟨⟨h10, rfl, _, hB10⟩, _⟩ := (show SlOwn W2.heap.size 1 p.vcells 39 u10 W ∧ True from hN); exact givesK_own2 (v := .slice kk 0 kc) (n := 0) (m := 1) rfl Tryd.underlying36 HI1.out.1 HI1.out.2.1 HI1.out.2.2.1 HI1.out.2.2.2 rfl (by decide) rfl rfl (ownsRow_onlyS HOB2.out.kids hE (own_not2 HOB2.out.keys HOB2.out.kids (show 39 ≠ 9 by decide))) rfl (fun j u hj => by rw [Addr.add_mid, Nat.zero_add, hB10.cells j, hj]) (by simp [PairE.vcells, Value.oneCell']) (by have := HKN.out; unfold maxLen; omega) (by have := HKN.out; omega) (by have := hE.size; omega) (.slice qk 0 qc) (own_not2 HOB2.out.keys HOB2.out.kids (show 39 ≠ 9 by decide)) (fun b hb => by have := (HOB2.out.keys.lt b hb).2; have := hE.size; omega)
            simp only [Act.put, List.setIfInBounds_toArray, List.set_cons_zero, List.set_cons_succ]
            refine wpPartsN_det rfl (by rfl) (fun W hE hN => ?_) ?_
            · go_simp; refine ⟨Below.refl _ _, ?_⟩; rfl
            simp only [Act.put, List.setIfInBounds_toArray, List.set_cons_zero, List.set_cons_succ]
            refine wpPartsN_end fun W3 hE3 hG3 => ?_
            obtain ⟨⟨hki, _⟩, _, ⟨hke, _⟩, _⟩ := (show (W3.ownsRow (w2.heap.size + 1) 39 5 u11 (0 + 1) (kidsL m 0 ++ p.vcells) ∧ _) ∧ _ ∧ (W3.ownsRow (w2.heap.size + 1) 9 1 u5 (0 + 1) (keysL m 0 ++ [.string p.key]) ∧ _) ∧ _ from hG3)
            obtain ⟨qa, qc', rfl⟩ := own_sliceW hke
            obtain ⟨ka, kc', rfl⟩ := own_sliceW hki
            have HZ5 := Lib.hid (HOB2.out.zero.onlyS hE3 (fun h => by
              rcases h with h | h
              · have := own_high HOB2.out.keys h; have := HB2.out.size; omega
              · have := own_high HOB2.out.kids h; have := HB2.out.size; omega))
            have hbx5 := HOB2.out.box.onlyS hE3 HA5.out
            have HX5 := Lib.hid hbx5
            have HR5 := Lib.hid (HOB2.out.row.onlyS hE3 (fun g cs hg h => by
              rcases h with h | h
              · exact own_apart HOB2.out.keys hg (show 56 ≠ 9 by decide) h
              · exact own_apart HOB2.out.kids hg (show 56 ≠ 39 by decide) h))
            have HKI5 := Lib.hid hki
            have HKE5 := Lib.hid hke
            have hsz5 := hE3.size
            have HBEL5 := Lib.hid (HBEL2.out.trans (hE3.below HBEL2.out.size (fun b hb => by
              rcases hb with h | h
              · have := own_high HOB2.out.keys h; have := HB2.out.size; omega
              · have := own_high HOB2.out.kids h; have := HB2.out.size; omega)))
            have q5 := hbx5.cells
            have m5 := hbx5.marks
            have l5 := hbx5.lt
            clear hE3 hG3 hki hke hbx5
            go_wp2_with fail
            go_roundw
            case rel =>
              have ho6 := ((OnlyS.refl (· = w2.heap.size) W3).set w2.heap.size 4 (.slice qa (0 + 1) qc') rfl).set w2.heap.size 3 (.slice ka (0 + 1) kc') rfl
              refine ⟨0 + 1, ka, kc', qa, qc', by omega, by go_num, ⟨HZ5.out.onlyS ho6 (by have := HB2.out.size; have := HZ2.out.lt; omega), (HX5.out.set 4 _).set 3 _, HR5.out.onlyS ho6 (fun g cs hg e => by
                subst e
                have h1 : W3.heap[w2.heap.size]? = _ := hg
                rw [show W3.heap[w2.heap.size]? = _ from HX5.out] at h1
                cases h1), ?_, ?_⟩, HNDS.out, HBEL5.out.trans (ho6.below HBEL5.out.size (fun b hb => by have := HB2.out.size; omega)), by simp; omega⟩
              · rw [kidsL_succ HP.out]
                exact ownsRow_onlyS HKI5.out ho6 (fun b hb e => by have := own_high HKI5.out hb; omega)
              · rw [keysL_succ HP.out]
                exact ownsRow_onlyS HKE5.out ho6 (fun b hb e => by have := own_high HKE5.out hb; omega)
            case measure => simp [intOf]; omega
      · obtain ⟨q, hq⟩ : ∃ q, q + 1 = k := ⟨k - 1, by omega⟩
        have gd : decide ((0 : Int) < (k : Int)) = true := decide_eq_true (by omega)
        have gd2 : (0 : Int) < (k : Int) := by omega
        have gd3 : decide (0 < k) = true := decide_eq_true (by omega)
        have gd4 : 0 < k := by omega
        have u3 : IntKind.i64.wrap ((k : Int) - 1) = (q : Int) := by have := HSM.out; rw [IntWalk.i64_in _ (by omega)]; omega
        have gq : (q : Int) < (n : Int) := by omega
        obtain ⟨y, hy⟩ : ∃ y, m[q]? = some y := ⟨_, List.getElem?_eq_getElem (by have := HML.out; omega)⟩
        obtain ⟨y0, y1, y2, y3, y4, y5⟩ := HPA.out.get hy
        have HY := Lib.hid hy
        have HQ := Lib.hid hq
        obtain ⟨eq, heq⟩ : ∃ b, (y.key.toList == p.key.toList) = b := ⟨_, rfl⟩
        have HEQ := Lib.hid heq
        clear hy hq y1 y2 y3 y4 y5
        cases eq with
        | false =>
          go_wp2_with fail
          refine' wp_region_seq [.inl _, .inl _, .inl _, .inl _, .inl _, .inl _, .inl _, .inl _, .inl _, .inl _, .inl _, .inl _, .inl _] (by kernel_rfl) (by kernel_rfl) ?main3
          case main3 =>
            refine wpParts_det (by rfl) (fun W hE hN => ?_) ?_
            · go_simp; refine ⟨Below.refl _ _, ?_⟩; rfl
            simp only [Act.put, List.setIfInBounds_toArray, List.set_cons_zero, List.set_cons_succ]
            refine wpParts_det (by rfl) (fun W hE hN => ?_) ?_
            · go_simp; refine ⟨Below.refl _ _, ?_⟩; rfl
            simp only [Act.put, List.setIfInBounds_toArray, List.set_cons_zero, List.set_cons_succ]
            refine wpParts_det (by rfl) (fun W hE hN => ?_) ?_
            · go_simp; refine ⟨Below.refl _ _, ?_⟩; rfl
            simp only [Act.put, List.setIfInBounds_toArray, List.set_cons_zero, List.set_cons_succ]
            refine wpParts_det (by rfl) (fun W hE hN => ?_) ?_
            · go_simp; refine ⟨Below.refl _ _, ?_⟩; rfl
            simp only [Act.put, List.setIfInBounds_toArray, List.set_cons_zero, List.set_cons_succ]
            refine wpParts_det (by rfl) (fun W hE hN => ?_) ?_
            · go_simp; refine ⟨Below.refl _ _, ?_⟩; rfl
            simp only [Act.put, List.setIfInBounds_toArray, List.set_cons_zero, List.set_cons_succ]
            refine wpParts_det (by rfl) (fun W hE hN => ?_) ?_
            · go_simp; refine ⟨Below.refl _ _, ?_⟩; rfl
            simp only [Act.put, List.setIfInBounds_toArray, List.set_cons_zero, List.set_cons_succ]
            refine wpParts_det (by rfl) (fun W hE hN => ?_) ?_
            · go_simp; refine ⟨Below.refl _ _, ?_⟩; rfl
            simp only [Act.put, List.setIfInBounds_toArray, List.set_cons_zero, List.set_cons_succ]
            refine wpParts_det (by rfl) (fun W hE hN => ?_) ?_
            · go_simp; refine ⟨Below.refl _ _, ?_⟩; rfl
            simp only [Act.put, List.setIfInBounds_toArray, List.set_cons_zero, List.set_cons_succ]
            refine wpParts_det (by rfl) (fun W hE hN => ?_) ?_
            · have hc := fun b o h => hE.cell (p := ⟨b, o, none⟩) h
              go_simp; refine ⟨Below.refl _ _, ?_⟩; rfl
            simp only [Act.put, List.setIfInBounds_toArray, List.set_cons_zero, List.set_cons_succ]
            refine wpParts_det (by rfl) (fun W hE hN => ?_) ?_
            · go_simp; refine ⟨Below.refl _ _, ?_⟩; rfl
            simp only [Act.put, List.setIfInBounds_toArray, List.set_cons_zero, List.set_cons_succ]
            refine wpParts_det (by rfl) (fun W hE hN => ?_) ?_
            · have hc := fun b o h => hE.cell (p := ⟨b, o, none⟩) h
              go_simp; refine ⟨Below.refl _ _, ?_⟩; rfl
            simp only [Act.put, List.setIfInBounds_toArray, List.set_cons_zero, List.set_cons_succ]
            refine wpParts_det (by rfl) (fun W hE hN => ?_) ?_
            · go_simp; refine ⟨Below.refl _ _, ?_⟩; rfl
            simp only [Act.put, List.setIfInBounds_toArray, List.set_cons_zero, List.set_cons_succ]
            refine wpParts_det (by rfl) (fun W hE hN => ?_) ?_
            · go_simp; refine ⟨Below.refl _ _, ?_⟩; rfl
            simp only [Act.put, List.setIfInBounds_toArray, List.set_cons_zero, List.set_cons_succ]
            refine wpParts_end fun W2 hE2 hG2 => ?_
            have hcW2 := fun b o h => hE2.cell (p := ⟨b, o, none⟩) h
            have hfW2 := fun b o h => hE2.frozen (p := ⟨b, o, none⟩) h
            clear heq
            have HNDS := Lib.hid (show noDup m (k + 1) from fun i x y' h hx hy' => by
              by_cases hi : i + 1 = k
              · obtain rfl : i = q := by have := HQ.out; omega
                rw [HY.out] at hx; cases hx
                rw [hi, HP.out] at hy'; cases hy'
                exact HEQ.out
              · exact HND.out i x y' (by omega) hx hy')
            have hob2 := HOB4.out.ext hE2
            have hb7 := HB7.out.ext hE2
            have HBEL2 := Lib.hid (HBEL4.out.trans (hE2.mono HBEL4.out.size))
            have hA5 : ¬ OwnTwo (.slice qk k qc) (.slice kk k kc) w2.heap.size := fun h => by
              rcases h with h | h
              · have := own_high hob2.keys h; omega
              · have := own_high hob2.kids h; omega
            have hA7 : ¬ OwnTwo (.slice qk k qc) (.slice kk k kc) wr.heap.size := fun h => by
              rcases h with h | h
              · exact own_apart hob2.keys hb7 (show 56 ≠ 9 by decide) h
              · exact own_apart hob2.kids hb7 (show 56 ≠ 39 by decide) h
            have HA5 := Lib.hid hA5
            have HA7 := Lib.hid hA7
            have HQ5 := Lib.hid hob2.box
            have HQ7 := Lib.hid hb7
            have HOB2 := Lib.hid hob2
            have q5 := hob2.box.cells
            have l5 := hob2.box.lt
            have q7 := hb7.cells
            have l7 := hb7.lt
            have HLTK := Lib.hid (show ∀ b, OwnTwo (.slice qk k qc) (.slice kk k kc) b → b < W2.heap.size from fun b hb => hb.elim (fun h => (hob2.keys.lt b h).2) (fun h => (hob2.kids.lt b h).2))
            have hsz2 : w2.heap.size + 1 ≤ W2.heap.size := by have := hE2.size; simp at this; omega
            obtain ⟨i0, hi0, hz0, hz1, hz2⟩ := info_parts Tryd_infoString
            obtain ⟨i1, hj0, hy0, hy1, hy2⟩ := info_parts Tryd_infoValue
            have HI0 := Lib.hid (And.intro hi0 (And.intro hz0 (And.intro hz1 hz2)))
            have HI1 := Lib.hid (And.intro hj0 (And.intro hy0 (And.intro hy1 hy2)))
            have HKN := Lib.hid (show k + 1 ≤ 1000000 by omega)
            clear hE2 hcW2 hfW2 hob2 hb7 hi0 hz0 hz1 hz2 hj0 hy0 hy1 hy2 lg hA5 hA7
            try clear x0 x1 x2 x3 x4 x5
            try clear y0
            go_wp2_with fail
            refine' wp_region_seqN (fam2 5 11 (by decide) (goes_onlyW (OwnTwo (.slice qk k qc) (.slice kk k kc))) (goes_onlyW (OwnW (.slice qk k qc))) (goes_onlyW (OwnW (.slice kk k kc))) (fun _ _ h => h.wide fun b => .inl) (fun _ _ h => h.wide fun b => .inr)) [.inl _, .inl _, .inl _, .inl _, .inr (SlOwn W2.heap.size 1 [.string p.key] 9), .inr (fun v W => W.ownsRow (w2.heap.size + 1) 9 1 v (k + 1) (keysL m k ++ [.string p.key]) ∧ ∀ b, v.ownBlock = some b → ¬ OwnW (.slice kk k kc) b), .inl _, .inl _, .inl _, .inl _, .inr (SlOwn W2.heap.size 1 p.vcells 39), .inr (fun v W => W.ownsRow (w2.heap.size + 1) 39 5 v (k + 1) (kidsL m k ++ p.vcells) ∧ ∀ b, v.ownBlock = some b → ¬ OwnW (.slice qk k qc) b), .inl _] (by kernel_rfl) (by kernel_rfl) ?main4
            case main4 =>
              refine wpPartsN_det rfl (by rfl) (fun W hE hN => ?_) ?_
              · go_simp; refine ⟨Below.refl _ _, ?_⟩; rfl
              simp only [Act.put, List.setIfInBounds_toArray, List.set_cons_zero, List.set_cons_succ]
              refine wpPartsN_det rfl (by rfl) (fun W hE hN => ?_) ?_
              · have q5 := (HQ5.out.onlyS hE HA5.out).cells; have q7 := (HQ7.out.onlyS hE HA7.out).cells; go_simp; refine ⟨Below.refl _ _, ?_⟩; rfl
              simp only [Act.put, List.setIfInBounds_toArray, List.set_cons_zero, List.set_cons_succ]
              refine wpPartsN_det rfl (by rfl) (fun W hE hN => ?_) ?_
              · go_simp; refine ⟨Below.refl _ _, ?_⟩; rfl
              simp only [Act.put, List.setIfInBounds_toArray, List.set_cons_zero, List.set_cons_succ]
              refine wpPartsN_det rfl (by rfl) (fun W hE hN => ?_) ?_
              · have q5 := (HQ5.out.onlyS hE HA5.out).cells; have q7 := (HQ7.out.onlyS hE HA7.out).cells; go_simp; refine ⟨Below.refl _ _, ?_⟩; rfl
              simp only [Act.put, List.setIfInBounds_toArray, List.set_cons_zero, List.set_cons_succ]
              refine wpPartsN_any rfl rfl (SlOwn.only HLTK.out) (by rfl) (fun W hE hN => ?_) (fun u4 => ?_)
              · go_simp; exact ⟨(by repeat (first | (with_reducible exact Below.refl _ _) | (with_reducible exact Below.refl _ _) | (with_reducible refine Below.setCell ?_ (by first | omega | (simp; done) | (simp; omega)) _) | (with_reducible refine Below.alloc ?_ (by first | omega | (simp; done) | (simp; omega)) _) | (with_reducible refine Below.drew ?_) | (with_reducible refine below_drewN ?_ _))), _, rfl, hE.size, Blk.new _ _ _⟩
              simp only [Act.put, List.setIfInBounds_toArray, List.set_cons_zero, List.set_cons_succ]
              refine wpPartsN_writes (K := OnlyS (OwnW (.slice qk k qc))) (L := OnlyS (OwnW (.slice kk k kc))) rfl rfl rfl (fun v W W' h hb => ⟨ownsRow_onlyS h.1 hb h.2, h.2⟩) (by rfl) (fun W hE hN => ?_) (fun u5 => ?_)
              · obtain ⟨⟨h4, rfl, _, hB4⟩, _⟩ := (show SlOwn W2.heap.size 1 [.string p.key] 9 u4 W ∧ True from hN); exact givesK_own2 (v := .slice qk k qc) (n := k) (m := 1) rfl Tryd.underlying37 HI0.out.1 HI0.out.2.1 HI0.out.2.2.1 HI0.out.2.2.2 rfl (by decide) rfl rfl (ownsRow_onlyS HOB2.out.keys hE (own_not2 HOB2.out.kids HOB2.out.keys (show 9 ≠ 39 by decide))) rfl (fun j u hj => by rw [Addr.add_mid, Nat.zero_add, hB4.cells j, hj]) (by simp [Value.oneCell']) (by have := HKN.out; unfold maxLen; omega) (by have := HKN.out; omega) (by have := hE.size; omega) (.slice kk k kc) (own_not2 HOB2.out.kids HOB2.out.keys (show 9 ≠ 39 by decide)) (fun b hb => by have := (HOB2.out.kids.lt b hb).2; have := hE.size; omega)
              simp only [Act.put, List.setIfInBounds_toArray, List.set_cons_zero, List.set_cons_succ]
              refine wpPartsN_det rfl (by rfl) (fun W hE hN => ?_) ?_
              · go_simp; refine ⟨Below.refl _ _, ?_⟩; rfl
              simp only [Act.put, List.setIfInBounds_toArray, List.set_cons_zero, List.set_cons_succ]
              refine wpPartsN_det rfl (by rfl) (fun W hE hN => ?_) ?_
              · have q5 := (HQ5.out.onlyS hE HA5.out).cells; have q7 := (HQ7.out.onlyS hE HA7.out).cells; go_simp; refine ⟨Below.refl _ _, ?_⟩; rfl
              simp only [Act.put, List.setIfInBounds_toArray, List.set_cons_zero, List.set_cons_succ]
              refine wpPartsN_det rfl (by rfl) (fun W hE hN => ?_) ?_
              · go_simp; refine ⟨Below.refl _ _, ?_⟩; rfl
              simp only [Act.put, List.setIfInBounds_toArray, List.set_cons_zero, List.set_cons_succ]
              refine wpPartsN_det rfl (by rfl) (fun W hE hN => ?_) ?_
              · have q5 := (HQ5.out.onlyS hE HA5.out).cells; have q7 := (HQ7.out.onlyS hE HA7.out).cells; go_simp; refine ⟨Below.refl _ _, ?_⟩; rfl
              simp only [Act.put, List.setIfInBounds_toArray, List.set_cons_zero, List.set_cons_succ]
              refine wpPartsN_any rfl rfl (SlOwn.only HLTK.out) (by rfl) (fun W hE hN => ?_) (fun u10 => ?_)
              · go_simp; exact ⟨(by repeat (first | (with_reducible exact Below.refl _ _) | (with_reducible exact Below.refl _ _) | (with_reducible refine Below.setCell ?_ (by first | omega | (simp; done) | (simp; omega)) _) | (with_reducible refine Below.alloc ?_ (by first | omega | (simp; done) | (simp; omega)) _) | (with_reducible refine Below.drew ?_) | (with_reducible refine below_drewN ?_ _))), _, rfl, hE.size, Blk.new _ _ _⟩
              simp only [Act.put, List.setIfInBounds_toArray, List.set_cons_zero, List.set_cons_succ]
              refine wpPartsN_writes (K := OnlyS (OwnW (.slice kk k kc))) (L := OnlyS (OwnW (.slice qk k qc))) rfl rfl rfl (fun v W W' h hb => ⟨ownsRow_onlyS h.1 hb h.2, h.2⟩) (by rfl) (fun W hE hN => ?_) (fun u11 => ?_)
              · obtain ⟨⟨h10, rfl, _, hB10⟩, _⟩ := (show SlOwn W2.heap.size 1 p.vcells 39 u10 W ∧ True from hN); exact givesK_own2 (v := .slice kk k kc) (n := k) (m := 1) rfl Tryd.underlying36 HI1.out.1 HI1.out.2.1 HI1.out.2.2.1 HI1.out.2.2.2 rfl (by decide) rfl rfl (ownsRow_onlyS HOB2.out.kids hE (own_not2 HOB2.out.keys HOB2.out.kids (show 39 ≠ 9 by decide))) rfl (fun j u hj => by rw [Addr.add_mid, Nat.zero_add, hB10.cells j, hj]) (by simp [PairE.vcells, Value.oneCell']) (by have := HKN.out; unfold maxLen; omega) (by have := HKN.out; omega) (by have := hE.size; omega) (.slice qk k qc) (own_not2 HOB2.out.keys HOB2.out.kids (show 39 ≠ 9 by decide)) (fun b hb => by have := (HOB2.out.keys.lt b hb).2; have := hE.size; omega)
              simp only [Act.put, List.setIfInBounds_toArray, List.set_cons_zero, List.set_cons_succ]
              refine wpPartsN_det rfl (by rfl) (fun W hE hN => ?_) ?_
              · go_simp; refine ⟨Below.refl _ _, ?_⟩; rfl
              simp only [Act.put, List.setIfInBounds_toArray, List.set_cons_zero, List.set_cons_succ]
              refine wpPartsN_end fun W3 hE3 hG3 => ?_
              obtain ⟨⟨hki, _⟩, _, ⟨hke, _⟩, _⟩ := (show (W3.ownsRow (w2.heap.size + 1) 39 5 u11 (k + 1) (kidsL m k ++ p.vcells) ∧ _) ∧ _ ∧ (W3.ownsRow (w2.heap.size + 1) 9 1 u5 (k + 1) (keysL m k ++ [.string p.key]) ∧ _) ∧ _ from hG3)
              obtain ⟨qa, qc', rfl⟩ := own_sliceW hke
              obtain ⟨ka, kc', rfl⟩ := own_sliceW hki
              have HZ5 := Lib.hid (HOB2.out.zero.onlyS hE3 (fun h => by
                rcases h with h | h
                · have := own_high HOB2.out.keys h; have := HB2.out.size; omega
                · have := own_high HOB2.out.kids h; have := HB2.out.size; omega))
              have hbx5 := HOB2.out.box.onlyS hE3 HA5.out
              have HX5 := Lib.hid hbx5
              have HR5 := Lib.hid (HOB2.out.row.onlyS hE3 (fun g cs hg h => by
                rcases h with h | h
                · exact own_apart HOB2.out.keys hg (show 56 ≠ 9 by decide) h
                · exact own_apart HOB2.out.kids hg (show 56 ≠ 39 by decide) h))
              have HKI5 := Lib.hid hki
              have HKE5 := Lib.hid hke
              have hsz5 := hE3.size
              have HBEL5 := Lib.hid (HBEL2.out.trans (hE3.below HBEL2.out.size (fun b hb => by
                rcases hb with h | h
                · have := own_high HOB2.out.keys h; have := HB2.out.size; omega
                · have := own_high HOB2.out.kids h; have := HB2.out.size; omega)))
              have q5 := hbx5.cells
              have m5 := hbx5.marks
              have l5 := hbx5.lt
              clear hE3 hG3 hki hke hbx5
              go_wp2_with fail
              go_roundw
              case rel =>
                have ho6 := ((OnlyS.refl (· = w2.heap.size) W3).set w2.heap.size 4 (.slice qa (k + 1) qc') rfl).set w2.heap.size 3 (.slice ka (k + 1) kc') rfl
                refine ⟨k + 1, ka, kc', qa, qc', by omega, by go_num, ⟨HZ5.out.onlyS ho6 (by have := HB2.out.size; have := HZ2.out.lt; omega), (HX5.out.set 4 _).set 3 _, HR5.out.onlyS ho6 (fun g cs hg e => by
                  subst e
                  have h1 : W3.heap[w2.heap.size]? = _ := hg
                  rw [show W3.heap[w2.heap.size]? = _ from HX5.out] at h1
                  cases h1), ?_, ?_⟩, HNDS.out, HBEL5.out.trans (ho6.below HBEL5.out.size (fun b hb => by have := HB2.out.size; omega)), by simp; omega⟩
                · rw [kidsL_succ HP.out]
                  exact ownsRow_onlyS HKI5.out ho6 (fun b hb e => by have := own_high HKI5.out hb; omega)
                · rw [keysL_succ HP.out]
                  exact ownsRow_onlyS HKE5.out ho6 (fun b hb e => by have := own_high HKE5.out hb; omega)
              case measure => simp [intOf]; omega
        | true =>
          go_wp2_with fail
          refine' wp_region_seq [.inl _, .inl _, .inl _, .inl _, .inl _, .inl _, .inl _, .inl _, .inl _, .inl _, .inl _, .inl _, .inl _] (by kernel_rfl) (by kernel_rfl) ?main5
          case main5 =>
            refine wpParts_det (by rfl) (fun W hE hN => ?_) ?_
            · go_simp; refine ⟨Below.refl _ _, ?_⟩; rfl
            simp only [Act.put, List.setIfInBounds_toArray, List.set_cons_zero, List.set_cons_succ]
            refine wpParts_det (by rfl) (fun W hE hN => ?_) ?_
            · go_simp; refine ⟨Below.refl _ _, ?_⟩; rfl
            simp only [Act.put, List.setIfInBounds_toArray, List.set_cons_zero, List.set_cons_succ]
            refine wpParts_det (by rfl) (fun W hE hN => ?_) ?_
            · go_simp; refine ⟨Below.refl _ _, ?_⟩; rfl
            simp only [Act.put, List.setIfInBounds_toArray, List.set_cons_zero, List.set_cons_succ]
            refine wpParts_det (by rfl) (fun W hE hN => ?_) ?_
            · go_simp; refine ⟨Below.refl _ _, ?_⟩; rfl
            simp only [Act.put, List.setIfInBounds_toArray, List.set_cons_zero, List.set_cons_succ]
            refine wpParts_det (by rfl) (fun W hE hN => ?_) ?_
            · go_simp; refine ⟨Below.refl _ _, ?_⟩; rfl
            simp only [Act.put, List.setIfInBounds_toArray, List.set_cons_zero, List.set_cons_succ]
            refine wpParts_det (by rfl) (fun W hE hN => ?_) ?_
            · go_simp; refine ⟨Below.refl _ _, ?_⟩; rfl
            simp only [Act.put, List.setIfInBounds_toArray, List.set_cons_zero, List.set_cons_succ]
            refine wpParts_det (by rfl) (fun W hE hN => ?_) ?_
            · go_simp; refine ⟨Below.refl _ _, ?_⟩; rfl
            simp only [Act.put, List.setIfInBounds_toArray, List.set_cons_zero, List.set_cons_succ]
            refine wpParts_det (by rfl) (fun W hE hN => ?_) ?_
            · go_simp; refine ⟨Below.refl _ _, ?_⟩; rfl
            simp only [Act.put, List.setIfInBounds_toArray, List.set_cons_zero, List.set_cons_succ]
            refine wpParts_det (by rfl) (fun W hE hN => ?_) ?_
            · have hc := fun b o h => hE.cell (p := ⟨b, o, none⟩) h
              go_simp; refine ⟨Below.refl _ _, ?_⟩; rfl
            simp only [Act.put, List.setIfInBounds_toArray, List.set_cons_zero, List.set_cons_succ]
            refine wpParts_det (by rfl) (fun W hE hN => ?_) ?_
            · go_simp; refine ⟨Below.refl _ _, ?_⟩; rfl
            simp only [Act.put, List.setIfInBounds_toArray, List.set_cons_zero, List.set_cons_succ]
            refine wpParts_det (by rfl) (fun W hE hN => ?_) ?_
            · have hc := fun b o h => hE.cell (p := ⟨b, o, none⟩) h
              go_simp; refine ⟨Below.refl _ _, ?_⟩; rfl
            simp only [Act.put, List.setIfInBounds_toArray, List.set_cons_zero, List.set_cons_succ]
            refine wpParts_det (by rfl) (fun W hE hN => ?_) ?_
            · go_simp; refine ⟨Below.refl _ _, ?_⟩; rfl
            simp only [Act.put, List.setIfInBounds_toArray, List.set_cons_zero, List.set_cons_succ]
            refine wpParts_det (by rfl) (fun W hE hN => ?_) ?_
            · go_simp; refine ⟨Below.refl _ _, ?_⟩; rfl
            simp only [Act.put, List.setIfInBounds_toArray, List.set_cons_zero, List.set_cons_succ]
            refine wpParts_end fun W2 hE2 hG2 => ?_
            have hcW2 := fun b o h => hE2.cell (p := ⟨b, o, none⟩) h
            have hfW2 := fun b o h => hE2.frozen (p := ⟨b, o, none⟩) h
            clear heq
            have hz2 := HOB4.out.zero.ext hE2
            have q2 := hz2.cells
            unfold zeroL at q2
            have m2 := hz2.marks
            have l2 := hz2.lt
            have HZ5 := Lib.hid hz2
            have HBEL2 := Lib.hid (HBEL4.out.trans (hE2.mono HBEL4.out.size))
            clear hz2 hE2 hcW2 hfW2 lg x0 x1 x2 x3 x4 x5 y0
            go_wp2
            have c4 := (HZ5.out.fiveV (.int .i64 0) (.int .i64 0) (.string ⟨#[]⟩) (.slice none 0 0) (.slice none 0 0)).cells
            refine bodyPost_ret (v := .tuple #[.agg zeroL.toArray, .int .i64 141]) (by simp [results, Tryd.results23, go_sem, c4, zeroL]) rfl ⟨⟨m, HML.out, HMP.out, HMS.out, .inl ⟨⟨q, y, p, HY.out, by rw [HQ.out]; exact HP.out, HEQ.out⟩, rfl⟩⟩, ?_⟩
            exact below_only HBEL2.out (Only.fiveV _ _ _ _ _ _ _) HBEL2.out.size (by omega)
    · obtain rfl : k = n := by omega
      have g1 : ¬ ((k : Int) < (k : Int)) := by omega
      have hv := objVal HOB.out.kids HOB.out.keys HML.out (by have := HSM.out; omega) HBEL.out HFM.out HKM.out
      have hw := Tryd_whole (d + 1) _ 6 0 ⟨#[]⟩ kk k kc qk k qc wr hv (HN.out.ext HBEL.out)
      have HV := Lib.hid hv
      have q5 := HOB.out.box.cells
      have l5 := HOB.out.box.lt
      obtain ⟨r, hr⟩ : ∃ r, rightV (d + 1) (⟨6, 0, noStr, m.map f, m.map PairE.key⟩ : ValF (ValN d)) = r := ⟨_, rfl⟩
      rw [hr] at hw
      have HR := Lib.hid hr
      have HW := Lib.hid hw
      clear hv hw hr
      go_wp2_with fail
      refine HW.out.mono ?_; rintro e w3 ⟨rfl, hb3⟩
      have hz2 := HOB.out.zero.ext hb3
      have q2 := hz2.cells
      unfold zeroL at q2
      have m2 := hz2.marks
      have l2 := hz2.lt
      have HZ5 := Lib.hid hz2
      have HKI3 := Lib.hid (ownsRow_below HOB.out.kids hb3)
      have HKE3 := Lib.hid (ownsRow_below HOB.out.keys hb3)
      have HBEL3 := Lib.hid (HBEL.out.trans (hb3.mono HBEL.out.size))
      clear hz2 hb3 q5 l5 HV HW
      cases r with
      | true =>
        rw [show ∀ v, wholeV true v = .tuple #[v, .int .i64 0] from fun v => rfl]
        go_wp2
        have c4 := (HZ5.out.fiveV (.int .i64 6) (.int .i64 0) (.string ⟨#[]⟩) (.slice kk k kc) (.slice qk k qc)).cells
        refine bodyPost_ret (v := .tuple #[.agg #[.int .i64 6, .int .i64 0, .string ⟨#[]⟩, .slice kk k kc, .slice qk k qc], .int .i64 0]) (by simp [results, Tryd.results23, go_sem, c4, zeroL]) rfl ⟨⟨m, HML.out, HMP.out, HMS.out, .inr ⟨HND.out, _, objVal (ownsRow_onlyS HKI3.out (OnlyS.fiveS w3 w.heap.size _ _ _ _ _) (fun b hb e => by have := own_high HKI3.out hb; have := HB2.out.size; omega)) (ownsRow_onlyS HKE3.out (OnlyS.fiveS w3 w.heap.size _ _ _ _ _) (fun b hb e => by have := own_high HKE3.out hb; have := HB2.out.size; omega)) HML.out (by have := HSM.out; omega) ((OnlyS.fiveS w3 w.heap.size _ _ _ _ _).below_ HBEL3.out) HFM.out HKM.out, ?_⟩⟩, ?_⟩
        · rw [HR.out]; rfl
        exact below_only HBEL3.out (Only.fiveV _ _ _ _ _ _ _) HBEL3.out.size (by omega)
      | false =>
        rw [show ∀ v, wholeV false v = .tuple #[.agg #[.int .i64 0, .int .i64 0, .string ⟨#[]⟩, .slice none 0 0, .slice none 0 0], .int .i64 140] from fun v => rfl]
        go_wp2
        have c4 := (HZ5.out.fiveV (.int .i64 0) (.int .i64 0) (.string ⟨#[]⟩) (.slice none 0 0) (.slice none 0 0)).cells
        refine bodyPost_ret (v := .tuple #[.agg zeroL.toArray, .int .i64 140]) (by simp [results, Tryd.results23, go_sem, c4, zeroL]) rfl ⟨⟨m, HML.out, HMP.out, HMS.out, .inr ⟨HND.out, _, objVal (ownsRow_onlyS HKI3.out (OnlyS.fiveS w3 w.heap.size _ _ _ _ _) (fun b hb e => by have := own_high HKI3.out hb; have := HB2.out.size; omega)) (ownsRow_onlyS HKE3.out (OnlyS.fiveS w3 w.heap.size _ _ _ _ _) (fun b hb e => by have := own_high HKE3.out hb; have := HB2.out.size; omega)) HML.out (by have := HSM.out; omega) ((OnlyS.fiveS w3 w.heap.size _ _ _ _ _).below_ HBEL3.out) HFM.out HKM.out, ?_⟩⟩, ?_⟩
        · rw [HR.out]; rfl
        exact below_only HBEL3.out (Only.fiveV _ _ _ _ _ _ _) HBEL3.out.size (by omega)
end Go.Proofs.YtmcmknndhppljaaDoor
