/-
  Layer 4's answer for an object of pairs, walked: the rounds.
-/
import Derived.Test.YtmcmknndhppljaaDoorQMkB
namespace Go.Dav
set_option linter.unusedVariables false
set_option linter.unusedSimpArgs false
open Go Go.RowKit
theorem fam2_stays {ops : Array Oper} {p q : Nat} {hpq : p ≠ q} {K Kp Kq : World → World → Prop} {g : Goes K} {gp : Goes Kp} {gq : Goes Kq} {lp : ∀ W W', Kp W W' → K W W'} {lq : ∀ W W', Kq W W' → K W W'} {k : Nat} {R : Value → World → Prop}
    (h0 : ∀ v W W', R v W → Below W.heap.size W W' → R v W') (h1 : k = p ∨ Region.waitsFor .any ops k p = true ∨ ∀ v W W', R v W → Kp W W' → R v W') (h2 : k = q ∨ Region.waitsFor .any ops k q = true ∨ ∀ v W W', R v W → Kq W W' → R v W') :
    ∀ i, i ≠ k → Region.waitsFor .any ops k i = false → ∀ v W W', R v W → (fam2 p q hpq g gp gq lp lq).rel i W W' → R v W' := fun i hi hw v W W' hR hr => by
  simp only [fam2] at hr
  split at hr
  · rename_i e; subst e
    rcases h1 with h | h | h
    · exact (hi h.symm).elim
    · rw [hw] at h; cases h
    · exact h v W W' hR hr
  · split at hr
    · rename_i e; subst e
      rcases h2 with h | h | h
      · exact (hi h.symm).elim
      · rw [hw] at h; cases h
      · exact h v W W' hR hr
    · exact h0 v W W' hR hr
theorem FlatAt.ite {W : World} {x y : Option Addr} {ys : List Value} {c : Prop} [Decidable c] (h1 : c → ys = []) (h2 : ¬ c → FlatAt W y ys) : FlatAt W (if c then x else y) ys := by
  split
  · rw [h1 (by assumption)]; exact fun j u hu => by simp at hu
  · exact h2 (by assumption)
theorem FlatAt.nil (W : World) (a : Option Addr) : FlatAt W a [] := fun j u hu => by simp at hu
theorem rowN_alloc {B : Nat} {W : World} {e : TypeId} {size : Nat} {xs : List Value} (hB : B ≤ W.heap.size) (hl : xs.length = 1 * size) : RowN B e size 1 xs (.slice (some ⟨W.heap.size, 0, none⟩) 1 1) (W.alloc (.cells xs.toArray e)) :=
  ⟨⟨hl, .inr ⟨W.heap.size, 1, xs.toArray, rfl, hB, heap_alloc_new W _, Nat.le_refl _, by unfold maxLen; omega, by simpa using hl, by rw [List.take_of_length_le (by simp [hl])]⟩⟩, fun h => by cases h⟩
theorem FlatAt.onlyS {p : Nat → Prop} {W W' : World} {a : Option Addr} {n c : Nat} {xs : List Value} (h : FlatAt W a xs) (k : OnlyS p W W') (hp : ∀ g, OwnW (.slice a n c) g → ¬ p g) : FlatAt W' a xs := fun j u hu => by
  obtain ⟨b, o, rfl, h2, h3⟩ := h j u hu
  refine ⟨b, o, rfl, Nat.lt_of_lt_of_le h2 k.size, ?_⟩
  have hb := k.block b h2 (hp b rfl)
  unfold World.cell? at h3 ⊢
  rw [hb]; exact h3
theorem own_flat {base e size n c : Nat} {a : Option Addr} {xs : List Value} {W : World} (h : W.ownsRow base e size (.slice a n c) n xs) : n ≤ c ∧ c ≤ maxLen ∧ (a = none → c = 0) ∧ FlatAt W a xs := by
  obtain ⟨h1, h2, h3, h4⟩ := own_lies h
  refine ⟨h1, h2, h3, fun j u hj => ?_⟩
  obtain ⟨g, h5, h6, h7⟩ := h4 j u hj
  exact ⟨g, 0, h5, h6, by rw [Nat.zero_add]; exact h7⟩
theorem insFold_step {l m m2 : List PairE} {i : Nat} {p : PairE} (h : insFold [] l = insFold m (l.drop i)) (hp : l[i]? = some p) (hi : insOne m p = some m2) : insFold [] l = insFold m2 (l.drop (i + 1)) := by
  obtain ⟨hl, rfl⟩ := List.getElem?_eq_some_iff.1 hp
  rw [List.drop_eq_getElem_cons hl] at h
  rw [h, insFold, hi]; rfl
theorem insFold_stop {l m : List PairE} {i : Nat} {p : PairE} (h : insFold [] l = insFold m (l.drop i)) (hp : l[i]? = some p) (hi : insOne m p = none) : insFold [] l = none := by
  obtain ⟨hl, rfl⟩ := List.getElem?_eq_some_iff.1 hp
  rw [List.drop_eq_getElem_cons hl] at h
  rw [h, insFold, hi]; rfl
end Go.Dav
namespace Go.Proofs.YtmcmknndhppljaaDoor
set_option linter.unusedVariables false
set_option linter.unusedSimpArgs false
open Go.RowKit Go.Dav
attribute [local go_sem] Gives GivesK ite_val ite_val_true

/-- What the answer's Object answers. -/
def TrydRObjBack (d : Nat) (f : PairE → ValN d) (l : List PairE) (e : Ending) (w' : World) : Prop :=
  match insFold [] l with
  | none => e = .returned (.tuple #[.agg zeroL.toArray, .int .i64 141])
  | some m => ∃ v, ValAt w' (d + 1) v (⟨6, 0, noStr, m.map f, m.map PairE.key⟩ : ValF (ValN d)) ∧ e = .returned (wholeV (rightV (d + 1) (⟨6, 0, noStr, m.map f, m.map PairE.key⟩ : ValF (ValN d))) v)

set_option maxRecDepth 8000 in
set_option maxHeartbeats 16000000 in
theorem Tryd_rObject (d : Nat) (f : PairE → ValN d) (a : Option Addr) (n c : Nat) (l : List PairE) (w : World) (hl : l.length = n) (hat : FlatAt w a (flatE l)) (hn : n ≤ 300) (hf : ∀ e ∈ l, ValAt w d (.agg #[.int .i64 e.k, .int .i64 e.n, .string e.s, .slice e.a1 e.l1 e.c1, .slice e.a2 e.l2 e.c2]) (f e)) (hks : ∀ e ∈ l, e.key.size ≤ 17592186044416) :
    Calls Tryd.prog 24 #[.slice a n c] w fun e w' => TrydRObjBack d f l e w' ∧ Below w.heap.size w w' := by
  have HL := Lib.hid hl
  have HAT := Lib.hid hat
  have HF := Lib.hid hf
  have HKS := Lib.hid hks
  have hr0 : RObAt ((w.alloc (.cells #[.int .i64 0, .int .i64 0, .string ⟨#[]⟩, .slice none 0 0, .slice none 0 0] 39)).alloc (.cells #[.int .i64 6, .int .i64 0, .string ⟨#[]⟩, .slice none 0 0, .slice none 0 0] 39)) w.heap.size (w.heap.size + 1) 39 [] 0 none 0 none 0 :=
    ⟨(Blk.new w zeroL _).alloc _, Blk.new' _ [.int .i64 6, .int .i64 0, .string ⟨#[]⟩, .slice none 0 0, .slice none 0 0] 39 (by simp), FlatAt.nil _ _, FlatAt.nil _ _, fun _ => rfl, ⟨Nat.le_refl _, Nat.zero_le _⟩, fun _ => rfl, ⟨Nat.le_refl _, Nat.zero_le _⟩⟩
  have HR0 := Lib.hid hr0
  have hb0 : Below w.heap.size w ((w.alloc (.cells #[.int .i64 0, .int .i64 0, .string ⟨#[]⟩, .slice none 0 0, .slice none 0 0] 39)).alloc (.cells #[.int .i64 6, .int .i64 0, .string ⟨#[]⟩, .slice none 0 0, .slice none 0 0] 39)) := (by repeat (first | (with_reducible exact Below.refl _ _) | (with_reducible exact Below.refl _ _) | (with_reducible refine Below.setCell ?_ (by first | omega | (simp; done) | (simp; omega)) _) | (with_reducible refine Below.alloc ?_ (by first | omega | (simp; done) | (simp; omega)) _) | (with_reducible refine Below.drew ?_) | (with_reducible refine below_drewN ?_ _)))
  have HB0 := Lib.hid hb0
  obtain ⟨i0, hi0, hz0, hz1, hz2⟩ := info_parts Tryd_infoString
  obtain ⟨i1, hj0, hy0, hy1, hy2⟩ := info_parts Tryd_infoValue
  have HI0 := Lib.hid (And.intro hi0 (And.intro hz0 (And.intro hz1 hz2)))
  have HI1 := Lib.hid (And.intro hj0 (And.intro hy0 (And.intro hy1 hy2)))
  clear hl hat hf hks hr0 hb0 hi0 hz0 hz1 hz2 hj0 hy0 hy1 hy2
  go_enter Tryd.func24, Tryd.ntmps24
  go_wp2_with fail
  go_loopw [5, 6, 7, 8] (fun iv _ _ _ wr => ∃ (i : Nat) (m : List PairE) (kk : Option Addr) (kc : Nat) (qk : Option Addr) (qc : Nat), i ≤ n ∧ iv = .int .i64 (i : Int) ∧ insFold [] l = insFold m (l.drop i) ∧ m.length = i ∧ (∀ e ∈ m, e ∈ l) ∧ RObAt wr w.heap.size (w.heap.size + 1) 39 m i kk kc qk qc ∧ (i = 0 → kk = none ∧ qk = none) ∧ ((∀ g, OwnW (.slice kk i kc) g → w.heap.size + 2 ≤ g) ∧ ∀ g, OwnW (.slice qk i qc) g → w.heap.size + 2 ≤ g) ∧ Below w.heap.size w wr ∧ w.heap.size + 1 < wr.heap.size) (fun iv _ _ _ _ => n - (intOf iv).toNat)
  case atStart => exact ⟨0, [], none, 0, none, 0, Nat.zero_le _, by go_num, rfl, rfl, fun e he => (by simp at he), HR0.out, fun _ => ⟨rfl, rfl⟩, ⟨fun g h => (by cases h), fun g h => (by cases h)⟩, HB0.out, by simp⟩
  case round =>
    obtain ⟨i, m, kk, kc, qk, qc, hin, rfl, hfo, hml, hmem, hob, hnone, hfar, hbel, hsz⟩ := hrel
    have HFO := Lib.hid hfo
    have HML := Lib.hid hml
    have HMEM := Lib.hid hmem
    have HOB := Lib.hid hob
    have HNONE := Lib.hid hnone
    have HFAR := Lib.hid hfar
    have HBEL := Lib.hid hbel
    clear hfo hml hmem hob hnone hfar hbel HR0 HB0
    by_cases hlt : i < n
    · have g1 : (i : Int) < (n : Int) := by omega
      obtain ⟨p, hp⟩ : ∃ p, l[i]? = some p := ⟨_, List.getElem?_eq_getElem (by have := HL.out; omega)⟩
      obtain ⟨b, o, rfl, hbl, _⟩ := HAT.out (i * 6 + 0) (.string p.key) (by have := flatE_get (j := 0) hp rfl []; rwa [List.append_nil] at this)
      have cc : ∀ j u, p.cells[j]? = some u → wr.cell? ⟨b, o + i * 6 + j, none⟩ = some u := fun j u hu => by
        obtain ⟨b', o', e, h1, h2⟩ := HAT.out (i * 6 + j) u (by have := flatE_get (j := j) hp hu []; rwa [List.append_nil] at this)
        cases e
        rw [← Nat.add_assoc] at h2
        exact (HBEL.out.cell (p := ⟨b, o + i * 6 + j, none⟩) h1).trans h2
      have CC := Lib.hid cc
      have x0 : wr.cell? ⟨b, o + i * 6, none⟩ = some (.string p.key) := cc 0 _ rfl
      have hbw : b < wr.heap.size := Nat.lt_of_lt_of_le hbl HBEL.out.size
      have hbw0 := hbw
      have HP := Lib.hid hp
      have q5 := HOB.out.box.cells
      have l5 := HOB.out.box.lt
      clear hp cc hbl
      go_wp2_with fail
      go_loopw [6] (fun tv ws => ∃ t : Nat, tv = .int .i64 (t : Int) ∧ t ≤ i ∧ (∀ j x, j < t → m[j]? = some x → kless x.key p.key = true) ∧ Below wr.heap.size wr ws) (fun tv _ => i - (intOf tv).toNat)
      case atStart => exact ⟨0, by go_num, Nat.zero_le _, fun j x h => by omega, Below.refl _ _⟩
      case round =>
        obtain ⟨t, rfl, hti, hlo, hbs⟩ := hrel
        have HLO := Lib.hid hlo
        have HBS := Lib.hid hbs
        have hob := HOB.out.ext hbs
        have q5 := hob.box.cells
        have l5 := hob.box.lt
        have x0 := (hbs.cell (p := ⟨b, o + i * 6, none⟩) hbw).trans x0
        have hbw := Nat.lt_of_lt_of_le hbw hbs.size
        have HOBS := Lib.hid hob
        clear hlo hbs hob
        by_cases htl : t < i
        · obtain ⟨y, hy⟩ : ∃ y, m[t]? = some y := ⟨_, List.getElem?_eq_getElem (by have := HML.out; omega)⟩
          obtain ⟨g, o2, rfl, hg, y0⟩ := HOBS.out.keys t (.string y.key) (by unfold keysF; rw [List.getElem?_map, hy]; rfl)
          have gt1 : decide ((t : Int) < (i : Int)) = true := decide_eq_true (by omega)
          have gt2 : (t : Int) < (i : Int) := by omega
          have HY := Lib.hid hy
          obtain ⟨kb, hk⟩ : ∃ kb, kless y.key p.key = kb := ⟨_, rfl⟩
          have hk' : Op.bytesLess y.key.toList p.key.toList = kb := hk
          have HK := Lib.hid hk
          clear hy hk
          cases kb with
          | true =>
            go_wp2_with fail
            refine' wp_region_seq [.inl _, .inl _, .inl _, .inl _, .inl _, .inl _, .inl _, .inl _, .inl _, .inl _, .inl _, .inl _, .inl _, .inl _, .inl _, .inl _, .inl _, .inl _] (by kernel_rfl) (by kernel_rfl) ?main1
            case main1 =>
              refine wpParts_det (by rfl) (fun W hE hN => ?_) ?_
              · go_simp; refine ⟨Below.refl _ _, ?_⟩; rfl
              simp only [Act.put, List.setIfInBounds_toArray, List.set_cons_zero, List.set_cons_succ]
              refine wpParts_det (by rfl) (fun W hE hN => ?_) ?_
              · go_simp; refine ⟨Below.refl _ _, ?_⟩; rfl
              simp only [Act.put, List.setIfInBounds_toArray, List.set_cons_zero, List.set_cons_succ]
              refine wpParts_det (by rfl) (fun W hE hN => ?_) ?_
              · have hc := fun b o h => hE.cell (p := ⟨b, o, none⟩) h
                go_simp; refine ⟨Below.refl _ _, ?_⟩; rfl
              simp only [Act.put, List.setIfInBounds_toArray, List.set_cons_zero, List.set_cons_succ]
              refine wpParts_det (by rfl) (fun W hE hN => ?_) ?_
              · go_simp; refine ⟨Below.refl _ _, ?_⟩; rfl
              simp only [Act.put, List.setIfInBounds_toArray, List.set_cons_zero, List.set_cons_succ]
              refine wpParts_det (by rfl) (fun W hE hN => ?_) ?_
              · go_simp; refine ⟨Below.refl _ _, ?_⟩; rfl
              simp only [Act.put, List.setIfInBounds_toArray, List.set_cons_zero, List.set_cons_succ]
              refine wpParts_det (by rfl) (fun W hE hN => ?_) ?_
              · go_simp; refine ⟨Below.refl _ _, ?_⟩; rfl
              simp only [Act.put, List.setIfInBounds_toArray, List.set_cons_zero, List.set_cons_succ]
              refine wpParts_det (by rfl) (fun W hE hN => ?_) ?_
              · go_simp; refine ⟨Below.refl _ _, ?_⟩; rfl
              simp only [Act.put, List.setIfInBounds_toArray, List.set_cons_zero, List.set_cons_succ]
              refine wpParts_det (by rfl) (fun W hE hN => ?_) ?_
              · have hc := fun b o h => hE.cell (p := ⟨b, o, none⟩) h
                go_simp; refine ⟨Below.refl _ _, ?_⟩; rfl
              simp only [Act.put, List.setIfInBounds_toArray, List.set_cons_zero, List.set_cons_succ]
              refine wpParts_det (by rfl) (fun W hE hN => ?_) ?_
              · go_simp; refine ⟨Below.refl _ _, ?_⟩; rfl
              simp only [Act.put, List.setIfInBounds_toArray, List.set_cons_zero, List.set_cons_succ]
              refine wpParts_det (by rfl) (fun W hE hN => ?_) ?_
              · go_simp; refine ⟨Below.refl _ _, ?_⟩; rfl
              simp only [Act.put, List.setIfInBounds_toArray, List.set_cons_zero, List.set_cons_succ]
              refine wpParts_det (by rfl) (fun W hE hN => ?_) ?_
              · have hc := fun b o h => hE.cell (p := ⟨b, o, none⟩) h
                go_simp; refine ⟨Below.refl _ _, ?_⟩; rfl
              simp only [Act.put, List.setIfInBounds_toArray, List.set_cons_zero, List.set_cons_succ]
              refine wpParts_det (by rfl) (fun W hE hN => ?_) ?_
              · go_simp; refine ⟨Below.refl _ _, ?_⟩; rfl
              simp only [Act.put, List.setIfInBounds_toArray, List.set_cons_zero, List.set_cons_succ]
              refine wpParts_det (by rfl) (fun W hE hN => ?_) ?_
              · go_simp; refine ⟨Below.refl _ _, ?_⟩; rfl
              simp only [Act.put, List.setIfInBounds_toArray, List.set_cons_zero, List.set_cons_succ]
              refine wpParts_det (by rfl) (fun W hE hN => ?_) ?_
              · go_simp; refine ⟨Below.refl _ _, ?_⟩; rfl
              simp only [Act.put, List.setIfInBounds_toArray, List.set_cons_zero, List.set_cons_succ]
              refine wpParts_det (by rfl) (fun W hE hN => ?_) ?_
              · go_simp; refine ⟨Below.refl _ _, ?_⟩; rfl
              simp only [Act.put, List.setIfInBounds_toArray, List.set_cons_zero, List.set_cons_succ]
              refine wpParts_det (by rfl) (fun W hE hN => ?_) ?_
              · have hc := fun b o h => hE.cell (p := ⟨b, o, none⟩) h
                go_simp; refine ⟨Below.refl _ _, ?_⟩; rfl
              simp only [Act.put, List.setIfInBounds_toArray, List.set_cons_zero, List.set_cons_succ]
              refine wpParts_det (by rfl) (fun W hE hN => ?_) ?_
              · go_simp; refine ⟨Below.refl _ _, ?_⟩; rfl
              simp only [Act.put, List.setIfInBounds_toArray, List.set_cons_zero, List.set_cons_succ]
              refine wpParts_det (by rfl) (fun W hE hN => ?_) ?_
              · go_simp; refine ⟨Below.refl _ _, ?_⟩; rfl
              simp only [Act.put, List.setIfInBounds_toArray, List.set_cons_zero, List.set_cons_succ]
              refine wpParts_end fun W2 hE2 hG2 => ?_
              have hcW2 := fun b o h => hE2.cell (p := ⟨b, o, none⟩) h
              have hfW2 := fun b o h => hE2.frozen (p := ⟨b, o, none⟩) h
              have HB2 := Lib.hid (HBS.out.trans (hE2.mono HBS.out.size))
              clear hE2 hcW2 hfW2
              go_wp2_with fail
              go_roundw
              case rel => exact ⟨t + 1, by go_num, htl, fun j x hj hx => by
                by_cases e : j = t
                · subst e; rw [HY.out] at hx; cases hx; exact HK.out
                · exact HLO.out j x (by omega) hx, HB2.out⟩
              case measure => simp [intOf]; omega
          | false =>
            obtain ⟨eb, he⟩ : ∃ eb, (y.key.toList == p.key.toList) = eb := ⟨_, rfl⟩
            have HEB := Lib.hid he
            go_wp2_with fail
            refine' wp_region_seq [.inl _, .inl _, .inl _, .inl _, .inl _, .inl _, .inl _, .inl _, .inl _, .inl _, .inl _, .inl _, .inl _, .inl _, .inl _, .inl _, .inl _, .inl _] (by kernel_rfl) (by kernel_rfl) ?main2
            case main2 =>
              refine wpParts_det (by rfl) (fun W hE hN => ?_) ?_
              · go_simp; refine ⟨Below.refl _ _, ?_⟩; rfl
              simp only [Act.put, List.setIfInBounds_toArray, List.set_cons_zero, List.set_cons_succ]
              refine wpParts_det (by rfl) (fun W hE hN => ?_) ?_
              · go_simp; refine ⟨Below.refl _ _, ?_⟩; rfl
              simp only [Act.put, List.setIfInBounds_toArray, List.set_cons_zero, List.set_cons_succ]
              refine wpParts_det (by rfl) (fun W hE hN => ?_) ?_
              · have hc := fun b o h => hE.cell (p := ⟨b, o, none⟩) h
                go_simp; refine ⟨Below.refl _ _, ?_⟩; rfl
              simp only [Act.put, List.setIfInBounds_toArray, List.set_cons_zero, List.set_cons_succ]
              refine wpParts_det (by rfl) (fun W hE hN => ?_) ?_
              · go_simp; refine ⟨Below.refl _ _, ?_⟩; rfl
              simp only [Act.put, List.setIfInBounds_toArray, List.set_cons_zero, List.set_cons_succ]
              refine wpParts_det (by rfl) (fun W hE hN => ?_) ?_
              · go_simp; refine ⟨Below.refl _ _, ?_⟩; rfl
              simp only [Act.put, List.setIfInBounds_toArray, List.set_cons_zero, List.set_cons_succ]
              refine wpParts_det (by rfl) (fun W hE hN => ?_) ?_
              · go_simp; refine ⟨Below.refl _ _, ?_⟩; rfl
              simp only [Act.put, List.setIfInBounds_toArray, List.set_cons_zero, List.set_cons_succ]
              refine wpParts_det (by rfl) (fun W hE hN => ?_) ?_
              · go_simp; refine ⟨Below.refl _ _, ?_⟩; rfl
              simp only [Act.put, List.setIfInBounds_toArray, List.set_cons_zero, List.set_cons_succ]
              refine wpParts_det (by rfl) (fun W hE hN => ?_) ?_
              · have hc := fun b o h => hE.cell (p := ⟨b, o, none⟩) h
                go_simp; refine ⟨Below.refl _ _, ?_⟩; rfl
              simp only [Act.put, List.setIfInBounds_toArray, List.set_cons_zero, List.set_cons_succ]
              refine wpParts_det (by rfl) (fun W hE hN => ?_) ?_
              · go_simp; refine ⟨Below.refl _ _, ?_⟩; rfl
              simp only [Act.put, List.setIfInBounds_toArray, List.set_cons_zero, List.set_cons_succ]
              refine wpParts_det (by rfl) (fun W hE hN => ?_) ?_
              · go_simp; refine ⟨Below.refl _ _, ?_⟩; rfl
              simp only [Act.put, List.setIfInBounds_toArray, List.set_cons_zero, List.set_cons_succ]
              refine wpParts_det (by rfl) (fun W hE hN => ?_) ?_
              · have hc := fun b o h => hE.cell (p := ⟨b, o, none⟩) h
                go_simp; refine ⟨Below.refl _ _, ?_⟩; rfl
              simp only [Act.put, List.setIfInBounds_toArray, List.set_cons_zero, List.set_cons_succ]
              refine wpParts_det (by rfl) (fun W hE hN => ?_) ?_
              · go_simp; refine ⟨Below.refl _ _, ?_⟩; rfl
              simp only [Act.put, List.setIfInBounds_toArray, List.set_cons_zero, List.set_cons_succ]
              refine wpParts_det (by rfl) (fun W hE hN => ?_) ?_
              · go_simp; refine ⟨Below.refl _ _, ?_⟩; rfl
              simp only [Act.put, List.setIfInBounds_toArray, List.set_cons_zero, List.set_cons_succ]
              refine wpParts_det (by rfl) (fun W hE hN => ?_) ?_
              · go_simp; refine ⟨Below.refl _ _, ?_⟩; rfl
              simp only [Act.put, List.setIfInBounds_toArray, List.set_cons_zero, List.set_cons_succ]
              refine wpParts_det (by rfl) (fun W hE hN => ?_) ?_
              · go_simp; refine ⟨Below.refl _ _, ?_⟩; rfl
              simp only [Act.put, List.setIfInBounds_toArray, List.set_cons_zero, List.set_cons_succ]
              refine wpParts_det (by rfl) (fun W hE hN => ?_) ?_
              · have hc := fun b o h => hE.cell (p := ⟨b, o, none⟩) h
                go_simp; refine ⟨Below.refl _ _, ?_⟩; rfl
              simp only [Act.put, List.setIfInBounds_toArray, List.set_cons_zero, List.set_cons_succ]
              refine wpParts_det (by rfl) (fun W hE hN => ?_) ?_
              · go_simp; refine ⟨Below.refl _ _, ?_⟩; rfl
              simp only [Act.put, List.setIfInBounds_toArray, List.set_cons_zero, List.set_cons_succ]
              refine wpParts_det (by rfl) (fun W hE hN => ?_) ?_
              · go_simp; refine ⟨Below.refl _ _, ?_⟩; rfl
              simp only [Act.put, List.setIfInBounds_toArray, List.set_cons_zero, List.set_cons_succ]
              refine wpParts_end fun W2 hE2 hG2 => ?_
              have hcW2 := fun b o h => hE2.cell (p := ⟨b, o, none⟩) h
              have hfW2 := fun b o h => hE2.frozen (p := ⟨b, o, none⟩) h
              have hob2 := HOBS.out.ext hE2
              have q5 := hob2.box.cells
              have l5 := hob2.box.lt
              have x0 := (hE2.cell (p := ⟨b, o + i * 6, none⟩) hbw).trans x0
              have y0 := (hE2.cell (p := ⟨g, o2 + t, none⟩) hg).trans y0
              have hbw := Nat.lt_of_lt_of_le hbw hE2.size
              have hg := Nat.lt_of_lt_of_le hg hE2.size
              have HB2 := Lib.hid (HBS.out.trans (hE2.mono HBS.out.size))
              have HLOW := Lib.hid (show lowK p.key m = t from lowK_is HLO.out (fun x hx => by rw [HY.out] at hx; cases hx; exact HK.out) (by have := HML.out; omega))
              have HOB2 := Lib.hid hob2
              clear hob2 hE2 hcW2 hfW2
              cases eb with
              | true =>
                go_wp2_with fail
                refine' wp_region_seq [.inl _, .inl _, .inl _, .inl _, .inl _, .inl _, .inl _, .inl _, .inl _, .inl _, .inl _, .inl _, .inl _, .inl _, .inl _, .inl _, .inl _, .inl _] (by kernel_rfl) (by kernel_rfl) ?main3
                case main3 =>
                  refine wpParts_det (by rfl) (fun W hE hN => ?_) ?_
                  · go_simp; refine ⟨Below.refl _ _, ?_⟩; rfl
                  simp only [Act.put, List.setIfInBounds_toArray, List.set_cons_zero, List.set_cons_succ]
                  refine wpParts_det (by rfl) (fun W hE hN => ?_) ?_
                  · go_simp; refine ⟨Below.refl _ _, ?_⟩; rfl
                  simp only [Act.put, List.setIfInBounds_toArray, List.set_cons_zero, List.set_cons_succ]
                  refine wpParts_det (by rfl) (fun W hE hN => ?_) ?_
                  · have hc := fun b o h => hE.cell (p := ⟨b, o, none⟩) h
                    go_simp; refine ⟨Below.refl _ _, ?_⟩; rfl
                  simp only [Act.put, List.setIfInBounds_toArray, List.set_cons_zero, List.set_cons_succ]
                  refine wpParts_det (by rfl) (fun W hE hN => ?_) ?_
                  · go_simp; refine ⟨Below.refl _ _, ?_⟩; rfl
                  simp only [Act.put, List.setIfInBounds_toArray, List.set_cons_zero, List.set_cons_succ]
                  refine wpParts_det (by rfl) (fun W hE hN => ?_) ?_
                  · go_simp; refine ⟨Below.refl _ _, ?_⟩; rfl
                  simp only [Act.put, List.setIfInBounds_toArray, List.set_cons_zero, List.set_cons_succ]
                  refine wpParts_det (by rfl) (fun W hE hN => ?_) ?_
                  · go_simp; refine ⟨Below.refl _ _, ?_⟩; rfl
                  simp only [Act.put, List.setIfInBounds_toArray, List.set_cons_zero, List.set_cons_succ]
                  refine wpParts_det (by rfl) (fun W hE hN => ?_) ?_
                  · go_simp; refine ⟨Below.refl _ _, ?_⟩; rfl
                  simp only [Act.put, List.setIfInBounds_toArray, List.set_cons_zero, List.set_cons_succ]
                  refine wpParts_det (by rfl) (fun W hE hN => ?_) ?_
                  · have hc := fun b o h => hE.cell (p := ⟨b, o, none⟩) h
                    go_simp; refine ⟨Below.refl _ _, ?_⟩; rfl
                  simp only [Act.put, List.setIfInBounds_toArray, List.set_cons_zero, List.set_cons_succ]
                  refine wpParts_det (by rfl) (fun W hE hN => ?_) ?_
                  · go_simp; refine ⟨Below.refl _ _, ?_⟩; rfl
                  simp only [Act.put, List.setIfInBounds_toArray, List.set_cons_zero, List.set_cons_succ]
                  refine wpParts_det (by rfl) (fun W hE hN => ?_) ?_
                  · go_simp; refine ⟨Below.refl _ _, ?_⟩; rfl
                  simp only [Act.put, List.setIfInBounds_toArray, List.set_cons_zero, List.set_cons_succ]
                  refine wpParts_det (by rfl) (fun W hE hN => ?_) ?_
                  · have hc := fun b o h => hE.cell (p := ⟨b, o, none⟩) h
                    go_simp; refine ⟨Below.refl _ _, ?_⟩; rfl
                  simp only [Act.put, List.setIfInBounds_toArray, List.set_cons_zero, List.set_cons_succ]
                  refine wpParts_det (by rfl) (fun W hE hN => ?_) ?_
                  · go_simp; refine ⟨Below.refl _ _, ?_⟩; rfl
                  simp only [Act.put, List.setIfInBounds_toArray, List.set_cons_zero, List.set_cons_succ]
                  refine wpParts_det (by rfl) (fun W hE hN => ?_) ?_
                  · go_simp; refine ⟨Below.refl _ _, ?_⟩; rfl
                  simp only [Act.put, List.setIfInBounds_toArray, List.set_cons_zero, List.set_cons_succ]
                  refine wpParts_det (by rfl) (fun W hE hN => ?_) ?_
                  · go_simp; refine ⟨Below.refl _ _, ?_⟩; rfl
                  simp only [Act.put, List.setIfInBounds_toArray, List.set_cons_zero, List.set_cons_succ]
                  refine wpParts_det (by rfl) (fun W hE hN => ?_) ?_
                  · go_simp; refine ⟨Below.refl _ _, ?_⟩; rfl
                  simp only [Act.put, List.setIfInBounds_toArray, List.set_cons_zero, List.set_cons_succ]
                  refine wpParts_det (by rfl) (fun W hE hN => ?_) ?_
                  · have hc := fun b o h => hE.cell (p := ⟨b, o, none⟩) h
                    go_simp; refine ⟨Below.refl _ _, ?_⟩; rfl
                  simp only [Act.put, List.setIfInBounds_toArray, List.set_cons_zero, List.set_cons_succ]
                  refine wpParts_det (by rfl) (fun W hE hN => ?_) ?_
                  · go_simp; refine ⟨Below.refl _ _, ?_⟩; rfl
                  simp only [Act.put, List.setIfInBounds_toArray, List.set_cons_zero, List.set_cons_succ]
                  refine wpParts_det (by rfl) (fun W hE hN => ?_) ?_
                  · go_simp; refine ⟨Below.refl _ _, ?_⟩; rfl
                  simp only [Act.put, List.setIfInBounds_toArray, List.set_cons_zero, List.set_cons_succ]
                  refine wpParts_end fun W3 hE3 hG3 => ?_
                  have hcW3 := fun b o h => hE3.cell (p := ⟨b, o, none⟩) h
                  have hfW3 := fun b o h => hE3.frozen (p := ⟨b, o, none⟩) h
                  have HB3 := Lib.hid (HBEL.out.trans ((HB2.out.trans (hE3.mono HB2.out.size)).mono HBEL.out.size))
                  have hz2 := HOB2.out.zero.ext hE3
                  have HNO := Lib.hid (show insFold [] l = none from insFold_stop HFO.out HP.out (by unfold insOne isAtK; rw [HLOW.out, HY.out]; simp only [HEB.out, if_true]))
                  clear he hE3 hcW3 hfW3 q5 l5 x0 y0
                  have q2 := hz2.cells
                  unfold zeroL at q2
                  have m2 := hz2.marks
                  have l2 := hz2.lt
                  have HZ5 := Lib.hid hz2
                  clear hz2
                  go_wp2
                  have c4 := (HZ5.out.fiveV (.int .i64 0) (.int .i64 0) (.string ⟨#[]⟩) (.slice none 0 0) (.slice none 0 0)).cells
                  refine bodyPost_ret (v := .tuple #[.agg zeroL.toArray, .int .i64 141]) (by simp [results, Tryd.results24, go_sem, c4, zeroL]) rfl ⟨by unfold TrydRObjBack; rw [HNO.out], ?_⟩
                  exact below_only HB3.out (Only.fiveV _ _ _ _ _ _ _) HB3.out.size (by omega)
              | false =>
                have HINS := Lib.hid (show insOne m p = some (m.take t ++ p :: m.drop t) from by unfold insOne isAtK; rw [HLOW.out, HY.out]; simp only [HEB.out]; rfl)
                go_wp2_with fail
                refine' wp_region_seq [.inl _, .inl _, .inl _, .inl _, .inl _, .inl _, .inl _, .inl _, .inl _, .inl _, .inl _, .inl _, .inl _, .inl _, .inl _, .inl _, .inl _, .inl _] (by kernel_rfl) (by kernel_rfl) ?main4
                case main4 =>
                  refine wpParts_det (by rfl) (fun W hE hN => ?_) ?_
                  · go_simp; refine ⟨Below.refl _ _, ?_⟩; rfl
                  simp only [Act.put, List.setIfInBounds_toArray, List.set_cons_zero, List.set_cons_succ]
                  refine wpParts_det (by rfl) (fun W hE hN => ?_) ?_
                  · go_simp; refine ⟨Below.refl _ _, ?_⟩; rfl
                  simp only [Act.put, List.setIfInBounds_toArray, List.set_cons_zero, List.set_cons_succ]
                  refine wpParts_det (by rfl) (fun W hE hN => ?_) ?_
                  · have hc := fun b o h => hE.cell (p := ⟨b, o, none⟩) h
                    go_simp; refine ⟨Below.refl _ _, ?_⟩; rfl
                  simp only [Act.put, List.setIfInBounds_toArray, List.set_cons_zero, List.set_cons_succ]
                  refine wpParts_det (by rfl) (fun W hE hN => ?_) ?_
                  · go_simp; refine ⟨Below.refl _ _, ?_⟩; rfl
                  simp only [Act.put, List.setIfInBounds_toArray, List.set_cons_zero, List.set_cons_succ]
                  refine wpParts_det (by rfl) (fun W hE hN => ?_) ?_
                  · go_simp; refine ⟨Below.refl _ _, ?_⟩; rfl
                  simp only [Act.put, List.setIfInBounds_toArray, List.set_cons_zero, List.set_cons_succ]
                  refine wpParts_det (by rfl) (fun W hE hN => ?_) ?_
                  · go_simp; refine ⟨Below.refl _ _, ?_⟩; rfl
                  simp only [Act.put, List.setIfInBounds_toArray, List.set_cons_zero, List.set_cons_succ]
                  refine wpParts_det (by rfl) (fun W hE hN => ?_) ?_
                  · go_simp; refine ⟨Below.refl _ _, ?_⟩; rfl
                  simp only [Act.put, List.setIfInBounds_toArray, List.set_cons_zero, List.set_cons_succ]
                  refine wpParts_det (by rfl) (fun W hE hN => ?_) ?_
                  · have hc := fun b o h => hE.cell (p := ⟨b, o, none⟩) h
                    go_simp; refine ⟨Below.refl _ _, ?_⟩; rfl
                  simp only [Act.put, List.setIfInBounds_toArray, List.set_cons_zero, List.set_cons_succ]
                  refine wpParts_det (by rfl) (fun W hE hN => ?_) ?_
                  · go_simp; refine ⟨Below.refl _ _, ?_⟩; rfl
                  simp only [Act.put, List.setIfInBounds_toArray, List.set_cons_zero, List.set_cons_succ]
                  refine wpParts_det (by rfl) (fun W hE hN => ?_) ?_
                  · go_simp; refine ⟨Below.refl _ _, ?_⟩; rfl
                  simp only [Act.put, List.setIfInBounds_toArray, List.set_cons_zero, List.set_cons_succ]
                  refine wpParts_det (by rfl) (fun W hE hN => ?_) ?_
                  · have hc := fun b o h => hE.cell (p := ⟨b, o, none⟩) h
                    go_simp; refine ⟨Below.refl _ _, ?_⟩; rfl
                  simp only [Act.put, List.setIfInBounds_toArray, List.set_cons_zero, List.set_cons_succ]
                  refine wpParts_det (by rfl) (fun W hE hN => ?_) ?_
                  · go_simp; refine ⟨Below.refl _ _, ?_⟩; rfl
                  simp only [Act.put, List.setIfInBounds_toArray, List.set_cons_zero, List.set_cons_succ]
                  refine wpParts_det (by rfl) (fun W hE hN => ?_) ?_
                  · go_simp; refine ⟨Below.refl _ _, ?_⟩; rfl
                  simp only [Act.put, List.setIfInBounds_toArray, List.set_cons_zero, List.set_cons_succ]
                  refine wpParts_det (by rfl) (fun W hE hN => ?_) ?_
                  · go_simp; refine ⟨Below.refl _ _, ?_⟩; rfl
                  simp only [Act.put, List.setIfInBounds_toArray, List.set_cons_zero, List.set_cons_succ]
                  refine wpParts_det (by rfl) (fun W hE hN => ?_) ?_
                  · go_simp; refine ⟨Below.refl _ _, ?_⟩; rfl
                  simp only [Act.put, List.setIfInBounds_toArray, List.set_cons_zero, List.set_cons_succ]
                  refine wpParts_det (by rfl) (fun W hE hN => ?_) ?_
                  · have hc := fun b o h => hE.cell (p := ⟨b, o, none⟩) h
                    go_simp; refine ⟨Below.refl _ _, ?_⟩; rfl
                  simp only [Act.put, List.setIfInBounds_toArray, List.set_cons_zero, List.set_cons_succ]
                  refine wpParts_det (by rfl) (fun W hE hN => ?_) ?_
                  · go_simp; refine ⟨Below.refl _ _, ?_⟩; rfl
                  simp only [Act.put, List.setIfInBounds_toArray, List.set_cons_zero, List.set_cons_succ]
                  refine wpParts_det (by rfl) (fun W hE hN => ?_) ?_
                  · go_simp; refine ⟨Below.refl _ _, ?_⟩; rfl
                  simp only [Act.put, List.setIfInBounds_toArray, List.set_cons_zero, List.set_cons_succ]
                  refine wpParts_end fun W3 hE3 hG3 => ?_
                  have hcW3 := fun b o h => hE3.cell (p := ⟨b, o, none⟩) h
                  have hfW3 := fun b o h => hE3.frozen (p := ⟨b, o, none⟩) h
                  have HB3 := Lib.hid (HB2.out.trans (hE3.mono HB2.out.size))
                  have HOB3 := Lib.hid (HOB2.out.ext hE3)
                  clear he hE3 hcW3 hfW3 q5 l5 x0 y0 hg HOB2
                  obtain ⟨g3, o3, rfl, hg3, _⟩ := HOB3.out.kids (t * 5 + 0) (.int .i64 y.k) (by unfold kidsF; rw [vflat_get (by omega) m t HY.out]; rfl)
                  clear hg3
                  have hqt := HOB3.out.qle
                  have hkt := HOB3.out.kle
                  have hqt1 : t ≤ qc := by omega
                  have hkt1 : t ≤ kc := by omega
                  obtain ⟨q0, hq0⟩ : ∃ q0, max t 1 = q0 := ⟨_, rfl⟩
                  have hq1 : t ≤ q0 := by omega
                  have hq2 : 1 ≤ q0 := by omega
                  have hq3 : q0 ≤ t + 1 := by omega
                  have hq4 : t = 0 ∨ q0 ≤ t := by omega
                  clear hq0
                  have q5 := HOB3.out.box.cells
                  have l5 := HOB3.out.box.lt
                  have hml := HML.out
                  have htk : (m.take t).length = t := by rw [List.length_take]; omega
                  have htd : (m.drop t).length = (i - t) := by rw [List.length_drop]; omega
                  have HK1 := Lib.hid (show ∀ W, Below W3.heap.size W3 W → FlatAt W (some ⟨g, o2, none⟩) (keysF (m.take t)) from fun W hb => FlatAt.part (ys := keysF (m.drop t)) (by have h := HOB3.out.keys.ext hb; rwa [show keysF m = keysF (m.take t) ++ keysF (m.drop t) by unfold keysF; rw [← List.map_append, List.take_append_drop]] at h))
                  have HK2 := Lib.hid (show ∀ W, Below W3.heap.size W3 W → FlatAt W (if qc = t then some ⟨g, o2, none⟩ else some ⟨g, o2 + t, none⟩) (keysF (m.drop t)) from fun W hb => FlatAt.ite (fun e => by rw [show m.drop t = [] from List.drop_eq_nil_of_le (by omega)]; rfl) (fun _ => FlatAt.tail (xs := keysF (m.take t)) (by have h := HOB3.out.keys.ext hb; rwa [show keysF m = keysF (m.take t) ++ keysF (m.drop t) by unfold keysF; rw [← List.map_append, List.take_append_drop]] at h) (by rw [keysF_len, htk])))
                  have HV1 := Lib.hid (show ∀ W, Below W3.heap.size W3 W → FlatAt W (some ⟨g3, o3, none⟩) (kidsF (m.take t)) from fun W hb => FlatAt.part (ys := kidsF (m.drop t)) (by have h := HOB3.out.kids.ext hb; rwa [show kidsF m = kidsF (m.take t) ++ kidsF (m.drop t) by unfold kidsF; rw [← List.flatMap_append, List.take_append_drop]] at h))
                  have HV2 := Lib.hid (show ∀ W, Below W3.heap.size W3 W → FlatAt W (if kc = t then some ⟨g3, o3, none⟩ else some ⟨g3, o3 + t * 5, none⟩) (kidsF (m.drop t)) from fun W hb => FlatAt.ite (fun e => by rw [show m.drop t = [] from List.drop_eq_nil_of_le (by omega)]; rfl) (fun _ => FlatAt.tail (xs := kidsF (m.take t)) (by have h := HOB3.out.kids.ext hb; rwa [show kidsF m = kidsF (m.take t) ++ kidsF (m.drop t) by unfold kidsF; rw [← List.flatMap_append, List.take_append_drop]] at h) (by rw [kidsF_len, htk])))
                  have HT1 := Lib.hid htk
                  have HT2 := Lib.hid htd
                  clear hml htk htd
                  go_wp2_with fail
                  refine' wp_region_seqO (fam2 12 17 (by decide) (goes_preS W3.heap.size 9 1 q0) (goes_preS W3.heap.size 9 1 q0) (goes_preS W3.heap.size 9 1 (t + 1)) (fun _ _ h => h) (fun _ _ h => h.le hq3)) [.inl _, .inl _, .inl _, .inl _, .inl _, .inr (RowN W3.heap.size 9 1 t (keysF (m.take t))), .inl _, .inl _, .inl _, .inl _, .inl _, .inr (RowN W3.heap.size 9 1 1 [.string p.key]), .inr (RowN W3.heap.size 9 1 (t + 1) (keysF (m.take t) ++ [.string p.key])), .inl _, .inl _, .inl _, .inl _, .inr (RowN W3.heap.size 9 1 (t + 1 + (i - t)) (keysF (m.take t) ++ [.string p.key] ++ keysF (m.drop t)))] (by kernel_rfl) (by kernel_rfl) ?main5
                  case main5 =>
                    refine wpPartsO_det rfl (by rfl) (fun W hE hN => ?_) ?_
                    · go_simp; refine ⟨Below.refl _ _, ?_⟩; rfl
                    simp only [Act.put, List.setIfInBounds_toArray, List.set_cons_zero, List.set_cons_succ]
                    refine wpPartsO_det rfl (by rfl) (fun W hE hN => ?_) ?_
                    · go_simp; refine ⟨Below.refl _ _, ?_⟩; rfl
                    simp only [Act.put, List.setIfInBounds_toArray, List.set_cons_zero, List.set_cons_succ]
                    refine wpPartsO_det rfl (by rfl) (fun W hE hN => ?_) ?_
                    · have q5 := (HOB3.out.box.ext hE.below).cells; go_simp; refine ⟨Below.refl _ _, ?_⟩; rfl
                    simp only [Act.put, List.setIfInBounds_toArray, List.set_cons_zero, List.set_cons_succ]
                    refine wpPartsO_det rfl (by rfl) (fun W hE hN => ?_) ?_
                    · go_simp; refine ⟨Below.refl _ _, ?_⟩; rfl
                    simp only [Act.put, List.setIfInBounds_toArray, List.set_cons_zero, List.set_cons_succ]
                    refine wpPartsO_det rfl (by rfl) (fun W hE hN => ?_) ?_
                    · go_simp; refine ⟨Below.refl _ _, ?_⟩; rfl
                    simp only [Act.put, List.setIfInBounds_toArray, List.set_cons_zero, List.set_cons_succ]
                    refine wpPartsO_any rfl rfl (RowN.keep hq1) (by rfl) (fun W hE hN => ?_) (fun u5 => ?_)
                    · exact gives_nilS rfl Tryd.underlying37 HI0.out rfl (by decide) rfl rfl (HK1.out W hE.below) (by rw [keysF_len, HT1.out, Nat.mul_one]) (keysF_one _) (fun e => by cases e) hqt1 (by unfold maxLen; omega) (by omega) hE.size
                    simp only [Act.put, List.setIfInBounds_toArray, List.set_cons_zero, List.set_cons_succ]
                    refine wpPartsO_det rfl (by rfl) (fun W hE hN => ?_) ?_
                    · go_simp; refine ⟨Below.refl _ _, ?_⟩; rfl
                    simp only [Act.put, List.setIfInBounds_toArray, List.set_cons_zero, List.set_cons_succ]
                    refine wpPartsO_det rfl (by rfl) (fun W hE hN => ?_) ?_
                    · go_simp; refine ⟨Below.refl _ _, ?_⟩; rfl
                    simp only [Act.put, List.setIfInBounds_toArray, List.set_cons_zero, List.set_cons_succ]
                    refine wpPartsO_det rfl (by rfl) (fun W hE hN => ?_) ?_
                    · go_simp; refine ⟨Below.refl _ _, ?_⟩; rfl
                    simp only [Act.put, List.setIfInBounds_toArray, List.set_cons_zero, List.set_cons_succ]
                    refine wpPartsO_det rfl (by rfl) (fun W hE hN => ?_) ?_
                    · go_simp; refine ⟨Below.refl _ _, ?_⟩; rfl
                    simp only [Act.put, List.setIfInBounds_toArray, List.set_cons_zero, List.set_cons_succ]
                    refine wpPartsO_det rfl (by rfl) (fun W hE hN => ?_) ?_
                    · have hbb := HB3.out.trans (hE.below.mono HB3.out.size); have x0 := (hbb.cell (p := ⟨b, o + i * 6, none⟩) hbw0).trans (CC.out 0 _ rfl); (try simp only [Nat.zero_mul, Nat.add_zero] at x0); go_simp; refine ⟨Below.refl _ _, ?_⟩; rfl
                    simp only [Act.put, List.setIfInBounds_toArray, List.set_cons_zero, List.set_cons_succ]
                    refine wpPartsO_any rfl rfl (RowN.keep hq2) (by rfl) (fun W hE hN => ?_) (fun u11 => ?_)
                    · go_simp; exact ⟨(by repeat (first | (with_reducible exact Below.refl _ _) | (with_reducible exact Below.refl _ _) | (with_reducible refine Below.setCell ?_ (by first | omega | (simp; done) | (simp; omega)) _) | (with_reducible refine Below.alloc ?_ (by first | omega | (simp; done) | (simp; omega)) _) | (with_reducible refine Below.drew ?_) | (with_reducible refine below_drewN ?_ _))), rowN_alloc hE.size rfl⟩
                    simp only [Act.put, List.setIfInBounds_toArray, List.set_cons_zero, List.set_cons_succ]
                    refine wpPartsO_writes (K := PreS W3.heap.size 9 1 q0) (L := PreS W3.heap.size 9 1 (t + 1)) rfl rfl rfl (fam2_stays RowN.later (.inl rfl) (.inr (.inr (RowN.keep (Nat.le_refl _))))) (by rfl) (fun W hE hN => ?_) (fun u12 => ?_)
                    · obtain ⟨h11, h5, _⟩ := (show RowN W3.heap.size 9 1 1 [.string p.key] u11 W ∧ RowN W3.heap.size 9 1 t (keysF (m.take t)) u5 W ∧ True from hN); obtain ⟨a11, c11, rfl⟩ := own_sliceW h11.own; obtain ⟨f1, f2, f3, f4⟩ := own_flat h11.own; exact givesK_preS rfl Tryd.underlying37 HI0.out rfl (by decide) rfl rfl h5 f4 rfl (by simp [Value.oneCell']) f3 f1 (by unfold maxLen; omega) (by omega) hE.size hq4
                    simp only [Act.put, List.setIfInBounds_toArray, List.set_cons_zero, List.set_cons_succ]
                    refine wpPartsO_det rfl (by rfl) (fun W hE hN => ?_) ?_
                    · go_simp; refine ⟨Below.refl _ _, ?_⟩; rfl
                    simp only [Act.put, List.setIfInBounds_toArray, List.set_cons_zero, List.set_cons_succ]
                    refine wpPartsO_det rfl (by rfl) (fun W hE hN => ?_) ?_
                    · have q5 := (HOB3.out.box.ext hE.below).cells; go_simp; refine ⟨Below.refl _ _, ?_⟩; rfl
                    simp only [Act.put, List.setIfInBounds_toArray, List.set_cons_zero, List.set_cons_succ]
                    refine wpPartsO_det rfl (by rfl) (fun W hE hN => ?_) ?_
                    · go_simp; refine ⟨Below.refl _ _, ?_⟩; rfl
                    simp only [Act.put, List.setIfInBounds_toArray, List.set_cons_zero, List.set_cons_succ]
                    refine wpPartsO_det rfl (by rfl) (fun W hE hN => ?_) ?_
                    · go_simp; refine ⟨Below.refl _ _, ?_⟩; rfl
                    simp only [Act.put, List.setIfInBounds_toArray, List.set_cons_zero, List.set_cons_succ]
                    refine wpPartsO_writes (K := PreS W3.heap.size 9 1 (t + 1)) (L := PreS W3.heap.size 9 1 q0) rfl rfl rfl (fam2_stays RowN.later (.inr (.inl (by kernel_rfl))) (.inl rfl)) (by rfl) (fun W hE hN => ?_) (fun u17 => ?_)
                    · have h12 := (show RowN W3.heap.size 9 1 (t + 1) (keysF (m.take t) ++ [.string p.key]) u12 W ∧ True from hN).1; exact givesK_preS rfl Tryd.underlying37 HI0.out rfl (by decide) rfl rfl h12 (HK2.out W hE.below) (by rw [keysF_len, HT2.out, Nat.mul_one]) (keysF_one _) (fun e => by split at e <;> cases e) (by omega) (by unfold maxLen; omega) (by omega) hE.size (.inr (Nat.le_refl _))
                    simp only [Act.put, List.setIfInBounds_toArray, List.set_cons_zero, List.set_cons_succ]
                    refine wpPartsO_end fun W4 hE4 hG4 => ?_
                    have hr17 := hG4.1
                    rw [show t + 1 + (i - t) = i + 1 by omega] at hr17
                    obtain ⟨qa2, qc2, rfl⟩ := own_sliceW hr17.own
                    have HRQ := Lib.hid hr17.own
                    have HB4 := Lib.hid (HB3.out.trans (hE4.below.mono HB3.out.size))
                    have HOB4 := Lib.hid (HOB3.out.ext hE4.below)
                    have HV14 := Lib.hid (fun W (hb : Below W4.heap.size W4 W) => HV1.out W (hE4.below.trans (hb.mono hE4.size)))
                    have HV24 := Lib.hid (fun W (hb : Below W4.heap.size W4 W) => HV2.out W (hE4.below.trans (hb.mono hE4.size)))
                    have hs4 := hE4.size
                    have q5 := HOB4.out.box.cells
                    have l5 := HOB4.out.box.lt
                    clear hr17 hG4 hE4 HK1 HK2 HV1 HV2
                    go_wp2_with fail
                    clear q5 l5
                    refine' wp_region_seqO (fam2 12 17 (by decide) (goes_preS W4.heap.size 39 5 q0) (goes_preS W4.heap.size 39 5 q0) (goes_preS W4.heap.size 39 5 (t + 1)) (fun _ _ h => h) (fun _ _ h => h.le hq3)) [.inl _, .inl _, .inl _, .inl _, .inl _, .inr (RowN W4.heap.size 39 5 t (kidsF (m.take t))), .inl _, .inl _, .inl _, .inl _, .inl _, .inr (RowN W4.heap.size 39 5 1 p.vcells), .inr (RowN W4.heap.size 39 5 (t + 1) (kidsF (m.take t) ++ p.vcells)), .inl _, .inl _, .inl _, .inl _, .inr (RowN W4.heap.size 39 5 (t + 1 + (i - t)) (kidsF (m.take t) ++ p.vcells ++ kidsF (m.drop t)))] (by kernel_rfl) (by kernel_rfl) ?main6
                    case main6 =>
                      refine wpPartsO_det rfl (by rfl) (fun W hE hN => ?_) ?_
                      · go_simp; refine ⟨Below.refl _ _, ?_⟩; rfl
                      simp only [Act.put, List.setIfInBounds_toArray, List.set_cons_zero, List.set_cons_succ]
                      refine wpPartsO_det rfl (by rfl) (fun W hE hN => ?_) ?_
                      · go_simp; refine ⟨Below.refl _ _, ?_⟩; rfl
                      simp only [Act.put, List.setIfInBounds_toArray, List.set_cons_zero, List.set_cons_succ]
                      refine wpPartsO_det rfl (by rfl) (fun W hE hN => ?_) ?_
                      · have q5 := (HOB4.out.box.ext hE.below).cells; go_simp; refine ⟨Below.refl _ _, ?_⟩; rfl
                      simp only [Act.put, List.setIfInBounds_toArray, List.set_cons_zero, List.set_cons_succ]
                      refine wpPartsO_det rfl (by rfl) (fun W hE hN => ?_) ?_
                      · go_simp; refine ⟨Below.refl _ _, ?_⟩; rfl
                      simp only [Act.put, List.setIfInBounds_toArray, List.set_cons_zero, List.set_cons_succ]
                      refine wpPartsO_det rfl (by rfl) (fun W hE hN => ?_) ?_
                      · go_simp; refine ⟨Below.refl _ _, ?_⟩; rfl
                      simp only [Act.put, List.setIfInBounds_toArray, List.set_cons_zero, List.set_cons_succ]
                      refine wpPartsO_any rfl rfl (RowN.keep hq1) (by rfl) (fun W hE hN => ?_) (fun u5 => ?_)
                      · exact gives_nilS rfl Tryd.underlying36 HI1.out rfl (by decide) rfl rfl (HV14.out W hE.below) (by rw [kidsF_len, HT1.out]) (kidsF_one _) (fun e => by cases e) hkt1 (by unfold maxLen; omega) (by omega) hE.size
                      simp only [Act.put, List.setIfInBounds_toArray, List.set_cons_zero, List.set_cons_succ]
                      refine wpPartsO_det rfl (by rfl) (fun W hE hN => ?_) ?_
                      · go_simp; refine ⟨Below.refl _ _, ?_⟩; rfl
                      simp only [Act.put, List.setIfInBounds_toArray, List.set_cons_zero, List.set_cons_succ]
                      refine wpPartsO_det rfl (by rfl) (fun W hE hN => ?_) ?_
                      · go_simp; refine ⟨Below.refl _ _, ?_⟩; rfl
                      simp only [Act.put, List.setIfInBounds_toArray, List.set_cons_zero, List.set_cons_succ]
                      refine wpPartsO_det rfl (by rfl) (fun W hE hN => ?_) ?_
                      · go_simp; refine ⟨Below.refl _ _, ?_⟩; rfl
                      simp only [Act.put, List.setIfInBounds_toArray, List.set_cons_zero, List.set_cons_succ]
                      refine wpPartsO_det rfl (by rfl) (fun W hE hN => ?_) ?_
                      · go_simp; refine ⟨Below.refl _ _, ?_⟩; rfl
                      simp only [Act.put, List.setIfInBounds_toArray, List.set_cons_zero, List.set_cons_succ]
                      refine wpPartsO_det rfl (by rfl) (fun W hE hN => ?_) ?_
                      · have hbb := HB4.out.trans (hE.below.mono HB4.out.size); have x1 := (hbb.cell (p := ⟨b, o + i * 6 + 1, none⟩) hbw0).trans (CC.out 1 _ rfl); have x2 := (hbb.cell (p := ⟨b, o + i * 6 + 2, none⟩) hbw0).trans (CC.out 2 _ rfl); have x3 := (hbb.cell (p := ⟨b, o + i * 6 + 3, none⟩) hbw0).trans (CC.out 3 _ rfl); have x4 := (hbb.cell (p := ⟨b, o + i * 6 + 4, none⟩) hbw0).trans (CC.out 4 _ rfl); have x5 := (hbb.cell (p := ⟨b, o + i * 6 + 5, none⟩) hbw0).trans (CC.out 5 _ rfl); (try simp only [Nat.zero_mul, Nat.add_zero] at x1 x2 x3 x4 x5); go_simp; refine ⟨Below.refl _ _, ?_⟩; rfl
                      simp only [Act.put, List.setIfInBounds_toArray, List.set_cons_zero, List.set_cons_succ]
                      refine wpPartsO_any rfl rfl (RowN.keep hq2) (by rfl) (fun W hE hN => ?_) (fun u11 => ?_)
                      · go_simp; exact ⟨(by repeat (first | (with_reducible exact Below.refl _ _) | (with_reducible exact Below.refl _ _) | (with_reducible refine Below.setCell ?_ (by first | omega | (simp; done) | (simp; omega)) _) | (with_reducible refine Below.alloc ?_ (by first | omega | (simp; done) | (simp; omega)) _) | (with_reducible refine Below.drew ?_) | (with_reducible refine below_drewN ?_ _))), rowN_alloc hE.size rfl⟩
                      simp only [Act.put, List.setIfInBounds_toArray, List.set_cons_zero, List.set_cons_succ]
                      refine wpPartsO_writes (K := PreS W4.heap.size 39 5 q0) (L := PreS W4.heap.size 39 5 (t + 1)) rfl rfl rfl (fam2_stays RowN.later (.inl rfl) (.inr (.inr (RowN.keep (Nat.le_refl _))))) (by rfl) (fun W hE hN => ?_) (fun u12 => ?_)
                      · obtain ⟨h11, h5, _⟩ := (show RowN W4.heap.size 39 5 1 p.vcells u11 W ∧ RowN W4.heap.size 39 5 t (kidsF (m.take t)) u5 W ∧ True from hN); obtain ⟨a11, c11, rfl⟩ := own_sliceW h11.own; obtain ⟨f1, f2, f3, f4⟩ := own_flat h11.own; exact givesK_preS rfl Tryd.underlying36 HI1.out rfl (by decide) rfl rfl h5 f4 rfl (by simp [PairE.vcells, Value.oneCell']) f3 f1 (by unfold maxLen; omega) (by omega) hE.size hq4
                      simp only [Act.put, List.setIfInBounds_toArray, List.set_cons_zero, List.set_cons_succ]
                      refine wpPartsO_det rfl (by rfl) (fun W hE hN => ?_) ?_
                      · go_simp; refine ⟨Below.refl _ _, ?_⟩; rfl
                      simp only [Act.put, List.setIfInBounds_toArray, List.set_cons_zero, List.set_cons_succ]
                      refine wpPartsO_det rfl (by rfl) (fun W hE hN => ?_) ?_
                      · have q5 := (HOB4.out.box.ext hE.below).cells; go_simp; refine ⟨Below.refl _ _, ?_⟩; rfl
                      simp only [Act.put, List.setIfInBounds_toArray, List.set_cons_zero, List.set_cons_succ]
                      refine wpPartsO_det rfl (by rfl) (fun W hE hN => ?_) ?_
                      · go_simp; refine ⟨Below.refl _ _, ?_⟩; rfl
                      simp only [Act.put, List.setIfInBounds_toArray, List.set_cons_zero, List.set_cons_succ]
                      refine wpPartsO_det rfl (by rfl) (fun W hE hN => ?_) ?_
                      · go_simp; refine ⟨Below.refl _ _, ?_⟩; rfl
                      simp only [Act.put, List.setIfInBounds_toArray, List.set_cons_zero, List.set_cons_succ]
                      refine wpPartsO_writes (K := PreS W4.heap.size 39 5 (t + 1)) (L := PreS W4.heap.size 39 5 q0) rfl rfl rfl (fam2_stays RowN.later (.inr (.inl (by kernel_rfl))) (.inl rfl)) (by rfl) (fun W hE hN => ?_) (fun u17 => ?_)
                      · have h12 := (show RowN W4.heap.size 39 5 (t + 1) (kidsF (m.take t) ++ p.vcells) u12 W ∧ True from hN).1; exact givesK_preS rfl Tryd.underlying36 HI1.out rfl (by decide) rfl rfl h12 (HV24.out W hE.below) (by rw [kidsF_len, HT2.out]) (kidsF_one _) (fun e => by split at e <;> cases e) (by omega) (by unfold maxLen; omega) (by omega) hE.size (.inr (Nat.le_refl _))
                      simp only [Act.put, List.setIfInBounds_toArray, List.set_cons_zero, List.set_cons_succ]
                      refine wpPartsO_end fun W5 hE5 hG5 => ?_
                      have hr17 := hG5.1
                      rw [show t + 1 + (i - t) = i + 1 by omega] at hr17
                      obtain ⟨ka2, kc2, rfl⟩ := own_sliceW hr17.own
                      have HRK := Lib.hid hr17.own
                      have HRQ5 := Lib.hid (ownsRow_below HRQ.out hE5.below)
                      have HB5 := Lib.hid (HB4.out.trans (hE5.below.mono HB4.out.size))
                      have hob5 := HOB4.out.ext hE5.below
                      have HOB5 := Lib.hid hob5
                      have hs5 := hE5.size
                      have q5 := hob5.box.cells
                      have m5 := hob5.box.marks
                      have l5 := hob5.box.lt
                      have HSZ3 := Lib.hid HB3.out.size
                      clear hr17 hG5 hE5 hob5 HV14 HV24 HRQ
                      go_wp2_with fail
                      go_roundw
                      case rel =>
                        have ho6 := ((OnlyS.refl (· = w.heap.size + 1) W5).set (w.heap.size + 1) 4 (.slice qa2 (i + 1) qc2) rfl).set (w.heap.size + 1) 3 (.slice ka2 (i + 1) kc2) rfl
                        have hz3 : w.heap.size + 1 < W3.heap.size := Nat.lt_of_lt_of_le hsz HB3.out.size
                        have hk6 := own_flat (ownsRow_onlyS HRK.out ho6 (fun b hb e => by have := own_high HRK.out hb; omega))
                        have hq6 := own_flat (ownsRow_onlyS HRQ5.out ho6 (fun b hb e => by have := own_high HRQ5.out hb; omega))
                        have hm2 := HML.out
                        refine ⟨i + 1, m.take t ++ p :: m.drop t, ka2, kc2, qa2, qc2, by omega, by go_num, insFold_step HFO.out HP.out HINS.out, by rw [List.length_append, List.length_cons, List.length_take, List.length_drop]; omega, fun e he => ?_, ⟨HOB5.out.zero.onlyS ho6 (by omega), (HOB5.out.box.set 4 _).set 3 _, ?_, ?_, hk6.2.2.1, ⟨hk6.1, hk6.2.1⟩, hq6.2.2.1, ⟨hq6.1, hq6.2.1⟩⟩, fun e => by omega, ⟨fun g hg => by have := own_high HRK.out hg; omega, fun g hg => by have := own_high HRQ5.out hg; omega⟩, (HBEL.out.trans (HB5.out.mono HBEL.out.size)).trans (ho6.below (HBEL.out.trans (HB5.out.mono HBEL.out.size)).size (fun b hb => by omega)), ?_⟩
                        · rcases List.mem_append.1 he with h | h
                          · exact HMEM.out e (List.mem_of_mem_take h)
                          · rcases List.mem_cons.1 h with rfl | h
                            · exact List.mem_of_getElem? HP.out
                            · exact HMEM.out e (List.mem_of_mem_drop h)
                        · have h := hk6.2.2.2
                          rwa [show kidsF (m.take t) ++ p.vcells ++ kidsF (m.drop t) = kidsF (m.take t ++ p :: m.drop t) by unfold kidsF; simp] at h
                        · have h := hq6.2.2.2
                          rwa [show keysF (m.take t) ++ [.string p.key] ++ keysF (m.drop t) = keysF (m.take t ++ p :: m.drop t) by unfold keysF; simp] at h
                        · simp; omega
                      case measure => simp [intOf]; omega
        · have hti2 : i = t := by omega
          have gt1 : decide ((t : Int) < (i : Int)) = false := decide_eq_false (by omega)
          have gt2 : ¬ (t : Int) < (i : Int) := by omega
          have HNX := Lib.hid (show m[t]? = none from List.getElem?_eq_none (by have := HML.out; omega))
          have HLOW := Lib.hid (show lowK p.key m = t from lowK_is HLO.out (fun x hx => by rw [HNX.out] at hx; cases hx) (by have := HML.out; omega))
          have HINS := Lib.hid (show insOne m p = some (m.take t ++ p :: m.drop t) from by unfold insOne isAtK; rw [HLOW.out, HNX.out]; rfl)
          go_wp2_with fail
          refine' wp_region_seq [.inl _, .inl _, .inl _, .inl _, .inl _, .inl _, .inl undef, .inl undef, .inl undef, .inl undef, .inl undef, .inl undef, .inl undef, .inl undef, .inl undef, .inl undef, .inl undef, .inl _] (by kernel_rfl) (by kernel_rfl) ?main7
          case main7 =>
            refine wpParts_det (by rfl) (fun W hE hN => ?_) ?_
            · go_simp; refine ⟨Below.refl _ _, ?_⟩; rfl
            simp only [Act.put, List.setIfInBounds_toArray, List.set_cons_zero, List.set_cons_succ]
            refine wpParts_det (by rfl) (fun W hE hN => ?_) ?_
            · go_simp; refine ⟨Below.refl _ _, ?_⟩; rfl
            simp only [Act.put, List.setIfInBounds_toArray, List.set_cons_zero, List.set_cons_succ]
            refine wpParts_det (by rfl) (fun W hE hN => ?_) ?_
            · have hc := fun b o h => hE.cell (p := ⟨b, o, none⟩) h
              go_simp; refine ⟨Below.refl _ _, ?_⟩; rfl
            simp only [Act.put, List.setIfInBounds_toArray, List.set_cons_zero, List.set_cons_succ]
            refine wpParts_det (by rfl) (fun W hE hN => ?_) ?_
            · go_simp; refine ⟨Below.refl _ _, ?_⟩; rfl
            simp only [Act.put, List.setIfInBounds_toArray, List.set_cons_zero, List.set_cons_succ]
            refine wpParts_det (by rfl) (fun W hE hN => ?_) ?_
            · go_simp; refine ⟨Below.refl _ _, ?_⟩; rfl
            simp only [Act.put, List.setIfInBounds_toArray, List.set_cons_zero, List.set_cons_succ]
            refine wpParts_det (by rfl) (fun W hE hN => ?_) ?_
            · go_simp; refine ⟨Below.refl _ _, ?_⟩; rfl
            simp only [Act.put, List.setIfInBounds_toArray, List.set_cons_zero, List.set_cons_succ]
            refine wpParts_skip ?_ ?_
            · rfl
            simp only [Act.put, List.setIfInBounds_toArray, List.set_cons_zero, List.set_cons_succ]
            refine wpParts_skip ?_ ?_
            · rfl
            simp only [Act.put, List.setIfInBounds_toArray, List.set_cons_zero, List.set_cons_succ]
            refine wpParts_skip ?_ ?_
            · rfl
            simp only [Act.put, List.setIfInBounds_toArray, List.set_cons_zero, List.set_cons_succ]
            refine wpParts_skip ?_ ?_
            · rfl
            simp only [Act.put, List.setIfInBounds_toArray, List.set_cons_zero, List.set_cons_succ]
            refine wpParts_skip ?_ ?_
            · rfl
            simp only [Act.put, List.setIfInBounds_toArray, List.set_cons_zero, List.set_cons_succ]
            refine wpParts_skip ?_ ?_
            · rfl
            simp only [Act.put, List.setIfInBounds_toArray, List.set_cons_zero, List.set_cons_succ]
            refine wpParts_skip ?_ ?_
            · rfl
            simp only [Act.put, List.setIfInBounds_toArray, List.set_cons_zero, List.set_cons_succ]
            refine wpParts_skip ?_ ?_
            · rfl
            simp only [Act.put, List.setIfInBounds_toArray, List.set_cons_zero, List.set_cons_succ]
            refine wpParts_skip ?_ ?_
            · rfl
            simp only [Act.put, List.setIfInBounds_toArray, List.set_cons_zero, List.set_cons_succ]
            refine wpParts_skip ?_ ?_
            · rfl
            simp only [Act.put, List.setIfInBounds_toArray, List.set_cons_zero, List.set_cons_succ]
            refine wpParts_skip ?_ ?_
            · rfl
            simp only [Act.put, List.setIfInBounds_toArray, List.set_cons_zero, List.set_cons_succ]
            refine wpParts_det (by rfl) (fun W hE hN => ?_) ?_
            · go_simp; refine ⟨Below.refl _ _, ?_⟩; rfl
            simp only [Act.put, List.setIfInBounds_toArray, List.set_cons_zero, List.set_cons_succ]
            refine wpParts_end fun W2 hE2 hG2 => ?_
            have hcW2 := fun b o h => hE2.cell (p := ⟨b, o, none⟩) h
            have hfW2 := fun b o h => hE2.frozen (p := ⟨b, o, none⟩) h
            have hob2 := HOBS.out.ext hE2
            have q5 := hob2.box.cells
            have l5 := hob2.box.lt
            have HB2 := Lib.hid (HBS.out.trans (hE2.mono HBS.out.size))
            have HOB2 := Lib.hid hob2
            clear hob2 hE2 hcW2 hfW2
            go_wp2_with fail
            refine' wp_region_seq [.inl _, .inl _, .inl _, .inl _, .inl _, .inl _, .inl undef, .inl undef, .inl undef, .inl undef, .inl undef, .inl undef, .inl undef, .inl undef, .inl undef, .inl undef, .inl undef, .inl _] (by kernel_rfl) (by kernel_rfl) ?main8
            case main8 =>
              refine wpParts_det (by rfl) (fun W hE hN => ?_) ?_
              · go_simp; refine ⟨Below.refl _ _, ?_⟩; rfl
              simp only [Act.put, List.setIfInBounds_toArray, List.set_cons_zero, List.set_cons_succ]
              refine wpParts_det (by rfl) (fun W hE hN => ?_) ?_
              · go_simp; refine ⟨Below.refl _ _, ?_⟩; rfl
              simp only [Act.put, List.setIfInBounds_toArray, List.set_cons_zero, List.set_cons_succ]
              refine wpParts_det (by rfl) (fun W hE hN => ?_) ?_
              · have hc := fun b o h => hE.cell (p := ⟨b, o, none⟩) h
                go_simp; refine ⟨Below.refl _ _, ?_⟩; rfl
              simp only [Act.put, List.setIfInBounds_toArray, List.set_cons_zero, List.set_cons_succ]
              refine wpParts_det (by rfl) (fun W hE hN => ?_) ?_
              · go_simp; refine ⟨Below.refl _ _, ?_⟩; rfl
              simp only [Act.put, List.setIfInBounds_toArray, List.set_cons_zero, List.set_cons_succ]
              refine wpParts_det (by rfl) (fun W hE hN => ?_) ?_
              · go_simp; refine ⟨Below.refl _ _, ?_⟩; rfl
              simp only [Act.put, List.setIfInBounds_toArray, List.set_cons_zero, List.set_cons_succ]
              refine wpParts_det (by rfl) (fun W hE hN => ?_) ?_
              · go_simp; refine ⟨Below.refl _ _, ?_⟩; rfl
              simp only [Act.put, List.setIfInBounds_toArray, List.set_cons_zero, List.set_cons_succ]
              refine wpParts_skip ?_ ?_
              · rfl
              simp only [Act.put, List.setIfInBounds_toArray, List.set_cons_zero, List.set_cons_succ]
              refine wpParts_skip ?_ ?_
              · rfl
              simp only [Act.put, List.setIfInBounds_toArray, List.set_cons_zero, List.set_cons_succ]
              refine wpParts_skip ?_ ?_
              · rfl
              simp only [Act.put, List.setIfInBounds_toArray, List.set_cons_zero, List.set_cons_succ]
              refine wpParts_skip ?_ ?_
              · rfl
              simp only [Act.put, List.setIfInBounds_toArray, List.set_cons_zero, List.set_cons_succ]
              refine wpParts_skip ?_ ?_
              · rfl
              simp only [Act.put, List.setIfInBounds_toArray, List.set_cons_zero, List.set_cons_succ]
              refine wpParts_skip ?_ ?_
              · rfl
              simp only [Act.put, List.setIfInBounds_toArray, List.set_cons_zero, List.set_cons_succ]
              refine wpParts_skip ?_ ?_
              · rfl
              simp only [Act.put, List.setIfInBounds_toArray, List.set_cons_zero, List.set_cons_succ]
              refine wpParts_skip ?_ ?_
              · rfl
              simp only [Act.put, List.setIfInBounds_toArray, List.set_cons_zero, List.set_cons_succ]
              refine wpParts_skip ?_ ?_
              · rfl
              simp only [Act.put, List.setIfInBounds_toArray, List.set_cons_zero, List.set_cons_succ]
              refine wpParts_skip ?_ ?_
              · rfl
              simp only [Act.put, List.setIfInBounds_toArray, List.set_cons_zero, List.set_cons_succ]
              refine wpParts_skip ?_ ?_
              · rfl
              simp only [Act.put, List.setIfInBounds_toArray, List.set_cons_zero, List.set_cons_succ]
              refine wpParts_det (by rfl) (fun W hE hN => ?_) ?_
              · go_simp; refine ⟨Below.refl _ _, ?_⟩; rfl
              simp only [Act.put, List.setIfInBounds_toArray, List.set_cons_zero, List.set_cons_succ]
              refine wpParts_end fun W3 hE3 hG3 => ?_
              have hcW3 := fun b o h => hE3.cell (p := ⟨b, o, none⟩) h
              have hfW3 := fun b o h => hE3.frozen (p := ⟨b, o, none⟩) h
              have HB3 := Lib.hid (HB2.out.trans (hE3.mono HB2.out.size))
              have HOB3 := Lib.hid (HOB2.out.ext hE3)
              clear hE3 hcW3 hfW3 q5 l5 x0 HOB2 gt1 gt2
              have hqt := HOB3.out.qle
              have hkt := HOB3.out.kle
              by_cases h0 : i = 0
              · subst h0
                subst hti2
                obtain ⟨rfl, rfl⟩ := HNONE.out rfl
                obtain rfl := HOB3.out.knil rfl
                obtain rfl := HOB3.out.qnil rfl
                have hdn : m.drop 0 = [] := List.drop_eq_nil_of_le (by have := HML.out; omega)
                have HDN := Lib.hid hdn
                clear hdn
                obtain ⟨q0, hq0⟩ : ∃ q0, max 0 1 = q0 := ⟨_, rfl⟩
                have hq1 : 0 ≤ q0 := by omega
                have hq2 : 1 ≤ q0 := by omega
                have hq3 : q0 ≤ 0 + 1 := by omega
                have hq4 : 0 = 0 ∨ q0 ≤ 0 := by omega
                clear hq0
                have q5 := HOB3.out.box.cells
                have l5 := HOB3.out.box.lt
                have hml := HML.out
                have htk : (m.take 0).length = 0 := by rw [List.length_take]; omega
                have htd : (m.drop 0).length = 0 := by rw [List.length_drop]; omega
                have HK1 := Lib.hid (show ∀ W, Below W3.heap.size W3 W → FlatAt W none (keysF (m.take 0)) from fun W hb => FlatAt.part (ys := keysF (m.drop 0)) (by have h := HOB3.out.keys.ext hb; rwa [show keysF m = keysF (m.take 0) ++ keysF (m.drop 0) by unfold keysF; rw [← List.map_append, List.take_append_drop]] at h))
                have HK2 := Lib.hid (show ∀ W, Below W3.heap.size W3 W → FlatAt W none (keysF (m.drop 0)) from fun W hb => (by rw [HDN.out]; exact FlatAt.nil _ _))
                have HV1 := Lib.hid (show ∀ W, Below W3.heap.size W3 W → FlatAt W none (kidsF (m.take 0)) from fun W hb => FlatAt.part (ys := kidsF (m.drop 0)) (by have h := HOB3.out.kids.ext hb; rwa [show kidsF m = kidsF (m.take 0) ++ kidsF (m.drop 0) by unfold kidsF; rw [← List.flatMap_append, List.take_append_drop]] at h))
                have HV2 := Lib.hid (show ∀ W, Below W3.heap.size W3 W → FlatAt W none (kidsF (m.drop 0)) from fun W hb => (by rw [HDN.out]; exact FlatAt.nil _ _))
                have HT1 := Lib.hid htk
                have HT2 := Lib.hid htd
                clear hml htk htd
                go_wp2_with fail
                refine' wp_region_seqO (fam2 12 17 (by decide) (goes_preS W3.heap.size 9 1 q0) (goes_preS W3.heap.size 9 1 q0) (goes_preS W3.heap.size 9 1 (0 + 1)) (fun _ _ h => h) (fun _ _ h => h.le hq3)) [.inl _, .inl _, .inl _, .inl _, .inl _, .inr (RowN W3.heap.size 9 1 0 (keysF (m.take 0))), .inl _, .inl _, .inl _, .inl _, .inl _, .inr (RowN W3.heap.size 9 1 1 [.string p.key]), .inr (RowN W3.heap.size 9 1 (0 + 1) (keysF (m.take 0) ++ [.string p.key])), .inl _, .inl _, .inl _, .inl _, .inr (RowN W3.heap.size 9 1 (0 + 1 + 0) (keysF (m.take 0) ++ [.string p.key] ++ keysF (m.drop 0)))] (by kernel_rfl) (by kernel_rfl) ?main9
                case main9 =>
                  refine wpPartsO_det rfl (by rfl) (fun W hE hN => ?_) ?_
                  · go_simp; refine ⟨Below.refl _ _, ?_⟩; rfl
                  simp only [Act.put, List.setIfInBounds_toArray, List.set_cons_zero, List.set_cons_succ]
                  refine wpPartsO_det rfl (by rfl) (fun W hE hN => ?_) ?_
                  · go_simp; refine ⟨Below.refl _ _, ?_⟩; rfl
                  simp only [Act.put, List.setIfInBounds_toArray, List.set_cons_zero, List.set_cons_succ]
                  refine wpPartsO_det rfl (by rfl) (fun W hE hN => ?_) ?_
                  · have q5 := (HOB3.out.box.ext hE.below).cells; go_simp; refine ⟨Below.refl _ _, ?_⟩; rfl
                  simp only [Act.put, List.setIfInBounds_toArray, List.set_cons_zero, List.set_cons_succ]
                  refine wpPartsO_det rfl (by rfl) (fun W hE hN => ?_) ?_
                  · go_simp; refine ⟨Below.refl _ _, ?_⟩; rfl
                  simp only [Act.put, List.setIfInBounds_toArray, List.set_cons_zero, List.set_cons_succ]
                  refine wpPartsO_det rfl (by rfl) (fun W hE hN => ?_) ?_
                  · go_simp; refine ⟨Below.refl _ _, ?_⟩; rfl
                  simp only [Act.put, List.setIfInBounds_toArray, List.set_cons_zero, List.set_cons_succ]
                  refine wpPartsO_any rfl rfl (RowN.keep (Nat.zero_le _)) (by rfl) (fun W hE hN => ?_) (fun u5 => ?_)
                  · exact gives_nilS rfl Tryd.underlying37 HI0.out rfl (by decide) rfl rfl (HK1.out W hE.below) (by rw [keysF_len, HT1.out, Nat.mul_one]) (keysF_one _) (fun _ => rfl) (Nat.le_refl _) (by unfold maxLen; omega) (by omega) hE.size
                  simp only [Act.put, List.setIfInBounds_toArray, List.set_cons_zero, List.set_cons_succ]
                  refine wpPartsO_det rfl (by rfl) (fun W hE hN => ?_) ?_
                  · go_simp; refine ⟨Below.refl _ _, ?_⟩; rfl
                  simp only [Act.put, List.setIfInBounds_toArray, List.set_cons_zero, List.set_cons_succ]
                  refine wpPartsO_det rfl (by rfl) (fun W hE hN => ?_) ?_
                  · go_simp; refine ⟨Below.refl _ _, ?_⟩; rfl
                  simp only [Act.put, List.setIfInBounds_toArray, List.set_cons_zero, List.set_cons_succ]
                  refine wpPartsO_det rfl (by rfl) (fun W hE hN => ?_) ?_
                  · go_simp; refine ⟨Below.refl _ _, ?_⟩; rfl
                  simp only [Act.put, List.setIfInBounds_toArray, List.set_cons_zero, List.set_cons_succ]
                  refine wpPartsO_det rfl (by rfl) (fun W hE hN => ?_) ?_
                  · go_simp; refine ⟨Below.refl _ _, ?_⟩; rfl
                  simp only [Act.put, List.setIfInBounds_toArray, List.set_cons_zero, List.set_cons_succ]
                  refine wpPartsO_det rfl (by rfl) (fun W hE hN => ?_) ?_
                  · have hbb := HB3.out.trans (hE.below.mono HB3.out.size); have x0 := (hbb.cell (p := ⟨b, o + 0 * 6, none⟩) hbw0).trans (CC.out 0 _ rfl); (try simp only [Nat.zero_mul, Nat.add_zero] at x0); go_simp; refine ⟨Below.refl _ _, ?_⟩; rfl
                  simp only [Act.put, List.setIfInBounds_toArray, List.set_cons_zero, List.set_cons_succ]
                  refine wpPartsO_any rfl rfl (RowN.keep hq2) (by rfl) (fun W hE hN => ?_) (fun u11 => ?_)
                  · go_simp; exact ⟨(by repeat (first | (with_reducible exact Below.refl _ _) | (with_reducible exact Below.refl _ _) | (with_reducible refine Below.setCell ?_ (by first | omega | (simp; done) | (simp; omega)) _) | (with_reducible refine Below.alloc ?_ (by first | omega | (simp; done) | (simp; omega)) _) | (with_reducible refine Below.drew ?_) | (with_reducible refine below_drewN ?_ _))), rowN_alloc hE.size rfl⟩
                  simp only [Act.put, List.setIfInBounds_toArray, List.set_cons_zero, List.set_cons_succ]
                  refine wpPartsO_writes (K := PreS W3.heap.size 9 1 q0) (L := PreS W3.heap.size 9 1 (0 + 1)) rfl rfl rfl (fam2_stays RowN.later (.inl rfl) (.inr (.inr (RowN.keep (Nat.le_refl _))))) (by rfl) (fun W hE hN => ?_) (fun u12 => ?_)
                  · obtain ⟨h11, h5, _⟩ := (show RowN W3.heap.size 9 1 1 [.string p.key] u11 W ∧ RowN W3.heap.size 9 1 0 (keysF (m.take 0)) u5 W ∧ True from hN); obtain ⟨a11, c11, rfl⟩ := own_sliceW h11.own; obtain ⟨f1, f2, f3, f4⟩ := own_flat h11.own; exact givesK_preS rfl Tryd.underlying37 HI0.out rfl (by decide) rfl rfl h5 f4 rfl (by simp [Value.oneCell']) f3 f1 (by unfold maxLen; omega) (by omega) hE.size (.inl rfl)
                  simp only [Act.put, List.setIfInBounds_toArray, List.set_cons_zero, List.set_cons_succ]
                  refine wpPartsO_det rfl (by rfl) (fun W hE hN => ?_) ?_
                  · go_simp; refine ⟨Below.refl _ _, ?_⟩; rfl
                  simp only [Act.put, List.setIfInBounds_toArray, List.set_cons_zero, List.set_cons_succ]
                  refine wpPartsO_det rfl (by rfl) (fun W hE hN => ?_) ?_
                  · have q5 := (HOB3.out.box.ext hE.below).cells; go_simp; refine ⟨Below.refl _ _, ?_⟩; rfl
                  simp only [Act.put, List.setIfInBounds_toArray, List.set_cons_zero, List.set_cons_succ]
                  refine wpPartsO_det rfl (by rfl) (fun W hE hN => ?_) ?_
                  · go_simp; refine ⟨Below.refl _ _, ?_⟩; rfl
                  simp only [Act.put, List.setIfInBounds_toArray, List.set_cons_zero, List.set_cons_succ]
                  refine wpPartsO_det rfl (by rfl) (fun W hE hN => ?_) ?_
                  · go_simp; refine ⟨Below.refl _ _, ?_⟩; rfl
                  simp only [Act.put, List.setIfInBounds_toArray, List.set_cons_zero, List.set_cons_succ]
                  refine wpPartsO_writes (K := PreS W3.heap.size 9 1 (0 + 1)) (L := PreS W3.heap.size 9 1 q0) rfl rfl rfl (fam2_stays RowN.later (.inr (.inl (by kernel_rfl))) (.inl rfl)) (by rfl) (fun W hE hN => ?_) (fun u17 => ?_)
                  · have h12 := (show RowN W3.heap.size 9 1 (0 + 1) (keysF (m.take 0) ++ [.string p.key]) u12 W ∧ True from hN).1; exact givesK_preS rfl Tryd.underlying37 HI0.out rfl (by decide) rfl rfl h12 (HK2.out W hE.below) (by rw [keysF_len, HT2.out, Nat.mul_one]) (keysF_one _) (fun _ => rfl) (by omega) (by unfold maxLen; omega) (by omega) hE.size (.inr (Nat.le_refl _))
                  simp only [Act.put, List.setIfInBounds_toArray, List.set_cons_zero, List.set_cons_succ]
                  refine wpPartsO_end fun W4 hE4 hG4 => ?_
                  have hr17 := hG4.1
                  rw [show 0 + 1 + 0 = 0 + 1 by omega] at hr17
                  obtain ⟨qa2, qc2, rfl⟩ := own_sliceW hr17.own
                  have HRQ := Lib.hid hr17.own
                  have HB4 := Lib.hid (HB3.out.trans (hE4.below.mono HB3.out.size))
                  have HOB4 := Lib.hid (HOB3.out.ext hE4.below)
                  have HV14 := Lib.hid (fun W (hb : Below W4.heap.size W4 W) => HV1.out W (hE4.below.trans (hb.mono hE4.size)))
                  have HV24 := Lib.hid (fun W (hb : Below W4.heap.size W4 W) => HV2.out W (hE4.below.trans (hb.mono hE4.size)))
                  have hs4 := hE4.size
                  have q5 := HOB4.out.box.cells
                  have l5 := HOB4.out.box.lt
                  clear hr17 hG4 hE4 HK1 HK2 HV1 HV2
                  go_wp2_with fail
                  clear q5 l5
                  refine' wp_region_seqO (fam2 12 17 (by decide) (goes_preS W4.heap.size 39 5 q0) (goes_preS W4.heap.size 39 5 q0) (goes_preS W4.heap.size 39 5 (0 + 1)) (fun _ _ h => h) (fun _ _ h => h.le hq3)) [.inl _, .inl _, .inl _, .inl _, .inl _, .inr (RowN W4.heap.size 39 5 0 (kidsF (m.take 0))), .inl _, .inl _, .inl _, .inl _, .inl _, .inr (RowN W4.heap.size 39 5 1 p.vcells), .inr (RowN W4.heap.size 39 5 (0 + 1) (kidsF (m.take 0) ++ p.vcells)), .inl _, .inl _, .inl _, .inl _, .inr (RowN W4.heap.size 39 5 (0 + 1 + 0) (kidsF (m.take 0) ++ p.vcells ++ kidsF (m.drop 0)))] (by kernel_rfl) (by kernel_rfl) ?main10
                  case main10 =>
                    refine wpPartsO_det rfl (by rfl) (fun W hE hN => ?_) ?_
                    · go_simp; refine ⟨Below.refl _ _, ?_⟩; rfl
                    simp only [Act.put, List.setIfInBounds_toArray, List.set_cons_zero, List.set_cons_succ]
                    refine wpPartsO_det rfl (by rfl) (fun W hE hN => ?_) ?_
                    · go_simp; refine ⟨Below.refl _ _, ?_⟩; rfl
                    simp only [Act.put, List.setIfInBounds_toArray, List.set_cons_zero, List.set_cons_succ]
                    refine wpPartsO_det rfl (by rfl) (fun W hE hN => ?_) ?_
                    · have q5 := (HOB4.out.box.ext hE.below).cells; go_simp; refine ⟨Below.refl _ _, ?_⟩; rfl
                    simp only [Act.put, List.setIfInBounds_toArray, List.set_cons_zero, List.set_cons_succ]
                    refine wpPartsO_det rfl (by rfl) (fun W hE hN => ?_) ?_
                    · go_simp; refine ⟨Below.refl _ _, ?_⟩; rfl
                    simp only [Act.put, List.setIfInBounds_toArray, List.set_cons_zero, List.set_cons_succ]
                    refine wpPartsO_det rfl (by rfl) (fun W hE hN => ?_) ?_
                    · go_simp; refine ⟨Below.refl _ _, ?_⟩; rfl
                    simp only [Act.put, List.setIfInBounds_toArray, List.set_cons_zero, List.set_cons_succ]
                    refine wpPartsO_any rfl rfl (RowN.keep (Nat.zero_le _)) (by rfl) (fun W hE hN => ?_) (fun u5 => ?_)
                    · exact gives_nilS rfl Tryd.underlying36 HI1.out rfl (by decide) rfl rfl (HV14.out W hE.below) (by rw [kidsF_len, HT1.out]) (kidsF_one _) (fun _ => rfl) (Nat.le_refl _) (by unfold maxLen; omega) (by omega) hE.size
                    simp only [Act.put, List.setIfInBounds_toArray, List.set_cons_zero, List.set_cons_succ]
                    refine wpPartsO_det rfl (by rfl) (fun W hE hN => ?_) ?_
                    · go_simp; refine ⟨Below.refl _ _, ?_⟩; rfl
                    simp only [Act.put, List.setIfInBounds_toArray, List.set_cons_zero, List.set_cons_succ]
                    refine wpPartsO_det rfl (by rfl) (fun W hE hN => ?_) ?_
                    · go_simp; refine ⟨Below.refl _ _, ?_⟩; rfl
                    simp only [Act.put, List.setIfInBounds_toArray, List.set_cons_zero, List.set_cons_succ]
                    refine wpPartsO_det rfl (by rfl) (fun W hE hN => ?_) ?_
                    · go_simp; refine ⟨Below.refl _ _, ?_⟩; rfl
                    simp only [Act.put, List.setIfInBounds_toArray, List.set_cons_zero, List.set_cons_succ]
                    refine wpPartsO_det rfl (by rfl) (fun W hE hN => ?_) ?_
                    · go_simp; refine ⟨Below.refl _ _, ?_⟩; rfl
                    simp only [Act.put, List.setIfInBounds_toArray, List.set_cons_zero, List.set_cons_succ]
                    refine wpPartsO_det rfl (by rfl) (fun W hE hN => ?_) ?_
                    · have hbb := HB4.out.trans (hE.below.mono HB4.out.size); have x1 := (hbb.cell (p := ⟨b, o + 0 * 6 + 1, none⟩) hbw0).trans (CC.out 1 _ rfl); have x2 := (hbb.cell (p := ⟨b, o + 0 * 6 + 2, none⟩) hbw0).trans (CC.out 2 _ rfl); have x3 := (hbb.cell (p := ⟨b, o + 0 * 6 + 3, none⟩) hbw0).trans (CC.out 3 _ rfl); have x4 := (hbb.cell (p := ⟨b, o + 0 * 6 + 4, none⟩) hbw0).trans (CC.out 4 _ rfl); have x5 := (hbb.cell (p := ⟨b, o + 0 * 6 + 5, none⟩) hbw0).trans (CC.out 5 _ rfl); (try simp only [Nat.zero_mul, Nat.add_zero] at x1 x2 x3 x4 x5); go_simp; refine ⟨Below.refl _ _, ?_⟩; rfl
                    simp only [Act.put, List.setIfInBounds_toArray, List.set_cons_zero, List.set_cons_succ]
                    refine wpPartsO_any rfl rfl (RowN.keep hq2) (by rfl) (fun W hE hN => ?_) (fun u11 => ?_)
                    · go_simp; exact ⟨(by repeat (first | (with_reducible exact Below.refl _ _) | (with_reducible exact Below.refl _ _) | (with_reducible refine Below.setCell ?_ (by first | omega | (simp; done) | (simp; omega)) _) | (with_reducible refine Below.alloc ?_ (by first | omega | (simp; done) | (simp; omega)) _) | (with_reducible refine Below.drew ?_) | (with_reducible refine below_drewN ?_ _))), rowN_alloc hE.size rfl⟩
                    simp only [Act.put, List.setIfInBounds_toArray, List.set_cons_zero, List.set_cons_succ]
                    refine wpPartsO_writes (K := PreS W4.heap.size 39 5 q0) (L := PreS W4.heap.size 39 5 (0 + 1)) rfl rfl rfl (fam2_stays RowN.later (.inl rfl) (.inr (.inr (RowN.keep (Nat.le_refl _))))) (by rfl) (fun W hE hN => ?_) (fun u12 => ?_)
                    · obtain ⟨h11, h5, _⟩ := (show RowN W4.heap.size 39 5 1 p.vcells u11 W ∧ RowN W4.heap.size 39 5 0 (kidsF (m.take 0)) u5 W ∧ True from hN); obtain ⟨a11, c11, rfl⟩ := own_sliceW h11.own; obtain ⟨f1, f2, f3, f4⟩ := own_flat h11.own; exact givesK_preS rfl Tryd.underlying36 HI1.out rfl (by decide) rfl rfl h5 f4 rfl (by simp [PairE.vcells, Value.oneCell']) f3 f1 (by unfold maxLen; omega) (by omega) hE.size (.inl rfl)
                    simp only [Act.put, List.setIfInBounds_toArray, List.set_cons_zero, List.set_cons_succ]
                    refine wpPartsO_det rfl (by rfl) (fun W hE hN => ?_) ?_
                    · go_simp; refine ⟨Below.refl _ _, ?_⟩; rfl
                    simp only [Act.put, List.setIfInBounds_toArray, List.set_cons_zero, List.set_cons_succ]
                    refine wpPartsO_det rfl (by rfl) (fun W hE hN => ?_) ?_
                    · have q5 := (HOB4.out.box.ext hE.below).cells; go_simp; refine ⟨Below.refl _ _, ?_⟩; rfl
                    simp only [Act.put, List.setIfInBounds_toArray, List.set_cons_zero, List.set_cons_succ]
                    refine wpPartsO_det rfl (by rfl) (fun W hE hN => ?_) ?_
                    · go_simp; refine ⟨Below.refl _ _, ?_⟩; rfl
                    simp only [Act.put, List.setIfInBounds_toArray, List.set_cons_zero, List.set_cons_succ]
                    refine wpPartsO_det rfl (by rfl) (fun W hE hN => ?_) ?_
                    · go_simp; refine ⟨Below.refl _ _, ?_⟩; rfl
                    simp only [Act.put, List.setIfInBounds_toArray, List.set_cons_zero, List.set_cons_succ]
                    refine wpPartsO_writes (K := PreS W4.heap.size 39 5 (0 + 1)) (L := PreS W4.heap.size 39 5 q0) rfl rfl rfl (fam2_stays RowN.later (.inr (.inl (by kernel_rfl))) (.inl rfl)) (by rfl) (fun W hE hN => ?_) (fun u17 => ?_)
                    · have h12 := (show RowN W4.heap.size 39 5 (0 + 1) (kidsF (m.take 0) ++ p.vcells) u12 W ∧ True from hN).1; exact givesK_preS rfl Tryd.underlying36 HI1.out rfl (by decide) rfl rfl h12 (HV24.out W hE.below) (by rw [kidsF_len, HT2.out]) (kidsF_one _) (fun _ => rfl) (by omega) (by unfold maxLen; omega) (by omega) hE.size (.inr (Nat.le_refl _))
                    simp only [Act.put, List.setIfInBounds_toArray, List.set_cons_zero, List.set_cons_succ]
                    refine wpPartsO_end fun W5 hE5 hG5 => ?_
                    have hr17 := hG5.1
                    rw [show 0 + 1 + 0 = 0 + 1 by omega] at hr17
                    obtain ⟨ka2, kc2, rfl⟩ := own_sliceW hr17.own
                    have HRK := Lib.hid hr17.own
                    have HRQ5 := Lib.hid (ownsRow_below HRQ.out hE5.below)
                    have HB5 := Lib.hid (HB4.out.trans (hE5.below.mono HB4.out.size))
                    have hob5 := HOB4.out.ext hE5.below
                    have HOB5 := Lib.hid hob5
                    have hs5 := hE5.size
                    have q5 := hob5.box.cells
                    have m5 := hob5.box.marks
                    have l5 := hob5.box.lt
                    have HSZ3 := Lib.hid HB3.out.size
                    clear hr17 hG5 hE5 hob5 HV14 HV24 HRQ
                    go_wp2_with fail
                    go_roundw
                    case rel =>
                      have ho6 := ((OnlyS.refl (· = w.heap.size + 1) W5).set (w.heap.size + 1) 4 (.slice qa2 (0 + 1) qc2) rfl).set (w.heap.size + 1) 3 (.slice ka2 (0 + 1) kc2) rfl
                      have hz3 : w.heap.size + 1 < W3.heap.size := Nat.lt_of_lt_of_le hsz HB3.out.size
                      have hk6 := own_flat (ownsRow_onlyS HRK.out ho6 (fun b hb e => by have := own_high HRK.out hb; omega))
                      have hq6 := own_flat (ownsRow_onlyS HRQ5.out ho6 (fun b hb e => by have := own_high HRQ5.out hb; omega))
                      have hm2 := HML.out
                      refine ⟨0 + 1, m.take 0 ++ p :: m.drop 0, ka2, kc2, qa2, qc2, by omega, by go_num, insFold_step HFO.out HP.out HINS.out, by rw [List.length_append, List.length_cons, List.length_take, List.length_drop]; omega, fun e he => ?_, ⟨HOB5.out.zero.onlyS ho6 (by omega), (HOB5.out.box.set 4 _).set 3 _, ?_, ?_, hk6.2.2.1, ⟨hk6.1, hk6.2.1⟩, hq6.2.2.1, ⟨hq6.1, hq6.2.1⟩⟩, fun e => by omega, ⟨fun g hg => by have := own_high HRK.out hg; omega, fun g hg => by have := own_high HRQ5.out hg; omega⟩, (HBEL.out.trans (HB5.out.mono HBEL.out.size)).trans (ho6.below (HBEL.out.trans (HB5.out.mono HBEL.out.size)).size (fun b hb => by omega)), ?_⟩
                      · rcases List.mem_append.1 he with h | h
                        · exact HMEM.out e (List.mem_of_mem_take h)
                        · rcases List.mem_cons.1 h with rfl | h
                          · exact List.mem_of_getElem? HP.out
                          · exact HMEM.out e (List.mem_of_mem_drop h)
                      · have h := hk6.2.2.2
                        rwa [show kidsF (m.take 0) ++ p.vcells ++ kidsF (m.drop 0) = kidsF (m.take 0 ++ p :: m.drop 0) by unfold kidsF; simp] at h
                      · have h := hq6.2.2.2
                        rwa [show keysF (m.take 0) ++ [.string p.key] ++ keysF (m.drop 0) = keysF (m.take 0 ++ p :: m.drop 0) by unfold keysF; simp] at h
                      · simp; omega
                    case measure => simp [intOf]; omega
              · obtain ⟨y, hy⟩ : ∃ y, m[0]? = some y := ⟨_, List.getElem?_eq_getElem (by have := HML.out; omega)⟩
                obtain ⟨g, o2, rfl, hg, _⟩ := HOB3.out.keys 0 (.string y.key) (by unfold keysF; rw [List.getElem?_map, hy]; rfl)
                obtain ⟨g3, o3, rfl, hg3, _⟩ := HOB3.out.kids (0 * 5 + 0) (.int .i64 y.k) (by unfold kidsF; rw [vflat_get (by omega) m 0 hy]; rfl)
                clear hg hg3 hy
                subst hti2
                have hqt1 : i ≤ qc := by omega
                have hkt1 : i ≤ kc := by omega
                obtain ⟨qa3, hqa⟩ : ∃ qa3, (if qc = i then some (⟨g, o2, none⟩ : Addr) else some ⟨g, o2 + i, none⟩) = qa3 := ⟨_, rfl⟩
                obtain ⟨ka3, hka⟩ : ∃ ka3, (if kc = i then some (⟨g3, o3, none⟩ : Addr) else some ⟨g3, o3 + i * 5, none⟩) = ka3 := ⟨_, rfl⟩
                have HQA := Lib.hid hqa
                have HKA := Lib.hid hka
                clear hqa hka
                obtain ⟨q0, hq0⟩ : ∃ q0, max i 1 = q0 := ⟨_, rfl⟩
                have hq1 : i ≤ q0 := by omega
                have hq2 : 1 ≤ q0 := by omega
                have hq3 : q0 ≤ i + 1 := by omega
                have hq4 : i = 0 ∨ q0 ≤ i := by omega
                clear hq0
                have q5 := HOB3.out.box.cells
                have l5 := HOB3.out.box.lt
                have hml := HML.out
                have htk : (m.take i).length = i := by rw [List.length_take]; omega
                have htd : (m.drop i).length = 0 := by rw [List.length_drop]; omega
                have HK1 := Lib.hid (show ∀ W, Below W3.heap.size W3 W → FlatAt W (some ⟨g, o2, none⟩) (keysF (m.take i)) from fun W hb => FlatAt.part (ys := keysF (m.drop i)) (by have h := HOB3.out.keys.ext hb; rwa [show keysF m = keysF (m.take i) ++ keysF (m.drop i) by unfold keysF; rw [← List.map_append, List.take_append_drop]] at h))
                have HK2 := Lib.hid (show ∀ W, Below W3.heap.size W3 W → FlatAt W qa3 (keysF (m.drop i)) from fun W hb => (by rw [← HQA.out]; exact FlatAt.ite (fun e => by rw [show m.drop i = [] from List.drop_eq_nil_of_le (by omega)]; rfl) (fun _ => FlatAt.tail (xs := keysF (m.take i)) (by have h := HOB3.out.keys.ext hb; rwa [show keysF m = keysF (m.take i) ++ keysF (m.drop i) by unfold keysF; rw [← List.map_append, List.take_append_drop]] at h) (by rw [keysF_len, htk]))))
                have HV1 := Lib.hid (show ∀ W, Below W3.heap.size W3 W → FlatAt W (some ⟨g3, o3, none⟩) (kidsF (m.take i)) from fun W hb => FlatAt.part (ys := kidsF (m.drop i)) (by have h := HOB3.out.kids.ext hb; rwa [show kidsF m = kidsF (m.take i) ++ kidsF (m.drop i) by unfold kidsF; rw [← List.flatMap_append, List.take_append_drop]] at h))
                have HV2 := Lib.hid (show ∀ W, Below W3.heap.size W3 W → FlatAt W ka3 (kidsF (m.drop i)) from fun W hb => (by rw [← HKA.out]; exact FlatAt.ite (fun e => by rw [show m.drop i = [] from List.drop_eq_nil_of_le (by omega)]; rfl) (fun _ => FlatAt.tail (xs := kidsF (m.take i)) (by have h := HOB3.out.kids.ext hb; rwa [show kidsF m = kidsF (m.take i) ++ kidsF (m.drop i) by unfold kidsF; rw [← List.flatMap_append, List.take_append_drop]] at h) (by rw [kidsF_len, htk]))))
                have HT1 := Lib.hid htk
                have HT2 := Lib.hid htd
                clear hml htk htd
                go_wp2_with fail
                refine' wp_region_seqO (fam2 12 17 (by decide) (goes_preS W3.heap.size 9 1 q0) (goes_preS W3.heap.size 9 1 q0) (goes_preS W3.heap.size 9 1 (i + 1)) (fun _ _ h => h) (fun _ _ h => h.le hq3)) [.inl _, .inl _, .inl _, .inl _, .inl _, .inr (RowN W3.heap.size 9 1 i (keysF (m.take i))), .inl _, .inl _, .inl _, .inl _, .inl _, .inr (RowN W3.heap.size 9 1 1 [.string p.key]), .inr (RowN W3.heap.size 9 1 (i + 1) (keysF (m.take i) ++ [.string p.key])), .inl _, .inl _, .inl _, .inl _, .inr (RowN W3.heap.size 9 1 (i + 1 + 0) (keysF (m.take i) ++ [.string p.key] ++ keysF (m.drop i)))] (by kernel_rfl) (by kernel_rfl) ?main11
                case main11 =>
                  refine wpPartsO_det rfl (by rfl) (fun W hE hN => ?_) ?_
                  · go_simp; refine ⟨Below.refl _ _, ?_⟩; rfl
                  simp only [Act.put, List.setIfInBounds_toArray, List.set_cons_zero, List.set_cons_succ]
                  refine wpPartsO_det rfl (by rfl) (fun W hE hN => ?_) ?_
                  · go_simp; refine ⟨Below.refl _ _, ?_⟩; rfl
                  simp only [Act.put, List.setIfInBounds_toArray, List.set_cons_zero, List.set_cons_succ]
                  refine wpPartsO_det rfl (by rfl) (fun W hE hN => ?_) ?_
                  · have q5 := (HOB3.out.box.ext hE.below).cells; go_simp; refine ⟨Below.refl _ _, ?_⟩; rfl
                  simp only [Act.put, List.setIfInBounds_toArray, List.set_cons_zero, List.set_cons_succ]
                  refine wpPartsO_det rfl (by rfl) (fun W hE hN => ?_) ?_
                  · go_simp; refine ⟨Below.refl _ _, ?_⟩; rfl
                  simp only [Act.put, List.setIfInBounds_toArray, List.set_cons_zero, List.set_cons_succ]
                  refine wpPartsO_det rfl (by rfl) (fun W hE hN => ?_) ?_
                  · go_simp; refine ⟨Below.refl _ _, ?_⟩; rfl
                  simp only [Act.put, List.setIfInBounds_toArray, List.set_cons_zero, List.set_cons_succ]
                  refine wpPartsO_any rfl rfl (RowN.keep hq1) (by rfl) (fun W hE hN => ?_) (fun u5 => ?_)
                  · exact gives_nilS rfl Tryd.underlying37 HI0.out rfl (by decide) rfl rfl (HK1.out W hE.below) (by rw [keysF_len, HT1.out, Nat.mul_one]) (keysF_one _) (fun e => by cases e) hqt1 (by unfold maxLen; omega) (by omega) hE.size
                  simp only [Act.put, List.setIfInBounds_toArray, List.set_cons_zero, List.set_cons_succ]
                  refine wpPartsO_det rfl (by rfl) (fun W hE hN => ?_) ?_
                  · go_simp; refine ⟨Below.refl _ _, ?_⟩; rfl
                  simp only [Act.put, List.setIfInBounds_toArray, List.set_cons_zero, List.set_cons_succ]
                  refine wpPartsO_det rfl (by rfl) (fun W hE hN => ?_) ?_
                  · go_simp; refine ⟨Below.refl _ _, ?_⟩; rfl
                  simp only [Act.put, List.setIfInBounds_toArray, List.set_cons_zero, List.set_cons_succ]
                  refine wpPartsO_det rfl (by rfl) (fun W hE hN => ?_) ?_
                  · go_simp; refine ⟨Below.refl _ _, ?_⟩; rfl
                  simp only [Act.put, List.setIfInBounds_toArray, List.set_cons_zero, List.set_cons_succ]
                  refine wpPartsO_det rfl (by rfl) (fun W hE hN => ?_) ?_
                  · go_simp; refine ⟨Below.refl _ _, ?_⟩; rfl
                  simp only [Act.put, List.setIfInBounds_toArray, List.set_cons_zero, List.set_cons_succ]
                  refine wpPartsO_det rfl (by rfl) (fun W hE hN => ?_) ?_
                  · have hbb := HB3.out.trans (hE.below.mono HB3.out.size); have x0 := (hbb.cell (p := ⟨b, o + i * 6, none⟩) hbw0).trans (CC.out 0 _ rfl); (try simp only [Nat.zero_mul, Nat.add_zero] at x0); go_simp; refine ⟨Below.refl _ _, ?_⟩; rfl
                  simp only [Act.put, List.setIfInBounds_toArray, List.set_cons_zero, List.set_cons_succ]
                  refine wpPartsO_any rfl rfl (RowN.keep hq2) (by rfl) (fun W hE hN => ?_) (fun u11 => ?_)
                  · go_simp; exact ⟨(by repeat (first | (with_reducible exact Below.refl _ _) | (with_reducible exact Below.refl _ _) | (with_reducible refine Below.setCell ?_ (by first | omega | (simp; done) | (simp; omega)) _) | (with_reducible refine Below.alloc ?_ (by first | omega | (simp; done) | (simp; omega)) _) | (with_reducible refine Below.drew ?_) | (with_reducible refine below_drewN ?_ _))), rowN_alloc hE.size rfl⟩
                  simp only [Act.put, List.setIfInBounds_toArray, List.set_cons_zero, List.set_cons_succ]
                  refine wpPartsO_writes (K := PreS W3.heap.size 9 1 q0) (L := PreS W3.heap.size 9 1 (i + 1)) rfl rfl rfl (fam2_stays RowN.later (.inl rfl) (.inr (.inr (RowN.keep (Nat.le_refl _))))) (by rfl) (fun W hE hN => ?_) (fun u12 => ?_)
                  · obtain ⟨h11, h5, _⟩ := (show RowN W3.heap.size 9 1 1 [.string p.key] u11 W ∧ RowN W3.heap.size 9 1 i (keysF (m.take i)) u5 W ∧ True from hN); obtain ⟨a11, c11, rfl⟩ := own_sliceW h11.own; obtain ⟨f1, f2, f3, f4⟩ := own_flat h11.own; exact givesK_preS rfl Tryd.underlying37 HI0.out rfl (by decide) rfl rfl h5 f4 rfl (by simp [Value.oneCell']) f3 f1 (by unfold maxLen; omega) (by omega) hE.size hq4
                  simp only [Act.put, List.setIfInBounds_toArray, List.set_cons_zero, List.set_cons_succ]
                  refine wpPartsO_det rfl (by rfl) (fun W hE hN => ?_) ?_
                  · go_simp; refine ⟨Below.refl _ _, ?_⟩; rfl
                  simp only [Act.put, List.setIfInBounds_toArray, List.set_cons_zero, List.set_cons_succ]
                  refine wpPartsO_det rfl (by rfl) (fun W hE hN => ?_) ?_
                  · have q5 := (HOB3.out.box.ext hE.below).cells; go_simp; refine ⟨Below.refl _ _, ?_⟩; rfl
                  simp only [Act.put, List.setIfInBounds_toArray, List.set_cons_zero, List.set_cons_succ]
                  refine wpPartsO_det rfl (by rfl) (fun W hE hN => ?_) ?_
                  · go_simp; refine ⟨Below.refl _ _, ?_⟩; rfl
                  simp only [Act.put, List.setIfInBounds_toArray, List.set_cons_zero, List.set_cons_succ]
                  refine wpPartsO_det rfl (by rfl) (fun W hE hN => ?_) ?_
                  · go_simp; refine ⟨Below.refl _ _, ?_⟩; rw [HQA.out]
                  simp only [Act.put, List.setIfInBounds_toArray, List.set_cons_zero, List.set_cons_succ]
                  refine wpPartsO_writes (K := PreS W3.heap.size 9 1 (i + 1)) (L := PreS W3.heap.size 9 1 q0) rfl rfl rfl (fam2_stays RowN.later (.inr (.inl (by kernel_rfl))) (.inl rfl)) (by rfl) (fun W hE hN => ?_) (fun u17 => ?_)
                  · have h12 := (show RowN W3.heap.size 9 1 (i + 1) (keysF (m.take i) ++ [.string p.key]) u12 W ∧ True from hN).1; exact givesK_preS rfl Tryd.underlying37 HI0.out rfl (by decide) rfl rfl h12 (HK2.out W hE.below) (by rw [keysF_len, HT2.out, Nat.mul_one]) (keysF_one _) (fun e => by rw [← HQA.out] at e; split at e <;> cases e) (by omega) (by unfold maxLen; omega) (by omega) hE.size (.inr (Nat.le_refl _))
                  simp only [Act.put, List.setIfInBounds_toArray, List.set_cons_zero, List.set_cons_succ]
                  refine wpPartsO_end fun W4 hE4 hG4 => ?_
                  have hr17 := hG4.1
                  rw [show i + 1 + 0 = i + 1 by omega] at hr17
                  obtain ⟨qa2, qc2, rfl⟩ := own_sliceW hr17.own
                  have HRQ := Lib.hid hr17.own
                  have HB4 := Lib.hid (HB3.out.trans (hE4.below.mono HB3.out.size))
                  have HOB4 := Lib.hid (HOB3.out.ext hE4.below)
                  have HV14 := Lib.hid (fun W (hb : Below W4.heap.size W4 W) => HV1.out W (hE4.below.trans (hb.mono hE4.size)))
                  have HV24 := Lib.hid (fun W (hb : Below W4.heap.size W4 W) => HV2.out W (hE4.below.trans (hb.mono hE4.size)))
                  have hs4 := hE4.size
                  have q5 := HOB4.out.box.cells
                  have l5 := HOB4.out.box.lt
                  clear hr17 hG4 hE4 HK1 HK2 HV1 HV2
                  go_wp2_with fail
                  clear q5 l5
                  refine' wp_region_seqO (fam2 12 17 (by decide) (goes_preS W4.heap.size 39 5 q0) (goes_preS W4.heap.size 39 5 q0) (goes_preS W4.heap.size 39 5 (i + 1)) (fun _ _ h => h) (fun _ _ h => h.le hq3)) [.inl _, .inl _, .inl _, .inl _, .inl _, .inr (RowN W4.heap.size 39 5 i (kidsF (m.take i))), .inl _, .inl _, .inl _, .inl _, .inl _, .inr (RowN W4.heap.size 39 5 1 p.vcells), .inr (RowN W4.heap.size 39 5 (i + 1) (kidsF (m.take i) ++ p.vcells)), .inl _, .inl _, .inl _, .inl _, .inr (RowN W4.heap.size 39 5 (i + 1 + 0) (kidsF (m.take i) ++ p.vcells ++ kidsF (m.drop i)))] (by kernel_rfl) (by kernel_rfl) ?main12
                  case main12 =>
                    refine wpPartsO_det rfl (by rfl) (fun W hE hN => ?_) ?_
                    · go_simp; refine ⟨Below.refl _ _, ?_⟩; rfl
                    simp only [Act.put, List.setIfInBounds_toArray, List.set_cons_zero, List.set_cons_succ]
                    refine wpPartsO_det rfl (by rfl) (fun W hE hN => ?_) ?_
                    · go_simp; refine ⟨Below.refl _ _, ?_⟩; rfl
                    simp only [Act.put, List.setIfInBounds_toArray, List.set_cons_zero, List.set_cons_succ]
                    refine wpPartsO_det rfl (by rfl) (fun W hE hN => ?_) ?_
                    · have q5 := (HOB4.out.box.ext hE.below).cells; go_simp; refine ⟨Below.refl _ _, ?_⟩; rfl
                    simp only [Act.put, List.setIfInBounds_toArray, List.set_cons_zero, List.set_cons_succ]
                    refine wpPartsO_det rfl (by rfl) (fun W hE hN => ?_) ?_
                    · go_simp; refine ⟨Below.refl _ _, ?_⟩; rfl
                    simp only [Act.put, List.setIfInBounds_toArray, List.set_cons_zero, List.set_cons_succ]
                    refine wpPartsO_det rfl (by rfl) (fun W hE hN => ?_) ?_
                    · go_simp; refine ⟨Below.refl _ _, ?_⟩; rfl
                    simp only [Act.put, List.setIfInBounds_toArray, List.set_cons_zero, List.set_cons_succ]
                    refine wpPartsO_any rfl rfl (RowN.keep hq1) (by rfl) (fun W hE hN => ?_) (fun u5 => ?_)
                    · exact gives_nilS rfl Tryd.underlying36 HI1.out rfl (by decide) rfl rfl (HV14.out W hE.below) (by rw [kidsF_len, HT1.out]) (kidsF_one _) (fun e => by cases e) hkt1 (by unfold maxLen; omega) (by omega) hE.size
                    simp only [Act.put, List.setIfInBounds_toArray, List.set_cons_zero, List.set_cons_succ]
                    refine wpPartsO_det rfl (by rfl) (fun W hE hN => ?_) ?_
                    · go_simp; refine ⟨Below.refl _ _, ?_⟩; rfl
                    simp only [Act.put, List.setIfInBounds_toArray, List.set_cons_zero, List.set_cons_succ]
                    refine wpPartsO_det rfl (by rfl) (fun W hE hN => ?_) ?_
                    · go_simp; refine ⟨Below.refl _ _, ?_⟩; rfl
                    simp only [Act.put, List.setIfInBounds_toArray, List.set_cons_zero, List.set_cons_succ]
                    refine wpPartsO_det rfl (by rfl) (fun W hE hN => ?_) ?_
                    · go_simp; refine ⟨Below.refl _ _, ?_⟩; rfl
                    simp only [Act.put, List.setIfInBounds_toArray, List.set_cons_zero, List.set_cons_succ]
                    refine wpPartsO_det rfl (by rfl) (fun W hE hN => ?_) ?_
                    · go_simp; refine ⟨Below.refl _ _, ?_⟩; rfl
                    simp only [Act.put, List.setIfInBounds_toArray, List.set_cons_zero, List.set_cons_succ]
                    refine wpPartsO_det rfl (by rfl) (fun W hE hN => ?_) ?_
                    · have hbb := HB4.out.trans (hE.below.mono HB4.out.size); have x1 := (hbb.cell (p := ⟨b, o + i * 6 + 1, none⟩) hbw0).trans (CC.out 1 _ rfl); have x2 := (hbb.cell (p := ⟨b, o + i * 6 + 2, none⟩) hbw0).trans (CC.out 2 _ rfl); have x3 := (hbb.cell (p := ⟨b, o + i * 6 + 3, none⟩) hbw0).trans (CC.out 3 _ rfl); have x4 := (hbb.cell (p := ⟨b, o + i * 6 + 4, none⟩) hbw0).trans (CC.out 4 _ rfl); have x5 := (hbb.cell (p := ⟨b, o + i * 6 + 5, none⟩) hbw0).trans (CC.out 5 _ rfl); (try simp only [Nat.zero_mul, Nat.add_zero] at x1 x2 x3 x4 x5); go_simp; refine ⟨Below.refl _ _, ?_⟩; rfl
                    simp only [Act.put, List.setIfInBounds_toArray, List.set_cons_zero, List.set_cons_succ]
                    refine wpPartsO_any rfl rfl (RowN.keep hq2) (by rfl) (fun W hE hN => ?_) (fun u11 => ?_)
                    · go_simp; exact ⟨(by repeat (first | (with_reducible exact Below.refl _ _) | (with_reducible exact Below.refl _ _) | (with_reducible refine Below.setCell ?_ (by first | omega | (simp; done) | (simp; omega)) _) | (with_reducible refine Below.alloc ?_ (by first | omega | (simp; done) | (simp; omega)) _) | (with_reducible refine Below.drew ?_) | (with_reducible refine below_drewN ?_ _))), rowN_alloc hE.size rfl⟩
                    simp only [Act.put, List.setIfInBounds_toArray, List.set_cons_zero, List.set_cons_succ]
                    refine wpPartsO_writes (K := PreS W4.heap.size 39 5 q0) (L := PreS W4.heap.size 39 5 (i + 1)) rfl rfl rfl (fam2_stays RowN.later (.inl rfl) (.inr (.inr (RowN.keep (Nat.le_refl _))))) (by rfl) (fun W hE hN => ?_) (fun u12 => ?_)
                    · obtain ⟨h11, h5, _⟩ := (show RowN W4.heap.size 39 5 1 p.vcells u11 W ∧ RowN W4.heap.size 39 5 i (kidsF (m.take i)) u5 W ∧ True from hN); obtain ⟨a11, c11, rfl⟩ := own_sliceW h11.own; obtain ⟨f1, f2, f3, f4⟩ := own_flat h11.own; exact givesK_preS rfl Tryd.underlying36 HI1.out rfl (by decide) rfl rfl h5 f4 rfl (by simp [PairE.vcells, Value.oneCell']) f3 f1 (by unfold maxLen; omega) (by omega) hE.size hq4
                    simp only [Act.put, List.setIfInBounds_toArray, List.set_cons_zero, List.set_cons_succ]
                    refine wpPartsO_det rfl (by rfl) (fun W hE hN => ?_) ?_
                    · go_simp; refine ⟨Below.refl _ _, ?_⟩; rfl
                    simp only [Act.put, List.setIfInBounds_toArray, List.set_cons_zero, List.set_cons_succ]
                    refine wpPartsO_det rfl (by rfl) (fun W hE hN => ?_) ?_
                    · have q5 := (HOB4.out.box.ext hE.below).cells; go_simp; refine ⟨Below.refl _ _, ?_⟩; rfl
                    simp only [Act.put, List.setIfInBounds_toArray, List.set_cons_zero, List.set_cons_succ]
                    refine wpPartsO_det rfl (by rfl) (fun W hE hN => ?_) ?_
                    · go_simp; refine ⟨Below.refl _ _, ?_⟩; rfl
                    simp only [Act.put, List.setIfInBounds_toArray, List.set_cons_zero, List.set_cons_succ]
                    refine wpPartsO_det rfl (by rfl) (fun W hE hN => ?_) ?_
                    · go_simp; refine ⟨Below.refl _ _, ?_⟩; rw [HKA.out]
                    simp only [Act.put, List.setIfInBounds_toArray, List.set_cons_zero, List.set_cons_succ]
                    refine wpPartsO_writes (K := PreS W4.heap.size 39 5 (i + 1)) (L := PreS W4.heap.size 39 5 q0) rfl rfl rfl (fam2_stays RowN.later (.inr (.inl (by kernel_rfl))) (.inl rfl)) (by rfl) (fun W hE hN => ?_) (fun u17 => ?_)
                    · have h12 := (show RowN W4.heap.size 39 5 (i + 1) (kidsF (m.take i) ++ p.vcells) u12 W ∧ True from hN).1; exact givesK_preS rfl Tryd.underlying36 HI1.out rfl (by decide) rfl rfl h12 (HV24.out W hE.below) (by rw [kidsF_len, HT2.out]) (kidsF_one _) (fun e => by rw [← HKA.out] at e; split at e <;> cases e) (by omega) (by unfold maxLen; omega) (by omega) hE.size (.inr (Nat.le_refl _))
                    simp only [Act.put, List.setIfInBounds_toArray, List.set_cons_zero, List.set_cons_succ]
                    refine wpPartsO_end fun W5 hE5 hG5 => ?_
                    have hr17 := hG5.1
                    rw [show i + 1 + 0 = i + 1 by omega] at hr17
                    obtain ⟨ka2, kc2, rfl⟩ := own_sliceW hr17.own
                    have HRK := Lib.hid hr17.own
                    have HRQ5 := Lib.hid (ownsRow_below HRQ.out hE5.below)
                    have HB5 := Lib.hid (HB4.out.trans (hE5.below.mono HB4.out.size))
                    have hob5 := HOB4.out.ext hE5.below
                    have HOB5 := Lib.hid hob5
                    have hs5 := hE5.size
                    have q5 := hob5.box.cells
                    have m5 := hob5.box.marks
                    have l5 := hob5.box.lt
                    have HSZ3 := Lib.hid HB3.out.size
                    clear hr17 hG5 hE5 hob5 HV14 HV24 HRQ
                    go_wp2_with fail
                    go_roundw
                    case rel =>
                      have ho6 := ((OnlyS.refl (· = w.heap.size + 1) W5).set (w.heap.size + 1) 4 (.slice qa2 (i + 1) qc2) rfl).set (w.heap.size + 1) 3 (.slice ka2 (i + 1) kc2) rfl
                      have hz3 : w.heap.size + 1 < W3.heap.size := Nat.lt_of_lt_of_le hsz HB3.out.size
                      have hk6 := own_flat (ownsRow_onlyS HRK.out ho6 (fun b hb e => by have := own_high HRK.out hb; omega))
                      have hq6 := own_flat (ownsRow_onlyS HRQ5.out ho6 (fun b hb e => by have := own_high HRQ5.out hb; omega))
                      have hm2 := HML.out
                      refine ⟨i + 1, m.take i ++ p :: m.drop i, ka2, kc2, qa2, qc2, by omega, by go_num, insFold_step HFO.out HP.out HINS.out, by rw [List.length_append, List.length_cons, List.length_take, List.length_drop]; omega, fun e he => ?_, ⟨HOB5.out.zero.onlyS ho6 (by omega), (HOB5.out.box.set 4 _).set 3 _, ?_, ?_, hk6.2.2.1, ⟨hk6.1, hk6.2.1⟩, hq6.2.2.1, ⟨hq6.1, hq6.2.1⟩⟩, fun e => by omega, ⟨fun g hg => by have := own_high HRK.out hg; omega, fun g hg => by have := own_high HRQ5.out hg; omega⟩, (HBEL.out.trans (HB5.out.mono HBEL.out.size)).trans (ho6.below (HBEL.out.trans (HB5.out.mono HBEL.out.size)).size (fun b hb => by omega)), ?_⟩
                      · rcases List.mem_append.1 he with h | h
                        · exact HMEM.out e (List.mem_of_mem_take h)
                        · rcases List.mem_cons.1 h with rfl | h
                          · exact List.mem_of_getElem? HP.out
                          · exact HMEM.out e (List.mem_of_mem_drop h)
                      · have h := hk6.2.2.2
                        rwa [show kidsF (m.take i) ++ p.vcells ++ kidsF (m.drop i) = kidsF (m.take i ++ p :: m.drop i) by unfold kidsF; simp] at h
                      · have h := hq6.2.2.2
                        rwa [show keysF (m.take i) ++ [.string p.key] ++ keysF (m.drop i) = keysF (m.take i ++ p :: m.drop i) by unfold keysF; simp] at h
                      · simp; omega
                    case measure => simp [intOf]; omega
    · obtain rfl : i = n := by omega
      have g1 : ¬ ((i : Int) < (i : Int)) := by omega
      have hfin : insFold [] l = some m := by
        have h := HFO.out
        rw [List.drop_eq_nil_of_le (by rw [HL.out]; exact Nat.le_refl _)] at h
        exact h
      have hfm : ∀ e ∈ m, ValAt w d (.agg #[.int .i64 e.k, .int .i64 e.n, .string e.s, .slice e.a1 e.l1 e.c1, .slice e.a2 e.l2 e.c2]) (f e) := fun e he => HF.out e (HMEM.out e he)
      have hkm : ∀ e ∈ m, e.key.size ≤ 17592186044416 := fun e he => HKS.out e (HMEM.out e he)
      have hob := HOB.out
      have hv := robjVal hob.kids hob.keys HML.out (by omega) hob.knil hob.kle hob.qnil hob.qle HBEL.out hfm hkm
      have hw := Tryd_rRight (d + 1) _ _ wr hv
      have HV := Lib.hid hv
      have HFIN := Lib.hid hfin
      have q5 := hob.box.cells
      have l5 := hob.box.lt
      obtain ⟨r, hr⟩ : ∃ r, rightV (d + 1) (⟨6, 0, noStr, m.map f, m.map PairE.key⟩ : ValF (ValN d)) = r := ⟨_, rfl⟩
      rw [hr] at hw
      have HR := Lib.hid hr
      have HW := Lib.hid hw
      clear hv hw hr hfm hkm hob hfin
      go_wp2_with fail
      refine HW.out.mono ?_; rintro e w3 ⟨rfl, hb3⟩
      have hob3 := HOB.out.ext hb3
      have q2 := hob3.zero.cells
      unfold zeroL at q2
      have m2 := hob3.zero.marks
      have l2 := hob3.zero.lt
      have q5 := hob3.box.cells
      have l5 := hob3.box.lt
      have HZ5 := Lib.hid hob3.zero
      have HOB3 := Lib.hid hob3
      have HBEL3 := Lib.hid (HBEL.out.trans (hb3.mono HBEL.out.size))
      have HV3 := Lib.hid (ValAt.ext hb3 _ HV.out)
      clear hb3 hob3 HV HW
      cases r with
      | true =>
        go_wp2
        have c4 := (HZ5.out.fiveV (.int .i64 6) (.int .i64 0) (.string ⟨#[]⟩) (.slice kk i kc) (.slice qk i qc)).cells
        have bl := below_only HBEL3.out (Only.fiveV w3 w.heap.size (.int .i64 6) (.int .i64 0) (.string ⟨#[]⟩) (.slice kk i kc) (.slice qk i qc)) HBEL3.out.size (by omega)
        have ho6 := OnlyS.fiveS w3 w.heap.size (.int .i64 6) (.int .i64 0) (.string ⟨#[]⟩) (.slice kk i kc) (.slice qk i qc)
        have hv6 := robjVal (w := w) (HOB3.out.kids.onlyS ho6 (fun g hg e => by have := HFAR.out.1 g hg; omega)) (HOB3.out.keys.onlyS ho6 (fun g hg e => by have := HFAR.out.2 g hg; omega)) HML.out (by omega) HOB3.out.knil HOB3.out.kle HOB3.out.qnil HOB3.out.qle bl (fun e he => HF.out e (HMEM.out e he)) (fun e he => HKS.out e (HMEM.out e he))
        refine bodyPost_ret (v := .tuple #[.agg #[.int .i64 6, .int .i64 0, .string ⟨#[]⟩, .slice kk i kc, .slice qk i qc], .int .i64 0]) (by simp [results, Tryd.results24, go_sem, c4, zeroL]) rfl ⟨?_, bl⟩
        unfold TrydRObjBack
        rw [HFIN.out]
        exact ⟨_, hv6, by rw [HR.out]; rfl⟩
      | false =>
        go_wp2
        have c4 := (HZ5.out.fiveV (.int .i64 0) (.int .i64 0) (.string ⟨#[]⟩) (.slice none 0 0) (.slice none 0 0)).cells
        have bl := below_only HBEL3.out (Only.fiveV w3 w.heap.size (.int .i64 0) (.int .i64 0) (.string ⟨#[]⟩) (.slice none 0 0) (.slice none 0 0)) HBEL3.out.size (by omega)
        refine bodyPost_ret (v := .tuple #[.agg #[.int .i64 0, .int .i64 0, .string ⟨#[]⟩, .slice none 0 0, .slice none 0 0], .int .i64 140]) (by simp [results, Tryd.results24, go_sem, c4, zeroL]) rfl ⟨?_, bl⟩
        have ho6 := OnlyS.fiveS w3 w.heap.size (.int .i64 0) (.int .i64 0) (.string ⟨#[]⟩) (.slice none 0 0) (.slice none 0 0)
        have hv6 := robjVal (w := w) (HOB3.out.kids.onlyS ho6 (fun g hg e => by have := HFAR.out.1 g hg; omega)) (HOB3.out.keys.onlyS ho6 (fun g hg e => by have := HFAR.out.2 g hg; omega)) HML.out (by omega) HOB3.out.knil HOB3.out.kle HOB3.out.qnil HOB3.out.qle bl (fun e he => HF.out e (HMEM.out e he)) (fun e he => HKS.out e (HMEM.out e he))
        unfold TrydRObjBack
        rw [HFIN.out]
        exact ⟨_, hv6, by rw [HR.out]; rfl⟩
end Go.Proofs.YtmcmknndhppljaaDoor
