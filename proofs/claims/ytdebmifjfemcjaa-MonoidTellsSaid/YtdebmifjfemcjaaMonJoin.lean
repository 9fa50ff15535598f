/-
  Layer 13: Join, walked.
-/
import Derived.Test.YtdebmifjfemcjaaMonCheck
import Derived.Test.YtdebmifjfemcjaaMonWalkE
import Derived.WalkMore
import Derived.Deep.MidRow
import Derived.Laws.AppendOwn
namespace Go.Proofs.Ytdebmifjfemcjaa
set_option linter.unusedVariables false
set_option linter.unusedSimpArgs false
open Go.RowKit Go.Dav
attribute [local go_sem] Gives ite_val ite_val_true

/-- In block b, from offset o on, the reductions lie one behind the other. -/
def TryRedsAt (W : World) (b o : Nat) (l : List Red) : Prop :=
  ∀ k r, l[k]? = some r → ∀ j v, r.cells[j]? = some v → W.cell? ⟨b, o + k * 6 + j, none⟩ = some v

theorem Try_reds_flat : ∀ (l : List Red) (k : Nat) (r : Red), l[k]? = some r → ∀ (j : Nat) (v : Value), r.cells[j]? = some v → (l.flatMap Red.cells)[k * 6 + j]? = some v
  | [], k, r, h, _, _, _ => by simp at h
  | x :: l, 0, r, h, j, v, hj => by
    have e : x = r := by simpa using h
    subst e
    have hlt : j < x.cells.length := (List.getElem?_eq_some_iff.1 hj).1
    rw [List.flatMap_cons, Nat.zero_mul, Nat.zero_add, List.getElem?_append_left hlt]
    exact hj
  | x :: l, k + 1, r, h, j, v, hj => by
    have ih := Try_reds_flat l k r (by simpa using h) j v hj
    have hx : x.cells.length = 6 := rfl
    rw [List.flatMap_cons, List.getElem?_append_right (by rw [hx]; omega), hx, show (k + 1) * 6 + j - 6 = k * 6 + j by omega]
    exact ih

theorem Try_RedsAt_flat {W : World} {b : Nat} {l : List Red} {cs : List Value} {t : TypeId} (h : Blk W b cs t) (e : l.flatMap Red.cells = cs) : TryRedsAt W b 0 l := by
  subst e
  intro k r hk j v hj
  rw [Nat.zero_add]
  exact h.cell _ (Try_reds_flat l k r hk j v hj)

def TryJoinRel (w : World) (l : List Red) (ix ev : Value) (wr : World) : Prop :=
  ∃ k : Nat, k ≤ l.length ∧ ix = .int .i64 k ∧ ev = .int .i64 0 ∧ (∀ j r, j < k → l[j]? = some r → r.ok = true) ∧
    Blk wr w.heap.size [.int .i64 0, .int .i64 0, .int .i64 0, .int .u64 0, .int .i64 0, .int .i64 0] 24 ∧
    Blk wr (w.heap.size + 1) [.int .i64 0, .int .i64 0, .int .i64 0, .int .u64 0, .int .i64 0, .int .i64 0] 24 ∧ Below w.heap.size w wr

/-- The reduction of the first k is at hand. -/
def TryJoinRel2 (w : World) (l : List Red) (ix : Value) (wr : World) : Prop :=
  ∃ (k : Nat) (acc : Red), k ≤ l.length ∧ ix = .int .i64 k ∧ joinL Red.zero l = joinL acc (l.drop k) ∧ acc.fine ∧
    Blk wr w.heap.size [.int .i64 0, .int .i64 0, .int .i64 0, .int .u64 0, .int .i64 0, .int .i64 0] 24 ∧
    Blk wr (w.heap.size + 1) acc.cells 24 ∧ Below w.heap.size w wr

set_option maxRecDepth 4000 in
set_option maxHeartbeats 4000000 in
theorem Try_Join (b o cap : Nat) (l : List Red) (w : World) (hl : (l.length : Int) ≤ 9223372036854775807) (hb : b < w.heap.size) (hr : TryRedsAt w b o l) (hf : ∀ r ∈ l, r.fits) :
    Calls Try.prog 13 #[.slice (some ⟨b, o, none⟩) l.length cap] w fun e w' =>
      e = .returned (.tuple #[.agg (joined l).1.cells.toArray, .int .i64 (joined l).2]) ∧ Below w.heap.size w w' := by
  go_enter Try.func13, Try.ntmps13
  go_wp2_with fail
  go_step3
  go_wp2_with fail
  go_step3
  go_wp2_with fail
  go_loopw [13, 4] (fun ix ev wr => TryJoinRel w l ix ev wr) (fun ix _ _ => l.length - (intOf ix).toNat)
  case atStart =>
    refine ⟨0, Nat.zero_le _, rfl, rfl, fun j r hj => by omega, (Blk.new _ [_, _, _, _, _, _] _).alloc _, Blk.new' _ [_, _, _, _, _, _] _ (by simp), (by repeat (first | (with_reducible exact Below.refl _ _) | (with_reducible exact Below.refl _ _) | (with_reducible refine Below.setCell ?_ (by first | omega | (simp; done) | (simp; omega)) _) | (with_reducible refine Below.alloc ?_ (by first | omega | (simp; done) | (simp; omega)) _) | (with_reducible refine Below.drew ?_) | (with_reducible refine below_drewN ?_ _)))⟩
  case round =>
    obtain ⟨k, hk, rfl, rfl, hok, hres, hout, hbel⟩ := hrel
    have hbs := hbel.size
    have hbw : b < wr.heap.size := by omega
    have lr := hres.lt
    have lout := hout.lt
    by_cases hlt : k < l.length
    · obtain ⟨r, hrk⟩ : ∃ r, l[k]? = some r := ⟨_, List.getElem?_eq_getElem hlt⟩
      have hfit := hf r (List.mem_of_getElem? hrk)
      have q : ∀ j v, r.cells[j]? = some v → wr.cell? ⟨b, o + k * 6 + j, none⟩ = some v := fun j v h => by rw [hbel.cell (p := ⟨b, o + k * 6 + j, none⟩) hb]; exact hr k r hrk j v h
      have q0 := q 0 _ rfl
      rw [Nat.add_zero] at q0
      have q1 := q 1 _ rfl
      have q2 := q 2 _ rfl
      have q3 := q 3 _ rfl
      have q4 := q 4 _ rfl
      have q5 := q 5 _ rfl
      clear q
      have hkl : (k : Int) < (l.length : Int) := by omega
      have HK := Lib.hid hk; clear hk
      have HL := Lib.hid hlt; clear hlt
      have HR := Lib.hid hrk; clear hrk
      have HO := Lib.hid hok; clear hok
      have HRR := Lib.hid hr; clear hr
      have HF := Lib.hid hf; clear hf
      go_wp2_with fail
      refine (Try_mCheck r _ hfit.2.2.1 hfit.2.2.2).mono ?_; rintro e w1 ⟨rfl, hb1⟩; obtain ⟨hc1, hf1, hs1⟩ := after hb1
      simp at hs1
      have lt_w1_0_0 : w.heap.size < w1.heap.size := by omega
      have lt_w1_0_1 : w.heap.size < w1.heap.size + 1 := by omega
      have lt_w1_1_0 : w.heap.size + 1 < w1.heap.size := by omega
      have lt_w1_1_1 : w.heap.size + 1 < w1.heap.size + 1 := by omega
      have hres1 := (hres.alloc _).ext hb1
      have hout1 := (hout.alloc _).ext hb1
      have bel1 : Below w.heap.size w w1 := (by repeat (first | (with_reducible exact Below.refl _ _) | (with_reducible exact Below.refl _ _) | (with_reducible refine Below.setCell ?_ (by first | omega | (simp; done) | (simp; omega)) _) | (with_reducible refine Below.alloc ?_ (by first | omega | (simp; done) | (simp; omega)) _) | (with_reducible refine Below.drew ?_) | (with_reducible refine below_drewN ?_ _) | (with_reducible refine Below.trans ?_ (hb1.mono (by first | omega | (simp; done) | (simp; omega)))) | (with_reducible refine Below.trans ?_ (hbel.mono (by first | omega | (simp; done) | (simp; omega))))))
      by_cases hv : r.ok = true
      · have er : redE r.ok = 0 := by rw [hv]; rfl
        rw [er]
        go_wp2_with fail
        go_roundw
        case rel => 
          refine ⟨k + 1, HL.out, by go_num, rfl, fun j r' hj h => ?_, hres1, hout1, bel1⟩
          by_cases e : j = k
          · subst e; rw [HR.out] at h; cases h; exact hv
          · exact HO.out j r' (by omega) h
        case measure => have := HL.out; simp [intOf]; omega
      · have er : redE r.ok = 230 := by unfold redE; rw [if_neg hv]
        rw [er]
        clear hc1 hf1
        have r0 := hres1.cell 0 rfl
        have r1 := hres1.cell 1 rfl
        have r2 := hres1.cell 2 rfl
        have r3 := hres1.cell 3 rfl
        have r4 := hres1.cell 4 rfl
        have r5 := hres1.cell 5 rfl
        have g0 := hres1.frozen 0
        have g1 := hres1.frozen 1
        have g2 := hres1.frozen 2
        have g3 := hres1.frozen 3
        have g4 := hres1.frozen 4
        have g5 := hres1.frozen 5
        go_wp2
        rw [Exit.noGoto_ret]
        have hj : joined l = (Red.zero, 230) := by
          unfold joined
          rw [if_neg]
          intro hc
          exact hv (List.all_eq_true.1 hc r (List.mem_of_getElem? HR.out))
        refine bodyPost_ret (v := .tuple #[.agg #[.int .i64 0, .int .i64 0, .int .i64 0, .int .u64 0, .int .i64 0, .int .i64 0], .int .i64 230]) (by simp [results, Try.results13, go_sem, r0, r1, r2, r3, r4, r5]) rfl ⟨by rw [hj]; simp [Red.zero, Red.cells, hi_zero, lo_zero], ?_⟩
        exact (by repeat (first | (with_reducible exact Below.refl _ _) | (with_reducible exact Below.refl _ _) | (with_reducible refine Below.setCell ?_ (by first | omega | (simp; done) | (simp; omega)) _) | (with_reducible refine Below.alloc ?_ (by first | omega | (simp; done) | (simp; omega)) _) | (with_reducible refine Below.drew ?_) | (with_reducible refine below_drewN ?_ _) | (with_reducible refine Below.trans ?_ (bel1.mono (by first | omega | (simp; done) | (simp; omega))))))
    · have hkl : k = l.length := by omega
      subst hkl
      have hall : l.all Red.ok = true := List.all_eq_true.2 fun r hr => by
        obtain ⟨j, hj, e⟩ := List.mem_iff_getElem.1 hr
        exact hok j r hj (by rw [List.getElem?_eq_getElem hj, e])
      have HO := Lib.hid hok; clear hok
      have HA := Lib.hid hall; clear hall
      have HRR := Lib.hid hr; clear hr
      have HF := Lib.hid hf; clear hf
      clear hk hlt
      go_wp2_with fail
      go_loopw [28] (fun ix wr2 => TryJoinRel2 w l ix wr2) (fun ix _ => l.length - (intOf ix).toNat)
      case atStart =>
        refine ⟨0, Red.zero, Nat.zero_le _, rfl, rfl, Red.zero_fine, hres, ?_, hbel⟩
        have := hout
        simpa [Red.zero, Red.cells, hi_zero, lo_zero] using this
      case round =>
        obtain ⟨k, acc, hk, rfl, hacc, hfine, hres, hout, hbel⟩ := hrel
        have hbs := hbel.size
        have hbw : b < wr.heap.size := by omega
        have lr := hres.lt
        have lout := hout.lt
        have r0 := hres.cell 0 rfl
        have r1 := hres.cell 1 rfl
        have r2 := hres.cell 2 rfl
        have r3 := hres.cell 3 rfl
        have r4 := hres.cell 4 rfl
        have r5 := hres.cell 5 rfl
        have g0 := hres.frozen 0
        have g1 := hres.frozen 1
        have g2 := hres.frozen 2
        have g3 := hres.frozen 3
        have g4 := hres.frozen 4
        have g5 := hres.frozen 5
        have p0 := hout.frozen 0
        have p1 := hout.frozen 1
        have p2 := hout.frozen 2
        have p3 := hout.frozen 3
        have p4 := hout.frozen 4
        have p5 := hout.frozen 5
        have o0 := hout.cell 0 rfl
        have o1 := hout.cell 1 rfl
        have o2 := hout.cell 2 rfl
        have o3 := hout.cell 3 rfl
        have o4 := hout.cell 4 rfl
        have o5 := hout.cell 5 rfl
        by_cases hlt : k < l.length
        · obtain ⟨r, hrk⟩ : ∃ r, l[k]? = some r := ⟨_, List.getElem?_eq_getElem hlt⟩
          have hfit := HF.out r (List.mem_of_getElem? hrk)
          have hrok : r.ok = true := HO.out k r hlt hrk
          have hrf := Red.fine_of hrok
          have hdrop : l.drop k = r :: l.drop (k + 1) := by
            rw [List.getElem?_eq_getElem hlt] at hrk; cases hrk
            exact List.drop_eq_getElem_cons hlt
          have q : ∀ j v, r.cells[j]? = some v → wr.cell? ⟨b, o + k * 6 + j, none⟩ = some v := fun j v h => by rw [hbel.cell (p := ⟨b, o + k * 6 + j, none⟩) hb]; exact HRR.out k r hrk j v h
          have q0 := q 0 _ rfl
          rw [Nat.add_zero] at q0
          have q1 := q 1 _ rfl
          have q2 := q 2 _ rfl
          have q3 := q 3 _ rfl
          have q4 := q 4 _ rfl
          have q5 := q 5 _ rfl
          clear q
          have hkl : (k : Int) < (l.length : Int) := by omega
          have hsub : IntKind.i64.wrap (1073741824 - r.c) = 1073741824 - r.c := by rw [i64_wrap_def]; unfold Red.fine at hrf; omega
          have HD := Lib.hid hdrop; clear hdrop
          have HK := Lib.hid hk; clear hk
          have HL := Lib.hid hlt; clear hlt
          have HR := Lib.hid hrk; clear hrk
          have HC := Lib.hid hacc; clear hacc
          have HV := Lib.hid hrok; clear hrok
          have HS := Lib.hid hfine; clear hfine
          have HRF := Lib.hid hrf; clear hrf
          by_cases hov : 1073741824 - r.c < acc.c
          · go_wp2
            rw [Exit.noGoto_ret]
            have hj : joined l = (Red.zero, 5) := by
              unfold joined
              rw [if_pos HA.out, HC.out, HD.out, joinL, if_pos hov]
            refine bodyPost_ret (v := .tuple #[.agg #[.int .i64 0, .int .i64 0, .int .i64 0, .int .u64 0, .int .i64 0, .int .i64 0], .int .i64 5]) (by simp [results, Try.results13, go_sem, lr, r0, r1, r2, r3, r4, r5]) rfl ⟨by rw [hj]; simp [Red.zero, Red.cells, hi_zero, lo_zero], ?_⟩
            exact (by repeat (first | (with_reducible exact Below.refl _ _) | (with_reducible exact Below.refl _ _) | (with_reducible refine Below.setCell ?_ (by first | omega | (simp; done) | (simp; omega)) _) | (with_reducible refine Below.alloc ?_ (by first | omega | (simp; done) | (simp; omega)) _) | (with_reducible refine Below.drew ?_) | (with_reducible refine below_drewN ?_ _) | (with_reducible refine Below.trans ?_ (hbel.mono (by first | omega | (simp; done) | (simp; omega))))))
          · go_wp2_with fail
            (with_reducible refine (Try_both acc.c acc.n acc.s acc.l acc.m r.c r.n r.s r.l r.m _ (Red.fine_n HS.out) (Red.fine_n HRF.out) (by have h1 := HS.out; have h2 := HRF.out; unfold Red.fine at h1 h2; rw [i64_wrap_def]; omega)
              (by have h1 := HS.out; have h2 := HRF.out; unfold Red.fine at h1 h2; rw [i64_wrap_def]; omega)).mono ?_); rintro e w1 ⟨rfl, hb1⟩; obtain ⟨hc1, hf1, hs1⟩ := after hb1
            simp at hs1
            have lt_w1_0_0 : w.heap.size < w1.heap.size := by omega
            have lt_w1_0_1 : w.heap.size < w1.heap.size + 1 := by omega
            have lt_w1_1_0 : w.heap.size + 1 < w1.heap.size := by omega
            have lt_w1_1_1 : w.heap.size + 1 < w1.heap.size + 1 := by omega
            have hres1 := (hres.alloc _).ext hb1
            have hout1 := (hout.alloc _).ext hb1
            have bel1 : Below w.heap.size w w1 := (by repeat (first | (with_reducible exact Below.refl _ _) | (with_reducible exact Below.refl _ _) | (with_reducible refine Below.setCell ?_ (by first | omega | (simp; done) | (simp; omega)) _) | (with_reducible refine Below.alloc ?_ (by first | omega | (simp; done) | (simp; omega)) _) | (with_reducible refine Below.drew ?_) | (with_reducible refine below_drewN ?_ _) | (with_reducible refine Below.trans ?_ (hb1.mono (by first | omega | (simp; done) | (simp; omega)))) | (with_reducible refine Below.trans ?_ (hbel.mono (by first | omega | (simp; done) | (simp; omega))))))
            go_wp2_with fail
            go_roundw
            case rel =>
              refine ⟨k + 1, acc.both r, HL.out, by go_num, ?_, Red.both_fine HS.out HRF.out (Int.not_lt.2 hov), ?_, ?_, ?_⟩
              · rw [HC.out, HD.out, joinL, if_neg (Int.not_lt.2 hov)]
              · exact (((((hres1.other (by omega) _ _).other (by omega) _ _).other (by omega) _ _).other (by omega) _ _).other (by omega) _ _).other (by omega) _ _
              · exact (((((hout1.set 0 _).set 1 _).set 2 _).set 3 _).set 4 _).set 5 _
              · exact (by repeat (first | (with_reducible exact Below.refl _ _) | (with_reducible exact Below.refl _ _) | (with_reducible refine Below.setCell ?_ (by first | omega | (simp; done) | (simp; omega)) _) | (with_reducible refine Below.alloc ?_ (by first | omega | (simp; done) | (simp; omega)) _) | (with_reducible refine Below.drew ?_) | (with_reducible refine below_drewN ?_ _) | (with_reducible refine Below.trans ?_ (bel1.mono (by first | omega | (simp; done) | (simp; omega))))))
            case measure => have := HL.out; simp [intOf]; omega
        · have hkl : k = l.length := by omega
          subst hkl
          have hj : joined l = (acc, 0) := by
            unfold joined
            rw [if_pos HA.out, hacc, List.drop_length]
            rfl
          have HJ := Lib.hid hj; clear hj
          clear hacc hk hlt hfine
          go_wp2
          rw [Exit.noGoto_ret]
          refine bodyPost_ret (v := .tuple #[.agg #[.int .i64 acc.c, .int .i64 acc.n, .int .i64 (hi acc.s), .int .u64 (lo acc.s), .int .i64 acc.l, .int .i64 acc.m], .int .i64 0]) (by simp [results, Try.results13, go_sem, lr, r0, r1, r2, r3, r4, r5]) rfl ⟨by rw [HJ.out]; rfl, ?_⟩
          exact (by repeat (first | (with_reducible exact Below.refl _ _) | (with_reducible exact Below.refl _ _) | (with_reducible refine Below.setCell ?_ (by first | omega | (simp; done) | (simp; omega)) _) | (with_reducible refine Below.alloc ?_ (by first | omega | (simp; done) | (simp; omega)) _) | (with_reducible refine Below.drew ?_) | (with_reducible refine below_drewN ?_ _) | (with_reducible refine Below.trans ?_ (hbel.mono (by first | omega | (simp; done) | (simp; omega))))))

/-- The same, the length a number of its own. -/
theorem Try_Join' (b o n cap : Nat) (l : List Red) (w : World) (hn : l.length = n) (hl : (n : Int) ≤ 9223372036854775807) (hb : b < w.heap.size) (hr : TryRedsAt w b o l) (hf : ∀ r ∈ l, r.fits) :
    Calls Try.prog 13 #[.slice (some ⟨b, o, none⟩) n cap] w fun e w' =>
      e = .returned (.tuple #[.agg (joined l).1.cells.toArray, .int .i64 (joined l).2]) ∧ Below w.heap.size w w' := by
  subst hn
  exact Try_Join b o cap l w hl hb hr hf

theorem Try_reds_tail {W : World} {b o : Nat} {x : Red} {l : List Red} (h : TryRedsAt W b o (x :: l)) : TryRedsAt W b (o + 6) l := fun k r hk j v hj => by
  have := h (k + 1) r (by simpa using hk) j v hj
  rwa [show o + (k + 1) * 6 + j = o + 6 + k * 6 + j by omega] at this
theorem Try_reds_cells {W : World} {b : Nat} : ∀ (l : List Red) (o : Nat), TryRedsAt W b o l → ∀ (j : Nat) (u : Value), (l.flatMap Red.cells)[j]? = some u → W.cell? ⟨b, o + j, none⟩ = some u
  | [], _, _, j, u, h => by simp at h
  | x :: l, o, hr, j, u, h => by
    rw [List.flatMap_cons] at h
    have hx : x.cells.length = 6 := rfl
    by_cases hj : j < 6
    · rw [List.getElem?_append_left (by rw [hx]; exact hj)] at h
      have := hr 0 x rfl j u h
      rwa [show o + 0 * 6 + j = o + j by omega] at this
    · rw [List.getElem?_append_right (by rw [hx]; omega), hx] at h
      have := Try_reds_cells l (o + 6) (Try_reds_tail hr) (j - 6) u h
      rwa [show o + 6 + (j - 6) = o + j by omega] at this
theorem Try_reds_len (l : List Red) : (l.flatMap Red.cells).length = l.length * 6 := by
  induction l with
  | nil => rfl
  | cons x l ih => rw [List.flatMap_cons, List.length_append, ih, List.length_cons]; simp [Red.cells]; omega
theorem Try_reds_one (l : List Red) : ∀ u ∈ l.flatMap Red.cells, u.oneCell' = true := by
  intro u hu
  obtain ⟨r, _, hr⟩ := List.mem_flatMap.1 hu
  simp [Red.cells] at hr
  rcases hr with rfl | rfl | rfl | rfl | rfl | rfl <;> rfl
theorem Try_reds_take {W : World} {b o : Nat} {l : List Red} (k : Nat) (h : TryRedsAt W b o l) : TryRedsAt W b o (l.take k) := fun i r hi j v hj =>
  h i r (by rw [List.getElem?_take] at hi; split at hi <;> simp_all) j v hj
theorem Try_reds_below {W W' : World} {B b o : Nat} {l : List Red} (h : TryRedsAt W b o l) (hb : Below B W W') (hlt : b < B) : TryRedsAt W' b o l := fun i r hi j v hj => by
  rw [hb.cell (p := ⟨b, o + i * 6 + j, none⟩) hlt]; exact h i r hi j v hj
/-- What an append of reductions has made. -/
theorem Try_reds_own {W : World} {B n : Nat} {v : Value} {l : List Red} (h : W.ownsRow B 24 6 v n (l.flatMap Red.cells)) (hn : 0 < n) :
    ∃ g cap, v = .slice (some ⟨g, 0, none⟩) n cap ∧ B ≤ g ∧ g < W.heap.size ∧ n ≤ cap ∧ TryRedsAt W g 0 l := by
  rcases h.2 with ⟨_, h0⟩ | ⟨g, cap, cur, hv, hg, hh, hc, _⟩
  · omega
  · refine ⟨g, cap, hv, hg, (Array.getElem?_eq_some_iff.1 hh).1, hc, fun k r hk j u hj => ?_⟩
    have := h.cells (g := g) (by rw [hv]; rfl) _ _ (Try_reds_flat l k r hk j u hj)
    rw [Addr.add_mid] at this
    rw [Nat.add_assoc]
    exact this
theorem below_grown {w w' : World} (h : w.grownBy w' Option.none) : Below w.heap.size w w' := ⟨h.os, h.tape, h.output, h.size, fun k hk => h.block k hk (fun e => by cases e)⟩
end Go.Proofs.Ytdebmifjfemcjaa
