/-
  Reductions joined part by part, in plain; MonoidParts, walked.
-/
import Derived.Test.YtdebmifjfemcjaaMonEnds
import Derived.ArgAppend
import Derived.LoopN
import Derived.Laws.AppendOwnNone
namespace Go.Proofs.Ytdebmifjfemcjaa
set_option linter.unusedVariables false
set_option linter.unusedSimpArgs false
open Go.RowKit Go.Dav
attribute [local go_sem] Gives ite_val ite_val_true

theorem Try_infoRed : (Try.prog.info? 24).map (fun i => (i.zero, i.size, i.bytes)) = some (some (.agg #[.int .i64 0, .int .i64 0, .int .i64 0, .int .u64 0, .int .i64 0, .int .i64 0]), 6, 48) := by kernel_rfl

/-- The reduction of rows. -/
def TryTot (l : List TryRow) : Red := redAll (l.map TryRow.red)
theorem TryTot_good {l : List TryRow} (h : ∀ r ∈ l, I64 r.x) : (TryTot l).good := redAll_good fun r hr => by
  obtain ⟨x, hx, rfl⟩ := List.mem_map.1 hr
  exact rowRed_good _ _ (h x hx)
theorem TryTot_append {l k : List TryRow} (hl : ∀ r ∈ l, I64 r.x) (hk : ∀ r ∈ k, I64 r.x) : TryTot (l ++ k) = (TryTot l).both (TryTot k) := by
  unfold TryTot
  rw [List.map_append]
  refine redAll_append (fun r hr => ?_) (fun r hr => ?_)
  · obtain ⟨x, hx, rfl⟩ := List.mem_map.1 hr; exact rowRed_good _ _ (hl x hx)
  · obtain ⟨x, hx, rfl⟩ := List.mem_map.1 hr; exact rowRed_good _ _ (hk x hx)
theorem TryTot_sum (l : List TryRow) {n : Nat} (h : l.length = n) : TrySum l n = TryTot l := by
  unfold TrySum TryTot; rw [List.take_of_length_le (by omega)]
theorem TryTot_c (l : List TryRow) : (TryTot l).c = l.length := by
  rw [← TryTot_sum l rfl, TrySum_c l _ (Nat.le_refl _)]

/-- The parts that are at hand once the first d rows are through. -/
structure TryPartsOk (l : List TryRow) (d : Nat) (pl : List Red) : Prop where
  good : ∀ r ∈ pl, r.good
  all : redAll pl = TryTot (l.take d)
  sum : (pl.map Red.c).sum = d

theorem redAll_two {p : Red} (h : p.good) : redAll [p, Red.zero] = p := by
  unfold redAll; simp only [List.foldl_cons, List.foldl_nil]; rw [Red.zero_both h, Red.both_zero]
theorem redAll_one {p : Red} (h : p.good) : redAll [p] = p := by
  unfold redAll; simp only [List.foldl_cons, List.foldl_nil]; rw [Red.zero_both h]

theorem Try_parts_nil (l : List TryRow) : TryPartsOk l 0 [] := ⟨by simp, by simp [TryTot], by simp⟩

theorem Try_parts_even {l : List TryRow} {d n : Nat} {pl : List Red} (h : TryPartsOk l d pl) (hx : ∀ r ∈ l, I64 r.x) (hd : d + n ≤ l.length) : TryPartsOk l (d + n) (pl ++ [TryTot ((l.drop d).take n), Red.zero]) := by
  have h1 : ∀ r ∈ l.take d, I64 r.x := fun r hr => hx r (List.mem_of_mem_take hr)
  have h2 : ∀ r ∈ (l.drop d).take n, I64 r.x := fun r hr => hx r (List.mem_of_mem_drop (List.mem_of_mem_take hr))
  have g := TryTot_good h2
  refine ⟨fun r hr => ?_, ?_, ?_⟩
  · rcases List.mem_append.1 hr with hr | hr
    · exact h.good r hr
    · simp only [List.mem_cons, List.not_mem_nil, or_false] at hr
      rcases hr with rfl | rfl
      · exact g
      · exact Red.zero_good
  · rw [redAll_append h.good (fun r hr => by
      simp only [List.mem_cons, List.not_mem_nil, or_false] at hr
      rcases hr with rfl | rfl
      · exact g
      · exact Red.zero_good), redAll_two g, h.all, ← TryTot_append h1 h2, List.take_add]
  · rw [List.map_append, List.sum_append, h.sum]
    simp only [List.map_cons, List.map_nil, List.sum_cons, List.sum_nil, TryTot_c, Red.zero, List.length_take, List.length_drop]
    omega

theorem Try_parts_odd {l : List TryRow} {d n : Nat} {pl : List Red} (h : TryPartsOk l d pl) (hx : ∀ r ∈ l, I64 r.x) (hd : d + n ≤ l.length) : TryPartsOk l (d + n) ([TryTot ((l.drop d).take n)] ++ pl) := by
  have h1 : ∀ r ∈ l.take d, I64 r.x := fun r hr => hx r (List.mem_of_mem_take hr)
  have h2 : ∀ r ∈ (l.drop d).take n, I64 r.x := fun r hr => hx r (List.mem_of_mem_drop (List.mem_of_mem_take hr))
  have g := TryTot_good h2
  refine ⟨fun r hr => ?_, ?_, ?_⟩
  · rcases List.mem_append.1 hr with hr | hr
    · have := List.mem_singleton.1 hr; subst this; exact g
    · exact h.good r hr
  · rw [redAll_append (fun r hr => by have := List.mem_singleton.1 hr; subst this; exact g) h.good, redAll_one g, h.all, Red.both_comm g (TryTot_good h1), ← TryTot_append h1 h2, List.take_add]
  · rw [List.map_append, List.sum_append, h.sum]
    simp only [List.map_cons, List.map_nil, List.sum_cons, List.sum_nil, TryTot_c, List.length_take, List.length_drop]
    omega

theorem Try_parts_end {l : List TryRow} {d : Nat} {pl : List Red} (h : TryPartsOk l d pl) (hx : ∀ r ∈ l, I64 r.x) (hd : d ≤ l.length) (h60 : l.length ≤ 60) : joined (pl ++ [TryTot (l.drop d)]) = (TryTot l, 0) := by
  have h1 : ∀ r ∈ l.take d, I64 r.x := fun r hr => hx r (List.mem_of_mem_take hr)
  have h2 : ∀ r ∈ l.drop d, I64 r.x := fun r hr => hx r (List.mem_of_mem_drop hr)
  have g := TryTot_good h2
  have hg : ∀ r ∈ pl ++ [TryTot (l.drop d)], r.good := fun r hr => by
    rcases List.mem_append.1 hr with hr | hr
    · exact h.good r hr
    · have := List.mem_singleton.1 hr; subst this; exact g
  rw [joined_good hg]
  · congr 1
    rw [redAll_append h.good (fun r hr => by have := List.mem_singleton.1 hr; subst this; exact g), redAll_one g, h.all, ← TryTot_append h1 h2, List.take_append_drop]
  · rw [List.map_append, List.sum_append, h.sum]
    simp only [List.map_cons, List.map_nil, List.sum_cons, List.sum_nil, TryTot_c, List.length_drop]
    omega

theorem Try_parts_fits {l : List TryRow} {d : Nat} {pl : List Red} (h : TryPartsOk l d pl) (hx : ∀ r ∈ l, I64 r.x) (hd : d ≤ l.length) (h60 : l.length ≤ 60) : ∀ r ∈ pl ++ [TryTot (l.drop d)], r.fits := fun r hr => by
  have g := TryTot_good (fun r hr => hx r (List.mem_of_mem_drop hr) : ∀ r ∈ l.drop d, I64 r.x)
  rcases List.mem_append.1 hr with hr | hr
  · refine Red.good_fits (h.good r hr) ?_
    have hs := h.sum
    obtain ⟨p, q, rfl⟩ := List.append_of_mem hr
    have h1 := sum_nonneg p fun r hr => h.good r (by simp [hr])
    have h2 := sum_nonneg q fun r hr => h.good r (by simp [hr])
    simp only [List.map_append, List.map_cons, List.sum_append, List.sum_cons] at hs
    omega
  · have := List.mem_singleton.1 hr; subst this
    exact Red.good_fits g (by rw [TryTot_c, List.length_drop]; omega)

/-- Whole numbers of a slice that came in. -/
def TryIntsIn (W : World) (B : Nat) (a : Option Addr) (l : List Int) : Prop :=
  ∀ k x, l[k]? = some x → ∃ b o, a = some ⟨b, o, none⟩ ∧ b < B ∧ W.cell? ⟨b, o + k, none⟩ = some (.int .i64 x)

theorem Try_rowsIn_take {W : World} {B : Nat} {a : Option Addr} {l : List TryRow} (n : Nat) (h : TryRowsIn W B a l) : TryRowsIn W B a (l.take n) := fun k r hk => h k r (by
  rw [List.getElem?_take] at hk
  split at hk
  · exact hk
  · cases hk)

theorem news_blk {W : World} {g : Nat} {cs : List Value} {t : TypeId} (h : Blk W g cs t) : ∀ j u, cs[j]? = some u → W.cell? ((⟨g, 0, none⟩ : Addr).add j) = some u := fun j u hj => by
  rw [Addr.add_mid]; simpa using h.cell j hj

def TryPartsRel (W3 : World) (w : World) (l : List TryRow) (N cap M : Nat) (ix pv rv : Value) (wr : World) : Prop :=
  ∃ (k d q qc : Nat) (pl : List Red) (a' : Option Addr), k ≤ M ∧ ix = .int .i64 k ∧ d + q = N ∧ d + qc = cap ∧ TryPartsOk l d pl ∧ pl.length ≤ 2 * k ∧ wr.ownsRow W3.heap.size 24 6 pv pl.length (pl.flatMap Red.cells) ∧
    rv = .slice a' q qc ∧ TryRowsIn w w.heap.size a' (l.drop d) ∧ (a' = none → qc = 0) ∧ Below W3.heap.size W3 wr

theorem ownsRow_ext {w w' : World} {base e size n : Nat} {v : Value} {xs : List Value} (h : w.ownsRow base e size v n xs) (hb : Below w.heap.size w w') : w'.ownsRow base e size v n xs := by
  refine ⟨h.1, ?_⟩
  rcases h.2 with h2 | ⟨g, cap, cur, h1, h2, h3, h4⟩
  · exact .inl h2
  · exact .inr ⟨g, cap, cur, h1, h2, (hb.block g (Array.getElem?_eq_some_iff.1 h3).1).trans h3, h4⟩

/-- A block just made, as a row of its own. -/
theorem ownsRow_block {w : World} {base e size n g : Nat} {xs : List Value} (h : Blk w g xs e) (hg : base ≤ g) (hx : xs.length = n * size) (hn : n ≤ maxLen) : w.ownsRow base e size (.slice (some ⟨g, 0, none⟩) n n) n xs :=
  ⟨hx, .inr ⟨g, n, xs.toArray, rfl, hg, h, Nat.le_refl _, hn, by simpa using hx, by simp [← hx]⟩⟩

theorem below_own {W0 w w' : World} {base e size n : Nat} {v : Value} {xs : List Value} (hb : Below base W0 w) (hs : base ≤ w.heap.size) (h : w.ownsRow base e size v n xs) (hg : w.grownBy w' v.ownBlock) : Below base W0 w' :=
  hb.grown hg hs fun k hk => (h.lt k hk).1

theorem Try_cut (x : Int) (q : Nat) (h : q ≤ 60) : ∃ n : Nat, wrap64 ((IntKind.u64.wrap x).tmod ((q : Int) + 1)) = (n : Int) ∧ n ≤ q := by
  have h0 : 0 ≤ IntKind.u64.wrap x := by rw [wrap_u64]; omega
  generalize IntKind.u64.wrap x = u at h0
  rw [Int.tmod_eq_emod_of_nonneg h0]
  have h1 := Int.emod_nonneg u (show (q : Int) + 1 ≠ 0 by omega)
  have h2 := Int.emod_lt_of_pos u (show (0 : Int) < (q : Int) + 1 by omega)
  refine ⟨(u % ((q : Int) + 1)).toNat, ?_, by omega⟩
  rw [wrap64_def]; omega

/-- What is left of a slice behind its first n elements. -/
theorem Try_rest {w : World} {a' : Option Addr} {l : List TryRow} {d q qc n : Nat} (h : TryRowsIn w w.heap.size a' (l.drop d)) (hl : (l.drop d).length = q) (hq : q ≤ qc) (hn : n ≤ q) :
    TryRowsIn w w.heap.size (if qc = n then a' else Option.map (fun x => x.add (n * 4)) a') (l.drop (d + n)) := fun k r hk => by
  rw [← List.drop_drop, List.getElem?_drop] at hk
  have hlt := (List.getElem?_eq_some_iff.1 hk).1
  obtain ⟨b, o, rfl, hb, hc⟩ := h _ r hk
  rw [if_neg (by omega)]
  refine ⟨b, o + n * 4, by simp [Addr.add_mid], hb, fun j v hj => ?_⟩
  have := hc j v hj
  rwa [show o + (n + k) * 4 + j = o + n * 4 + k * 4 + j by omega] at this

set_option maxRecDepth 8000 in
set_option maxHeartbeats 16000000 in
theorem Try_MonoidParts (a : Option Addr) (len cap : Nat) (L : List TryRow) (ca : Option Addr) (clen ccap : Nat) (C : List Int) (w : World) (hlen : L.length = len) (h1 : len ≤ cap) (h2 : cap ≤ maxLen) (hat : TryRowsIn w w.heap.size a L) (hx : ∀ r ∈ L, I64 r.x)
    (hclen : C.length = clen) (h3 : clen ≤ ccap) (h4 : ccap ≤ maxLen) (hcat : TryIntsIn w w.heap.size ca C) (hcx : ∀ x ∈ C, I64 x) (ha0 : a = none → cap = 0) :
    Calls Try.prog 5 #[.slice a len cap, .slice ca clen ccap] w fun e w' => e = .returned (.bool true) ∧ Below w.heap.size w w' := by
  have z1 := hi_zero
  have z2 := lo_zero
  obtain ⟨i0, hi0, hz0, hz1, hz2⟩ := info_parts Try_infoRed
  obtain ⟨N, hN⟩ : ∃ N, N = min len 60 := ⟨_, rfl⟩
  obtain ⟨M, hM⟩ : ∃ M, M = min clen 10 := ⟨_, rfl⟩
  have hl : (L.take 60).length = N := by rw [List.length_take]; omega
  have hN60 : N ≤ 60 := by omega
  have hNl : (N : Int) ≤ 60 := by omega
  have hatl : TryRowsIn w w.heap.size a (L.take 60) := fun k r hk => by
    have hlt : k < (L.take 60).length := (List.getElem?_eq_some_iff.1 hk).1
    have hk' : L[k]? = some r := by
      rw [List.getElem?_take] at hk; split at hk
      · exact hk
      · cases hk
    exact hat k r hk'
  have hxl : ∀ r ∈ L.take 60, I64 r.x := fun r hr => hx r (List.mem_of_mem_take hr)
  generalize L.take 60 = l at hl hatl hxl
  have hNc : N ≤ cap := by omega
  have HX := Lib.hid hxl; clear hxl
  have HAT := Lib.hid hatl; clear hatl
  have HL := Lib.hid hl; clear hl
  have HN := Lib.hid hN; clear hN
  have HM := Lib.hid hM; clear hM
  have HCAT := Lib.hid hcat; clear hcat
  have HCX := Lib.hid hcx; clear hcx
  have HCL := Lib.hid hclen; clear hclen
  have HA0 := Lib.hid ha0; clear ha0
  have HI := Lib.hid (And.intro hi0 (And.intro hz0 (And.intro hz1 hz2))); clear hi0 hz0 hz1 hz2
  unfold maxLen at h4
  clear hat hx hlen
  go_enter Try.func5, Try.ntmps5
  go_wp2_with fail
  refine (Try_wakes _).mono ?_; rintro e w1 ⟨rfl, hb1⟩
  have hs1 := hb1.size
  go_wp2_with fail
  refine (Try_few a len cap _ h1 h2).mono ?_; rintro e w2 ⟨rfl, hb2⟩
  have hs2 := hb2.size
  have b2 : Below w.heap.size w w2 := (by repeat (first | (with_reducible exact Below.refl _ _) | (with_reducible exact Below.refl _ _) | (with_reducible refine Below.setCell ?_ (by first | omega | (simp; done) | (simp; omega)) _) | (with_reducible refine Below.alloc ?_ (by first | omega | (simp; done) | (simp; omega)) _) | (with_reducible refine Below.drew ?_) | (with_reducible refine Below.trans ?_ (hb2.mono (by first | omega | (simp; done) | (simp; omega)))) | (with_reducible refine Below.trans ?_ (hb1.mono (by first | omega | (simp; done) | (simp; omega))))))
  rw [← HN.out]
  go_wp2_with fail
  (with_reducible refine (Try_all a cap l N _ HL.out hN60 (Try_rowsIn_later (Try_rowsIn_below HAT.out b2 (Nat.le_refl _)) b2.size) HX.out).mono ?_); rintro e w3 ⟨rfl, hb3⟩
  have hs3 := hb3.size
  have b3 : Below w.heap.size w w3 := (by repeat (first | (with_reducible exact Below.refl _ _) | (with_reducible exact Below.refl _ _) | (with_reducible refine Below.setCell ?_ (by first | omega | (simp; done) | (simp; omega)) _) | (with_reducible refine Below.alloc ?_ (by first | omega | (simp; done) | (simp; omega)) _) | (with_reducible refine Below.drew ?_) | (with_reducible refine Below.trans ?_ (hb3.mono (by first | omega | (simp; done) | (simp; omega)))) | (with_reducible refine Below.trans ?_ (b2.mono (by first | omega | (simp; done) | (simp; omega))))))
  rw [TryTot_sum l HL.out]
  have HG := Lib.hid (TryTot_good HX.out)
  have hAc : (TryTot l).c ≤ 1073741824 := by rw [TryTot_c]; have := HL.out; omega
  have hAok := Red.good_ok HG.out hAc
  have hAf : I64 (TryTot l).l ∧ I64 (TryTot l).m := ⟨(Red.good_fits HG.out hAc).2.2.1, (Red.good_fits HG.out hAc).2.2.2⟩
  generalize hA : TryTot l = A at *
  have HA := Lib.hid hA; clear hA
  go_wp2_with fail
  (with_reducible refine (Try_Check A _ hAf.1 hAf.2).mono ?_); rintro e w4 ⟨rfl, hb4⟩
  have hs4 := hb4.size
  simp at hs4
  rw [hAok, show redE true = 0 from rfl]
  have hA4 := (Blk.new w3 [_, _, _, _, _, _] 24).ext hb4
  have b4 : Below w.heap.size w w4 := (by repeat (first | (with_reducible exact Below.refl _ _) | (with_reducible exact Below.refl _ _) | (with_reducible refine Below.setCell ?_ (by first | omega | (simp; done) | (simp; omega)) _) | (with_reducible refine Below.alloc ?_ (by first | omega | (simp; done) | (simp; omega)) _) | (with_reducible refine Below.drew ?_) | (with_reducible refine Below.trans ?_ (hb4.mono (by first | omega | (simp; done) | (simp; omega)))) | (with_reducible refine Below.trans ?_ (b3.mono (by first | omega | (simp; done) | (simp; omega))))))
  clear hAc hAok hAf
  rcases Nat.lt_or_ge 10 clen with hc10 | hc10
  · obtain rfl : M = 10 := by have := HM.out; omega
    have hsl1 : ¬ (clen : Int) ≤ 10 := by omega
    have hsl2 : (10 : Int) ≤ (ccap : Int) := by omega
    have hsl3 : (10 : Int) < (clen : Int) := by omega
    go_wp2_with fail
    go_loopw [42, 8, 9] (fun ix pv rv wr => TryPartsRel w4 w l N cap 10 ix pv rv wr) (fun ix _ _ _ => 10 - (intOf ix).toNat)
    case atStart =>
      exact ⟨0, 0, N, cap, [], a, Nat.zero_le _, rfl, Nat.zero_add _, Nat.zero_add _, Try_parts_nil l, Nat.le_refl _, World.ownsRow_nil _ _ _ _, rfl, HAT.out, HA0.out, Below.refl _ _⟩
    case round =>
      obtain ⟨k, d, q, qc, pl, a', hk, rfl, hdq, hdc, hok, hpl, hown, rfl, hrows, hnone, hbel⟩ := hrel
      have hq60 : q ≤ 60 := by omega
      have hqc : q ≤ qc := by omega
      have hqd : (l.drop d).length = q := by rw [List.length_drop]; have := HL.out; omega
      have HDQ := Lib.hid hdq
      have HDC := Lib.hid hdc
      have HQD := Lib.hid hqd
      have HOK := Lib.hid hok
      have HR := Lib.hid hrows
      have HNO := Lib.hid hnone
      have hq1 : (q : Int) ≤ 60 := by omega
      have hqc1 : (q : Int) ≤ (qc : Int) := by omega
      have hqc2 : (qc : Int) ≤ 9223372036854775807 := by unfold maxLen at h2; omega
      clear hdq hdc hqd hok hrows hnone
      have bs := hbel.size
      have b5 : Below w.heap.size w wr := (by repeat (first | (with_reducible exact Below.refl _ _) | (with_reducible exact Below.refl _ _) | (with_reducible refine Below.setCell ?_ (by first | omega | (simp; done) | (simp; omega)) _) | (with_reducible refine Below.alloc ?_ (by first | omega | (simp; done) | (simp; omega)) _) | (with_reducible refine Below.drew ?_) | (with_reducible refine Below.trans ?_ (hbel.mono (by first | omega | (simp; done) | (simp; omega)))) | (with_reducible refine Below.trans ?_ (b4.mono (by first | omega | (simp; done) | (simp; omega))))))
      have hAr := hA4.ext hbel
      have lr := hAr.lt
      by_cases hlt : k < 10
      · obtain ⟨x, hxk⟩ : ∃ x, C[k]? = some x := ⟨_, List.getElem?_eq_getElem (by have := HCL.out; have := HM.out; omega)⟩
        obtain ⟨cb, co, rfl, hcb, hcc⟩ := HCAT.out k x hxk
        rw [← b5.cell (p := ⟨cb, co + k, none⟩) hcb] at hcc
        have hkM : (k : Int) < 10 := by omega
        obtain ⟨n, hn0, hnq⟩ := Try_cut x q hq60
        have hn : IntKind.i64.wrap ((IntKind.u64.wrap x).tmod ((q : Int) + 1)) = (n : Int) := by rw [← hn0, i64_wrap_def, wrap64_def]
        have hn1 : (n : Int) ≤ (q : Int) := by omega
        have hn2 : (n : Int) ≤ (qc : Int) := by omega
        go_wp2_with fail
        clear hn hn0
        (with_reducible refine (Try_all a' qc ((l.drop d).take n) n _ (by rw [List.length_take, HQD.out]; omega) (by omega) (Try_rowsIn_take n (Try_rowsIn_later (Try_rowsIn_below HR.out b5 (Nat.le_refl _)) b5.size)) (fun r hr => HX.out r (List.mem_of_mem_drop (List.mem_of_mem_take hr)))).mono ?_)
        rintro e w5 ⟨rfl, hb5⟩
        have s5 := hb5.size
        have b6 : Below w4.heap.size w4 w5 := (by repeat (first | (with_reducible exact Below.refl _ _) | (with_reducible exact Below.refl _ _) | (with_reducible refine Below.setCell ?_ (by first | omega | (simp; done) | (simp; omega)) _) | (with_reducible refine Below.alloc ?_ (by first | omega | (simp; done) | (simp; omega)) _) | (with_reducible refine Below.drew ?_) | (with_reducible refine Below.trans ?_ (hb5.mono (by first | omega | (simp; done) | (simp; omega)))) | (with_reducible refine Below.trans ?_ (hbel.mono (by first | omega | (simp; done) | (simp; omega))))))
        rw [TryTot_sum _ (by rw [List.length_take, HQD.out]; omega)]
        have HE := Lib.hid (Try_parts_even (n := n) HOK.out HX.out (by have := HL.out; have := HDQ.out; omega))
        have HO := Lib.hid (Try_parts_odd (n := n) HOK.out HX.out (by have := HL.out; have := HDQ.out; omega))
        have HRR := Lib.hid (Try_rest (n := n) HR.out HQD.out hqc hnq)
        generalize TryTot ((l.drop d).take n) = p at *
        have hown5 := ownsRow_ext hown hb5
        have HOW := Lib.hid hown5; clear hown5 hown
        have HW : ∀ x0 x1 x2 x3 x4 x5, Blk (w5.alloc (.cells #[x0, x1, x2, x3, x4, x5] 24)) w5.heap.size [x0, x1, x2, x3, x4, x5] 24 := fun x0 x1 x2 x3 x4 x5 => Blk.new _ [_, _, _, _, _, _] _
        obtain ⟨hi0, hz0, hz1, hz2⟩ := HI.out
        by_cases he : x.tmod 2 = 0
        · have he2 : (x.tmod 2 == 0) = true := by simpa using he
          go_wp2_with (at_builtin; refine wpList_append_own _ rfl (.tmp 66) (.tmp 69) 34 rfl w4.heap.size 24 i0 _ 6 48 Try.underlying34 hi0 hz0 hz1 hz2 rfl (by decide) _ pl.length (pl.flatMap Red.cells) rfl ((HOW.out.alloc _).alloc _) ⟨w5.heap.size + 1, 0, none⟩ 2 2 [.int .i64 p.c, .int .i64 p.n, .int .i64 (hi p.s), .int .u64 (lo p.s), .int .i64 p.l, .int .i64 p.m, .int .i64 0, .int .i64 0, .int .i64 0, .int .u64 0, .int .i64 0, .int .i64 0] rfl rfl (news_blk (Blk.new' _ [_, _, _, _, _, _, _, _, _, _, _, _] _ (by simp))) (by simp [Value.oneCell']) (by unfold maxLen; omega) (by omega) (by simp; omega) ?_; intro v' w6 hown6 hgrow _)
          have hbw : Below w4.heap.size w4 w6 := below_own (base := w4.heap.size) (by repeat (first | (with_reducible exact Below.refl _ _) | (with_reducible exact Below.refl _ _) | (with_reducible refine Below.setCell ?_ (by first | omega | (simp; done) | (simp; omega)) _) | (with_reducible refine Below.alloc ?_ (by first | omega | (simp; done) | (simp; omega)) _) | (with_reducible refine Below.drew ?_) | (with_reducible refine Below.trans ?_ (b6.mono (by first | omega | (simp; done) | (simp; omega)))))) (by have := b6.size; simp; omega) ((HOW.out.alloc _).alloc _) hgrow
          go_roundw
          case rel =>
            have h1 := HDQ.out
            have h2 := HDC.out
            refine ⟨k + 1, d + n, q - n, qc - n, pl ++ [p, Red.zero], _, by omega, by go_num, by omega, by omega, HE.out, by simp; omega, ?_, rfl, HRR.out, fun hno => ?_, hbw⟩
            · rw [List.flatMap_append, show [p, Red.zero].flatMap Red.cells = [.int .i64 p.c, .int .i64 p.n, .int .i64 (hi p.s), .int .u64 (lo p.s), .int .i64 p.l, .int .i64 p.m, .int .i64 0, .int .i64 0, .int .i64 0, .int .u64 0, .int .i64 0, .int .i64 0] by simp [Red.cells, Red.zero, hi_zero, lo_zero], List.length_append]
              exact hown6
            · by_cases hqn : qc = n
              · omega
              · rw [if_neg hqn] at hno
                have := HNO.out (by simpa using hno)
                omega
          case measure => simp [intOf]; omega
        · have he2 : (x.tmod 2 == 0) = false := by simpa using he
          rcases HOW.out.2 with ⟨hv, h0⟩ | ⟨g, vcap, cur, hv, hg1, hg2, hg3, hg4, hg5, hg6⟩
          · subst hv
            obtain rfl : pl = [] := List.length_eq_zero_iff.1 h0
            go_wp2_with (at_builtin; refine wpList_append_own_none rfl (.tmp 72) (.tmp 73) 34 rfl w4.heap.size 24 i0 6 Try.underlying34 hi0 (.slice (some ⟨w5.heap.size + 1, 0, none⟩) 1 1) 1 [.int .i64 p.c, .int .i64 p.n, .int .i64 (hi p.s), .int .u64 (lo p.s), .int .i64 p.l, .int .i64 p.m] rfl (ownsRow_block (Blk.new' _ [_, _, _, _, _, _] _ (by simp)) (by have := b6.size; omega) rfl (by unfold maxLen; omega)) rfl ?_)
            go_roundw
            case rel =>
              have h1 := HDQ.out
              have h2 := HDC.out
              refine ⟨k + 1, d + n, q - n, qc - n, [p] ++ [], _, by omega, by go_num, by omega, by omega, HO.out, by simp; omega, ?_, rfl, HRR.out, fun hno => ?_, (by repeat (first | (with_reducible exact Below.refl _ _) | (with_reducible exact Below.refl _ _) | (with_reducible refine Below.setCell ?_ (by first | omega | (simp; done) | (simp; omega)) _) | (with_reducible refine Below.alloc ?_ (by first | omega | (simp; done) | (simp; omega)) _) | (with_reducible refine Below.drew ?_) | (with_reducible refine Below.trans ?_ (b6.mono (by first | omega | (simp; done) | (simp; omega))))))⟩
              · exact ownsRow_block (Blk.new' _ [_, _, _, _, _, _] _ (by simp)) (by have := b6.size; omega) rfl (by unfold maxLen; simp)
              · by_cases hqn : qc = n
                · omega
                · rw [if_neg hqn] at hno
                  have := HNO.out (by simpa using hno)
                  omega
            case measure => simp [intOf]; omega
          · subst hv
            go_wp2_with (at_builtin; refine wpList_append_own _ rfl (.tmp 72) (.tmp 73) 34 rfl w4.heap.size 24 i0 _ 6 48 Try.underlying34 hi0 hz0 hz1 hz2 rfl (by decide) (.slice (some ⟨w5.heap.size + 1, 0, none⟩) 1 1) 1 [.int .i64 p.c, .int .i64 p.n, .int .i64 (hi p.s), .int .u64 (lo p.s), .int .i64 p.l, .int .i64 p.m] rfl (ownsRow_block (Blk.new' _ [_, _, _, _, _, _] _ (by simp)) (by have := b6.size; omega) rfl (by unfold maxLen; omega)) ⟨g, 0, none⟩ pl.length vcap (pl.flatMap Red.cells) rfl (Try_reds_len pl) (((HOW.out.alloc _).alloc _).cells (g := g) rfl) (Try_reds_one pl) (by unfold maxLen; omega) (by omega) (by have := b6.size; simp; omega) ?_; intro v' w6 hown6 hgrow _)
            have hbw : Below w4.heap.size w4 w6 := below_own (base := w4.heap.size) (by repeat (first | (with_reducible exact Below.refl _ _) | (with_reducible exact Below.refl _ _) | (with_reducible refine Below.setCell ?_ (by first | omega | (simp; done) | (simp; omega)) _) | (with_reducible refine Below.alloc ?_ (by first | omega | (simp; done) | (simp; omega)) _) | (with_reducible refine Below.drew ?_) | (with_reducible refine Below.trans ?_ (b6.mono (by first | omega | (simp; done) | (simp; omega)))))) (by have := b6.size; simp; omega) (ownsRow_block (n := 1) (size := 6) (xs := [.int .i64 p.c, .int .i64 p.n, .int .i64 (hi p.s), .int .u64 (lo p.s), .int .i64 p.l, .int .i64 p.m]) (Blk.new' _ [_, _, _, _, _, _] _ (by simp)) (by have := b6.size; omega) rfl (by unfold maxLen; omega)) hgrow
            go_roundw
            case rel =>
              have h1 := HDQ.out
              have h2 := HDC.out
              refine ⟨k + 1, d + n, q - n, qc - n, [p] ++ pl, _, by omega, by go_num, by omega, by omega, HO.out, by simp; omega, ?_, rfl, HRR.out, fun hno => ?_, hbw⟩
              · rw [List.flatMap_append, show [p].flatMap Red.cells = [.int .i64 p.c, .int .i64 p.n, .int .i64 (hi p.s), .int .u64 (lo p.s), .int .i64 p.l, .int .i64 p.m] by simp [Red.cells], List.length_append]
                exact hown6
              · by_cases hqn : qc = n
                · omega
                · rw [if_neg hqn] at hno
                  have := HNO.out (by simpa using hno)
                  omega
            case measure => simp [intOf]; omega
      · have hkl : k = 10 := by omega
        have hkl2 : ¬ ((k : Int) < (10 : Int)) := by omega
        clear hlt hkl
        obtain ⟨hi0, hz0, hz1, hz2⟩ := HI.out
        go_wp2_with fail
        (with_reducible refine (Try_all a' qc (l.drop d) q _ HQD.out hq60 (Try_rowsIn_later (Try_rowsIn_below HR.out b5 (Nat.le_refl _)) b5.size) (fun r hr => HX.out r (List.mem_of_mem_drop hr))).mono ?_)
        rintro e w5 ⟨rfl, hb5⟩
        have s5 := hb5.size
        have b6 : Below w4.heap.size w4 w5 := (by repeat (first | (with_reducible exact Below.refl _ _) | (with_reducible exact Below.refl _ _) | (with_reducible refine Below.setCell ?_ (by first | omega | (simp; done) | (simp; omega)) _) | (with_reducible refine Below.alloc ?_ (by first | omega | (simp; done) | (simp; omega)) _) | (with_reducible refine Below.drew ?_) | (with_reducible refine Below.trans ?_ (hb5.mono (by first | omega | (simp; done) | (simp; omega)))) | (with_reducible refine Below.trans ?_ (hbel.mono (by first | omega | (simp; done) | (simp; omega))))))
        have hA5 := hAr.ext hb5
        rw [TryTot_sum _ HQD.out]
        have HE := Lib.hid (Try_parts_end HOK.out HX.out (by have := HL.out; have := HDQ.out; omega) (by have := HL.out; omega))
        have HF := Lib.hid (Try_parts_fits HOK.out HX.out (by have := HL.out; have := HDQ.out; omega) (by have := HL.out; omega))
        generalize TryTot (l.drop d) = p at *
        have HOW := Lib.hid (ownsRow_ext hown hb5); clear hown
        have c1 := hA5.cells
        have hm5 := hA5.lt
        go_wp2_with (at_builtin; refine wpList_append_own _ rfl (.tmp 87) (.tmp 89) 34 rfl w4.heap.size 24 i0 _ 6 48 Try.underlying34 hi0 hz0 hz1 hz2 rfl (by decide) _ pl.length (pl.flatMap Red.cells) rfl ((HOW.out.alloc _).alloc _) ⟨w5.heap.size + 1, 0, none⟩ 1 1 [.int .i64 p.c, .int .i64 p.n, .int .i64 (hi p.s), .int .u64 (lo p.s), .int .i64 p.l, .int .i64 p.m] rfl rfl (news_blk (Blk.new' _ [_, _, _, _, _, _] _ (by simp))) (by simp [Value.oneCell']) (by unfold maxLen; omega) (by omega) (by simp; omega) ?_; intro v' w6 hown6 hgrow _)
        have hown7 : w6.ownsRow w4.heap.size 24 6 v' (pl.length + 1) ((pl ++ [p]).flatMap Red.cells) := by
          rw [List.flatMap_append, show [p].flatMap Red.cells = [.int .i64 p.c, .int .i64 p.n, .int .i64 (hi p.s), .int .u64 (lo p.s), .int .i64 p.l, .int .i64 p.m] by simp [Red.cells]]
          exact hown6
        clear hown6
        have hbw : Below w4.heap.size w4 w6 := below_own (base := w4.heap.size) (by repeat (first | (with_reducible exact Below.refl _ _) | (with_reducible exact Below.refl _ _) | (with_reducible refine Below.setCell ?_ (by first | omega | (simp; done) | (simp; omega)) _) | (with_reducible refine Below.alloc ?_ (by first | omega | (simp; done) | (simp; omega)) _) | (with_reducible refine Below.drew ?_) | (with_reducible refine Below.trans ?_ (b6.mono (by first | omega | (simp; done) | (simp; omega)))))) (by have := b6.size; simp; omega) ((HOW.out.alloc _).alloc _) hgrow
        have b7 : Below w.heap.size w w6 := (by repeat (first | (with_reducible exact Below.refl _ _) | (with_reducible exact Below.refl _ _) | (with_reducible refine Below.setCell ?_ (by first | omega | (simp; done) | (simp; omega)) _) | (with_reducible refine Below.alloc ?_ (by first | omega | (simp; done) | (simp; omega)) _) | (with_reducible refine Below.drew ?_) | (with_reducible refine Below.trans ?_ (hbw.mono (by first | omega | (simp; done) | (simp; omega)))) | (with_reducible refine Below.trans ?_ (b4.mono (by first | omega | (simp; done) | (simp; omega))))))
        have hA6 := hA4.below hbw (by have := hA4.lt; omega)
        clear hgrow
        obtain ⟨g, cap', rfl, hg, hgl, hgc, hgr⟩ := Try_reds_own hown7 (by omega)
        clear hown7
        (with_reducible refine (Try_Join' g 0 (pl.length + 1) cap' (pl ++ [p]) _ (by simp) (by omega) hgl hgr HF.out).mono ?_); rintro e w7 ⟨rfl, hb7⟩
        rw [HE.out]
        have s7 := hb7.size
        have b8 : Below w.heap.size w w7 := (by repeat (first | (with_reducible exact Below.refl _ _) | (with_reducible exact Below.refl _ _) | (with_reducible refine Below.setCell ?_ (by first | omega | (simp; done) | (simp; omega)) _) | (with_reducible refine Below.alloc ?_ (by first | omega | (simp; done) | (simp; omega)) _) | (with_reducible refine Below.drew ?_) | (with_reducible refine Below.trans ?_ (hb7.mono (by first | omega | (simp; done) | (simp; omega)))) | (with_reducible refine Below.trans ?_ (b7.mono (by first | omega | (simp; done) | (simp; omega))))))
        have d1 := (hA6.ext hb7).cells
        have hm7 := (hA6.ext hb7).lt
        clear c1 hm5
        have hA : TryTot l = A := HA.out
        rw [hA]
        simp only [Red.cells]
        go_wp2
        go_ret
        exact ⟨by simp, (by repeat (first | (with_reducible exact Below.refl _ _) | (with_reducible exact Below.refl _ _) | (with_reducible refine Below.setCell ?_ (by first | omega | (simp; done) | (simp; omega)) _) | (with_reducible refine Below.alloc ?_ (by first | omega | (simp; done) | (simp; omega)) _) | (with_reducible refine Below.drew ?_) | (with_reducible refine Below.trans ?_ (b8.mono (by first | omega | (simp; done) | (simp; omega))))))⟩
  · obtain rfl : clen = M := by have := HM.out; omega
    have hsl1 : (clen : Int) ≤ 10 := by omega
    have hsl2 : (clen : Int) ≤ (ccap : Int) := by omega
    go_wp2_with fail
    go_loopw [42, 8, 9] (fun ix pv rv wr => TryPartsRel w4 w l N cap clen ix pv rv wr) (fun ix _ _ _ => clen - (intOf ix).toNat)
    case atStart =>
      exact ⟨0, 0, N, cap, [], a, Nat.zero_le _, rfl, Nat.zero_add _, Nat.zero_add _, Try_parts_nil l, Nat.le_refl _, World.ownsRow_nil _ _ _ _, rfl, HAT.out, HA0.out, Below.refl _ _⟩
    case round =>
      obtain ⟨k, d, q, qc, pl, a', hk, rfl, hdq, hdc, hok, hpl, hown, rfl, hrows, hnone, hbel⟩ := hrel
      have hq60 : q ≤ 60 := by omega
      have hqc : q ≤ qc := by omega
      have hqd : (l.drop d).length = q := by rw [List.length_drop]; have := HL.out; omega
      have HDQ := Lib.hid hdq
      have HDC := Lib.hid hdc
      have HQD := Lib.hid hqd
      have HOK := Lib.hid hok
      have HR := Lib.hid hrows
      have HNO := Lib.hid hnone
      have hq1 : (q : Int) ≤ 60 := by omega
      have hqc1 : (q : Int) ≤ (qc : Int) := by omega
      have hqc2 : (qc : Int) ≤ 9223372036854775807 := by unfold maxLen at h2; omega
      clear hdq hdc hqd hok hrows hnone
      have bs := hbel.size
      have b5 : Below w.heap.size w wr := (by repeat (first | (with_reducible exact Below.refl _ _) | (with_reducible exact Below.refl _ _) | (with_reducible refine Below.setCell ?_ (by first | omega | (simp; done) | (simp; omega)) _) | (with_reducible refine Below.alloc ?_ (by first | omega | (simp; done) | (simp; omega)) _) | (with_reducible refine Below.drew ?_) | (with_reducible refine Below.trans ?_ (hbel.mono (by first | omega | (simp; done) | (simp; omega)))) | (with_reducible refine Below.trans ?_ (b4.mono (by first | omega | (simp; done) | (simp; omega))))))
      have hAr := hA4.ext hbel
      have lr := hAr.lt
      by_cases hlt : k < clen
      · obtain ⟨x, hxk⟩ : ∃ x, C[k]? = some x := ⟨_, List.getElem?_eq_getElem (by have := HCL.out; have := HM.out; omega)⟩
        obtain ⟨cb, co, rfl, hcb, hcc⟩ := HCAT.out k x hxk
        rw [← b5.cell (p := ⟨cb, co + k, none⟩) hcb] at hcc
        have hkM : (k : Int) < clen := by omega
        obtain ⟨n, hn0, hnq⟩ := Try_cut x q hq60
        have hn : IntKind.i64.wrap ((IntKind.u64.wrap x).tmod ((q : Int) + 1)) = (n : Int) := by rw [← hn0, i64_wrap_def, wrap64_def]
        have hn1 : (n : Int) ≤ (q : Int) := by omega
        have hn2 : (n : Int) ≤ (qc : Int) := by omega
        go_wp2_with fail
        clear hn hn0
        (with_reducible refine (Try_all a' qc ((l.drop d).take n) n _ (by rw [List.length_take, HQD.out]; omega) (by omega) (Try_rowsIn_take n (Try_rowsIn_later (Try_rowsIn_below HR.out b5 (Nat.le_refl _)) b5.size)) (fun r hr => HX.out r (List.mem_of_mem_drop (List.mem_of_mem_take hr)))).mono ?_)
        rintro e w5 ⟨rfl, hb5⟩
        have s5 := hb5.size
        have b6 : Below w4.heap.size w4 w5 := (by repeat (first | (with_reducible exact Below.refl _ _) | (with_reducible exact Below.refl _ _) | (with_reducible refine Below.setCell ?_ (by first | omega | (simp; done) | (simp; omega)) _) | (with_reducible refine Below.alloc ?_ (by first | omega | (simp; done) | (simp; omega)) _) | (with_reducible refine Below.drew ?_) | (with_reducible refine Below.trans ?_ (hb5.mono (by first | omega | (simp; done) | (simp; omega)))) | (with_reducible refine Below.trans ?_ (hbel.mono (by first | omega | (simp; done) | (simp; omega))))))
        rw [TryTot_sum _ (by rw [List.length_take, HQD.out]; omega)]
        have HE := Lib.hid (Try_parts_even (n := n) HOK.out HX.out (by have := HL.out; have := HDQ.out; omega))
        have HO := Lib.hid (Try_parts_odd (n := n) HOK.out HX.out (by have := HL.out; have := HDQ.out; omega))
        have HRR := Lib.hid (Try_rest (n := n) HR.out HQD.out hqc hnq)
        generalize TryTot ((l.drop d).take n) = p at *
        have hown5 := ownsRow_ext hown hb5
        have HOW := Lib.hid hown5; clear hown5 hown
        have HW : ∀ x0 x1 x2 x3 x4 x5, Blk (w5.alloc (.cells #[x0, x1, x2, x3, x4, x5] 24)) w5.heap.size [x0, x1, x2, x3, x4, x5] 24 := fun x0 x1 x2 x3 x4 x5 => Blk.new _ [_, _, _, _, _, _] _
        obtain ⟨hi0, hz0, hz1, hz2⟩ := HI.out
        by_cases he : x.tmod 2 = 0
        · have he2 : (x.tmod 2 == 0) = true := by simpa using he
          go_wp2_with (at_builtin; refine wpList_append_own _ rfl (.tmp 66) (.tmp 69) 34 rfl w4.heap.size 24 i0 _ 6 48 Try.underlying34 hi0 hz0 hz1 hz2 rfl (by decide) _ pl.length (pl.flatMap Red.cells) rfl ((HOW.out.alloc _).alloc _) ⟨w5.heap.size + 1, 0, none⟩ 2 2 [.int .i64 p.c, .int .i64 p.n, .int .i64 (hi p.s), .int .u64 (lo p.s), .int .i64 p.l, .int .i64 p.m, .int .i64 0, .int .i64 0, .int .i64 0, .int .u64 0, .int .i64 0, .int .i64 0] rfl rfl (news_blk (Blk.new' _ [_, _, _, _, _, _, _, _, _, _, _, _] _ (by simp))) (by simp [Value.oneCell']) (by unfold maxLen; omega) (by omega) (by simp; omega) ?_; intro v' w6 hown6 hgrow _)
          have hbw : Below w4.heap.size w4 w6 := below_own (base := w4.heap.size) (by repeat (first | (with_reducible exact Below.refl _ _) | (with_reducible exact Below.refl _ _) | (with_reducible refine Below.setCell ?_ (by first | omega | (simp; done) | (simp; omega)) _) | (with_reducible refine Below.alloc ?_ (by first | omega | (simp; done) | (simp; omega)) _) | (with_reducible refine Below.drew ?_) | (with_reducible refine Below.trans ?_ (b6.mono (by first | omega | (simp; done) | (simp; omega)))))) (by have := b6.size; simp; omega) ((HOW.out.alloc _).alloc _) hgrow
          go_roundw
          case rel =>
            have h1 := HDQ.out
            have h2 := HDC.out
            refine ⟨k + 1, d + n, q - n, qc - n, pl ++ [p, Red.zero], _, by omega, by go_num, by omega, by omega, HE.out, by simp; omega, ?_, rfl, HRR.out, fun hno => ?_, hbw⟩
            · rw [List.flatMap_append, show [p, Red.zero].flatMap Red.cells = [.int .i64 p.c, .int .i64 p.n, .int .i64 (hi p.s), .int .u64 (lo p.s), .int .i64 p.l, .int .i64 p.m, .int .i64 0, .int .i64 0, .int .i64 0, .int .u64 0, .int .i64 0, .int .i64 0] by simp [Red.cells, Red.zero, hi_zero, lo_zero], List.length_append]
              exact hown6
            · by_cases hqn : qc = n
              · omega
              · rw [if_neg hqn] at hno
                have := HNO.out (by simpa using hno)
                omega
          case measure => simp [intOf]; omega
        · have he2 : (x.tmod 2 == 0) = false := by simpa using he
          rcases HOW.out.2 with ⟨hv, h0⟩ | ⟨g, vcap, cur, hv, hg1, hg2, hg3, hg4, hg5, hg6⟩
          · subst hv
            obtain rfl : pl = [] := List.length_eq_zero_iff.1 h0
            go_wp2_with (at_builtin; refine wpList_append_own_none rfl (.tmp 72) (.tmp 73) 34 rfl w4.heap.size 24 i0 6 Try.underlying34 hi0 (.slice (some ⟨w5.heap.size + 1, 0, none⟩) 1 1) 1 [.int .i64 p.c, .int .i64 p.n, .int .i64 (hi p.s), .int .u64 (lo p.s), .int .i64 p.l, .int .i64 p.m] rfl (ownsRow_block (Blk.new' _ [_, _, _, _, _, _] _ (by simp)) (by have := b6.size; omega) rfl (by unfold maxLen; omega)) rfl ?_)
            go_roundw
            case rel =>
              have h1 := HDQ.out
              have h2 := HDC.out
              refine ⟨k + 1, d + n, q - n, qc - n, [p] ++ [], _, by omega, by go_num, by omega, by omega, HO.out, by simp; omega, ?_, rfl, HRR.out, fun hno => ?_, (by repeat (first | (with_reducible exact Below.refl _ _) | (with_reducible exact Below.refl _ _) | (with_reducible refine Below.setCell ?_ (by first | omega | (simp; done) | (simp; omega)) _) | (with_reducible refine Below.alloc ?_ (by first | omega | (simp; done) | (simp; omega)) _) | (with_reducible refine Below.drew ?_) | (with_reducible refine Below.trans ?_ (b6.mono (by first | omega | (simp; done) | (simp; omega))))))⟩
              · exact ownsRow_block (Blk.new' _ [_, _, _, _, _, _] _ (by simp)) (by have := b6.size; omega) rfl (by unfold maxLen; simp)
              · by_cases hqn : qc = n
                · omega
                · rw [if_neg hqn] at hno
                  have := HNO.out (by simpa using hno)
                  omega
            case measure => simp [intOf]; omega
          · subst hv
            go_wp2_with (at_builtin; refine wpList_append_own _ rfl (.tmp 72) (.tmp 73) 34 rfl w4.heap.size 24 i0 _ 6 48 Try.underlying34 hi0 hz0 hz1 hz2 rfl (by decide) (.slice (some ⟨w5.heap.size + 1, 0, none⟩) 1 1) 1 [.int .i64 p.c, .int .i64 p.n, .int .i64 (hi p.s), .int .u64 (lo p.s), .int .i64 p.l, .int .i64 p.m] rfl (ownsRow_block (Blk.new' _ [_, _, _, _, _, _] _ (by simp)) (by have := b6.size; omega) rfl (by unfold maxLen; omega)) ⟨g, 0, none⟩ pl.length vcap (pl.flatMap Red.cells) rfl (Try_reds_len pl) (((HOW.out.alloc _).alloc _).cells (g := g) rfl) (Try_reds_one pl) (by unfold maxLen; omega) (by omega) (by have := b6.size; simp; omega) ?_; intro v' w6 hown6 hgrow _)
            have hbw : Below w4.heap.size w4 w6 := below_own (base := w4.heap.size) (by repeat (first | (with_reducible exact Below.refl _ _) | (with_reducible exact Below.refl _ _) | (with_reducible refine Below.setCell ?_ (by first | omega | (simp; done) | (simp; omega)) _) | (with_reducible refine Below.alloc ?_ (by first | omega | (simp; done) | (simp; omega)) _) | (with_reducible refine Below.drew ?_) | (with_reducible refine Below.trans ?_ (b6.mono (by first | omega | (simp; done) | (simp; omega)))))) (by have := b6.size; simp; omega) (ownsRow_block (n := 1) (size := 6) (xs := [.int .i64 p.c, .int .i64 p.n, .int .i64 (hi p.s), .int .u64 (lo p.s), .int .i64 p.l, .int .i64 p.m]) (Blk.new' _ [_, _, _, _, _, _] _ (by simp)) (by have := b6.size; omega) rfl (by unfold maxLen; omega)) hgrow
            go_roundw
            case rel =>
              have h1 := HDQ.out
              have h2 := HDC.out
              refine ⟨k + 1, d + n, q - n, qc - n, [p] ++ pl, _, by omega, by go_num, by omega, by omega, HO.out, by simp; omega, ?_, rfl, HRR.out, fun hno => ?_, hbw⟩
              · rw [List.flatMap_append, show [p].flatMap Red.cells = [.int .i64 p.c, .int .i64 p.n, .int .i64 (hi p.s), .int .u64 (lo p.s), .int .i64 p.l, .int .i64 p.m] by simp [Red.cells], List.length_append]
                exact hown6
              · by_cases hqn : qc = n
                · omega
                · rw [if_neg hqn] at hno
                  have := HNO.out (by simpa using hno)
                  omega
            case measure => simp [intOf]; omega
      · have hkl : k = clen := by omega
        have hkl2 : ¬ ((k : Int) < (clen : Int)) := by omega
        clear hlt hkl
        obtain ⟨hi0, hz0, hz1, hz2⟩ := HI.out
        go_wp2_with fail
        (with_reducible refine (Try_all a' qc (l.drop d) q _ HQD.out hq60 (Try_rowsIn_later (Try_rowsIn_below HR.out b5 (Nat.le_refl _)) b5.size) (fun r hr => HX.out r (List.mem_of_mem_drop hr))).mono ?_)
        rintro e w5 ⟨rfl, hb5⟩
        have s5 := hb5.size
        have b6 : Below w4.heap.size w4 w5 := (by repeat (first | (with_reducible exact Below.refl _ _) | (with_reducible exact Below.refl _ _) | (with_reducible refine Below.setCell ?_ (by first | omega | (simp; done) | (simp; omega)) _) | (with_reducible refine Below.alloc ?_ (by first | omega | (simp; done) | (simp; omega)) _) | (with_reducible refine Below.drew ?_) | (with_reducible refine Below.trans ?_ (hb5.mono (by first | omega | (simp; done) | (simp; omega)))) | (with_reducible refine Below.trans ?_ (hbel.mono (by first | omega | (simp; done) | (simp; omega))))))
        have hA5 := hAr.ext hb5
        rw [TryTot_sum _ HQD.out]
        have HE := Lib.hid (Try_parts_end HOK.out HX.out (by have := HL.out; have := HDQ.out; omega) (by have := HL.out; omega))
        have HF := Lib.hid (Try_parts_fits HOK.out HX.out (by have := HL.out; have := HDQ.out; omega) (by have := HL.out; omega))
        generalize TryTot (l.drop d) = p at *
        have HOW := Lib.hid (ownsRow_ext hown hb5); clear hown
        have c1 := hA5.cells
        have hm5 := hA5.lt
        go_wp2_with (at_builtin; refine wpList_append_own _ rfl (.tmp 87) (.tmp 89) 34 rfl w4.heap.size 24 i0 _ 6 48 Try.underlying34 hi0 hz0 hz1 hz2 rfl (by decide) _ pl.length (pl.flatMap Red.cells) rfl ((HOW.out.alloc _).alloc _) ⟨w5.heap.size + 1, 0, none⟩ 1 1 [.int .i64 p.c, .int .i64 p.n, .int .i64 (hi p.s), .int .u64 (lo p.s), .int .i64 p.l, .int .i64 p.m] rfl rfl (news_blk (Blk.new' _ [_, _, _, _, _, _] _ (by simp))) (by simp [Value.oneCell']) (by unfold maxLen; omega) (by omega) (by simp; omega) ?_; intro v' w6 hown6 hgrow _)
        have hown7 : w6.ownsRow w4.heap.size 24 6 v' (pl.length + 1) ((pl ++ [p]).flatMap Red.cells) := by
          rw [List.flatMap_append, show [p].flatMap Red.cells = [.int .i64 p.c, .int .i64 p.n, .int .i64 (hi p.s), .int .u64 (lo p.s), .int .i64 p.l, .int .i64 p.m] by simp [Red.cells]]
          exact hown6
        clear hown6
        have hbw : Below w4.heap.size w4 w6 := below_own (base := w4.heap.size) (by repeat (first | (with_reducible exact Below.refl _ _) | (with_reducible exact Below.refl _ _) | (with_reducible refine Below.setCell ?_ (by first | omega | (simp; done) | (simp; omega)) _) | (with_reducible refine Below.alloc ?_ (by first | omega | (simp; done) | (simp; omega)) _) | (with_reducible refine Below.drew ?_) | (with_reducible refine Below.trans ?_ (b6.mono (by first | omega | (simp; done) | (simp; omega)))))) (by have := b6.size; simp; omega) ((HOW.out.alloc _).alloc _) hgrow
        have b7 : Below w.heap.size w w6 := (by repeat (first | (with_reducible exact Below.refl _ _) | (with_reducible exact Below.refl _ _) | (with_reducible refine Below.setCell ?_ (by first | omega | (simp; done) | (simp; omega)) _) | (with_reducible refine Below.alloc ?_ (by first | omega | (simp; done) | (simp; omega)) _) | (with_reducible refine Below.drew ?_) | (with_reducible refine Below.trans ?_ (hbw.mono (by first | omega | (simp; done) | (simp; omega)))) | (with_reducible refine Below.trans ?_ (b4.mono (by first | omega | (simp; done) | (simp; omega))))))
        have hA6 := hA4.below hbw (by have := hA4.lt; omega)
        clear hgrow
        obtain ⟨g, cap', rfl, hg, hgl, hgc, hgr⟩ := Try_reds_own hown7 (by omega)
        clear hown7
        (with_reducible refine (Try_Join' g 0 (pl.length + 1) cap' (pl ++ [p]) _ (by simp) (by omega) hgl hgr HF.out).mono ?_); rintro e w7 ⟨rfl, hb7⟩
        rw [HE.out]
        have s7 := hb7.size
        have b8 : Below w.heap.size w w7 := (by repeat (first | (with_reducible exact Below.refl _ _) | (with_reducible exact Below.refl _ _) | (with_reducible refine Below.setCell ?_ (by first | omega | (simp; done) | (simp; omega)) _) | (with_reducible refine Below.alloc ?_ (by first | omega | (simp; done) | (simp; omega)) _) | (with_reducible refine Below.drew ?_) | (with_reducible refine Below.trans ?_ (hb7.mono (by first | omega | (simp; done) | (simp; omega)))) | (with_reducible refine Below.trans ?_ (b7.mono (by first | omega | (simp; done) | (simp; omega))))))
        have d1 := (hA6.ext hb7).cells
        have hm7 := (hA6.ext hb7).lt
        clear c1 hm5
        have hA : TryTot l = A := HA.out
        rw [hA]
        simp only [Red.cells]
        go_wp2
        go_ret
        exact ⟨by simp, (by repeat (first | (with_reducible exact Below.refl _ _) | (with_reducible exact Below.refl _ _) | (with_reducible refine Below.setCell ?_ (by first | omega | (simp; done) | (simp; omega)) _) | (with_reducible refine Below.alloc ?_ (by first | omega | (simp; done) | (simp; omega)) _) | (with_reducible refine Below.drew ?_) | (with_reducible refine Below.trans ?_ (b8.mono (by first | omega | (simp; done) | (simp; omega))))))⟩
end Go.Proofs.Ytdebmifjfemcjaa
