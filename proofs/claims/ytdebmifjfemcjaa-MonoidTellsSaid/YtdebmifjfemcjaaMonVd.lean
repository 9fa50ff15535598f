/-
  Layer 13: stats, walked.
-/
import Derived.Test.YtdebmifjfemcjaaMonVc
namespace Go.Proofs.Ytdebmifjfemcjaa
set_option linter.unusedVariables false
set_option linter.unusedSimpArgs false
open Go.RowKit Go.Dav
attribute [local go_sem] Gives ite_val ite_val_true

theorem Try_infoVal : (Try.prog.info? 51).map (fun i => (i.zero, i.size, i.bytes)) = some (some (.agg #[.int .i64 0, .int .i64 0, .string ⟨#[]⟩, .slice none 0 0, .slice none 0 0]), 5, 80) := by kernel_rfl
/-- Where stats keeps what it is about. -/
structure TryStW (w : World) (r : Red) (base p4 p5 q g : Nat) (kv : Value) (n : Nat) (ks : List Value) (W : World) : Prop where
  b1 : Blk W w.heap.size [.int .i64 r.c, .int .i64 r.n, .int .i64 (hi r.s), .int .u64 (lo r.s), .int .i64 r.l, .int .i64 r.m] 24
  b2 : Blk W (w.heap.size + 1) [.int .i64 0, .int .i64 0, .string ⟨#[]⟩, .slice none 0 0, .slice none 0 0] 51
  b4 : Blk W p4 [.string ⟨#[]⟩, .nilFunc, .string ⟨#[95, 99, 111, 117, 110, 116]⟩, .func (.func 46) #[] #[], .string ⟨#[95, 115, 117, 109]⟩, .func (.func 47) #[] #[], .string ⟨#[95, 109, 105, 110]⟩, .func (.func 48) #[] #[], .string ⟨#[95, 109, 97, 120]⟩, .func (.func 50) #[] #[]] 91
  b5 : Blk W p5 [.int .i64 6, .int .i64 0, .string ⟨#[]⟩, kv, .slice (some ⟨q, 0, none⟩) 5 5] 51
  bq : Blk W q [.string ⟨#[99, 111, 117, 110, 116]⟩, .string ⟨#[109, 97, 120]⟩, .string ⟨#[109, 105, 110]⟩, .string ⟨#[110, 117, 109, 98, 101, 114, 115]⟩, .string ⟨#[115, 117, 109]⟩] 9
  bg : Blk W g [.int .i64 1, .int .i64 4, .int .i64 3, .int .i64 0, .int .i64 2] 3
  own : W.ownsRow base 51 5 kv n ks
  bel : Below w.heap.size w W
  lt : w.heap.size + 1 < p4 ∧ p4 < q ∧ q < p5 ∧ p5 < g ∧ g < base ∧ base ≤ W.heap.size
theorem TryStW.ext {w : World} {r : Red} {base p4 p5 q g : Nat} {kv : Value} {n : Nat} {ks : List Value} {W W' : World} (h : TryStW w r base p4 p5 q g kv n ks W) (hb : Below W.heap.size W W') : TryStW w r base p4 p5 q g kv n ks W' :=
  ⟨h.b1.ext hb, h.b2.ext hb, h.b4.ext hb, h.b5.ext hb, h.bq.ext hb, h.bg.ext hb, ownsRow_ext h.own hb, h.bel.trans (hb.mono h.bel.size), by have := h.lt; have := hb.size; omega⟩

theorem news_blkV {W : World} {g : Nat} {cs : List Value} {t : TypeId} (h : Blk W g cs t) : ∀ j u, cs[j]? = some u → W.cell? ((⟨g, 0, none⟩ : Addr).add j) = some u := fun j u hj => by
  rw [Addr.add_mid]; simpa using h.cell j hj
theorem own_sliceV {w : World} {base e size n : Nat} {v : Value} {xs : List Value} (h : w.ownsRow base e size v n xs) : ∃ a c, v = .slice a n c := by
  rcases h.2 with ⟨h1, h2⟩ | ⟨g, cap, cur, h1, _⟩
  · exact ⟨none, 0, by rw [h1, h2]⟩
  · exact ⟨_, cap, h1⟩
theorem own_fiveV {w : World} {base e n m : Nat} {a : Option Addr} {c : Nat} {xs : List Value} (h : w.ownsRow base e 5 (.slice a m c) (n + 1) xs) : ∃ g, a = some ⟨g, 0, none⟩ ∧ base ≤ g ∧ g < w.heap.size ∧ (n + 1 ≤ c ∧ c ≤ maxLen) ∧ ∀ i v, xs[i]? = some v → w.cell? ⟨g, i, none⟩ = some v := by
  rcases h.2 with ⟨_, h2⟩ | ⟨g, cap, cur, h1, h2, h3, h4, h5, _⟩
  · omega
  · cases h1
    refine ⟨g, rfl, h2, (Array.getElem?_eq_some_iff.1 h3).1, ⟨h4, h5⟩, fun i v hv => ?_⟩
    have := h.cells (g := g) rfl i v hv
    rw [Addr.add_mid] at this
    simpa using this
theorem ownsRow_onlyV {w w' : World} {base e size n p : Nat} {v : Value} {xs : List Value} (h : w.ownsRow base e size v n xs) (o : Only p w w') (hp : p < base) : w'.ownsRow base e size v n xs := by
  refine ⟨h.1, ?_⟩
  rcases h.2 with h2 | ⟨g, cap, cur, h1, h2, h3, h4⟩
  · exact .inl h2
  · exact .inr ⟨g, cap, cur, h1, h2, (o.block g (Array.getElem?_eq_some_iff.1 h3).1 (by omega)).trans h3, h4⟩
/-- One more kid. -/
theorem TryStW.grow {w : World} {r : Red} {base p4 p5 q g : Nat} {kv kv' : Value} {n m : Nat} {ks ks' : List Value} {W W' : World} (h : TryStW w r base p4 p5 q g kv n ks W) (hb : Below base W W') (hown : W'.ownsRow base 51 5 kv' m ks') : TryStW w r base p4 p5 q g kv' m ks' (W'.setCell ⟨p5, 3, none⟩ kv') := by
  have hl := h.lt
  have o : Only p5 W' (W'.setCell ⟨p5, 3, none⟩ kv') := (Only.refl _ _).set 3 kv'
  exact ⟨(h.b1.below hb (by omega)).only o (by omega), (h.b2.below hb (by omega)).only o (by omega), (h.b4.below hb (by omega)).only o (by omega), (h.b5.below hb (by omega)).set 3 kv', (h.bq.below hb (by omega)).only o (by omega), (h.bg.below hb (by omega)).only o (by omega), ownsRow_onlyV hown o (by omega), below_only (h.bel.trans (hb.mono (by omega))) o (by have := h.bel.size; have := hb.size; omega) (by omega), by have := hb.size; have := o.size; omega⟩
/-- All kids' cells. -/
def TryKC (r : Red) (x y : Int × Int) : List Value := five 3 r.c ++ (five y.1 y.2 ++ (five x.1 x.2 ++ (five 3 r.n ++ five 3 (sg r.s))))
theorem TryKC_one (r : Red) (x y : Int × Int) : (TryKC r x y).take 5 = five 3 r.c ∧ (TryKC r x y).take 10 = (TryKC r x y).take 5 ++ five y.1 y.2 ∧ (TryKC r x y).take 15 = (TryKC r x y).take 10 ++ five x.1 x.2 ∧ (TryKC r x y).take 20 = (TryKC r x y).take 15 ++ five 3 r.n ∧ (TryKC r x y).take 25 = (TryKC r x y).take 20 ++ five 3 (sg r.s) := by
  refine ⟨rfl, rfl, rfl, rfl, rfl⟩

/-- What stats hands back. -/
def TryStatBack (n : Nat) (b : Bool) (r : Red) (e : Ending) (w' : World) : Prop :=
  if b = true then ∃ g cg q cq, e = .returned (.tuple #[.agg #[.int .i64 6, .int .i64 0, .string ⟨#[]⟩, .slice (some ⟨g, 0, none⟩) 5 cg, .slice (some ⟨q, 0, none⟩) 5 cq], .int .i64 0]) ∧ n ≤ g ∧ n ≤ q ∧ ValAt w' 2 (.agg #[.int .i64 6, .int .i64 0, .string ⟨#[]⟩, .slice (some ⟨g, 0, none⟩) 5 cg, .slice (some ⟨q, 0, none⟩) 5 cq]) (statsV r) else e = .returned (.tuple #[.agg #[.int .i64 0, .int .i64 0, .string ⟨#[]⟩, .slice none 0 0, .slice none 0 0], .int .i64 5])

set_option maxRecDepth 8000 in
set_option maxHeartbeats 16000000 in
theorem Try_stats (r : Red) (w : World) (hc : I64 r.c) (hni : I64 r.n) (hn0 : 0 ≤ r.n) (b : Bool) (hf : fitsB r.s = b) (hl : I64 r.l) (hm : I64 r.m) :
    Calls Try.prog 44 #[.agg #[.int .i64 r.c, .int .i64 r.n, .int .i64 (hi r.s), .int .u64 (lo r.s), .int .i64 r.l, .int .i64 r.m]] w fun e w' => TryStatBack w.heap.size b r e w' ∧ Below w.heap.size w w' := by
  obtain ⟨i0, hi0, hz0, hz1, hz2⟩ := info_parts Try_infoVal
  have HI := Lib.hid (And.intro hi0 (And.intro hz0 (And.intro hz1 hz2)))
  have HF := Lib.hid hf
  have HC := Lib.hid hc
  have HN := Lib.hid hni
  have HN0 := Lib.hid hn0
  obtain ⟨x, hx⟩ : ∃ x, TryEndB r.n r.l = x := ⟨_, rfl⟩
  obtain ⟨y, hy⟩ : ∃ y, TryEndB r.n r.m = y := ⟨_, rfl⟩
  have HX := Lib.hid hx
  have HY := Lib.hid hy
  have HXI := Lib.hid (show I64' x.1 ∧ I64' x.2 by rw [← hx]; unfold TryEndB; unfold I64 at hl; unfold I64'; split <;> (dsimp only; omega))
  have HYI := Lib.hid (show I64' y.1 ∧ I64' y.2 by rw [← hy]; unfold TryEndB; unfold I64 at hm; unfold I64'; split <;> (dsimp only; omega))
  clear hl hm
  have C1 := Lib.hid (fun W => show Calls Try.prog 48 #[.agg #[.int .i64 r.c, .int .i64 r.n, .int .i64 (hi r.s), .int .u64 (lo r.s), .int .i64 r.l, .int .i64 r.m]] W (fun e w' => e = .returned (.tuple #[.agg #[.int .i64 x.1, .int .i64 x.2, .string ⟨#[]⟩, .slice none 0 0, .slice none 0 0], .int .i64 0]) ∧ Below W.heap.size W w') by
    have h := Try_simple1 r.c r.n r.s r.l r.m W hn0; rw [hx] at h; exact h)
  have C2 := Lib.hid (fun W => show Calls Try.prog 50 #[.agg #[.int .i64 r.c, .int .i64 r.n, .int .i64 (hi r.s), .int .u64 (lo r.s), .int .i64 r.l, .int .i64 r.m]] W (fun e w' => e = .returned (.tuple #[.agg #[.int .i64 y.1, .int .i64 y.2, .string ⟨#[]⟩, .slice none 0 0, .slice none 0 0], .int .i64 0]) ∧ Below W.heap.size W w') by
    have h := Try_simple2 r.c r.n r.s r.l r.m W hn0; rw [hy] at h; exact h)
  clear hi0 hz0 hz1 hz2 hf hc hni hn0 hx hy
  go_enter Try.func44, Try.ntmps44
  go_wp2_with fail
  obtain ⟨W0, hW0⟩ : ∃ W0, (w.alloc (.cells #[.int .i64 r.c, .int .i64 r.n, .int .i64 (hi r.s), .int .u64 (lo r.s), .int .i64 r.l, .int .i64 r.m] 24)).alloc (.cells #[.int .i64 0, .int .i64 0, .string ⟨#[]⟩, .slice none 0 0, .slice none 0 0] 51) = W0 := ⟨_, rfl⟩
  have hb1 : Blk W0 w.heap.size [.int .i64 r.c, .int .i64 r.n, .int .i64 (hi r.s), .int .u64 (lo r.s), .int .i64 r.l, .int .i64 r.m] 24 := by rw [← hW0]; exact (Blk.new _ _ _).alloc _
  have hb2 : Blk W0 (w.heap.size + 1) [.int .i64 0, .int .i64 0, .string ⟨#[]⟩, .slice none 0 0, .slice none 0 0] 51 := by rw [← hW0]; exact Blk.new' _ _ _ (by simp)
  have bel0 : Below w.heap.size w W0 := by rw [← hW0]; exact (by repeat (first | (with_reducible exact Below.refl _ _) | (with_reducible exact Below.refl _ _) | (with_reducible refine Below.setCell ?_ (by first | omega | (simp; done) | (simp; omega)) _) | (with_reducible refine Below.alloc ?_ (by first | omega | (simp; done) | (simp; omega)) _) | (with_reducible refine Below.drew ?_) | (with_reducible refine below_drewN ?_ _)))
  rw [hW0]
  have B1 := Lib.hid hb1
  have B2 := Lib.hid hb2
  have BEL0 := Lib.hid bel0
  clear hb1 hb2 bel0 hW0
  refine (Try_simple W0).mono ?_; rintro e w1 ⟨rfl, hb1⟩
  have B11 := Lib.hid (B1.out.ext hb1)
  have B21 := Lib.hid (B2.out.ext hb1)
  have BEL1 := Lib.hid (BEL0.out.trans (hb1.mono BEL0.out.size))
  have hs1 := B21.out.lt
  clear hb1 B1 B2 BEL0
  unfold TryTold
  go_wp2_with fail
  obtain ⟨V, hV⟩ : ∃ V, ((((w1.alloc (.cells #[.string ⟨#[]⟩, .nilFunc, .string ⟨#[95, 99, 111, 117, 110, 116]⟩, .func (.func 46) #[] #[], .string ⟨#[95, 115, 117, 109]⟩, .func (.func 47) #[] #[], .string ⟨#[95, 109, 105, 110]⟩, .func (.func 48) #[] #[], .string ⟨#[95, 109, 97, 120]⟩, .func (.func 50) #[] #[]] 91)).alloc (.cells #[.string ⟨#[99, 111, 117, 110, 116]⟩, .string ⟨#[109, 97, 120]⟩, .string ⟨#[109, 105, 110]⟩, .string ⟨#[110, 117, 109, 98, 101, 114, 115]⟩, .string ⟨#[115, 117, 109]⟩] 9)).alloc (.cells #[.int .i64 6, .int .i64 0, .string ⟨#[]⟩, .slice none 0 0, .slice (some ⟨w1.heap.size + 1, 0, none⟩) 5 5] 51)).alloc (.cells #[.int .i64 1, .int .i64 4, .int .i64 3, .int .i64 0, .int .i64 2] 3)) = V := ⟨_, rfl⟩
  have hst : TryStW w r (w1.heap.size + 4) w1.heap.size (w1.heap.size + 1 + 1) (w1.heap.size + 1) (w1.heap.size + 1 + 1 + 1) (.slice none 0 0) 0 [] V := by
    rw [← hV]
    exact ⟨(((B11.out.alloc _).alloc _).alloc _).alloc _, (((B21.out.alloc _).alloc _).alloc _).alloc _, (((Blk.new _ _ _).alloc _).alloc _).alloc _, (Blk.new' _ _ _ (by simp)).alloc _, ((Blk.new' _ _ _ (by simp)).alloc _).alloc _, Blk.new' _ _ _ (by simp), World.ownsRow_nil _ _ _ _, by have h := BEL1.out; have hs := h.size; exact (by repeat (first | (with_reducible exact Below.refl _ _) | (with_reducible exact Below.refl _ _) | (with_reducible refine Below.setCell ?_ (by first | omega | (simp; done) | (simp; omega)) _) | (with_reducible refine Below.alloc ?_ (by first | omega | (simp; done) | (simp; omega)) _) | (with_reducible refine Below.drew ?_) | (with_reducible refine below_drewN ?_ _) | (with_reducible refine Below.trans ?_ (h.mono (by first | omega | (simp; done) | (simp; omega)))))), by simp; omega⟩
  rw [hV]
  have HST := Lib.hid hst
  clear hst hV B11 B21 BEL1
  obtain ⟨s1, hs1'⟩ : ∃ s1, w1.heap.size = s1 := ⟨_, rfl⟩
  rw [hs1'] at HST hs1 ⊢
  clear hs1'
  go_loopw [15] (fun ix wr => ∃ (i : Nat) (kv : Value), (i ≤ 5 ∧ (i = 5 → b = true)) ∧ ix = .int .i64 (i : Int) ∧ TryStW w r (s1 + 4) s1 (s1 + 1 + 1) (s1 + 1) (s1 + 1 + 1 + 1) kv i ((TryKC r x y).take (5 * i)) wr) (fun ix _ => 5 - (intOf ix).toNat)
  case atStart => exact ⟨0, _, ⟨Nat.zero_le _, fun h => by cases h⟩, by go_num, HST.out⟩
  case round =>
    obtain ⟨i, kv, ⟨hi, hib⟩, rfl, hst⟩ := hrel
    have HIB := Lib.hid hib
    clear hib
    have HS := Lib.hid hst
    have qg := hst.bg.cells
    have lg := hst.bg.lt
    clear hst HST
    rcases (by omega : i = 0 ∨ i = 1 ∨ i = 2 ∨ i = 3 ∨ i = 4 ∨ i = 5) with rfl | rfl | rfl | rfl | rfl | rfl
    ·
      have q1 := HS.out.b1.cells
      have l1 := HS.out.b1.lt
      have q4 := HS.out.b4.cells
      have l4 := HS.out.b4.lt
      clear hi
      go_wp2_with fail
      refine' wp_region_seqF [8] [.inl _, .inl _, .inl _, .inl _, .inl _, .inl _, .inl _, .inl _, .inl _, .inr (NewBlk wr.heap.size [.int .i64 0, .int .i64 0, .string ⟨#[]⟩, .slice none 0 0, .slice none 0 0] 51)] (by kernel_rfl) (by kernel_rfl) ?main1
      case main1 =>
        refine wpParts_det (by rfl) (fun W hE hN => ?_) ?_
        · go_simp; refine ⟨Below.refl _ _, ?_⟩; rfl
        simp only [Act.put, List.setIfInBounds_toArray, List.set_cons_zero, List.set_cons_succ]
        refine wpParts_det (by rfl) (fun W hE hN => ?_) ?_
        · go_simp; refine ⟨Below.refl _ _, ?_⟩; rfl
        simp only [Act.put, List.setIfInBounds_toArray, List.set_cons_zero, List.set_cons_succ]
        refine wpParts_det (by rfl) (fun W hE hN => ?_) ?_
        · go_simp; refine ⟨Below.refl _ _, ?_⟩; rfl
        simp only [Act.put, List.setIfInBounds_toArray, List.set_cons_zero, List.set_cons_succ]
        refine wpParts_det (by rfl) (fun W hE hN => ?_) ?_
        · have hc := fun b o h => hE.cell (p := ⟨b, o, none⟩) h
          go_simp; refine ⟨Below.refl _ _, ?_⟩; rfl
        simp only [Act.put, List.setIfInBounds_toArray, List.set_cons_zero, List.set_cons_succ]
        refine wpParts_det (by rfl) (fun W hE hN => ?_) ?_
        · have hc := fun b o h => hE.cell (p := ⟨b, o, none⟩) h
          go_simp; refine ⟨Below.refl _ _, ?_⟩; rfl
        simp only [Act.put, List.setIfInBounds_toArray, List.set_cons_zero, List.set_cons_succ]
        refine wpParts_det (by rfl) (fun W hE hN => ?_) ?_
        · go_simp; refine ⟨Below.refl _ _, ?_⟩; refine (Try_count r.c r.n r.s r.l r.m _).mono ?_; rintro e w' ⟨rfl, hb⟩; refine ⟨?_, hb⟩; rfl
        simp only [Act.put, List.setIfInBounds_toArray, List.set_cons_zero, List.set_cons_succ]
        refine wpParts_det (by rfl) (fun W hE hN => ?_) ?_
        · go_simp; refine ⟨Below.refl _ _, ?_⟩; rfl
        simp only [Act.put, List.setIfInBounds_toArray, List.set_cons_zero, List.set_cons_succ]
        refine wpParts_det (by rfl) (fun W hE hN => ?_) ?_
        · go_simp; refine ⟨Below.refl _ _, ?_⟩; rfl
        simp only [Act.put, List.setIfInBounds_toArray, List.set_cons_zero, List.set_cons_succ]
        refine wpParts_det (by rfl) (fun W hE hN => ?_) ?_
        · go_simp; refine ⟨Below.refl _ _, ?_⟩; rfl
        simp only [Act.put, List.setIfInBounds_toArray, List.set_cons_zero, List.set_cons_succ]
        refine wpParts_any rfl (NewBlk.later) (by rfl) (fun W hE hN => ?_) (fun u9 => ?_)
        · go_simp; exact newBlk_alloc (cs := [.int .i64 0, .int .i64 0, .string ⟨#[]⟩, .slice none 0 0, .slice none 0 0]) hE.size
        simp only [Act.put, List.setIfInBounds_toArray, List.set_cons_zero, List.set_cons_succ]
        refine wpParts_end fun W2 hE2 hG2 => ?_
        have hcW2 := fun b o h => hE2.cell (p := ⟨b, o, none⟩) h
        have hfW2 := fun b o h => hE2.frozen (p := ⟨b, o, none⟩) h
        obtain ⟨⟨p8, rfl, hp8, hk8⟩, _⟩ := hG2
        have HK8 := Lib.hid hk8
        have HS2 := Lib.hid (HS.out.ext hE2)
        have HP8 := Lib.hid hp8
        have HW2 := Lib.hid hE2.size
        have q8 := hk8.cells
        have m8 := hk8.marks
        have l8 := hk8.lt
        have HE2 := Lib.hid hE2
        clear hk8 hE2 hcW2 hfW2 q1 l1 q4 l4 qg lg hp8 HS2 HW2
        go_wp2_with fail
        refine noPanic_normal ?_
        obtain ⟨V2, hV2⟩ : ∃ V, (((((W2.setCell ⟨p8, 0, none⟩ (.int .i64 3)).setCell ⟨p8, 1, none⟩ (.int .i64 r.c)).setCell ⟨p8, 2, none⟩ (.string ⟨#[]⟩)).setCell ⟨p8, 3, none⟩ (.slice none 0 0)).setCell ⟨p8, 4, none⟩ (.slice none 0 0)) = V := ⟨_, rfl⟩
        have hb2 : Below wr.heap.size wr V2 := by rw [← hV2]; exact below_only HE2.out (Only.fiveV _ _ _ _ _ _ _) HE2.out.size HP8.out
        have HKV := Lib.hid (show Blk V2 p8 (five 3 r.c) 51 by rw [← hV2]; exact HK8.out.fiveV _ _ _ _ _)
        have HSV := Lib.hid (HS.out.ext hb2)
        rw [hV2]
        clear hV2 hb2 HK8 HS HE2 HP8 q8 m8 l8
        have q8 := (show Blk V2 p8 [.int .i64 3, .int .i64 r.c, .string ⟨#[]⟩, .slice none 0 0, .slice none 0 0] 51 from HKV.out).cells
        have l8 := HKV.out.lt
        have q5 := HSV.out.b5.cells
        have l5 := HSV.out.b5.lt
        obtain ⟨hi0, hz0, hz1, hz2⟩ := HI.out
        have hbs := HSV.out.lt
        go_wp2_with (at_builtin; refine wpList_append_own _ rfl (.tmp 44) (.tmp 46) 48 rfl (s1 + 4) 51 i0 _ 5 80 Try.underlying48 hi0 hz0 hz1 hz2 rfl (by decide) kv 0 ((TryKC r x y).take (5 * 0)) rfl (HSV.out.own.alloc _) ⟨V2.heap.size, 0, none⟩ 1 1 [.int .i64 3, .int .i64 r.c, .string ⟨#[]⟩, .slice none 0 0, .slice none 0 0] rfl rfl (news_blkV (Blk.new V2 [_, _, _, _, _] _)) (by simp [Value.oneCell']) (by unfold maxLen; omega) (by omega) (by simp; omega) ?_; intro v' w6 hown6 hgrow _; obtain ⟨va, vc, rfl⟩ := own_sliceV hown6; have HBW := Lib.hid (below_own (B := s1 + 4) ((Below.refl (s1 + 4) V2).alloc (by omega) (.cells #[.int .i64 3, .int .i64 r.c, .string ⟨#[]⟩, .slice none 0 0, .slice none 0 0] 51)) (by simp; omega) (HSV.out.own.alloc _) (Nat.le_refl _) hgrow); have HO6 := Lib.hid hown6; have b56 := HSV.out.b5.below HBW.out (by omega); have q56 := b56.cells; have m56 := b56.marks; have l56 := b56.lt; clear hown6 hgrow b56 q5 l5 q8 l8)
        go_roundw
        case rel =>
          refine ⟨1, .slice va 1 vc, ⟨by omega, fun h => by cases h⟩, by go_num, ?_⟩
          refine HSV.out.grow HBW.out ?_
          have h := HO6.out
          rw [show (5 * 1 : Nat) = 5 * 0 + 5 from rfl]
          rw [show (TryKC r x y).take (5 * 0 + 5) = (TryKC r x y).take (5 * 0) ++ five 3 r.c from rfl]
          exact h
        case measure => simp [intOf]
    ·
      have q1 := HS.out.b1.cells
      have l1 := HS.out.b1.lt
      have q4 := HS.out.b4.cells
      have l4 := HS.out.b4.lt
      clear hi
      go_wp2_with fail
      refine' wp_region_seqF [8] [.inl _, .inl _, .inl _, .inl _, .inl _, .inl _, .inl _, .inl _, .inl _, .inr (NewBlk wr.heap.size [.int .i64 0, .int .i64 0, .string ⟨#[]⟩, .slice none 0 0, .slice none 0 0] 51)] (by kernel_rfl) (by kernel_rfl) ?main2
      case main2 =>
        refine wpParts_det (by rfl) (fun W hE hN => ?_) ?_
        · go_simp; refine ⟨Below.refl _ _, ?_⟩; rfl
        simp only [Act.put, List.setIfInBounds_toArray, List.set_cons_zero, List.set_cons_succ]
        refine wpParts_det (by rfl) (fun W hE hN => ?_) ?_
        · go_simp; refine ⟨Below.refl _ _, ?_⟩; rfl
        simp only [Act.put, List.setIfInBounds_toArray, List.set_cons_zero, List.set_cons_succ]
        refine wpParts_det (by rfl) (fun W hE hN => ?_) ?_
        · go_simp; refine ⟨Below.refl _ _, ?_⟩; rfl
        simp only [Act.put, List.setIfInBounds_toArray, List.set_cons_zero, List.set_cons_succ]
        refine wpParts_det (by rfl) (fun W hE hN => ?_) ?_
        · have hc := fun b o h => hE.cell (p := ⟨b, o, none⟩) h
          go_simp; refine ⟨Below.refl _ _, ?_⟩; rfl
        simp only [Act.put, List.setIfInBounds_toArray, List.set_cons_zero, List.set_cons_succ]
        refine wpParts_det (by rfl) (fun W hE hN => ?_) ?_
        · have hc := fun b o h => hE.cell (p := ⟨b, o, none⟩) h
          go_simp; refine ⟨Below.refl _ _, ?_⟩; rfl
        simp only [Act.put, List.setIfInBounds_toArray, List.set_cons_zero, List.set_cons_succ]
        refine wpParts_det (by rfl) (fun W hE hN => ?_) ?_
        · go_simp; refine ⟨Below.refl _ _, ?_⟩; refine (C2.out _).mono ?_; rintro e w' ⟨rfl, hb⟩; refine ⟨?_, hb⟩; rfl
        simp only [Act.put, List.setIfInBounds_toArray, List.set_cons_zero, List.set_cons_succ]
        refine wpParts_det (by rfl) (fun W hE hN => ?_) ?_
        · go_simp; refine ⟨Below.refl _ _, ?_⟩; rfl
        simp only [Act.put, List.setIfInBounds_toArray, List.set_cons_zero, List.set_cons_succ]
        refine wpParts_det (by rfl) (fun W hE hN => ?_) ?_
        · go_simp; refine ⟨Below.refl _ _, ?_⟩; rfl
        simp only [Act.put, List.setIfInBounds_toArray, List.set_cons_zero, List.set_cons_succ]
        refine wpParts_det (by rfl) (fun W hE hN => ?_) ?_
        · go_simp; refine ⟨Below.refl _ _, ?_⟩; rfl
        simp only [Act.put, List.setIfInBounds_toArray, List.set_cons_zero, List.set_cons_succ]
        refine wpParts_any rfl (NewBlk.later) (by rfl) (fun W hE hN => ?_) (fun u9 => ?_)
        · go_simp; exact newBlk_alloc (cs := [.int .i64 0, .int .i64 0, .string ⟨#[]⟩, .slice none 0 0, .slice none 0 0]) hE.size
        simp only [Act.put, List.setIfInBounds_toArray, List.set_cons_zero, List.set_cons_succ]
        refine wpParts_end fun W2 hE2 hG2 => ?_
        have hcW2 := fun b o h => hE2.cell (p := ⟨b, o, none⟩) h
        have hfW2 := fun b o h => hE2.frozen (p := ⟨b, o, none⟩) h
        obtain ⟨⟨p8, rfl, hp8, hk8⟩, _⟩ := hG2
        have HK8 := Lib.hid hk8
        have HS2 := Lib.hid (HS.out.ext hE2)
        have HP8 := Lib.hid hp8
        have HW2 := Lib.hid hE2.size
        have q8 := hk8.cells
        have m8 := hk8.marks
        have l8 := hk8.lt
        have HE2 := Lib.hid hE2
        clear hk8 hE2 hcW2 hfW2 q1 l1 q4 l4 qg lg hp8 HS2 HW2
        go_wp2_with fail
        refine noPanic_normal ?_
        obtain ⟨V2, hV2⟩ : ∃ V, (((((W2.setCell ⟨p8, 0, none⟩ (.int .i64 y.1)).setCell ⟨p8, 1, none⟩ (.int .i64 y.2)).setCell ⟨p8, 2, none⟩ (.string ⟨#[]⟩)).setCell ⟨p8, 3, none⟩ (.slice none 0 0)).setCell ⟨p8, 4, none⟩ (.slice none 0 0)) = V := ⟨_, rfl⟩
        have hb2 : Below wr.heap.size wr V2 := by rw [← hV2]; exact below_only HE2.out (Only.fiveV _ _ _ _ _ _ _) HE2.out.size HP8.out
        have HKV := Lib.hid (show Blk V2 p8 (five y.1 y.2) 51 by rw [← hV2]; exact HK8.out.fiveV _ _ _ _ _)
        have HSV := Lib.hid (HS.out.ext hb2)
        rw [hV2]
        clear hV2 hb2 HK8 HS HE2 HP8 q8 m8 l8
        have q8 := (show Blk V2 p8 [.int .i64 y.1, .int .i64 y.2, .string ⟨#[]⟩, .slice none 0 0, .slice none 0 0] 51 from HKV.out).cells
        have l8 := HKV.out.lt
        have q5 := HSV.out.b5.cells
        have l5 := HSV.out.b5.lt
        obtain ⟨hi0, hz0, hz1, hz2⟩ := HI.out
        have hbs := HSV.out.lt
        go_wp2_with (at_builtin; refine wpList_append_own _ rfl (.tmp 44) (.tmp 46) 48 rfl (s1 + 4) 51 i0 _ 5 80 Try.underlying48 hi0 hz0 hz1 hz2 rfl (by decide) kv 1 ((TryKC r x y).take (5 * 1)) rfl (HSV.out.own.alloc _) ⟨V2.heap.size, 0, none⟩ 1 1 [.int .i64 y.1, .int .i64 y.2, .string ⟨#[]⟩, .slice none 0 0, .slice none 0 0] rfl rfl (news_blkV (Blk.new V2 [_, _, _, _, _] _)) (by simp [Value.oneCell']) (by unfold maxLen; omega) (by omega) (by simp; omega) ?_; intro v' w6 hown6 hgrow _; obtain ⟨va, vc, rfl⟩ := own_sliceV hown6; have HBW := Lib.hid (below_own (B := s1 + 4) ((Below.refl (s1 + 4) V2).alloc (by omega) (.cells #[.int .i64 y.1, .int .i64 y.2, .string ⟨#[]⟩, .slice none 0 0, .slice none 0 0] 51)) (by simp; omega) (HSV.out.own.alloc _) (Nat.le_refl _) hgrow); have HO6 := Lib.hid hown6; have b56 := HSV.out.b5.below HBW.out (by omega); have q56 := b56.cells; have m56 := b56.marks; have l56 := b56.lt; clear hown6 hgrow b56 q5 l5 q8 l8)
        go_roundw
        case rel =>
          refine ⟨2, .slice va 2 vc, ⟨by omega, fun h => by cases h⟩, by go_num, ?_⟩
          refine HSV.out.grow HBW.out ?_
          have h := HO6.out
          rw [show (5 * 2 : Nat) = 5 * 1 + 5 from rfl]
          rw [show (TryKC r x y).take (5 * 1 + 5) = (TryKC r x y).take (5 * 1) ++ five y.1 y.2 from rfl]
          exact h
        case measure => simp [intOf]
    ·
      have q1 := HS.out.b1.cells
      have l1 := HS.out.b1.lt
      have q4 := HS.out.b4.cells
      have l4 := HS.out.b4.lt
      clear hi
      go_wp2_with fail
      refine' wp_region_seqF [8] [.inl _, .inl _, .inl _, .inl _, .inl _, .inl _, .inl _, .inl _, .inl _, .inr (NewBlk wr.heap.size [.int .i64 0, .int .i64 0, .string ⟨#[]⟩, .slice none 0 0, .slice none 0 0] 51)] (by kernel_rfl) (by kernel_rfl) ?main3
      case main3 =>
        refine wpParts_det (by rfl) (fun W hE hN => ?_) ?_
        · go_simp; refine ⟨Below.refl _ _, ?_⟩; rfl
        simp only [Act.put, List.setIfInBounds_toArray, List.set_cons_zero, List.set_cons_succ]
        refine wpParts_det (by rfl) (fun W hE hN => ?_) ?_
        · go_simp; refine ⟨Below.refl _ _, ?_⟩; rfl
        simp only [Act.put, List.setIfInBounds_toArray, List.set_cons_zero, List.set_cons_succ]
        refine wpParts_det (by rfl) (fun W hE hN => ?_) ?_
        · go_simp; refine ⟨Below.refl _ _, ?_⟩; rfl
        simp only [Act.put, List.setIfInBounds_toArray, List.set_cons_zero, List.set_cons_succ]
        refine wpParts_det (by rfl) (fun W hE hN => ?_) ?_
        · have hc := fun b o h => hE.cell (p := ⟨b, o, none⟩) h
          go_simp; refine ⟨Below.refl _ _, ?_⟩; rfl
        simp only [Act.put, List.setIfInBounds_toArray, List.set_cons_zero, List.set_cons_succ]
        refine wpParts_det (by rfl) (fun W hE hN => ?_) ?_
        · have hc := fun b o h => hE.cell (p := ⟨b, o, none⟩) h
          go_simp; refine ⟨Below.refl _ _, ?_⟩; rfl
        simp only [Act.put, List.setIfInBounds_toArray, List.set_cons_zero, List.set_cons_succ]
        refine wpParts_det (by rfl) (fun W hE hN => ?_) ?_
        · go_simp; refine ⟨Below.refl _ _, ?_⟩; refine (C1.out _).mono ?_; rintro e w' ⟨rfl, hb⟩; refine ⟨?_, hb⟩; rfl
        simp only [Act.put, List.setIfInBounds_toArray, List.set_cons_zero, List.set_cons_succ]
        refine wpParts_det (by rfl) (fun W hE hN => ?_) ?_
        · go_simp; refine ⟨Below.refl _ _, ?_⟩; rfl
        simp only [Act.put, List.setIfInBounds_toArray, List.set_cons_zero, List.set_cons_succ]
        refine wpParts_det (by rfl) (fun W hE hN => ?_) ?_
        · go_simp; refine ⟨Below.refl _ _, ?_⟩; rfl
        simp only [Act.put, List.setIfInBounds_toArray, List.set_cons_zero, List.set_cons_succ]
        refine wpParts_det (by rfl) (fun W hE hN => ?_) ?_
        · go_simp; refine ⟨Below.refl _ _, ?_⟩; rfl
        simp only [Act.put, List.setIfInBounds_toArray, List.set_cons_zero, List.set_cons_succ]
        refine wpParts_any rfl (NewBlk.later) (by rfl) (fun W hE hN => ?_) (fun u9 => ?_)
        · go_simp; exact newBlk_alloc (cs := [.int .i64 0, .int .i64 0, .string ⟨#[]⟩, .slice none 0 0, .slice none 0 0]) hE.size
        simp only [Act.put, List.setIfInBounds_toArray, List.set_cons_zero, List.set_cons_succ]
        refine wpParts_end fun W2 hE2 hG2 => ?_
        have hcW2 := fun b o h => hE2.cell (p := ⟨b, o, none⟩) h
        have hfW2 := fun b o h => hE2.frozen (p := ⟨b, o, none⟩) h
        obtain ⟨⟨p8, rfl, hp8, hk8⟩, _⟩ := hG2
        have HK8 := Lib.hid hk8
        have HS2 := Lib.hid (HS.out.ext hE2)
        have HP8 := Lib.hid hp8
        have HW2 := Lib.hid hE2.size
        have q8 := hk8.cells
        have m8 := hk8.marks
        have l8 := hk8.lt
        have HE2 := Lib.hid hE2
        clear hk8 hE2 hcW2 hfW2 q1 l1 q4 l4 qg lg hp8 HS2 HW2
        go_wp2_with fail
        refine noPanic_normal ?_
        obtain ⟨V2, hV2⟩ : ∃ V, (((((W2.setCell ⟨p8, 0, none⟩ (.int .i64 x.1)).setCell ⟨p8, 1, none⟩ (.int .i64 x.2)).setCell ⟨p8, 2, none⟩ (.string ⟨#[]⟩)).setCell ⟨p8, 3, none⟩ (.slice none 0 0)).setCell ⟨p8, 4, none⟩ (.slice none 0 0)) = V := ⟨_, rfl⟩
        have hb2 : Below wr.heap.size wr V2 := by rw [← hV2]; exact below_only HE2.out (Only.fiveV _ _ _ _ _ _ _) HE2.out.size HP8.out
        have HKV := Lib.hid (show Blk V2 p8 (five x.1 x.2) 51 by rw [← hV2]; exact HK8.out.fiveV _ _ _ _ _)
        have HSV := Lib.hid (HS.out.ext hb2)
        rw [hV2]
        clear hV2 hb2 HK8 HS HE2 HP8 q8 m8 l8
        have q8 := (show Blk V2 p8 [.int .i64 x.1, .int .i64 x.2, .string ⟨#[]⟩, .slice none 0 0, .slice none 0 0] 51 from HKV.out).cells
        have l8 := HKV.out.lt
        have q5 := HSV.out.b5.cells
        have l5 := HSV.out.b5.lt
        obtain ⟨hi0, hz0, hz1, hz2⟩ := HI.out
        have hbs := HSV.out.lt
        go_wp2_with (at_builtin; refine wpList_append_own _ rfl (.tmp 44) (.tmp 46) 48 rfl (s1 + 4) 51 i0 _ 5 80 Try.underlying48 hi0 hz0 hz1 hz2 rfl (by decide) kv 2 ((TryKC r x y).take (5 * 2)) rfl (HSV.out.own.alloc _) ⟨V2.heap.size, 0, none⟩ 1 1 [.int .i64 x.1, .int .i64 x.2, .string ⟨#[]⟩, .slice none 0 0, .slice none 0 0] rfl rfl (news_blkV (Blk.new V2 [_, _, _, _, _] _)) (by simp [Value.oneCell']) (by unfold maxLen; omega) (by omega) (by simp; omega) ?_; intro v' w6 hown6 hgrow _; obtain ⟨va, vc, rfl⟩ := own_sliceV hown6; have HBW := Lib.hid (below_own (B := s1 + 4) ((Below.refl (s1 + 4) V2).alloc (by omega) (.cells #[.int .i64 x.1, .int .i64 x.2, .string ⟨#[]⟩, .slice none 0 0, .slice none 0 0] 51)) (by simp; omega) (HSV.out.own.alloc _) (Nat.le_refl _) hgrow); have HO6 := Lib.hid hown6; have b56 := HSV.out.b5.below HBW.out (by omega); have q56 := b56.cells; have m56 := b56.marks; have l56 := b56.lt; clear hown6 hgrow b56 q5 l5 q8 l8)
        go_roundw
        case rel =>
          refine ⟨3, .slice va 3 vc, ⟨by omega, fun h => by cases h⟩, by go_num, ?_⟩
          refine HSV.out.grow HBW.out ?_
          have h := HO6.out
          rw [show (5 * 3 : Nat) = 5 * 2 + 5 from rfl]
          rw [show (TryKC r x y).take (5 * 2 + 5) = (TryKC r x y).take (5 * 2) ++ five x.1 x.2 from rfl]
          exact h
        case measure => simp [intOf]
    · have q1 := HS.out.b1.cells
      have l1 := HS.out.b1.lt
      have q5 := HS.out.b5.cells
      have l5 := HS.out.b5.lt
      have hbs := HS.out.lt
      clear hi
      go_wp2_with fail
      refine' wp_region_seq [.inl _, .inl _, .inl _, .inl _, .inl _, .inr (SlNew wr.heap.size 1 (five 3 r.n) 51)] (by kernel_rfl) (by kernel_rfl) ?main4
      case main4 =>
        refine wpParts_det (by rfl) (fun W hE hN => ?_) ?_
        · go_simp; refine ⟨Below.refl _ _, ?_⟩; rfl
        simp only [Act.put, List.setIfInBounds_toArray, List.set_cons_zero, List.set_cons_succ]
        refine wpParts_det (by rfl) (fun W hE hN => ?_) ?_
        · have hc := fun b o h => hE.cell (p := ⟨b, o, none⟩) h
          go_simp; refine ⟨Below.refl _ _, ?_⟩; rfl
        simp only [Act.put, List.setIfInBounds_toArray, List.set_cons_zero, List.set_cons_succ]
        refine wpParts_det (by rfl) (fun W hE hN => ?_) ?_
        · go_simp; refine ⟨Below.refl _ _, ?_⟩; rfl
        simp only [Act.put, List.setIfInBounds_toArray, List.set_cons_zero, List.set_cons_succ]
        refine wpParts_det (by rfl) (fun W hE hN => ?_) ?_
        · have hc := fun b o h => hE.cell (p := ⟨b, o, none⟩) h
          go_simp; refine ⟨Below.refl _ _, ?_⟩; rfl
        simp only [Act.put, List.setIfInBounds_toArray, List.set_cons_zero, List.set_cons_succ]
        refine wpParts_det (by rfl) (fun W hE hN => ?_) ?_
        · go_simp; refine ⟨Below.refl _ _, ?_⟩; refine (Try_in _ _).mono ?_; rintro e w' ⟨rfl, hb⟩; refine ⟨?_, hb⟩; rfl
        simp only [Act.put, List.setIfInBounds_toArray, List.set_cons_zero, List.set_cons_succ]
        refine wpParts_any rfl (SlNew.later) (by rfl) (fun W hE hN => ?_) (fun u5 => ?_)
        · go_simp; exact ⟨(by repeat (first | (with_reducible exact Below.refl _ _) | (with_reducible exact Below.refl _ _) | (with_reducible refine Below.setCell ?_ (by first | omega | (simp; done) | (simp; omega)) _) | (with_reducible refine Below.alloc ?_ (by first | omega | (simp; done) | (simp; omega)) _) | (with_reducible refine Below.drew ?_) | (with_reducible refine below_drewN ?_ _))), _, rfl, hE.size, Blk.new _ _ _⟩
        simp only [Act.put, List.setIfInBounds_toArray, List.set_cons_zero, List.set_cons_succ]
        refine wpParts_end fun W2 hE2 hG2 => ?_
        have hcW2 := fun b o h => hE2.cell (p := ⟨b, o, none⟩) h
        have hfW2 := fun b o h => hE2.frozen (p := ⟨b, o, none⟩) h
        obtain ⟨⟨g8, rfl, hg8, hk8⟩, _⟩ := hG2
        have HK8 := Lib.hid hk8
        have HSV := Lib.hid (HS.out.ext hE2)
        clear hk8 hE2 hcW2 hfW2 q1 l1 q5 l5 qg lg hg8 HS hbs
        have q5 := HSV.out.b5.cells
        have l5 := HSV.out.b5.lt
        obtain ⟨hi0, hz0, hz1, hz2⟩ := HI.out
        have hbs := HSV.out.lt
        go_wp2_with (at_builtin; refine wpList_append_own _ rfl (.tmp 23) (.tmp 27) 48 rfl (s1 + 4) 51 i0 _ 5 80 Try.underlying48 hi0 hz0 hz1 hz2 rfl (by decide) kv 3 ((TryKC r x y).take (5 * 3)) rfl HSV.out.own ⟨g8, 0, none⟩ 1 1 [.int .i64 3, .int .i64 r.n, .string ⟨#[]⟩, .slice none 0 0, .slice none 0 0] rfl rfl (news_blkV HK8.out) (by simp [Value.oneCell']) (by unfold maxLen; omega) (by omega) (by omega) ?_; intro v' w6 hown6 hgrow _; obtain ⟨va, vc, rfl⟩ := own_sliceV hown6; have HBW := Lib.hid (below_own (B := s1 + 4) (Below.refl (s1 + 4) W2) (by omega) HSV.out.own (Nat.le_refl _) hgrow); have HO6 := Lib.hid hown6; have b56 := HSV.out.b5.below HBW.out (by omega); have q56 := b56.cells; have m56 := b56.marks; have l56 := b56.lt; clear hown6 hgrow b56 q5 l5)
        go_roundw
        case rel =>
          refine ⟨4, .slice va 4 vc, ⟨by omega, fun h => by cases h⟩, by go_num, ?_⟩
          refine HSV.out.grow HBW.out ?_
          have h := HO6.out
          rw [show (5 * 4 : Nat) = 5 * 3 + 5 from rfl]
          rw [show (TryKC r x y).take (5 * 3 + 5) = (TryKC r x y).take (5 * 3) ++ five 3 r.n from rfl]
          exact h
        case measure => simp [intOf]
    · cases b with
      | true =>
        have q1 := HS.out.b1.cells
        have l1 := HS.out.b1.lt
        have q4 := HS.out.b4.cells
        have l4 := HS.out.b4.lt
        clear hi
        go_wp2_with fail
        refine' wp_region_seqF [8] [.inl _, .inl _, .inl _, .inl _, .inl _, .inl _, .inl _, .inl _, .inl _, .inr (NewBlk wr.heap.size [.int .i64 0, .int .i64 0, .string ⟨#[]⟩, .slice none 0 0, .slice none 0 0] 51)] (by kernel_rfl) (by kernel_rfl) ?main5
        case main5 =>
          refine wpParts_det (by rfl) (fun W hE hN => ?_) ?_
          · go_simp; refine ⟨Below.refl _ _, ?_⟩; rfl
          simp only [Act.put, List.setIfInBounds_toArray, List.set_cons_zero, List.set_cons_succ]
          refine wpParts_det (by rfl) (fun W hE hN => ?_) ?_
          · go_simp; refine ⟨Below.refl _ _, ?_⟩; rfl
          simp only [Act.put, List.setIfInBounds_toArray, List.set_cons_zero, List.set_cons_succ]
          refine wpParts_det (by rfl) (fun W hE hN => ?_) ?_
          · go_simp; refine ⟨Below.refl _ _, ?_⟩; rfl
          simp only [Act.put, List.setIfInBounds_toArray, List.set_cons_zero, List.set_cons_succ]
          refine wpParts_det (by rfl) (fun W hE hN => ?_) ?_
          · have hc := fun b o h => hE.cell (p := ⟨b, o, none⟩) h
            go_simp; refine ⟨Below.refl _ _, ?_⟩; rfl
          simp only [Act.put, List.setIfInBounds_toArray, List.set_cons_zero, List.set_cons_succ]
          refine wpParts_det (by rfl) (fun W hE hN => ?_) ?_
          · have hc := fun b o h => hE.cell (p := ⟨b, o, none⟩) h
            go_simp; refine ⟨Below.refl _ _, ?_⟩; rfl
          simp only [Act.put, List.setIfInBounds_toArray, List.set_cons_zero, List.set_cons_succ]
          refine wpParts_det (by rfl) (fun W hE hN => ?_) ?_
          · go_simp; refine ⟨Below.refl _ _, ?_⟩; refine (Try_sums_yes r.c r.n r.s r.l r.m _ HF.out).mono ?_; rintro e w' ⟨rfl, hb⟩; refine ⟨?_, hb⟩; rfl
          simp only [Act.put, List.setIfInBounds_toArray, List.set_cons_zero, List.set_cons_succ]
          refine wpParts_det (by rfl) (fun W hE hN => ?_) ?_
          · go_simp; refine ⟨Below.refl _ _, ?_⟩; rfl
          simp only [Act.put, List.setIfInBounds_toArray, List.set_cons_zero, List.set_cons_succ]
          refine wpParts_det (by rfl) (fun W hE hN => ?_) ?_
          · go_simp; refine ⟨Below.refl _ _, ?_⟩; rfl
          simp only [Act.put, List.setIfInBounds_toArray, List.set_cons_zero, List.set_cons_succ]
          refine wpParts_det (by rfl) (fun W hE hN => ?_) ?_
          · go_simp; refine ⟨Below.refl _ _, ?_⟩; rfl
          simp only [Act.put, List.setIfInBounds_toArray, List.set_cons_zero, List.set_cons_succ]
          refine wpParts_any rfl (NewBlk.later) (by rfl) (fun W hE hN => ?_) (fun u9 => ?_)
          · go_simp; exact newBlk_alloc (cs := [.int .i64 0, .int .i64 0, .string ⟨#[]⟩, .slice none 0 0, .slice none 0 0]) hE.size
          simp only [Act.put, List.setIfInBounds_toArray, List.set_cons_zero, List.set_cons_succ]
          refine wpParts_end fun W2 hE2 hG2 => ?_
          have hcW2 := fun b o h => hE2.cell (p := ⟨b, o, none⟩) h
          have hfW2 := fun b o h => hE2.frozen (p := ⟨b, o, none⟩) h
          obtain ⟨⟨p8, rfl, hp8, hk8⟩, _⟩ := hG2
          have HK8 := Lib.hid hk8
          have HS2 := Lib.hid (HS.out.ext hE2)
          have HP8 := Lib.hid hp8
          have HW2 := Lib.hid hE2.size
          have q8 := hk8.cells
          have m8 := hk8.marks
          have l8 := hk8.lt
          have HE2 := Lib.hid hE2
          clear hk8 hE2 hcW2 hfW2 q1 l1 q4 l4 qg lg hp8 HS2 HW2
          go_wp2_with fail
          refine noPanic_normal ?_
          obtain ⟨V2, hV2⟩ : ∃ V, (((((W2.setCell ⟨p8, 0, none⟩ (.int .i64 3)).setCell ⟨p8, 1, none⟩ (.int .i64 (sg r.s))).setCell ⟨p8, 2, none⟩ (.string ⟨#[]⟩)).setCell ⟨p8, 3, none⟩ (.slice none 0 0)).setCell ⟨p8, 4, none⟩ (.slice none 0 0)) = V := ⟨_, rfl⟩
          have hb2 : Below wr.heap.size wr V2 := by rw [← hV2]; exact below_only HE2.out (Only.fiveV _ _ _ _ _ _ _) HE2.out.size HP8.out
          have HKV := Lib.hid (show Blk V2 p8 (five 3 (sg r.s)) 51 by rw [← hV2]; exact HK8.out.fiveV _ _ _ _ _)
          have HSV := Lib.hid (HS.out.ext hb2)
          rw [hV2]
          clear hV2 hb2 HK8 HS HE2 HP8 q8 m8 l8
          have q8 := (show Blk V2 p8 [.int .i64 3, .int .i64 (sg r.s), .string ⟨#[]⟩, .slice none 0 0, .slice none 0 0] 51 from HKV.out).cells
          have l8 := HKV.out.lt
          have q5 := HSV.out.b5.cells
          have l5 := HSV.out.b5.lt
          obtain ⟨hi0, hz0, hz1, hz2⟩ := HI.out
          have hbs := HSV.out.lt
          go_wp2_with (at_builtin; refine wpList_append_own _ rfl (.tmp 44) (.tmp 46) 48 rfl (s1 + 4) 51 i0 _ 5 80 Try.underlying48 hi0 hz0 hz1 hz2 rfl (by decide) kv 4 ((TryKC r x y).take (5 * 4)) rfl (HSV.out.own.alloc _) ⟨V2.heap.size, 0, none⟩ 1 1 [.int .i64 3, .int .i64 (sg r.s), .string ⟨#[]⟩, .slice none 0 0, .slice none 0 0] rfl rfl (news_blkV (Blk.new V2 [_, _, _, _, _] _)) (by simp [Value.oneCell']) (by unfold maxLen; omega) (by omega) (by simp; omega) ?_; intro v' w6 hown6 hgrow _; obtain ⟨va, vc, rfl⟩ := own_sliceV hown6; have HBW := Lib.hid (below_own (B := s1 + 4) ((Below.refl (s1 + 4) V2).alloc (by omega) (.cells #[.int .i64 3, .int .i64 (sg r.s), .string ⟨#[]⟩, .slice none 0 0, .slice none 0 0] 51)) (by simp; omega) (HSV.out.own.alloc _) (Nat.le_refl _) hgrow); have HO6 := Lib.hid hown6; have b56 := HSV.out.b5.below HBW.out (by omega); have q56 := b56.cells; have m56 := b56.marks; have l56 := b56.lt; clear hown6 hgrow b56 q5 l5 q8 l8)
          go_roundw
          case rel =>
            refine ⟨5, .slice va 5 vc, ⟨by omega, fun _ => by first | rfl | trivial⟩, by go_num, ?_⟩
            refine HSV.out.grow HBW.out ?_
            have h := HO6.out
            rw [show (5 * 5 : Nat) = 5 * 4 + 5 from rfl]
            rw [show (TryKC r x y).take (5 * 4 + 5) = (TryKC r x y).take (5 * 4) ++ five 3 (sg r.s) from rfl]
            exact h
          case measure => simp [intOf]
      | false =>
        have q1 := HS.out.b1.cells
        have l1 := HS.out.b1.lt
        have q4 := HS.out.b4.cells
        have l4 := HS.out.b4.lt
        clear hi
        go_wp2_with fail
        refine' wp_region_seqF [8] [.inl _, .inl _, .inl _, .inl _, .inl _, .inl _, .inl _, .inl _, .inl _, .inr (NewBlk wr.heap.size [.int .i64 0, .int .i64 0, .string ⟨#[]⟩, .slice none 0 0, .slice none 0 0] 51)] (by kernel_rfl) (by kernel_rfl) ?main6
        case main6 =>
          refine wpParts_det (by rfl) (fun W hE hN => ?_) ?_
          · go_simp; refine ⟨Below.refl _ _, ?_⟩; rfl
          simp only [Act.put, List.setIfInBounds_toArray, List.set_cons_zero, List.set_cons_succ]
          refine wpParts_det (by rfl) (fun W hE hN => ?_) ?_
          · go_simp; refine ⟨Below.refl _ _, ?_⟩; rfl
          simp only [Act.put, List.setIfInBounds_toArray, List.set_cons_zero, List.set_cons_succ]
          refine wpParts_det (by rfl) (fun W hE hN => ?_) ?_
          · go_simp; refine ⟨Below.refl _ _, ?_⟩; rfl
          simp only [Act.put, List.setIfInBounds_toArray, List.set_cons_zero, List.set_cons_succ]
          refine wpParts_det (by rfl) (fun W hE hN => ?_) ?_
          · have hc := fun b o h => hE.cell (p := ⟨b, o, none⟩) h
            go_simp; refine ⟨Below.refl _ _, ?_⟩; rfl
          simp only [Act.put, List.setIfInBounds_toArray, List.set_cons_zero, List.set_cons_succ]
          refine wpParts_det (by rfl) (fun W hE hN => ?_) ?_
          · have hc := fun b o h => hE.cell (p := ⟨b, o, none⟩) h
            go_simp; refine ⟨Below.refl _ _, ?_⟩; rfl
          simp only [Act.put, List.setIfInBounds_toArray, List.set_cons_zero, List.set_cons_succ]
          refine wpParts_det (by rfl) (fun W hE hN => ?_) ?_
          · go_simp; refine ⟨Below.refl _ _, ?_⟩; refine (Try_sums_no r.c r.n r.s r.l r.m _ HF.out).mono ?_; rintro e w' ⟨rfl, hb⟩; refine ⟨?_, hb⟩; rfl
          simp only [Act.put, List.setIfInBounds_toArray, List.set_cons_zero, List.set_cons_succ]
          refine wpParts_det (by rfl) (fun W hE hN => ?_) ?_
          · go_simp; refine ⟨Below.refl _ _, ?_⟩; rfl
          simp only [Act.put, List.setIfInBounds_toArray, List.set_cons_zero, List.set_cons_succ]
          refine wpParts_det (by rfl) (fun W hE hN => ?_) ?_
          · go_simp; refine ⟨Below.refl _ _, ?_⟩; rfl
          simp only [Act.put, List.setIfInBounds_toArray, List.set_cons_zero, List.set_cons_succ]
          refine wpParts_det (by rfl) (fun W hE hN => ?_) ?_
          · go_simp; refine ⟨Below.refl _ _, ?_⟩; rfl
          simp only [Act.put, List.setIfInBounds_toArray, List.set_cons_zero, List.set_cons_succ]
          refine wpParts_any rfl (NewBlk.later) (by rfl) (fun W hE hN => ?_) (fun u9 => ?_)
          · go_simp; exact newBlk_alloc (cs := [.int .i64 0, .int .i64 0, .string ⟨#[]⟩, .slice none 0 0, .slice none 0 0]) hE.size
          simp only [Act.put, List.setIfInBounds_toArray, List.set_cons_zero, List.set_cons_succ]
          refine wpParts_end fun W2 hE2 hG2 => ?_
          have hcW2 := fun b o h => hE2.cell (p := ⟨b, o, none⟩) h
          have hfW2 := fun b o h => hE2.frozen (p := ⟨b, o, none⟩) h
          obtain ⟨⟨p8, rfl, hp8, hk8⟩, _⟩ := hG2
          have HK8 := Lib.hid hk8
          have HP8 := Lib.hid hp8
          have q8 := hk8.cells
          have m8 := hk8.marks
          have l8 := hk8.lt
          have HE2 := Lib.hid hE2
          clear hk8 hE2 hcW2 hfW2 q1 l1 q4 l4 qg lg hp8
          go_wp2_with fail
          refine noPanic_normal ?_
          obtain ⟨V2, hV2⟩ : ∃ V, (((((W2.setCell ⟨p8, 0, none⟩ (.int .i64 0)).setCell ⟨p8, 1, none⟩ (.int .i64 0)).setCell ⟨p8, 2, none⟩ (.string ⟨#[]⟩)).setCell ⟨p8, 3, none⟩ (.slice none 0 0)).setCell ⟨p8, 4, none⟩ (.slice none 0 0)) = V := ⟨_, rfl⟩
          have hb2 : Below wr.heap.size wr V2 := by rw [← hV2]; exact below_only HE2.out (Only.fiveV _ _ _ _ _ _ _) HE2.out.size HP8.out
          have HSV := Lib.hid (HS.out.ext hb2)
          rw [hV2]
          clear hV2 hb2 HK8 HS HE2 HP8 q8 m8 l8
          have q2 := HSV.out.b2.cells
          have m2 := HSV.out.b2.marks
          have l2 := HSV.out.b2.lt
          have o := Only.fiveV V2 (w.heap.size + 1) (.int .i64 0) (.int .i64 0) (.string ⟨#[]⟩) (.slice none 0 0) (.slice none 0 0)
          have c2 := (HSV.out.b2.fiveV (.int .i64 0) (.int .i64 0) (.string ⟨#[]⟩) (.slice none 0 0) (.slice none 0 0)).cells
          have HB9 := Lib.hid (below_only HSV.out.bel o HSV.out.bel.size (by omega))
          have C22 := Lib.hid c2
          clear o c2
          go_wp2
          have c2 := C22.out
          refine bodyPost_ret (v := .tuple #[.agg #[.int .i64 0, .int .i64 0, .string ⟨#[]⟩, .slice none 0 0, .slice none 0 0], .int .i64 5]) (by simp [results, Try.results44, go_sem, c2]) rfl ⟨rfl, HB9.out⟩
    · have hbt := HIB.out (by first | rfl | trivial)
      subst hbt
      have q5 := HS.out.b5.cells
      have l5 := HS.out.b5.lt
      have q2 := HS.out.b2.cells
      have m2 := HS.out.b2.marks
      have l2 := HS.out.b2.lt
      have hbs := HS.out.lt
      obtain ⟨va, vc, rfl⟩ := own_sliceV HS.out.own
      have z1 : s1 + 1 + 1 ≠ w.heap.size + 1 := by omega
      clear hi
      go_wp2_with fail
      have o := Only.fiveV wr (w.heap.size + 1) (.int .i64 6) (.int .i64 0) (.string ⟨#[]⟩) (.slice va 5 vc) (.slice (some ⟨s1 + 1, 0, none⟩) 5 5)
      have b2 := HS.out.b2.fiveV (.int .i64 6) (.int .i64 0) (.string ⟨#[]⟩) (.slice va 5 vc) (.slice (some ⟨s1 + 1, 0, none⟩) 5 5)
      have hown := HS.out.own
      have hbq := HS.out.bq.only o (by omega)
      have hbel := below_only HS.out.bel o HS.out.bel.size (by omega)
      obtain ⟨V9, hV9⟩ : ∃ V, (((((wr.setCell ⟨w.heap.size + 1, 0, none⟩ (.int .i64 6)).setCell ⟨w.heap.size + 1, 1, none⟩ (.int .i64 0)).setCell ⟨w.heap.size + 1, 2, none⟩ (.string ⟨#[]⟩)).setCell ⟨w.heap.size + 1, 3, none⟩ (.slice va 5 vc)).setCell ⟨w.heap.size + 1, 4, none⟩ (.slice (some ⟨s1 + 1, 0, none⟩) 5 5)) = V := ⟨_, rfl⟩
      rw [hV9] at o b2 hbq hbel
      rw [show _ = V9 from hV9]
      have hown9 := ownsRow_onlyV hown o (by omega)
      have c2 := b2.cells
      obtain ⟨g, rfl, hg0, hg1, hg2, hgc⟩ := own_fiveV hown9
      have hval : ValAt V9 2 (.agg #[.int .i64 6, .int .i64 0, .string ⟨#[]⟩, .slice (some ⟨g, 0, none⟩) 5 vc, .slice (some ⟨s1 + 1, 0, none⟩) 5 5]) (statsV r) := by
        have hx : endV 0 r.n r.l = leafV 0 x.1 x.2 := by rw [← HX.out]; unfold endV TryEndB; split <;> rfl
        have hy : endV 0 r.n r.m = leafV 0 y.1 y.2 := by rw [← HY.out]; unfold endV TryEndB; split <;> rfl
        have hsg : I64 (sg r.s) := by have h := HF.out; unfold fitsB at h; rw [decide_eq_true_eq] at h; unfold I64; omega
        exact stats_at (t := 0) hx hy HC.out.v HN.out.v hsg.v HXI.out.1 HXI.out.2 HYI.out.1 HYI.out.2 (fun i v hv => hgc i v hv) hg1 hg2 hbq ⟨Nat.le_refl _, by unfold maxLen; omega⟩
      have HV9 := Lib.hid hval
      have HB9 := Lib.hid hbel
      clear hval hbel hV9 q5 l5 q2 m2 l2 o b2 hown hbq hown9 hgc
      refine bodyPost_ret (v := .tuple #[.agg #[.int .i64 6, .int .i64 0, .string ⟨#[]⟩, .slice (some ⟨g, 0, none⟩) 5 vc, .slice (some ⟨s1 + 1, 0, none⟩) 5 5], .int .i64 0]) (by simp [results, Try.results44, go_sem, c2]) rfl ⟨⟨g, vc, s1 + 1, 5, rfl, by omega, by omega, HV9.out⟩, HB9.out⟩
end Go.Proofs.Ytdebmifjfemcjaa
