/-
  Layer 13: stats, walked.
  Layer 13: Tell and Name at every kind, walked.
  Layer 13: Tell of all, Tell, Name, walked.
  Layer 13: the reference's Tell where the sum is too great; Tell in one.
  Rows of numbers, and of their opposites, joined: in plain; rows in a slice that grows.
-/
import Derived.Test.YtmcmknndhppljaaDoorMonoidSmallE
import Derived.Test.YtmcmknndhppljaaDoorMonoidSmallC
import Derived.Maps.AppendAt
namespace Go.Proofs.YtmcmknndhppljaaDoor
set_option linter.unusedVariables false
set_option linter.unusedSimpArgs false
open Go.RowKit Go.Dav
attribute [local go_sem] Gives ite_val ite_val_true

theorem Tryd_infoVal : (Tryd.prog.info? 39).map (fun i => (i.zero, i.size, i.bytes)) = some (some (.agg #[.int .i64 0, .int .i64 0, .string ⟨#[]⟩, .slice none 0 0, .slice none 0 0]), 5, 80) := by kernel_rfl
/-- Where stats keeps what it is about. -/
structure TrydStW (w : World) (r : Red) (base p4 p5 q g : Nat) (kv : Value) (n : Nat) (ks : List Value) (W : World) : Prop where
  b1 : Blk W w.heap.size [.int .i64 r.c, .int .i64 r.n, .int .i64 (hi r.s), .int .u64 (lo r.s), .int .i64 r.l, .int .i64 r.m] 30
  b2 : Blk W (w.heap.size + 1) [.int .i64 0, .int .i64 0, .string ⟨#[]⟩, .slice none 0 0, .slice none 0 0] 39
  b4 : Blk W p4 [.string ⟨#[]⟩, .nilFunc, .string ⟨#[95, 99, 111, 117, 110, 116]⟩, .func (.func 85) #[] #[], .string ⟨#[95, 115, 117, 109]⟩, .func (.func 86) #[] #[], .string ⟨#[95, 109, 105, 110]⟩, .func (.func 87) #[] #[], .string ⟨#[95, 109, 97, 120]⟩, .func (.func 89) #[] #[]] 115
  b5 : Blk W p5 [.int .i64 6, .int .i64 0, .string ⟨#[]⟩, kv, .slice (some ⟨q, 0, none⟩) 5 5] 39
  bq : Blk W q [.string ⟨#[99, 111, 117, 110, 116]⟩, .string ⟨#[109, 97, 120]⟩, .string ⟨#[109, 105, 110]⟩, .string ⟨#[110, 117, 109, 98, 101, 114, 115]⟩, .string ⟨#[115, 117, 109]⟩] 9
  bg : Blk W g [.int .i64 1, .int .i64 4, .int .i64 3, .int .i64 0, .int .i64 2] 3
  own : W.ownsRow base 39 5 kv n ks
  bel : Below w.heap.size w W
  lt : w.heap.size + 1 < p4 ∧ p4 < q ∧ q < p5 ∧ p5 < g ∧ g < base ∧ base ≤ W.heap.size
theorem TrydStW.ext {w : World} {r : Red} {base p4 p5 q g : Nat} {kv : Value} {n : Nat} {ks : List Value} {W W' : World} (h : TrydStW w r base p4 p5 q g kv n ks W) (hb : Below W.heap.size W W') : TrydStW w r base p4 p5 q g kv n ks W' :=
  ⟨h.b1.ext hb, h.b2.ext hb, h.b4.ext hb, h.b5.ext hb, h.bq.ext hb, h.bg.ext hb, ownsRow_ext h.own hb, h.bel.trans (hb.mono h.bel.size), by have := h.lt; have := hb.size; omega⟩

theorem news_blkV {W : World} {g : Nat} {cs : List Value} {t : TypeId} (h : Blk W g cs t) : ∀ j u, cs[j]? = some u → W.cell? ((⟨g, 0, none⟩ : Addr).add j) = some u := fun j u hj => by
  rw [Addr.add_mid]; simpa using h.cell j hj
theorem own_sliceV {w : World} {base e size n : Nat} {v : Value} {xs : List Value} (h : w.ownsRow base e size v n xs) : ∃ a c, v = .slice a n c := by
  rcases h.2 with ⟨h1, h2⟩ | ⟨g, cap, cur, h1, _⟩
  · exact ⟨none, 0, by rw [h1, h2]⟩
  · exact ⟨_, cap, h1⟩
theorem own_fiveV {w : World} {base e n m : Nat} {a : Option Addr} {c : Nat} {xs : List Value} (h : w.ownsRow base e 5 (.slice a m c) (n + 1) xs) : ∃ g, a = some ⟨g, 0, none⟩ ∧ base ≤ g ∧ g < w.heap.size ∧ (n + 1 ≤ c ∧ c ≤ maxLen) ∧ ∀ i v, xs[i]? = some v → w.cell? ⟨g, i, none⟩ = some v := by
  rcases h.2 with ⟨_, h2⟩ | ⟨g, cap, cur, h1, h2, h3, h4, h5, _⟩
  · omega
  · cases h1
    refine ⟨g, rfl, h2, (Array.getElem?_eq_some_iff.1 h3).1, ⟨h4, h5⟩, fun i v hv => ?_⟩
    have := h.cells (g := g) rfl i v hv
    rw [Addr.add_mid] at this
    simpa using this
theorem ownsRow_onlyV {w w' : World} {base e size n p : Nat} {v : Value} {xs : List Value} (h : w.ownsRow base e size v n xs) (o : Only p w w') (hp : p < base) : w'.ownsRow base e size v n xs := by
  refine ⟨h.1, ?_⟩
  rcases h.2 with h2 | ⟨g, cap, cur, h1, h2, h3, h4⟩
  · exact .inl h2
  · exact .inr ⟨g, cap, cur, h1, h2, (o.block g (Array.getElem?_eq_some_iff.1 h3).1 (by omega)).trans h3, h4⟩
/-- One more kid. -/
theorem TrydStW.grow {w : World} {r : Red} {base p4 p5 q g : Nat} {kv kv' : Value} {n m : Nat} {ks ks' : List Value} {W W' : World} (h : TrydStW w r base p4 p5 q g kv n ks W) (hb : Below base W W') (hown : W'.ownsRow base 39 5 kv' m ks') : TrydStW w r base p4 p5 q g kv' m ks' (W'.setCell ⟨p5, 3, none⟩ kv') := by
  have hl := h.lt
  have o : Only p5 W' (W'.setCell ⟨p5, 3, none⟩ kv') := (Only.refl _ _).set 3 kv'
  exact ⟨(h.b1.below hb (by omega)).only o (by omega), (h.b2.below hb (by omega)).only o (by omega), (h.b4.below hb (by omega)).only o (by omega), (h.b5.below hb (by omega)).set 3 kv', (h.bq.below hb (by omega)).only o (by omega), (h.bg.below hb (by omega)).only o (by omega), ownsRow_onlyV hown o (by omega), below_only (h.bel.trans (hb.mono (by omega))) o (by have := h.bel.size; have := hb.size; omega) (by omega), by have := hb.size; have := o.size; omega⟩
/-- All kids' cells. -/
def TrydKC (r : Red) (x y : Int × Int) : List Value := five 3 r.c ++ (five y.1 y.2 ++ (five x.1 x.2 ++ (five 3 r.n ++ five 3 (sg r.s))))
theorem TrydKC_one (r : Red) (x y : Int × Int) : (TrydKC r x y).take 5 = five 3 r.c ∧ (TrydKC r x y).take 10 = (TrydKC r x y).take 5 ++ five y.1 y.2 ∧ (TrydKC r x y).take 15 = (TrydKC r x y).take 10 ++ five x.1 x.2 ∧ (TrydKC r x y).take 20 = (TrydKC r x y).take 15 ++ five 3 r.n ∧ (TrydKC r x y).take 25 = (TrydKC r x y).take 20 ++ five 3 (sg r.s) := by
  refine ⟨rfl, rfl, rfl, rfl, rfl⟩

/-- What stats hands back. -/
def TrydStatBack (n : Nat) (b : Bool) (r : Red) (e : Ending) (w' : World) : Prop :=
  if b = true then ∃ g cg q cq, e = .returned (.tuple #[.agg #[.int .i64 6, .int .i64 0, .string ⟨#[]⟩, .slice (some ⟨g, 0, none⟩) 5 cg, .slice (some ⟨q, 0, none⟩) 5 cq], .int .i64 0]) ∧ n ≤ g ∧ n ≤ q ∧ ValAt w' 2 (.agg #[.int .i64 6, .int .i64 0, .string ⟨#[]⟩, .slice (some ⟨g, 0, none⟩) 5 cg, .slice (some ⟨q, 0, none⟩) 5 cq]) (statsV r) else e = .returned (.tuple #[.agg #[.int .i64 0, .int .i64 0, .string ⟨#[]⟩, .slice none 0 0, .slice none 0 0], .int .i64 5])

set_option maxRecDepth 8000 in
set_option maxHeartbeats 16000000 in
theorem Tryd_stats (r : Red) (w : World) (hc : I64 r.c) (hni : I64 r.n) (hn0 : 0 ≤ r.n) (b : Bool) (hf : fitsB r.s = b) (hl : I64 r.l) (hm : I64 r.m) :
    Calls Tryd.prog 72 #[.agg #[.int .i64 r.c, .int .i64 r.n, .int .i64 (hi r.s), .int .u64 (lo r.s), .int .i64 r.l, .int .i64 r.m]] w fun e w' => TrydStatBack w.heap.size b r e w' ∧ Below w.heap.size w w' := by
  obtain ⟨i0, hi0, hz0, hz1, hz2⟩ := info_parts Tryd_infoVal
  have HI := Lib.hid (And.intro hi0 (And.intro hz0 (And.intro hz1 hz2)))
  have HF := Lib.hid hf
  have HC := Lib.hid hc
  have HN := Lib.hid hni
  have HN0 := Lib.hid hn0
  obtain ⟨x, hx⟩ : ∃ x, TrydEndB r.n r.l = x := ⟨_, rfl⟩
  obtain ⟨y, hy⟩ : ∃ y, TrydEndB r.n r.m = y := ⟨_, rfl⟩
  have HX := Lib.hid hx
  have HY := Lib.hid hy
  have HXI := Lib.hid (show I64' x.1 ∧ I64' x.2 by rw [← hx]; unfold TrydEndB; unfold I64 at hl; unfold I64'; split <;> (dsimp only; omega))
  have HYI := Lib.hid (show I64' y.1 ∧ I64' y.2 by rw [← hy]; unfold TrydEndB; unfold I64 at hm; unfold I64'; split <;> (dsimp only; omega))
  clear hl hm
  have C1 := Lib.hid (fun W => show Calls Tryd.prog 87 #[.agg #[.int .i64 r.c, .int .i64 r.n, .int .i64 (hi r.s), .int .u64 (lo r.s), .int .i64 r.l, .int .i64 r.m]] W (fun e w' => e = .returned (.tuple #[.agg #[.int .i64 x.1, .int .i64 x.2, .string ⟨#[]⟩, .slice none 0 0, .slice none 0 0], .int .i64 0]) ∧ Below W.heap.size W w') by
    have h := Tryd_simple1 r.c r.n r.s r.l r.m W hn0; rw [hx] at h; exact h)
  have C2 := Lib.hid (fun W => show Calls Tryd.prog 89 #[.agg #[.int .i64 r.c, .int .i64 r.n, .int .i64 (hi r.s), .int .u64 (lo r.s), .int .i64 r.l, .int .i64 r.m]] W (fun e w' => e = .returned (.tuple #[.agg #[.int .i64 y.1, .int .i64 y.2, .string ⟨#[]⟩, .slice none 0 0, .slice none 0 0], .int .i64 0]) ∧ Below W.heap.size W w') by
    have h := Tryd_simple2 r.c r.n r.s r.l r.m W hn0; rw [hy] at h; exact h)
  clear hi0 hz0 hz1 hz2 hf hc hni hn0 hx hy
  go_enter Tryd.func72, Tryd.ntmps72
  go_wp2_with fail
  obtain ⟨W0, hW0⟩ : ∃ W0, (w.alloc (.cells #[.int .i64 r.c, .int .i64 r.n, .int .i64 (hi r.s), .int .u64 (lo r.s), .int .i64 r.l, .int .i64 r.m] 30)).alloc (.cells #[.int .i64 0, .int .i64 0, .string ⟨#[]⟩, .slice none 0 0, .slice none 0 0] 39) = W0 := ⟨_, rfl⟩
  have hb1 : Blk W0 w.heap.size [.int .i64 r.c, .int .i64 r.n, .int .i64 (hi r.s), .int .u64 (lo r.s), .int .i64 r.l, .int .i64 r.m] 30 := by rw [← hW0]; exact (Blk.new _ _ _).alloc _
  have hb2 : Blk W0 (w.heap.size + 1) [.int .i64 0, .int .i64 0, .string ⟨#[]⟩, .slice none 0 0, .slice none 0 0] 39 := by rw [← hW0]; exact Blk.new' _ _ _ (by simp)
  have bel0 : Below w.heap.size w W0 := by rw [← hW0]; exact (by repeat (first | (with_reducible exact Below.refl _ _) | (with_reducible exact Below.refl _ _) | (with_reducible refine Below.setCell ?_ (by first | omega | (simp; done) | (simp; omega)) _) | (with_reducible refine Below.alloc ?_ (by first | omega | (simp; done) | (simp; omega)) _) | (with_reducible refine Below.drew ?_) | (with_reducible refine below_drewN ?_ _)))
  rw [hW0]
  have B1 := Lib.hid hb1
  have B2 := Lib.hid hb2
  have BEL0 := Lib.hid bel0
  clear hb1 hb2 bel0 hW0
  refine (Tryd_simple W0).mono ?_; rintro e w1 ⟨rfl, hb1⟩
  have B11 := Lib.hid (B1.out.ext hb1)
  have B21 := Lib.hid (B2.out.ext hb1)
  have BEL1 := Lib.hid (BEL0.out.trans (hb1.mono BEL0.out.size))
  have hs1 := B21.out.lt
  clear hb1 B1 B2 BEL0
  unfold TrydTold
  go_wp2_with fail
  obtain ⟨V, hV⟩ : ∃ V, ((((w1.alloc (.cells #[.string ⟨#[]⟩, .nilFunc, .string ⟨#[95, 99, 111, 117, 110, 116]⟩, .func (.func 85) #[] #[], .string ⟨#[95, 115, 117, 109]⟩, .func (.func 86) #[] #[], .string ⟨#[95, 109, 105, 110]⟩, .func (.func 87) #[] #[], .string ⟨#[95, 109, 97, 120]⟩, .func (.func 89) #[] #[]] 115)).alloc (.cells #[.string ⟨#[99, 111, 117, 110, 116]⟩, .string ⟨#[109, 97, 120]⟩, .string ⟨#[109, 105, 110]⟩, .string ⟨#[110, 117, 109, 98, 101, 114, 115]⟩, .string ⟨#[115, 117, 109]⟩] 9)).alloc (.cells #[.int .i64 6, .int .i64 0, .string ⟨#[]⟩, .slice none 0 0, .slice (some ⟨w1.heap.size + 1, 0, none⟩) 5 5] 39)).alloc (.cells #[.int .i64 1, .int .i64 4, .int .i64 3, .int .i64 0, .int .i64 2] 3)) = V := ⟨_, rfl⟩
  have hst : TrydStW w r (w1.heap.size + 4) w1.heap.size (w1.heap.size + 1 + 1) (w1.heap.size + 1) (w1.heap.size + 1 + 1 + 1) (.slice none 0 0) 0 [] V := by
    rw [← hV]
    exact ⟨(((B11.out.alloc _).alloc _).alloc _).alloc _, (((B21.out.alloc _).alloc _).alloc _).alloc _, (((Blk.new _ _ _).alloc _).alloc _).alloc _, (Blk.new' _ _ _ (by simp)).alloc _, ((Blk.new' _ _ _ (by simp)).alloc _).alloc _, Blk.new' _ _ _ (by simp), World.ownsRow_nil _ _ _ _, by have h := BEL1.out; have hs := h.size; exact (by repeat (first | (with_reducible exact Below.refl _ _) | (with_reducible exact Below.refl _ _) | (with_reducible refine Below.setCell ?_ (by first | omega | (simp; done) | (simp; omega)) _) | (with_reducible refine Below.alloc ?_ (by first | omega | (simp; done) | (simp; omega)) _) | (with_reducible refine Below.drew ?_) | (with_reducible refine below_drewN ?_ _) | (with_reducible refine Below.trans ?_ (h.mono (by first | omega | (simp; done) | (simp; omega)))))), by simp; omega⟩
  rw [hV]
  have HST := Lib.hid hst
  clear hst hV B11 B21 BEL1
  obtain ⟨s1, hs1'⟩ : ∃ s1, w1.heap.size = s1 := ⟨_, rfl⟩
  rw [hs1'] at HST hs1 ⊢
  clear hs1'
  go_loopw [15] (fun ix wr => ∃ (i : Nat) (kv : Value), (i ≤ 5 ∧ (i = 5 → b = true)) ∧ ix = .int .i64 (i : Int) ∧ TrydStW w r (s1 + 4) s1 (s1 + 1 + 1) (s1 + 1) (s1 + 1 + 1 + 1) kv i ((TrydKC r x y).take (5 * i)) wr) (fun ix _ => 5 - (intOf ix).toNat)
  case atStart => exact ⟨0, _, ⟨Nat.zero_le _, fun h => by cases h⟩, by go_num, HST.out⟩
  case round =>
    obtain ⟨i, kv, ⟨hi, hib⟩, rfl, hst⟩ := hrel
    have HIB := Lib.hid hib
    clear hib
    have HS := Lib.hid hst
    have qg := hst.bg.cells
    have lg := hst.bg.lt
    clear hst HST
    rcases (by omega : i = 0 ∨ i = 1 ∨ i = 2 ∨ i = 3 ∨ i = 4 ∨ i = 5) with rfl | rfl | rfl | rfl | rfl | rfl
    ·
      have q1 := HS.out.b1.cells
      have l1 := HS.out.b1.lt
      have q4 := HS.out.b4.cells
      have l4 := HS.out.b4.lt
      clear hi
      go_wp2_with fail
      refine' wp_region_seqF [8] [.inl _, .inl _, .inl _, .inl _, .inl _, .inl _, .inl _, .inl _, .inl _, .inr (NewBlk wr.heap.size [.int .i64 0, .int .i64 0, .string ⟨#[]⟩, .slice none 0 0, .slice none 0 0] 39)] (by kernel_rfl) (by kernel_rfl) ?main1
      case main1 =>
        refine wpParts_det (by rfl) (fun W hE hN => ?_) ?_
        · go_simp; refine ⟨Below.refl _ _, ?_⟩; rfl
        simp only [Act.put, List.setIfInBounds_toArray, List.set_cons_zero, List.set_cons_succ]
        refine wpParts_det (by rfl) (fun W hE hN => ?_) ?_
        · go_simp; refine ⟨Below.refl _ _, ?_⟩; rfl
        simp only [Act.put, List.setIfInBounds_toArray, List.set_cons_zero, List.set_cons_succ]
        refine wpParts_det (by rfl) (fun W hE hN => ?_) ?_
        · go_simp; refine ⟨Below.refl _ _, ?_⟩; rfl
        simp only [Act.put, List.setIfInBounds_toArray, List.set_cons_zero, List.set_cons_succ]
        refine wpParts_det (by rfl) (fun W hE hN => ?_) ?_
        · have hc := fun b o h => hE.cell (p := ⟨b, o, none⟩) h
          go_simp; refine ⟨Below.refl _ _, ?_⟩; rfl
        simp only [Act.put, List.setIfInBounds_toArray, List.set_cons_zero, List.set_cons_succ]
        refine wpParts_det (by rfl) (fun W hE hN => ?_) ?_
        · have hc := fun b o h => hE.cell (p := ⟨b, o, none⟩) h
          go_simp; refine ⟨Below.refl _ _, ?_⟩; rfl
        simp only [Act.put, List.setIfInBounds_toArray, List.set_cons_zero, List.set_cons_succ]
        refine wpParts_det (by rfl) (fun W hE hN => ?_) ?_
        · go_simp; refine ⟨Below.refl _ _, ?_⟩; refine (Tryd_count r.c r.n r.s r.l r.m _).mono ?_; rintro e w' ⟨rfl, hb⟩; refine ⟨?_, hb⟩; rfl
        simp only [Act.put, List.setIfInBounds_toArray, List.set_cons_zero, List.set_cons_succ]
        refine wpParts_det (by rfl) (fun W hE hN => ?_) ?_
        · go_simp; refine ⟨Below.refl _ _, ?_⟩; rfl
        simp only [Act.put, List.setIfInBounds_toArray, List.set_cons_zero, List.set_cons_succ]
        refine wpParts_det (by rfl) (fun W hE hN => ?_) ?_
        · go_simp; refine ⟨Below.refl _ _, ?_⟩; rfl
        simp only [Act.put, List.setIfInBounds_toArray, List.set_cons_zero, List.set_cons_succ]
        refine wpParts_det (by rfl) (fun W hE hN => ?_) ?_
        · go_simp; refine ⟨Below.refl _ _, ?_⟩; rfl
        simp only [Act.put, List.setIfInBounds_toArray, List.set_cons_zero, List.set_cons_succ]
        refine wpParts_any rfl (NewBlk.later) (by rfl) (fun W hE hN => ?_) (fun u9 => ?_)
        · go_simp; exact newBlk_alloc (cs := [.int .i64 0, .int .i64 0, .string ⟨#[]⟩, .slice none 0 0, .slice none 0 0]) hE.size
        simp only [Act.put, List.setIfInBounds_toArray, List.set_cons_zero, List.set_cons_succ]
        refine wpParts_end fun W2 hE2 hG2 => ?_
        have hcW2 := fun b o h => hE2.cell (p := ⟨b, o, none⟩) h
        have hfW2 := fun b o h => hE2.frozen (p := ⟨b, o, none⟩) h
        obtain ⟨⟨p8, rfl, hp8, hk8⟩, _⟩ := hG2
        have HK8 := Lib.hid hk8
        have HS2 := Lib.hid (HS.out.ext hE2)
        have HP8 := Lib.hid hp8
        have HW2 := Lib.hid hE2.size
        have q8 := hk8.cells
        have m8 := hk8.marks
        have l8 := hk8.lt
        have HE2 := Lib.hid hE2
        clear hk8 hE2 hcW2 hfW2 q1 l1 q4 l4 qg lg hp8 HS2 HW2
        go_wp2_with fail
        refine noPanic_normal ?_
        obtain ⟨V2, hV2⟩ : ∃ V, (((((W2.setCell ⟨p8, 0, none⟩ (.int .i64 3)).setCell ⟨p8, 1, none⟩ (.int .i64 r.c)).setCell ⟨p8, 2, none⟩ (.string ⟨#[]⟩)).setCell ⟨p8, 3, none⟩ (.slice none 0 0)).setCell ⟨p8, 4, none⟩ (.slice none 0 0)) = V := ⟨_, rfl⟩
        have hb2 : Below wr.heap.size wr V2 := by rw [← hV2]; exact below_only HE2.out (Only.fiveV _ _ _ _ _ _ _) HE2.out.size HP8.out
        have HKV := Lib.hid (show Blk V2 p8 (five 3 r.c) 39 by rw [← hV2]; exact HK8.out.fiveV _ _ _ _ _)
        have HSV := Lib.hid (HS.out.ext hb2)
        rw [hV2]
        clear hV2 hb2 HK8 HS HE2 HP8 q8 m8 l8
        have q8 := (show Blk V2 p8 [.int .i64 3, .int .i64 r.c, .string ⟨#[]⟩, .slice none 0 0, .slice none 0 0] 39 from HKV.out).cells
        have l8 := HKV.out.lt
        have q5 := HSV.out.b5.cells
        have l5 := HSV.out.b5.lt
        obtain ⟨hi0, hz0, hz1, hz2⟩ := HI.out
        have hbs := HSV.out.lt
        go_wp2_with (at_builtin; refine wpList_append_own _ rfl (.tmp 44) (.tmp 46) 36 rfl (s1 + 4) 39 i0 _ 5 80 Tryd.underlying36 hi0 hz0 hz1 hz2 rfl (by decide) kv 0 ((TrydKC r x y).take (5 * 0)) rfl (HSV.out.own.alloc _) ⟨V2.heap.size, 0, none⟩ 1 1 [.int .i64 3, .int .i64 r.c, .string ⟨#[]⟩, .slice none 0 0, .slice none 0 0] rfl rfl (news_blkV (Blk.new V2 [_, _, _, _, _] _)) (by simp [Value.oneCell']) (by unfold maxLen; omega) (by omega) (by simp; omega) ?_; intro v' w6 hown6 hgrow _; obtain ⟨va, vc, rfl⟩ := own_sliceV hown6; have HBW := Lib.hid (below_own (B := s1 + 4) ((Below.refl (s1 + 4) V2).alloc (by omega) (.cells #[.int .i64 3, .int .i64 r.c, .string ⟨#[]⟩, .slice none 0 0, .slice none 0 0] 39)) (by simp; omega) (HSV.out.own.alloc _) (Nat.le_refl _) hgrow); have HO6 := Lib.hid hown6; have b56 := HSV.out.b5.below HBW.out (by omega); have q56 := b56.cells; have m56 := b56.marks; have l56 := b56.lt; clear hown6 hgrow b56 q5 l5 q8 l8)
        go_roundw
        case rel =>
          refine ⟨1, .slice va 1 vc, ⟨by omega, fun h => by cases h⟩, by go_num, ?_⟩
          refine HSV.out.grow HBW.out ?_
          have h := HO6.out
          rw [show (5 * 1 : Nat) = 5 * 0 + 5 from rfl]
          rw [show (TrydKC r x y).take (5 * 0 + 5) = (TrydKC r x y).take (5 * 0) ++ five 3 r.c from rfl]
          exact h
        case measure => simp [intOf]
    ·
      have q1 := HS.out.b1.cells
      have l1 := HS.out.b1.lt
      have q4 := HS.out.b4.cells
      have l4 := HS.out.b4.lt
      clear hi
      go_wp2_with fail
      refine' wp_region_seqF [8] [.inl _, .inl _, .inl _, .inl _, .inl _, .inl _, .inl _, .inl _, .inl _, .inr (NewBlk wr.heap.size [.int .i64 0, .int .i64 0, .string ⟨#[]⟩, .slice none 0 0, .slice none 0 0] 39)] (by kernel_rfl) (by kernel_rfl) ?main2
      case main2 =>
        refine wpParts_det (by rfl) (fun W hE hN => ?_) ?_
        · go_simp; refine ⟨Below.refl _ _, ?_⟩; rfl
        simp only [Act.put, List.setIfInBounds_toArray, List.set_cons_zero, List.set_cons_succ]
        refine wpParts_det (by rfl) (fun W hE hN => ?_) ?_
        · go_simp; refine ⟨Below.refl _ _, ?_⟩; rfl
        simp only [Act.put, List.setIfInBounds_toArray, List.set_cons_zero, List.set_cons_succ]
        refine wpParts_det (by rfl) (fun W hE hN => ?_) ?_
        · go_simp; refine ⟨Below.refl _ _, ?_⟩; rfl
        simp only [Act.put, List.setIfInBounds_toArray, List.set_cons_zero, List.set_cons_succ]
        refine wpParts_det (by rfl) (fun W hE hN => ?_) ?_
        · have hc := fun b o h => hE.cell (p := ⟨b, o, none⟩) h
          go_simp; refine ⟨Below.refl _ _, ?_⟩; rfl
        simp only [Act.put, List.setIfInBounds_toArray, List.set_cons_zero, List.set_cons_succ]
        refine wpParts_det (by rfl) (fun W hE hN => ?_) ?_
        · have hc := fun b o h => hE.cell (p := ⟨b, o, none⟩) h
          go_simp; refine ⟨Below.refl _ _, ?_⟩; rfl
        simp only [Act.put, List.setIfInBounds_toArray, List.set_cons_zero, List.set_cons_succ]
        refine wpParts_det (by rfl) (fun W hE hN => ?_) ?_
        · go_simp; refine ⟨Below.refl _ _, ?_⟩; refine (C2.out _).mono ?_; rintro e w' ⟨rfl, hb⟩; refine ⟨?_, hb⟩; rfl
        simp only [Act.put, List.setIfInBounds_toArray, List.set_cons_zero, List.set_cons_succ]
        refine wpParts_det (by rfl) (fun W hE hN => ?_) ?_
        · go_simp; refine ⟨Below.refl _ _, ?_⟩; rfl
        simp only [Act.put, List.setIfInBounds_toArray, List.set_cons_zero, List.set_cons_succ]
        refine wpParts_det (by rfl) (fun W hE hN => ?_) ?_
        · go_simp; refine ⟨Below.refl _ _, ?_⟩; rfl
        simp only [Act.put, List.setIfInBounds_toArray, List.set_cons_zero, List.set_cons_succ]
        refine wpParts_det (by rfl) (fun W hE hN => ?_) ?_
        · go_simp; refine ⟨Below.refl _ _, ?_⟩; rfl
        simp only [Act.put, List.setIfInBounds_toArray, List.set_cons_zero, List.set_cons_succ]
        refine wpParts_any rfl (NewBlk.later) (by rfl) (fun W hE hN => ?_) (fun u9 => ?_)
        · go_simp; exact newBlk_alloc (cs := [.int .i64 0, .int .i64 0, .string ⟨#[]⟩, .slice none 0 0, .slice none 0 0]) hE.size
        simp only [Act.put, List.setIfInBounds_toArray, List.set_cons_zero, List.set_cons_succ]
        refine wpParts_end fun W2 hE2 hG2 => ?_
        have hcW2 := fun b o h => hE2.cell (p := ⟨b, o, none⟩) h
        have hfW2 := fun b o h => hE2.frozen (p := ⟨b, o, none⟩) h
        obtain ⟨⟨p8, rfl, hp8, hk8⟩, _⟩ := hG2
        have HK8 := Lib.hid hk8
        have HS2 := Lib.hid (HS.out.ext hE2)
        have HP8 := Lib.hid hp8
        have HW2 := Lib.hid hE2.size
        have q8 := hk8.cells
        have m8 := hk8.marks
        have l8 := hk8.lt
        have HE2 := Lib.hid hE2
        clear hk8 hE2 hcW2 hfW2 q1 l1 q4 l4 qg lg hp8 HS2 HW2
        go_wp2_with fail
        refine noPanic_normal ?_
        obtain ⟨V2, hV2⟩ : ∃ V, (((((W2.setCell ⟨p8, 0, none⟩ (.int .i64 y.1)).setCell ⟨p8, 1, none⟩ (.int .i64 y.2)).setCell ⟨p8, 2, none⟩ (.string ⟨#[]⟩)).setCell ⟨p8, 3, none⟩ (.slice none 0 0)).setCell ⟨p8, 4, none⟩ (.slice none 0 0)) = V := ⟨_, rfl⟩
        have hb2 : Below wr.heap.size wr V2 := by rw [← hV2]; exact below_only HE2.out (Only.fiveV _ _ _ _ _ _ _) HE2.out.size HP8.out
        have HKV := Lib.hid (show Blk V2 p8 (five y.1 y.2) 39 by rw [← hV2]; exact HK8.out.fiveV _ _ _ _ _)
        have HSV := Lib.hid (HS.out.ext hb2)
        rw [hV2]
        clear hV2 hb2 HK8 HS HE2 HP8 q8 m8 l8
        have q8 := (show Blk V2 p8 [.int .i64 y.1, .int .i64 y.2, .string ⟨#[]⟩, .slice none 0 0, .slice none 0 0] 39 from HKV.out).cells
        have l8 := HKV.out.lt
        have q5 := HSV.out.b5.cells
        have l5 := HSV.out.b5.lt
        obtain ⟨hi0, hz0, hz1, hz2⟩ := HI.out
        have hbs := HSV.out.lt
        go_wp2_with (at_builtin; refine wpList_append_own _ rfl (.tmp 44) (.tmp 46) 36 rfl (s1 + 4) 39 i0 _ 5 80 Tryd.underlying36 hi0 hz0 hz1 hz2 rfl (by decide) kv 1 ((TrydKC r x y).take (5 * 1)) rfl (HSV.out.own.alloc _) ⟨V2.heap.size, 0, none⟩ 1 1 [.int .i64 y.1, .int .i64 y.2, .string ⟨#[]⟩, .slice none 0 0, .slice none 0 0] rfl rfl (news_blkV (Blk.new V2 [_, _, _, _, _] _)) (by simp [Value.oneCell']) (by unfold maxLen; omega) (by omega) (by simp; omega) ?_; intro v' w6 hown6 hgrow _; obtain ⟨va, vc, rfl⟩ := own_sliceV hown6; have HBW := Lib.hid (below_own (B := s1 + 4) ((Below.refl (s1 + 4) V2).alloc (by omega) (.cells #[.int .i64 y.1, .int .i64 y.2, .string ⟨#[]⟩, .slice none 0 0, .slice none 0 0] 39)) (by simp; omega) (HSV.out.own.alloc _) (Nat.le_refl _) hgrow); have HO6 := Lib.hid hown6; have b56 := HSV.out.b5.below HBW.out (by omega); have q56 := b56.cells; have m56 := b56.marks; have l56 := b56.lt; clear hown6 hgrow b56 q5 l5 q8 l8)
        go_roundw
        case rel =>
          refine ⟨2, .slice va 2 vc, ⟨by omega, fun h => by cases h⟩, by go_num, ?_⟩
          refine HSV.out.grow HBW.out ?_
          have h := HO6.out
          rw [show (5 * 2 : Nat) = 5 * 1 + 5 from rfl]
          rw [show (TrydKC r x y).take (5 * 1 + 5) = (TrydKC r x y).take (5 * 1) ++ five y.1 y.2 from rfl]
          exact h
        case measure => simp [intOf]
    ·
      have q1 := HS.out.b1.cells
      have l1 := HS.out.b1.lt
      have q4 := HS.out.b4.cells
      have l4 := HS.out.b4.lt
      clear hi
      go_wp2_with fail
      refine' wp_region_seqF [8] [.inl _, .inl _, .inl _, .inl _, .inl _, .inl _, .inl _, .inl _, .inl _, .inr (NewBlk wr.heap.size [.int .i64 0, .int .i64 0, .string ⟨#[]⟩, .slice none 0 0, .slice none 0 0] 39)] (by kernel_rfl) (by kernel_rfl) ?main3
      case main3 =>
        refine wpParts_det (by rfl) (fun W hE hN => ?_) ?_
        · go_simp; refine ⟨Below.refl _ _, ?_⟩; rfl
        simp only [Act.put, List.setIfInBounds_toArray, List.set_cons_zero, List.set_cons_succ]
        refine wpParts_det (by rfl) (fun W hE hN => ?_) ?_
        · go_simp; refine ⟨Below.refl _ _, ?_⟩; rfl
        simp only [Act.put, List.setIfInBounds_toArray, List.set_cons_zero, List.set_cons_succ]
        refine wpParts_det (by rfl) (fun W hE hN => ?_) ?_
        · go_simp; refine ⟨Below.refl _ _, ?_⟩; rfl
        simp only [Act.put, List.setIfInBounds_toArray, List.set_cons_zero, List.set_cons_succ]
        refine wpParts_det (by rfl) (fun W hE hN => ?_) ?_
        · have hc := fun b o h => hE.cell (p := ⟨b, o, none⟩) h
          go_simp; refine ⟨Below.refl _ _, ?_⟩; rfl
        simp only [Act.put, List.setIfInBounds_toArray, List.set_cons_zero, List.set_cons_succ]
        refine wpParts_det (by rfl) (fun W hE hN => ?_) ?_
        · have hc := fun b o h => hE.cell (p := ⟨b, o, none⟩) h
          go_simp; refine ⟨Below.refl _ _, ?_⟩; rfl
        simp only [Act.put, List.setIfInBounds_toArray, List.set_cons_zero, List.set_cons_succ]
        refine wpParts_det (by rfl) (fun W hE hN => ?_) ?_
        · go_simp; refine ⟨Below.refl _ _, ?_⟩; refine (C1.out _).mono ?_; rintro e w' ⟨rfl, hb⟩; refine ⟨?_, hb⟩; rfl
        simp only [Act.put, List.setIfInBounds_toArray, List.set_cons_zero, List.set_cons_succ]
        refine wpParts_det (by rfl) (fun W hE hN => ?_) ?_
        · go_simp; refine ⟨Below.refl _ _, ?_⟩; rfl
        simp only [Act.put, List.setIfInBounds_toArray, List.set_cons_zero, List.set_cons_succ]
        refine wpParts_det (by rfl) (fun W hE hN => ?_) ?_
        · go_simp; refine ⟨Below.refl _ _, ?_⟩; rfl
        simp only [Act.put, List.setIfInBounds_toArray, List.set_cons_zero, List.set_cons_succ]
        refine wpParts_det (by rfl) (fun W hE hN => ?_) ?_
        · go_simp; refine ⟨Below.refl _ _, ?_⟩; rfl
        simp only [Act.put, List.setIfInBounds_toArray, List.set_cons_zero, List.set_cons_succ]
        refine wpParts_any rfl (NewBlk.later) (by rfl) (fun W hE hN => ?_) (fun u9 => ?_)
        · go_simp; exact newBlk_alloc (cs := [.int .i64 0, .int .i64 0, .string ⟨#[]⟩, .slice none 0 0, .slice none 0 0]) hE.size
        simp only [Act.put, List.setIfInBounds_toArray, List.set_cons_zero, List.set_cons_succ]
        refine wpParts_end fun W2 hE2 hG2 => ?_
        have hcW2 := fun b o h => hE2.cell (p := ⟨b, o, none⟩) h
        have hfW2 := fun b o h => hE2.frozen (p := ⟨b, o, none⟩) h
        obtain ⟨⟨p8, rfl, hp8, hk8⟩, _⟩ := hG2
        have HK8 := Lib.hid hk8
        have HS2 := Lib.hid (HS.out.ext hE2)
        have HP8 := Lib.hid hp8
        have HW2 := Lib.hid hE2.size
        have q8 := hk8.cells
        have m8 := hk8.marks
        have l8 := hk8.lt
        have HE2 := Lib.hid hE2
        clear hk8 hE2 hcW2 hfW2 q1 l1 q4 l4 qg lg hp8 HS2 HW2
        go_wp2_with fail
        refine noPanic_normal ?_
        obtain ⟨V2, hV2⟩ : ∃ V, (((((W2.setCell ⟨p8, 0, none⟩ (.int .i64 x.1)).setCell ⟨p8, 1, none⟩ (.int .i64 x.2)).setCell ⟨p8, 2, none⟩ (.string ⟨#[]⟩)).setCell ⟨p8, 3, none⟩ (.slice none 0 0)).setCell ⟨p8, 4, none⟩ (.slice none 0 0)) = V := ⟨_, rfl⟩
        have hb2 : Below wr.heap.size wr V2 := by rw [← hV2]; exact below_only HE2.out (Only.fiveV _ _ _ _ _ _ _) HE2.out.size HP8.out
        have HKV := Lib.hid (show Blk V2 p8 (five x.1 x.2) 39 by rw [← hV2]; exact HK8.out.fiveV _ _ _ _ _)
        have HSV := Lib.hid (HS.out.ext hb2)
        rw [hV2]
        clear hV2 hb2 HK8 HS HE2 HP8 q8 m8 l8
        have q8 := (show Blk V2 p8 [.int .i64 x.1, .int .i64 x.2, .string ⟨#[]⟩, .slice none 0 0, .slice none 0 0] 39 from HKV.out).cells
        have l8 := HKV.out.lt
        have q5 := HSV.out.b5.cells
        have l5 := HSV.out.b5.lt
        obtain ⟨hi0, hz0, hz1, hz2⟩ := HI.out
        have hbs := HSV.out.lt
        go_wp2_with (at_builtin; refine wpList_append_own _ rfl (.tmp 44) (.tmp 46) 36 rfl (s1 + 4) 39 i0 _ 5 80 Tryd.underlying36 hi0 hz0 hz1 hz2 rfl (by decide) kv 2 ((TrydKC r x y).take (5 * 2)) rfl (HSV.out.own.alloc _) ⟨V2.heap.size, 0, none⟩ 1 1 [.int .i64 x.1, .int .i64 x.2, .string ⟨#[]⟩, .slice none 0 0, .slice none 0 0] rfl rfl (news_blkV (Blk.new V2 [_, _, _, _, _] _)) (by simp [Value.oneCell']) (by unfold maxLen; omega) (by omega) (by simp; omega) ?_; intro v' w6 hown6 hgrow _; obtain ⟨va, vc, rfl⟩ := own_sliceV hown6; have HBW := Lib.hid (below_own (B := s1 + 4) ((Below.refl (s1 + 4) V2).alloc (by omega) (.cells #[.int .i64 x.1, .int .i64 x.2, .string ⟨#[]⟩, .slice none 0 0, .slice none 0 0] 39)) (by simp; omega) (HSV.out.own.alloc _) (Nat.le_refl _) hgrow); have HO6 := Lib.hid hown6; have b56 := HSV.out.b5.below HBW.out (by omega); have q56 := b56.cells; have m56 := b56.marks; have l56 := b56.lt; clear hown6 hgrow b56 q5 l5 q8 l8)
        go_roundw
        case rel =>
          refine ⟨3, .slice va 3 vc, ⟨by omega, fun h => by cases h⟩, by go_num, ?_⟩
          refine HSV.out.grow HBW.out ?_
          have h := HO6.out
          rw [show (5 * 3 : Nat) = 5 * 2 + 5 from rfl]
          rw [show (TrydKC r x y).take (5 * 2 + 5) = (TrydKC r x y).take (5 * 2) ++ five x.1 x.2 from rfl]
          exact h
        case measure => simp [intOf]
    · have q1 := HS.out.b1.cells
      have l1 := HS.out.b1.lt
      have q5 := HS.out.b5.cells
      have l5 := HS.out.b5.lt
      have hbs := HS.out.lt
      clear hi
      go_wp2_with fail
      refine' wp_region_seq [.inl _, .inl _, .inl _, .inl _, .inl _, .inr (SlNew wr.heap.size 1 (five 3 r.n) 39)] (by kernel_rfl) (by kernel_rfl) ?main4
      case main4 =>
        refine wpParts_det (by rfl) (fun W hE hN => ?_) ?_
        · go_simp; refine ⟨Below.refl _ _, ?_⟩; rfl
        simp only [Act.put, List.setIfInBounds_toArray, List.set_cons_zero, List.set_cons_succ]
        refine wpParts_det (by rfl) (fun W hE hN => ?_) ?_
        · have hc := fun b o h => hE.cell (p := ⟨b, o, none⟩) h
          go_simp; refine ⟨Below.refl _ _, ?_⟩; rfl
        simp only [Act.put, List.setIfInBounds_toArray, List.set_cons_zero, List.set_cons_succ]
        refine wpParts_det (by rfl) (fun W hE hN => ?_) ?_
        · go_simp; refine ⟨Below.refl _ _, ?_⟩; rfl
        simp only [Act.put, List.setIfInBounds_toArray, List.set_cons_zero, List.set_cons_succ]
        refine wpParts_det (by rfl) (fun W hE hN => ?_) ?_
        · have hc := fun b o h => hE.cell (p := ⟨b, o, none⟩) h
          go_simp; refine ⟨Below.refl _ _, ?_⟩; rfl
        simp only [Act.put, List.setIfInBounds_toArray, List.set_cons_zero, List.set_cons_succ]
        refine wpParts_det (by rfl) (fun W hE hN => ?_) ?_
        · go_simp; refine ⟨Below.refl _ _, ?_⟩; refine (Tryd_in _ _).mono ?_; rintro e w' ⟨rfl, hb⟩; refine ⟨?_, hb⟩; rfl
        simp only [Act.put, List.setIfInBounds_toArray, List.set_cons_zero, List.set_cons_succ]
        refine wpParts_any rfl (SlNew.later) (by rfl) (fun W hE hN => ?_) (fun u5 => ?_)
        · go_simp; exact ⟨(by repeat (first | (with_reducible exact Below.refl _ _) | (with_reducible exact Below.refl _ _) | (with_reducible refine Below.setCell ?_ (by first | omega | (simp; done) | (simp; omega)) _) | (with_reducible refine Below.alloc ?_ (by first | omega | (simp; done) | (simp; omega)) _) | (with_reducible refine Below.drew ?_) | (with_reducible refine below_drewN ?_ _))), _, rfl, hE.size, Blk.new _ _ _⟩
        simp only [Act.put, List.setIfInBounds_toArray, List.set_cons_zero, List.set_cons_succ]
        refine wpParts_end fun W2 hE2 hG2 => ?_
        have hcW2 := fun b o h => hE2.cell (p := ⟨b, o, none⟩) h
        have hfW2 := fun b o h => hE2.frozen (p := ⟨b, o, none⟩) h
        obtain ⟨⟨g8, rfl, hg8, hk8⟩, _⟩ := hG2
        have HK8 := Lib.hid hk8
        have HSV := Lib.hid (HS.out.ext hE2)
        clear hk8 hE2 hcW2 hfW2 q1 l1 q5 l5 qg lg hg8 HS hbs
        have q5 := HSV.out.b5.cells
        have l5 := HSV.out.b5.lt
        obtain ⟨hi0, hz0, hz1, hz2⟩ := HI.out
        have hbs := HSV.out.lt
        go_wp2_with (at_builtin; refine wpList_append_own _ rfl (.tmp 23) (.tmp 27) 36 rfl (s1 + 4) 39 i0 _ 5 80 Tryd.underlying36 hi0 hz0 hz1 hz2 rfl (by decide) kv 3 ((TrydKC r x y).take (5 * 3)) rfl HSV.out.own ⟨g8, 0, none⟩ 1 1 [.int .i64 3, .int .i64 r.n, .string ⟨#[]⟩, .slice none 0 0, .slice none 0 0] rfl rfl (news_blkV HK8.out) (by simp [Value.oneCell']) (by unfold maxLen; omega) (by omega) (by omega) ?_; intro v' w6 hown6 hgrow _; obtain ⟨va, vc, rfl⟩ := own_sliceV hown6; have HBW := Lib.hid (below_own (B := s1 + 4) (Below.refl (s1 + 4) W2) (by omega) HSV.out.own (Nat.le_refl _) hgrow); have HO6 := Lib.hid hown6; have b56 := HSV.out.b5.below HBW.out (by omega); have q56 := b56.cells; have m56 := b56.marks; have l56 := b56.lt; clear hown6 hgrow b56 q5 l5)
        go_roundw
        case rel =>
          refine ⟨4, .slice va 4 vc, ⟨by omega, fun h => by cases h⟩, by go_num, ?_⟩
          refine HSV.out.grow HBW.out ?_
          have h := HO6.out
          rw [show (5 * 4 : Nat) = 5 * 3 + 5 from rfl]
          rw [show (TrydKC r x y).take (5 * 3 + 5) = (TrydKC r x y).take (5 * 3) ++ five 3 r.n from rfl]
          exact h
        case measure => simp [intOf]
    · cases b with
      | true =>
        have q1 := HS.out.b1.cells
        have l1 := HS.out.b1.lt
        have q4 := HS.out.b4.cells
        have l4 := HS.out.b4.lt
        clear hi
        go_wp2_with fail
        refine' wp_region_seqF [8] [.inl _, .inl _, .inl _, .inl _, .inl _, .inl _, .inl _, .inl _, .inl _, .inr (NewBlk wr.heap.size [.int .i64 0, .int .i64 0, .string ⟨#[]⟩, .slice none 0 0, .slice none 0 0] 39)] (by kernel_rfl) (by kernel_rfl) ?main5
        case main5 =>
          refine wpParts_det (by rfl) (fun W hE hN => ?_) ?_
          · go_simp; refine ⟨Below.refl _ _, ?_⟩; rfl
          simp only [Act.put, List.setIfInBounds_toArray, List.set_cons_zero, List.set_cons_succ]
          refine wpParts_det (by rfl) (fun W hE hN => ?_) ?_
          · go_simp; refine ⟨Below.refl _ _, ?_⟩; rfl
          simp only [Act.put, List.setIfInBounds_toArray, List.set_cons_zero, List.set_cons_succ]
          refine wpParts_det (by rfl) (fun W hE hN => ?_) ?_
          · go_simp; refine ⟨Below.refl _ _, ?_⟩; rfl
          simp only [Act.put, List.setIfInBounds_toArray, List.set_cons_zero, List.set_cons_succ]
          refine wpParts_det (by rfl) (fun W hE hN => ?_) ?_
          · have hc := fun b o h => hE.cell (p := ⟨b, o, none⟩) h
            go_simp; refine ⟨Below.refl _ _, ?_⟩; rfl
          simp only [Act.put, List.setIfInBounds_toArray, List.set_cons_zero, List.set_cons_succ]
          refine wpParts_det (by rfl) (fun W hE hN => ?_) ?_
          · have hc := fun b o h => hE.cell (p := ⟨b, o, none⟩) h
            go_simp; refine ⟨Below.refl _ _, ?_⟩; rfl
          simp only [Act.put, List.setIfInBounds_toArray, List.set_cons_zero, List.set_cons_succ]
          refine wpParts_det (by rfl) (fun W hE hN => ?_) ?_
          · go_simp; refine ⟨Below.refl _ _, ?_⟩; refine (Tryd_sums_yes r.c r.n r.s r.l r.m _ HF.out).mono ?_; rintro e w' ⟨rfl, hb⟩; refine ⟨?_, hb⟩; rfl
          simp only [Act.put, List.setIfInBounds_toArray, List.set_cons_zero, List.set_cons_succ]
          refine wpParts_det (by rfl) (fun W hE hN => ?_) ?_
          · go_simp; refine ⟨Below.refl _ _, ?_⟩; rfl
          simp only [Act.put, List.setIfInBounds_toArray, List.set_cons_zero, List.set_cons_succ]
          refine wpParts_det (by rfl) (fun W hE hN => ?_) ?_
          · go_simp; refine ⟨Below.refl _ _, ?_⟩; rfl
          simp only [Act.put, List.setIfInBounds_toArray, List.set_cons_zero, List.set_cons_succ]
          refine wpParts_det (by rfl) (fun W hE hN => ?_) ?_
          · go_simp; refine ⟨Below.refl _ _, ?_⟩; rfl
          simp only [Act.put, List.setIfInBounds_toArray, List.set_cons_zero, List.set_cons_succ]
          refine wpParts_any rfl (NewBlk.later) (by rfl) (fun W hE hN => ?_) (fun u9 => ?_)
          · go_simp; exact newBlk_alloc (cs := [.int .i64 0, .int .i64 0, .string ⟨#[]⟩, .slice none 0 0, .slice none 0 0]) hE.size
          simp only [Act.put, List.setIfInBounds_toArray, List.set_cons_zero, List.set_cons_succ]
          refine wpParts_end fun W2 hE2 hG2 => ?_
          have hcW2 := fun b o h => hE2.cell (p := ⟨b, o, none⟩) h
          have hfW2 := fun b o h => hE2.frozen (p := ⟨b, o, none⟩) h
          obtain ⟨⟨p8, rfl, hp8, hk8⟩, _⟩ := hG2
          have HK8 := Lib.hid hk8
          have HS2 := Lib.hid (HS.out.ext hE2)
          have HP8 := Lib.hid hp8
          have HW2 := Lib.hid hE2.size
          have q8 := hk8.cells
          have m8 := hk8.marks
          have l8 := hk8.lt
          have HE2 := Lib.hid hE2
          clear hk8 hE2 hcW2 hfW2 q1 l1 q4 l4 qg lg hp8 HS2 HW2
          go_wp2_with fail
          refine noPanic_normal ?_
          obtain ⟨V2, hV2⟩ : ∃ V, (((((W2.setCell ⟨p8, 0, none⟩ (.int .i64 3)).setCell ⟨p8, 1, none⟩ (.int .i64 (sg r.s))).setCell ⟨p8, 2, none⟩ (.string ⟨#[]⟩)).setCell ⟨p8, 3, none⟩ (.slice none 0 0)).setCell ⟨p8, 4, none⟩ (.slice none 0 0)) = V := ⟨_, rfl⟩
          have hb2 : Below wr.heap.size wr V2 := by rw [← hV2]; exact below_only HE2.out (Only.fiveV _ _ _ _ _ _ _) HE2.out.size HP8.out
          have HKV := Lib.hid (show Blk V2 p8 (five 3 (sg r.s)) 39 by rw [← hV2]; exact HK8.out.fiveV _ _ _ _ _)
          have HSV := Lib.hid (HS.out.ext hb2)
          rw [hV2]
          clear hV2 hb2 HK8 HS HE2 HP8 q8 m8 l8
          have q8 := (show Blk V2 p8 [.int .i64 3, .int .i64 (sg r.s), .string ⟨#[]⟩, .slice none 0 0, .slice none 0 0] 39 from HKV.out).cells
          have l8 := HKV.out.lt
          have q5 := HSV.out.b5.cells
          have l5 := HSV.out.b5.lt
          obtain ⟨hi0, hz0, hz1, hz2⟩ := HI.out
          have hbs := HSV.out.lt
          go_wp2_with (at_builtin; refine wpList_append_own _ rfl (.tmp 44) (.tmp 46) 36 rfl (s1 + 4) 39 i0 _ 5 80 Tryd.underlying36 hi0 hz0 hz1 hz2 rfl (by decide) kv 4 ((TrydKC r x y).take (5 * 4)) rfl (HSV.out.own.alloc _) ⟨V2.heap.size, 0, none⟩ 1 1 [.int .i64 3, .int .i64 (sg r.s), .string ⟨#[]⟩, .slice none 0 0, .slice none 0 0] rfl rfl (news_blkV (Blk.new V2 [_, _, _, _, _] _)) (by simp [Value.oneCell']) (by unfold maxLen; omega) (by omega) (by simp; omega) ?_; intro v' w6 hown6 hgrow _; obtain ⟨va, vc, rfl⟩ := own_sliceV hown6; have HBW := Lib.hid (below_own (B := s1 + 4) ((Below.refl (s1 + 4) V2).alloc (by omega) (.cells #[.int .i64 3, .int .i64 (sg r.s), .string ⟨#[]⟩, .slice none 0 0, .slice none 0 0] 39)) (by simp; omega) (HSV.out.own.alloc _) (Nat.le_refl _) hgrow); have HO6 := Lib.hid hown6; have b56 := HSV.out.b5.below HBW.out (by omega); have q56 := b56.cells; have m56 := b56.marks; have l56 := b56.lt; clear hown6 hgrow b56 q5 l5 q8 l8)
          go_roundw
          case rel =>
            refine ⟨5, .slice va 5 vc, ⟨by omega, fun _ => by first | rfl | trivial⟩, by go_num, ?_⟩
            refine HSV.out.grow HBW.out ?_
            have h := HO6.out
            rw [show (5 * 5 : Nat) = 5 * 4 + 5 from rfl]
            rw [show (TrydKC r x y).take (5 * 4 + 5) = (TrydKC r x y).take (5 * 4) ++ five 3 (sg r.s) from rfl]
            exact h
          case measure => simp [intOf]
      | false =>
        have q1 := HS.out.b1.cells
        have l1 := HS.out.b1.lt
        have q4 := HS.out.b4.cells
        have l4 := HS.out.b4.lt
        clear hi
        go_wp2_with fail
        refine' wp_region_seqF [8] [.inl _, .inl _, .inl _, .inl _, .inl _, .inl _, .inl _, .inl _, .inl _, .inr (NewBlk wr.heap.size [.int .i64 0, .int .i64 0, .string ⟨#[]⟩, .slice none 0 0, .slice none 0 0] 39)] (by kernel_rfl) (by kernel_rfl) ?main6
        case main6 =>
          refine wpParts_det (by rfl) (fun W hE hN => ?_) ?_
          · go_simp; refine ⟨Below.refl _ _, ?_⟩; rfl
          simp only [Act.put, List.setIfInBounds_toArray, List.set_cons_zero, List.set_cons_succ]
          refine wpParts_det (by rfl) (fun W hE hN => ?_) ?_
          · go_simp; refine ⟨Below.refl _ _, ?_⟩; rfl
          simp only [Act.put, List.setIfInBounds_toArray, List.set_cons_zero, List.set_cons_succ]
          refine wpParts_det (by rfl) (fun W hE hN => ?_) ?_
          · go_simp; refine ⟨Below.refl _ _, ?_⟩; rfl
          simp only [Act.put, List.setIfInBounds_toArray, List.set_cons_zero, List.set_cons_succ]
          refine wpParts_det (by rfl) (fun W hE hN => ?_) ?_
          · have hc := fun b o h => hE.cell (p := ⟨b, o, none⟩) h
            go_simp; refine ⟨Below.refl _ _, ?_⟩; rfl
          simp only [Act.put, List.setIfInBounds_toArray, List.set_cons_zero, List.set_cons_succ]
          refine wpParts_det (by rfl) (fun W hE hN => ?_) ?_
          · have hc := fun b o h => hE.cell (p := ⟨b, o, none⟩) h
            go_simp; refine ⟨Below.refl _ _, ?_⟩; rfl
          simp only [Act.put, List.setIfInBounds_toArray, List.set_cons_zero, List.set_cons_succ]
          refine wpParts_det (by rfl) (fun W hE hN => ?_) ?_
          · go_simp; refine ⟨Below.refl _ _, ?_⟩; refine (Tryd_sums_no r.c r.n r.s r.l r.m _ HF.out).mono ?_; rintro e w' ⟨rfl, hb⟩; refine ⟨?_, hb⟩; rfl
          simp only [Act.put, List.setIfInBounds_toArray, List.set_cons_zero, List.set_cons_succ]
          refine wpParts_det (by rfl) (fun W hE hN => ?_) ?_
          · go_simp; refine ⟨Below.refl _ _, ?_⟩; rfl
          simp only [Act.put, List.setIfInBounds_toArray, List.set_cons_zero, List.set_cons_succ]
          refine wpParts_det (by rfl) (fun W hE hN => ?_) ?_
          · go_simp; refine ⟨Below.refl _ _, ?_⟩; rfl
          simp only [Act.put, List.setIfInBounds_toArray, List.set_cons_zero, List.set_cons_succ]
          refine wpParts_det (by rfl) (fun W hE hN => ?_) ?_
          · go_simp; refine ⟨Below.refl _ _, ?_⟩; rfl
          simp only [Act.put, List.setIfInBounds_toArray, List.set_cons_zero, List.set_cons_succ]
          refine wpParts_any rfl (NewBlk.later) (by rfl) (fun W hE hN => ?_) (fun u9 => ?_)
          · go_simp; exact newBlk_alloc (cs := [.int .i64 0, .int .i64 0, .string ⟨#[]⟩, .slice none 0 0, .slice none 0 0]) hE.size
          simp only [Act.put, List.setIfInBounds_toArray, List.set_cons_zero, List.set_cons_succ]
          refine wpParts_end fun W2 hE2 hG2 => ?_
          have hcW2 := fun b o h => hE2.cell (p := ⟨b, o, none⟩) h
          have hfW2 := fun b o h => hE2.frozen (p := ⟨b, o, none⟩) h
          obtain ⟨⟨p8, rfl, hp8, hk8⟩, _⟩ := hG2
          have HK8 := Lib.hid hk8
          have HP8 := Lib.hid hp8
          have q8 := hk8.cells
          have m8 := hk8.marks
          have l8 := hk8.lt
          have HE2 := Lib.hid hE2
          clear hk8 hE2 hcW2 hfW2 q1 l1 q4 l4 qg lg hp8
          go_wp2_with fail
          refine noPanic_normal ?_
          obtain ⟨V2, hV2⟩ : ∃ V, (((((W2.setCell ⟨p8, 0, none⟩ (.int .i64 0)).setCell ⟨p8, 1, none⟩ (.int .i64 0)).setCell ⟨p8, 2, none⟩ (.string ⟨#[]⟩)).setCell ⟨p8, 3, none⟩ (.slice none 0 0)).setCell ⟨p8, 4, none⟩ (.slice none 0 0)) = V := ⟨_, rfl⟩
          have hb2 : Below wr.heap.size wr V2 := by rw [← hV2]; exact below_only HE2.out (Only.fiveV _ _ _ _ _ _ _) HE2.out.size HP8.out
          have HSV := Lib.hid (HS.out.ext hb2)
          rw [hV2]
          clear hV2 hb2 HK8 HS HE2 HP8 q8 m8 l8
          have q2 := HSV.out.b2.cells
          have m2 := HSV.out.b2.marks
          have l2 := HSV.out.b2.lt
          have o := Only.fiveV V2 (w.heap.size + 1) (.int .i64 0) (.int .i64 0) (.string ⟨#[]⟩) (.slice none 0 0) (.slice none 0 0)
          have c2 := (HSV.out.b2.fiveV (.int .i64 0) (.int .i64 0) (.string ⟨#[]⟩) (.slice none 0 0) (.slice none 0 0)).cells
          have HB9 := Lib.hid (below_only HSV.out.bel o HSV.out.bel.size (by omega))
          have C22 := Lib.hid c2
          clear o c2
          go_wp2
          have c2 := C22.out
          refine bodyPost_ret (v := .tuple #[.agg #[.int .i64 0, .int .i64 0, .string ⟨#[]⟩, .slice none 0 0, .slice none 0 0], .int .i64 5]) (by simp [results, Tryd.results72, go_sem, c2]) rfl ⟨rfl, HB9.out⟩
    · have hbt := HIB.out (by first | rfl | trivial)
      subst hbt
      have q5 := HS.out.b5.cells
      have l5 := HS.out.b5.lt
      have q2 := HS.out.b2.cells
      have m2 := HS.out.b2.marks
      have l2 := HS.out.b2.lt
      have hbs := HS.out.lt
      obtain ⟨va, vc, rfl⟩ := own_sliceV HS.out.own
      have z1 : s1 + 1 + 1 ≠ w.heap.size + 1 := by omega
      clear hi
      go_wp2_with fail
      have o := Only.fiveV wr (w.heap.size + 1) (.int .i64 6) (.int .i64 0) (.string ⟨#[]⟩) (.slice va 5 vc) (.slice (some ⟨s1 + 1, 0, none⟩) 5 5)
      have b2 := HS.out.b2.fiveV (.int .i64 6) (.int .i64 0) (.string ⟨#[]⟩) (.slice va 5 vc) (.slice (some ⟨s1 + 1, 0, none⟩) 5 5)
      have hown := HS.out.own
      have hbq := HS.out.bq.only o (by omega)
      have hbel := below_only HS.out.bel o HS.out.bel.size (by omega)
      obtain ⟨V9, hV9⟩ : ∃ V, (((((wr.setCell ⟨w.heap.size + 1, 0, none⟩ (.int .i64 6)).setCell ⟨w.heap.size + 1, 1, none⟩ (.int .i64 0)).setCell ⟨w.heap.size + 1, 2, none⟩ (.string ⟨#[]⟩)).setCell ⟨w.heap.size + 1, 3, none⟩ (.slice va 5 vc)).setCell ⟨w.heap.size + 1, 4, none⟩ (.slice (some ⟨s1 + 1, 0, none⟩) 5 5)) = V := ⟨_, rfl⟩
      rw [hV9] at o b2 hbq hbel
      rw [show _ = V9 from hV9]
      have hown9 := ownsRow_onlyV hown o (by omega)
      have c2 := b2.cells
      obtain ⟨g, rfl, hg0, hg1, hg2, hgc⟩ := own_fiveV hown9
      have hval : ValAt V9 2 (.agg #[.int .i64 6, .int .i64 0, .string ⟨#[]⟩, .slice (some ⟨g, 0, none⟩) 5 vc, .slice (some ⟨s1 + 1, 0, none⟩) 5 5]) (statsV r) := by
        have hx : endV 0 r.n r.l = leafV 0 x.1 x.2 := by rw [← HX.out]; unfold endV TrydEndB; split <;> rfl
        have hy : endV 0 r.n r.m = leafV 0 y.1 y.2 := by rw [← HY.out]; unfold endV TrydEndB; split <;> rfl
        have hsg : I64 (sg r.s) := by have h := HF.out; unfold fitsB at h; rw [decide_eq_true_eq] at h; unfold I64; omega
        exact stats_at (t := 0) hx hy HC.out.v HN.out.v hsg.v HXI.out.1 HXI.out.2 HYI.out.1 HYI.out.2 (fun i v hv => hgc i v hv) hg1 hg2 hbq ⟨Nat.le_refl _, by unfold maxLen; omega⟩
      have HV9 := Lib.hid hval
      have HB9 := Lib.hid hbel
      clear hval hbel hV9 q5 l5 q2 m2 l2 o b2 hown hbq hown9 hgc
      refine bodyPost_ret (v := .tuple #[.agg #[.int .i64 6, .int .i64 0, .string ⟨#[]⟩, .slice (some ⟨g, 0, none⟩) 5 vc, .slice (some ⟨s1 + 1, 0, none⟩) 5 5], .int .i64 0]) (by simp [results, Tryd.results72, go_sem, c2]) rfl ⟨⟨g, vc, s1 + 1, 5, rfl, by omega, by omega, HV9.out⟩, HB9.out⟩
end Go.Proofs.YtmcmknndhppljaaDoor

namespace Go.Dav
set_option linter.unusedVariables false
set_option linter.unusedSimpArgs false
open Go Go.RowKit
def noV : Value := .agg #[.int .i64 0, .int .i64 0, .string ⟨#[]⟩, .slice none 0 0, .slice none 0 0]
/-- Is the sum asked for, and too great? -/
def overB (k : Int) (r : Red) : Bool := (decide (k = 2) || decide (k = 5)) && !fitsB r.s
/-- What Tell hands back. -/
def TellBack (k : Int) (r : Red) (e : Ending) (w' : World) : Prop :=
  if r.ok = false then e = .returned (.tuple #[noV, .int .i64 230])
  else if k < 1 ∨ 5 < k then e = .returned (.tuple #[noV, .int .i64 2])
  else if overB k r = true then e = .returned (.tuple #[noV, .int .i64 5])
  else ToldTo 2 (tellV k.toNat r) (.int .i64 0) e w'
/-- A tuple of a value and an error, told. -/
def ToldV (d : Nat) (x : ValN d) (err : Value) (v : Value) (W : World) : Prop := ∃ u, v = .tuple #[u, err] ∧ ValAt W d u x
theorem ToldV.later {d : Nat} {x : ValN d} {err : Value} : ∀ v W W', ToldV d x err v W → Below W.heap.size W W' → ToldV d x err v W' := fun _ _ _ ⟨u, h1, h2⟩ hb => ⟨u, h1, ValAt.ext hb d h2⟩
def ValV (d : Nat) (x : ValN d) (v : Value) (W : World) : Prop := ValAt W d v x
theorem ValV.later {d : Nat} {x : ValN d} : ∀ v W W', ValV d x v W → Below W.heap.size W W' → ValV d x v W' := fun _ _ _ h hb => ValAt.ext hb d h
end Go.Dav
namespace Go.Proofs.YtmcmknndhppljaaDoor
set_option linter.unusedVariables false
set_option linter.unusedSimpArgs false
open Go.RowKit Go.Dav
attribute [local go_sem] Gives ite_val ite_val_true

set_option maxRecDepth 8000 in
set_option maxHeartbeats 4000000 in
theorem Tryd_Tell_no (k : Int) (r : Red) (w : World) (hl : I64 r.l) (hm : I64 r.m) (h : r.ok = false ∨ k < 1 ∨ 5 < k) :
    Calls Tryd.prog 15 #[.int .i64 k, .agg #[.int .i64 r.c, .int .i64 r.n, .int .i64 (hi r.s), .int .u64 (lo r.s), .int .i64 r.l, .int .i64 r.m]] w fun e w' =>
      e = .returned (.tuple #[.agg #[.int .i64 0, .int .i64 0, .string ⟨#[]⟩, .slice none 0 0, .slice none 0 0], .int .i64 (if r.ok = false then 230 else 2)]) ∧ Below w.heap.size w w' := by
  have HCK := Lib.hid (fun W => Tryd_mCheck r W hl hm)
  cases hok : r.ok with
  | false =>
    have er : redE r.ok = 230 := by rw [hok]; rfl
    rw [if_pos rfl]
    have HER := Lib.hid er
    clear hok er h
    go_enter Tryd.func15, Tryd.ntmps15
    go_wp2_with fail
    refine (HCK.out _).mono ?_; rintro e w1 ⟨rfl, hb1⟩; obtain ⟨hc1, hf1, hs1⟩ := after hb1
    simp at hs1
    have lt_w1_0_0 : w.heap.size < w1.heap.size := by omega
    have lt_w1_0_1 : w.heap.size < w1.heap.size + 1 := by omega
    have lt_w1_1_0 : w.heap.size + 1 < w1.heap.size := by omega
    have lt_w1_1_1 : w.heap.size + 1 < w1.heap.size + 1 := by omega
    rw [HER.out]
    go_wp2
    refine bodyPost_ret (v := .tuple #[.agg #[.int .i64 0, .int .i64 0, .string ⟨#[]⟩, .slice none 0 0, .slice none 0 0], .int .i64 230]) (by simp [results, Tryd.results15, go_sem, *]) rfl ⟨rfl, ?_⟩
    exact (by repeat (first | (with_reducible exact Below.refl _ _) | (with_reducible exact Below.refl _ _) | (with_reducible refine Below.setCell ?_ (by first | omega | (simp; done) | (simp; omega)) _) | (with_reducible refine Below.alloc ?_ (by first | omega | (simp; done) | (simp; omega)) _) | (with_reducible refine Below.drew ?_) | (with_reducible refine below_drewN ?_ _) | (with_reducible refine Below.trans ?_ (hb1.mono (by first | omega | (simp; done) | (simp; omega))))))
  | true =>
    have er : redE r.ok = 0 := by rw [hok]; rfl
    rw [if_neg (by decide)]
    have HER := Lib.hid er
    have hk : k < 1 ∨ 5 < k := by rcases h with h | h; (rw [hok] at h; cases h); exact h
    clear hok er h
    by_cases hk1 : k < 1
    · clear hk
      go_enter Tryd.func15, Tryd.ntmps15
      go_wp2_with fail
      refine (HCK.out _).mono ?_; rintro e w1 ⟨rfl, hb1⟩; obtain ⟨hc1, hf1, hs1⟩ := after hb1
      simp at hs1
      have lt_w1_0_0 : w.heap.size < w1.heap.size := by omega
      have lt_w1_0_1 : w.heap.size < w1.heap.size + 1 := by omega
      have lt_w1_1_0 : w.heap.size + 1 < w1.heap.size := by omega
      have lt_w1_1_1 : w.heap.size + 1 < w1.heap.size + 1 := by omega
      rw [HER.out]
      go_wp2
      refine bodyPost_ret (v := .tuple #[.agg #[.int .i64 0, .int .i64 0, .string ⟨#[]⟩, .slice none 0 0, .slice none 0 0], .int .i64 2]) (by simp [results, Tryd.results15, go_sem, *]) rfl ⟨rfl, ?_⟩
      exact (by repeat (first | (with_reducible exact Below.refl _ _) | (with_reducible exact Below.refl _ _) | (with_reducible refine Below.setCell ?_ (by first | omega | (simp; done) | (simp; omega)) _) | (with_reducible refine Below.alloc ?_ (by first | omega | (simp; done) | (simp; omega)) _) | (with_reducible refine Below.drew ?_) | (with_reducible refine below_drewN ?_ _) | (with_reducible refine Below.trans ?_ (hb1.mono (by first | omega | (simp; done) | (simp; omega))))))
    · have hk5 : 5 < k := by omega
      clear hk
      go_enter Tryd.func15, Tryd.ntmps15
      go_wp2_with fail
      refine (HCK.out _).mono ?_; rintro e w1 ⟨rfl, hb1⟩; obtain ⟨hc1, hf1, hs1⟩ := after hb1
      simp at hs1
      have lt_w1_0_0 : w.heap.size < w1.heap.size := by omega
      have lt_w1_0_1 : w.heap.size < w1.heap.size + 1 := by omega
      have lt_w1_1_0 : w.heap.size + 1 < w1.heap.size := by omega
      have lt_w1_1_1 : w.heap.size + 1 < w1.heap.size + 1 := by omega
      rw [HER.out]
      go_wp2
      refine bodyPost_ret (v := .tuple #[.agg #[.int .i64 0, .int .i64 0, .string ⟨#[]⟩, .slice none 0 0, .slice none 0 0], .int .i64 2]) (by simp [results, Tryd.results15, go_sem, *]) rfl ⟨rfl, ?_⟩
      exact (by repeat (first | (with_reducible exact Below.refl _ _) | (with_reducible exact Below.refl _ _) | (with_reducible refine Below.setCell ?_ (by first | omega | (simp; done) | (simp; omega)) _) | (with_reducible refine Below.alloc ?_ (by first | omega | (simp; done) | (simp; omega)) _) | (with_reducible refine Below.drew ?_) | (with_reducible refine below_drewN ?_ _) | (with_reducible refine Below.trans ?_ (hb1.mono (by first | omega | (simp; done) | (simp; omega))))))

set_option maxRecDepth 8000 in
set_option maxHeartbeats 4000000 in
theorem Tryd_Tell1 (r : Red) (w : World) (hok : r.ok = true) (hl : I64 r.l) (hm : I64 r.m) (hn0 : 0 ≤ r.n) :
    Calls Tryd.prog 15 #[.int .i64 1, .agg #[.int .i64 r.c, .int .i64 r.n, .int .i64 (hi r.s), .int .u64 (lo r.s), .int .i64 r.l, .int .i64 r.m]] w fun e w' =>
      e = .returned (.tuple #[.agg #[.int .i64 3, .int .i64 r.c, .string ⟨#[]⟩, .slice none 0 0, .slice none 0 0], .int .i64 0]) ∧ Below w.heap.size w w' := by
  have HER := Lib.hid (show redE r.ok = 0 by rw [hok]; rfl)
  have HCK := Lib.hid (fun W => Tryd_mCheck r W hl hm)
  have HCC := Lib.hid (fun W => Tryd_count r.c r.n r.s r.l r.m W)
  clear hok hn0
  go_enter Tryd.func15, Tryd.ntmps15
  go_wp2_with fail
  refine (HCK.out _).mono ?_; rintro e w1 ⟨rfl, hb1⟩; obtain ⟨hc1, hf1, hs1⟩ := after hb1
  simp at hs1
  have lt_w1_0_0 : w.heap.size < w1.heap.size := by omega
  have lt_w1_0_1 : w.heap.size < w1.heap.size + 1 := by omega
  have lt_w1_1_0 : w.heap.size + 1 < w1.heap.size := by omega
  have lt_w1_1_1 : w.heap.size + 1 < w1.heap.size + 1 := by omega
  rw [HER.out]
  go_wp2_with fail
  refine' wp_region_seq [.inr (TrydKinds w1.heap.size), .inl _, .inr (CellIs 2 3 (.func (.func 85) #[] #[])), .inr (CellIs 3 3 (.func (.func 85) #[] #[])), .inl _, .inl _, .inl _, .inl _, .inl _] (by kernel_rfl) (by kernel_rfl) ?main1
  case main1 =>
    refine wpParts_any rfl (Tryd_kinds_later _) (by rfl) (fun W hE hN => ?_) (fun u0 => ?_)
    · go_simp; refine ⟨Below.refl _ _, (Tryd_kinds _).mono ?_⟩; rintro e w' ⟨v, rfl, hb, g, cap, rfl, hg, hcell⟩; exact ⟨_, rfl, hb, g, cap, rfl, Nat.le_trans hE.size hg, hcell⟩
    simp only [Act.put, List.setIfInBounds_toArray, List.set_cons_zero, List.set_cons_succ]
    refine wpParts_det (by rfl) (fun W hE hN => ?_) ?_
    · go_simp; refine ⟨Below.refl _ _, ?_⟩; rfl
    simp only [Act.put, List.setIfInBounds_toArray, List.set_cons_zero, List.set_cons_succ]
    refine wpParts_any rfl (CellIs.later) (by rfl) (fun W hE hN => ?_) (fun u2 => ?_)
    · simp [near, Oper.looksAt, Op.operands] at hN; obtain ⟨g, cap, rfl, hg, hcell⟩ := hN; go_simp; exact ⟨Below.refl _ _, g, rfl, hcell 3 _ rfl⟩
    simp only [Act.put, List.setIfInBounds_toArray, List.set_cons_zero, List.set_cons_succ]
    refine wpParts_any rfl (CellIs.later) (by rfl) (fun W hE hN => ?_) (fun u3 => ?_)
    · simp [near, Oper.looksAt, Op.operands] at hN; obtain ⟨g, rfl, hcell⟩ := hN; go_simp; exact ⟨Below.refl _ _, g, rfl, hcell⟩
    simp only [Act.put, List.setIfInBounds_toArray, List.set_cons_zero, List.set_cons_succ]
    refine wpParts_det (by rfl) (fun W hE hN => ?_) ?_
    · simp [near, Oper.looksAt, Op.operands] at hN; obtain ⟨g, rfl, hcell⟩ := hN; go_simp; refine ⟨Below.refl _ _, ?_⟩; rfl
    simp only [Act.put, List.setIfInBounds_toArray, List.set_cons_zero, List.set_cons_succ]
    refine wpParts_det (by rfl) (fun W hE hN => ?_) ?_
    · have hc := fun b o h => hE.cell (p := ⟨b, o, none⟩) h
      go_simp; refine ⟨Below.refl _ _, ?_⟩; rfl
    simp only [Act.put, List.setIfInBounds_toArray, List.set_cons_zero, List.set_cons_succ]
    refine wpParts_det (by rfl) (fun W hE hN => ?_) ?_
    · go_simp; refine ⟨Below.refl _ _, ?_⟩; refine (HCC.out _).mono ?_; rintro e w' ⟨rfl, hb⟩; refine ⟨?_, hb⟩; rfl
    simp only [Act.put, List.setIfInBounds_toArray, List.set_cons_zero, List.set_cons_succ]
    refine wpParts_det (by rfl) (fun W hE hN => ?_) ?_
    · go_simp; refine ⟨Below.refl _ _, ?_⟩; rfl
    simp only [Act.put, List.setIfInBounds_toArray, List.set_cons_zero, List.set_cons_succ]
    refine wpParts_det (by rfl) (fun W hE hN => ?_) ?_
    · go_simp; refine ⟨Below.refl _ _, ?_⟩; rfl
    simp only [Act.put, List.setIfInBounds_toArray, List.set_cons_zero, List.set_cons_succ]
    refine wpParts_end fun W2 hE2 hG2 => ?_
    have hcW2 := fun b o h => hE2.cell (p := ⟨b, o, none⟩) h
    have hfW2 := fun b o h => hE2.frozen (p := ⟨b, o, none⟩) h
    have s2 := hE2.size
    try simp at s2
    have lt_W2_0_0 : w.heap.size < W2.heap.size := by omega
    have lt_W2_0_1 : w.heap.size < W2.heap.size + 1 := by omega
    have lt_W2_1_0 : w.heap.size + 1 < W2.heap.size := by omega
    have lt_W2_1_1 : w.heap.size + 1 < W2.heap.size + 1 := by omega
    go_wp2
    refine bodyPost_ret (v := .tuple #[.agg #[.int .i64 3, .int .i64 r.c, .string ⟨#[]⟩, .slice none 0 0, .slice none 0 0], .int .i64 0]) (by simp [results, Tryd.results15, go_sem, *]) rfl ⟨rfl, ?_⟩
    exact (by repeat (first | (with_reducible exact Below.refl _ _) | (with_reducible exact Below.refl _ _) | (with_reducible refine Below.setCell ?_ (by first | omega | (simp; done) | (simp; omega)) _) | (with_reducible refine Below.alloc ?_ (by first | omega | (simp; done) | (simp; omega)) _) | (with_reducible refine Below.drew ?_) | (with_reducible refine below_drewN ?_ _) | (with_reducible refine Below.trans ?_ (hE2.mono (by first | omega | (simp; done) | (simp; omega)))) | (with_reducible refine Below.trans ?_ (hb1.mono (by first | omega | (simp; done) | (simp; omega))))))

set_option maxRecDepth 8000 in
set_option maxHeartbeats 4000000 in
theorem Tryd_Tell3 (r : Red) (w : World) (hok : r.ok = true) (hl : I64 r.l) (hm : I64 r.m) (hn0 : 0 ≤ r.n) :
    Calls Tryd.prog 15 #[.int .i64 3, .agg #[.int .i64 r.c, .int .i64 r.n, .int .i64 (hi r.s), .int .u64 (lo r.s), .int .i64 r.l, .int .i64 r.m]] w fun e w' =>
      e = .returned (.tuple #[.agg #[.int .i64 (TrydEndB r.n r.l).1, .int .i64 (TrydEndB r.n r.l).2, .string ⟨#[]⟩, .slice none 0 0, .slice none 0 0], .int .i64 0]) ∧ Below w.heap.size w w' := by
  have HER := Lib.hid (show redE r.ok = 0 by rw [hok]; rfl)
  have HCK := Lib.hid (fun W => Tryd_mCheck r W hl hm)
  have HCC := Lib.hid (fun W => Tryd_simple1 r.c r.n r.s r.l r.m W hn0)
  obtain ⟨a, ha⟩ : ∃ a, (TrydEndB r.n r.l).1 = a := ⟨_, rfl⟩
  obtain ⟨b, hb⟩ : ∃ b, (TrydEndB r.n r.l).2 = b := ⟨_, rfl⟩
  rw [ha, hb] at HCC ⊢
  clear hok hn0 ha hb
  go_enter Tryd.func15, Tryd.ntmps15
  go_wp2_with fail
  refine (HCK.out _).mono ?_; rintro e w1 ⟨rfl, hb1⟩; obtain ⟨hc1, hf1, hs1⟩ := after hb1
  simp at hs1
  have lt_w1_0_0 : w.heap.size < w1.heap.size := by omega
  have lt_w1_0_1 : w.heap.size < w1.heap.size + 1 := by omega
  have lt_w1_1_0 : w.heap.size + 1 < w1.heap.size := by omega
  have lt_w1_1_1 : w.heap.size + 1 < w1.heap.size + 1 := by omega
  rw [HER.out]
  go_wp2_with fail
  refine' wp_region_seq [.inr (TrydKinds w1.heap.size), .inl _, .inr (CellIs 6 7 (.func (.func 87) #[] #[])), .inr (CellIs 7 7 (.func (.func 87) #[] #[])), .inl _, .inl _, .inl _, .inl _, .inl _] (by kernel_rfl) (by kernel_rfl) ?main2
  case main2 =>
    refine wpParts_any rfl (Tryd_kinds_later _) (by rfl) (fun W hE hN => ?_) (fun u0 => ?_)
    · go_simp; refine ⟨Below.refl _ _, (Tryd_kinds _).mono ?_⟩; rintro e w' ⟨v, rfl, hb, g, cap, rfl, hg, hcell⟩; exact ⟨_, rfl, hb, g, cap, rfl, Nat.le_trans hE.size hg, hcell⟩
    simp only [Act.put, List.setIfInBounds_toArray, List.set_cons_zero, List.set_cons_succ]
    refine wpParts_det (by rfl) (fun W hE hN => ?_) ?_
    · go_simp; refine ⟨Below.refl _ _, ?_⟩; rfl
    simp only [Act.put, List.setIfInBounds_toArray, List.set_cons_zero, List.set_cons_succ]
    refine wpParts_any rfl (CellIs.later) (by rfl) (fun W hE hN => ?_) (fun u2 => ?_)
    · simp [near, Oper.looksAt, Op.operands] at hN; obtain ⟨g, cap, rfl, hg, hcell⟩ := hN; go_simp; exact ⟨Below.refl _ _, g, rfl, hcell 7 _ rfl⟩
    simp only [Act.put, List.setIfInBounds_toArray, List.set_cons_zero, List.set_cons_succ]
    refine wpParts_any rfl (CellIs.later) (by rfl) (fun W hE hN => ?_) (fun u3 => ?_)
    · simp [near, Oper.looksAt, Op.operands] at hN; obtain ⟨g, rfl, hcell⟩ := hN; go_simp; exact ⟨Below.refl _ _, g, rfl, hcell⟩
    simp only [Act.put, List.setIfInBounds_toArray, List.set_cons_zero, List.set_cons_succ]
    refine wpParts_det (by rfl) (fun W hE hN => ?_) ?_
    · simp [near, Oper.looksAt, Op.operands] at hN; obtain ⟨g, rfl, hcell⟩ := hN; go_simp; refine ⟨Below.refl _ _, ?_⟩; rfl
    simp only [Act.put, List.setIfInBounds_toArray, List.set_cons_zero, List.set_cons_succ]
    refine wpParts_det (by rfl) (fun W hE hN => ?_) ?_
    · have hc := fun b o h => hE.cell (p := ⟨b, o, none⟩) h
      go_simp; refine ⟨Below.refl _ _, ?_⟩; rfl
    simp only [Act.put, List.setIfInBounds_toArray, List.set_cons_zero, List.set_cons_succ]
    refine wpParts_det (by rfl) (fun W hE hN => ?_) ?_
    · go_simp; refine ⟨Below.refl _ _, ?_⟩; refine (HCC.out _).mono ?_; rintro e w' ⟨rfl, hb⟩; refine ⟨?_, hb⟩; rfl
    simp only [Act.put, List.setIfInBounds_toArray, List.set_cons_zero, List.set_cons_succ]
    refine wpParts_det (by rfl) (fun W hE hN => ?_) ?_
    · go_simp; refine ⟨Below.refl _ _, ?_⟩; rfl
    simp only [Act.put, List.setIfInBounds_toArray, List.set_cons_zero, List.set_cons_succ]
    refine wpParts_det (by rfl) (fun W hE hN => ?_) ?_
    · go_simp; refine ⟨Below.refl _ _, ?_⟩; rfl
    simp only [Act.put, List.setIfInBounds_toArray, List.set_cons_zero, List.set_cons_succ]
    refine wpParts_end fun W2 hE2 hG2 => ?_
    have hcW2 := fun b o h => hE2.cell (p := ⟨b, o, none⟩) h
    have hfW2 := fun b o h => hE2.frozen (p := ⟨b, o, none⟩) h
    have s2 := hE2.size
    try simp at s2
    have lt_W2_0_0 : w.heap.size < W2.heap.size := by omega
    have lt_W2_0_1 : w.heap.size < W2.heap.size + 1 := by omega
    have lt_W2_1_0 : w.heap.size + 1 < W2.heap.size := by omega
    have lt_W2_1_1 : w.heap.size + 1 < W2.heap.size + 1 := by omega
    go_wp2
    refine bodyPost_ret (v := .tuple #[.agg #[.int .i64 a, .int .i64 b, .string ⟨#[]⟩, .slice none 0 0, .slice none 0 0], .int .i64 0]) (by simp [results, Tryd.results15, go_sem, *]) rfl ⟨rfl, ?_⟩
    exact (by repeat (first | (with_reducible exact Below.refl _ _) | (with_reducible exact Below.refl _ _) | (with_reducible refine Below.setCell ?_ (by first | omega | (simp; done) | (simp; omega)) _) | (with_reducible refine Below.alloc ?_ (by first | omega | (simp; done) | (simp; omega)) _) | (with_reducible refine Below.drew ?_) | (with_reducible refine below_drewN ?_ _) | (with_reducible refine Below.trans ?_ (hE2.mono (by first | omega | (simp; done) | (simp; omega)))) | (with_reducible refine Below.trans ?_ (hb1.mono (by first | omega | (simp; done) | (simp; omega))))))

set_option maxRecDepth 8000 in
set_option maxHeartbeats 4000000 in
theorem Tryd_Tell4 (r : Red) (w : World) (hok : r.ok = true) (hl : I64 r.l) (hm : I64 r.m) (hn0 : 0 ≤ r.n) :
    Calls Tryd.prog 15 #[.int .i64 4, .agg #[.int .i64 r.c, .int .i64 r.n, .int .i64 (hi r.s), .int .u64 (lo r.s), .int .i64 r.l, .int .i64 r.m]] w fun e w' =>
      e = .returned (.tuple #[.agg #[.int .i64 (TrydEndB r.n r.m).1, .int .i64 (TrydEndB r.n r.m).2, .string ⟨#[]⟩, .slice none 0 0, .slice none 0 0], .int .i64 0]) ∧ Below w.heap.size w w' := by
  have HER := Lib.hid (show redE r.ok = 0 by rw [hok]; rfl)
  have HCK := Lib.hid (fun W => Tryd_mCheck r W hl hm)
  have HCC := Lib.hid (fun W => Tryd_simple2 r.c r.n r.s r.l r.m W hn0)
  obtain ⟨a, ha⟩ : ∃ a, (TrydEndB r.n r.m).1 = a := ⟨_, rfl⟩
  obtain ⟨b, hb⟩ : ∃ b, (TrydEndB r.n r.m).2 = b := ⟨_, rfl⟩
  rw [ha, hb] at HCC ⊢
  clear hok hn0 ha hb
  go_enter Tryd.func15, Tryd.ntmps15
  go_wp2_with fail
  refine (HCK.out _).mono ?_; rintro e w1 ⟨rfl, hb1⟩; obtain ⟨hc1, hf1, hs1⟩ := after hb1
  simp at hs1
  have lt_w1_0_0 : w.heap.size < w1.heap.size := by omega
  have lt_w1_0_1 : w.heap.size < w1.heap.size + 1 := by omega
  have lt_w1_1_0 : w.heap.size + 1 < w1.heap.size := by omega
  have lt_w1_1_1 : w.heap.size + 1 < w1.heap.size + 1 := by omega
  rw [HER.out]
  go_wp2_with fail
  refine' wp_region_seq [.inr (TrydKinds w1.heap.size), .inl _, .inr (CellIs 8 9 (.func (.func 89) #[] #[])), .inr (CellIs 9 9 (.func (.func 89) #[] #[])), .inl _, .inl _, .inl _, .inl _, .inl _] (by kernel_rfl) (by kernel_rfl) ?main3
  case main3 =>
    refine wpParts_any rfl (Tryd_kinds_later _) (by rfl) (fun W hE hN => ?_) (fun u0 => ?_)
    · go_simp; refine ⟨Below.refl _ _, (Tryd_kinds _).mono ?_⟩; rintro e w' ⟨v, rfl, hb, g, cap, rfl, hg, hcell⟩; exact ⟨_, rfl, hb, g, cap, rfl, Nat.le_trans hE.size hg, hcell⟩
    simp only [Act.put, List.setIfInBounds_toArray, List.set_cons_zero, List.set_cons_succ]
    refine wpParts_det (by rfl) (fun W hE hN => ?_) ?_
    · go_simp; refine ⟨Below.refl _ _, ?_⟩; rfl
    simp only [Act.put, List.setIfInBounds_toArray, List.set_cons_zero, List.set_cons_succ]
    refine wpParts_any rfl (CellIs.later) (by rfl) (fun W hE hN => ?_) (fun u2 => ?_)
    · simp [near, Oper.looksAt, Op.operands] at hN; obtain ⟨g, cap, rfl, hg, hcell⟩ := hN; go_simp; exact ⟨Below.refl _ _, g, rfl, hcell 9 _ rfl⟩
    simp only [Act.put, List.setIfInBounds_toArray, List.set_cons_zero, List.set_cons_succ]
    refine wpParts_any rfl (CellIs.later) (by rfl) (fun W hE hN => ?_) (fun u3 => ?_)
    · simp [near, Oper.looksAt, Op.operands] at hN; obtain ⟨g, rfl, hcell⟩ := hN; go_simp; exact ⟨Below.refl _ _, g, rfl, hcell⟩
    simp only [Act.put, List.setIfInBounds_toArray, List.set_cons_zero, List.set_cons_succ]
    refine wpParts_det (by rfl) (fun W hE hN => ?_) ?_
    · simp [near, Oper.looksAt, Op.operands] at hN; obtain ⟨g, rfl, hcell⟩ := hN; go_simp; refine ⟨Below.refl _ _, ?_⟩; rfl
    simp only [Act.put, List.setIfInBounds_toArray, List.set_cons_zero, List.set_cons_succ]
    refine wpParts_det (by rfl) (fun W hE hN => ?_) ?_
    · have hc := fun b o h => hE.cell (p := ⟨b, o, none⟩) h
      go_simp; refine ⟨Below.refl _ _, ?_⟩; rfl
    simp only [Act.put, List.setIfInBounds_toArray, List.set_cons_zero, List.set_cons_succ]
    refine wpParts_det (by rfl) (fun W hE hN => ?_) ?_
    · go_simp; refine ⟨Below.refl _ _, ?_⟩; refine (HCC.out _).mono ?_; rintro e w' ⟨rfl, hb⟩; refine ⟨?_, hb⟩; rfl
    simp only [Act.put, List.setIfInBounds_toArray, List.set_cons_zero, List.set_cons_succ]
    refine wpParts_det (by rfl) (fun W hE hN => ?_) ?_
    · go_simp; refine ⟨Below.refl _ _, ?_⟩; rfl
    simp only [Act.put, List.setIfInBounds_toArray, List.set_cons_zero, List.set_cons_succ]
    refine wpParts_det (by rfl) (fun W hE hN => ?_) ?_
    · go_simp; refine ⟨Below.refl _ _, ?_⟩; rfl
    simp only [Act.put, List.setIfInBounds_toArray, List.set_cons_zero, List.set_cons_succ]
    refine wpParts_end fun W2 hE2 hG2 => ?_
    have hcW2 := fun b o h => hE2.cell (p := ⟨b, o, none⟩) h
    have hfW2 := fun b o h => hE2.frozen (p := ⟨b, o, none⟩) h
    have s2 := hE2.size
    try simp at s2
    have lt_W2_0_0 : w.heap.size < W2.heap.size := by omega
    have lt_W2_0_1 : w.heap.size < W2.heap.size + 1 := by omega
    have lt_W2_1_0 : w.heap.size + 1 < W2.heap.size := by omega
    have lt_W2_1_1 : w.heap.size + 1 < W2.heap.size + 1 := by omega
    go_wp2
    refine bodyPost_ret (v := .tuple #[.agg #[.int .i64 a, .int .i64 b, .string ⟨#[]⟩, .slice none 0 0, .slice none 0 0], .int .i64 0]) (by simp [results, Tryd.results15, go_sem, *]) rfl ⟨rfl, ?_⟩
    exact (by repeat (first | (with_reducible exact Below.refl _ _) | (with_reducible exact Below.refl _ _) | (with_reducible refine Below.setCell ?_ (by first | omega | (simp; done) | (simp; omega)) _) | (with_reducible refine Below.alloc ?_ (by first | omega | (simp; done) | (simp; omega)) _) | (with_reducible refine Below.drew ?_) | (with_reducible refine below_drewN ?_ _) | (with_reducible refine Below.trans ?_ (hE2.mono (by first | omega | (simp; done) | (simp; omega)))) | (with_reducible refine Below.trans ?_ (hb1.mono (by first | omega | (simp; done) | (simp; omega))))))
end Go.Proofs.YtmcmknndhppljaaDoor

namespace Go.Dav
set_option linter.unusedVariables false
set_option linter.unusedSimpArgs false
open Go Go.RowKit
/-- A value with kids, in certain blocks. -/
def StatsIn (r : Red) (n : Nat) (v : Value) (W : World) : Prop := ∃ g cg q cq, v = .agg #[.int .i64 6, .int .i64 0, .string ⟨#[]⟩, .slice (some ⟨g, 0, none⟩) 5 cg, .slice (some ⟨q, 0, none⟩) 5 cq] ∧ n ≤ g ∧ n ≤ q ∧ ValAt W 2 v (statsV r)
theorem StatsIn.later {r : Red} {n : Nat} : ∀ v W W', StatsIn r n v W → Below W.heap.size W W' → StatsIn r n v W' := fun _ _ _ ⟨g, cg, q, cq, h1, h2, h3, h4⟩ hb => ⟨g, cg, q, cq, h1, h2, h3, ValAt.ext hb 2 h4⟩
def StatsTup (r : Red) (n : Nat) (v : Value) (W : World) : Prop := ∃ u, v = .tuple #[u, .int .i64 0] ∧ StatsIn r n u W
theorem StatsTup.later {r : Red} {n : Nat} : ∀ v W W', StatsTup r n v W → Below W.heap.size W W' → StatsTup r n v W' := fun _ _ _ ⟨u, h1, h2⟩ hb => ⟨u, h1, StatsIn.later _ _ _ h2 hb⟩
theorem leaf_keep {W W' : World} {d : Nat} {v : Value} {k n : Int} (h : ValAt W (d + 1) v (leafV d k n)) : ValAt W' (d + 1) v (leafV d k n) := by
  obtain ⟨ka, kl, kc, qa, ql, qc, hi⟩ := h
  refine ⟨ka, kl, kc, qa, ql, qc, ⟨hi.val, hi.hk, hi.hn, hi.hs, hi.hlen, hi.hcap, hi.hmax, hi.hfew, hi.hnil, fun i y hy => by simp [leafV, ValN.to] at hy, ⟨hi.keys.hlen, hi.keys.hcap, hi.keys.hmax, hi.keys.hfew, fun i y hy => by simp [leafV, ValN.to] at hy, hi.keys.hnil, hi.keys.hsz⟩⟩⟩
theorem stats_leaf {r : Red} {i : Nat} {y : ValN 1} (h : (statsV r).to.kids[i]? = some y) : ∃ k n, y = leafV 0 k n := by
  obtain ⟨k1, y1, e1, _⟩ := end_leaf 0 r.n r.m
  obtain ⟨k2, y2, e2, _⟩ := end_leaf 0 r.n r.l
  have h' : [leafV 0 3 r.c, leafV 0 k1 y1, leafV 0 k2 y2, leafV 0 3 r.n, leafV 0 3 (sg r.s)][i]? = some y := by
    rw [← e1, ← e2]; exact h
  have hi : i < 5 := by have := (List.getElem?_eq_some_iff.1 h').1; simpa using this
  rcases (by omega : i = 0 ∨ i = 1 ∨ i = 2 ∨ i = 3 ∨ i = 4) with rfl | rfl | rfl | rfl | rfl
  all_goals (cases h'; exact ⟨_, _, rfl⟩)
theorem StatsIn.keep {r : Red} {n p : Nat} {v : Value} {W W' : World} (h : StatsIn r n v W) (o : Only p W W') (hp : p < n) : StatsIn r n v W' := by
  obtain ⟨g, cg, q, cq, rfl, h2, h3, h4⟩ := h
  refine ⟨g, cg, q, cq, rfl, h2, h3, ?_⟩
  obtain ⟨ka, kl, kc, qa, ql, qc, hi⟩ := h4
  have hv := hi.val
  simp only [Value.agg.injEq, Array.mk.injEq, List.cons.injEq, Value.slice.injEq, and_true] at hv
  obtain ⟨_, _, _, ⟨rfl, rfl, rfl⟩, rfl, rfl, rfl⟩ := hv
  have hc : ∀ b i, b < W.heap.size → b ≠ p → W'.cell? ⟨b, i, none⟩ = W.cell? ⟨b, i, none⟩ := fun b i hb hne => World.cell?_of_block (o.block b hb hne)
  refine ⟨_, _, _, _, _, _, ⟨hi.val, hi.hk, hi.hn, hi.hs, hi.hlen, hi.hcap, hi.hmax, hi.hfew, hi.hnil, fun i y hy => ?_, ⟨hi.keys.hlen, hi.keys.hcap, hi.keys.hmax, hi.keys.hfew, fun i y hy => ?_, hi.keys.hnil, hi.keys.hsz⟩⟩⟩
  · obtain ⟨b, ob, u0, u1, u2, u3, u4, e, hb, c0, c1, c2, c3, c4, hR⟩ := hi.hkid i y hy
    cases e
    obtain ⟨k, m, rfl⟩ := stats_leaf hy
    have hk := fun j => hc g j hb (by omega)
    exact ⟨g, 0, u0, u1, u2, u3, u4, rfl, Nat.lt_of_lt_of_le hb o.size, (hk _).trans c0, (hk _).trans c1, (hk _).trans c2, (hk _).trans c3, (hk _).trans c4, leaf_keep hR⟩
  · obtain ⟨b, ob, e, hb, c⟩ := hi.keys.hat i y hy
    cases e
    exact ⟨q, 0, rfl, Nat.lt_of_lt_of_le hb o.size, (hc q _ hb (by omega)).trans c⟩
end Go.Dav
namespace Go.Proofs.YtmcmknndhppljaaDoor
set_option linter.unusedVariables false
set_option linter.unusedSimpArgs false
open Go.RowKit Go.Dav
attribute [local go_sem] Gives ite_val ite_val_true

set_option maxRecDepth 8000 in
set_option maxHeartbeats 8000000 in
theorem Tryd_Tell5y (r : Red) (w : World) (hok : r.ok = true) (hc : I64 r.c) (hni : I64 r.n) (hl : I64 r.l) (hm : I64 r.m) (hn0 : 0 ≤ r.n) (hf : fitsB r.s = true) :
    Calls Tryd.prog 15 #[.int .i64 5, .agg #[.int .i64 r.c, .int .i64 r.n, .int .i64 (hi r.s), .int .u64 (lo r.s), .int .i64 r.l, .int .i64 r.m]] w fun e w' => ToldTo 2 (statsV r) (.int .i64 0) e w' ∧ Below w.heap.size w w' := by
  have HER := Lib.hid (show redE r.ok = 0 by rw [hok]; rfl)
  have HCK := Lib.hid (fun W => Tryd_mCheck r W hl hm)
  have HCC := Lib.hid (fun W => Tryd_stats r W hc hni hn0 true hf hl hm)
  clear hok hn0 hc hni hl hm hf
  go_enter Tryd.func15, Tryd.ntmps15
  go_wp2_with fail
  refine (HCK.out _).mono ?_; rintro e w1 ⟨rfl, hb1⟩; obtain ⟨hc1, hf1, hs1⟩ := after hb1
  simp at hs1
  have lt_w1_0_0 : w.heap.size < w1.heap.size := by omega
  have lt_w1_0_1 : w.heap.size < w1.heap.size + 1 := by omega
  have lt_w1_1_0 : w.heap.size + 1 < w1.heap.size := by omega
  have lt_w1_1_1 : w.heap.size + 1 < w1.heap.size + 1 := by omega
  rw [HER.out]
  go_wp2_with fail
  refine' wp_region_seq [.inr (TrydKinds w1.heap.size), .inl _, .inr (CellIs 10 11 (.func (.func 72) #[] #[])), .inr (CellIs 11 11 (.func (.func 72) #[] #[])), .inl _, .inl _, .inr (StatsTup r w1.heap.size), .inr (StatsIn r w1.heap.size), .inl _] (by kernel_rfl) (by kernel_rfl) ?main1
  case main1 =>
    refine wpParts_any rfl (Tryd_kinds_later _) (by rfl) (fun W hE hN => ?_) (fun u0 => ?_)
    · go_simp; refine ⟨Below.refl _ _, (Tryd_kinds _).mono ?_⟩; rintro e w' ⟨v, rfl, hb, g, cap, rfl, hg, hcell⟩; exact ⟨_, rfl, hb, g, cap, rfl, Nat.le_trans hE.size hg, hcell⟩
    simp only [Act.put, List.setIfInBounds_toArray, List.set_cons_zero, List.set_cons_succ]
    refine wpParts_det (by rfl) (fun W hE hN => ?_) ?_
    · go_simp; refine ⟨Below.refl _ _, ?_⟩; rfl
    simp only [Act.put, List.setIfInBounds_toArray, List.set_cons_zero, List.set_cons_succ]
    refine wpParts_any rfl (CellIs.later) (by rfl) (fun W hE hN => ?_) (fun u2 => ?_)
    · simp [near, Oper.looksAt, Op.operands] at hN; obtain ⟨g, cap, rfl, hg, hcell⟩ := hN; go_simp; exact ⟨Below.refl _ _, g, rfl, hcell 11 _ rfl⟩
    simp only [Act.put, List.setIfInBounds_toArray, List.set_cons_zero, List.set_cons_succ]
    refine wpParts_any rfl (CellIs.later) (by rfl) (fun W hE hN => ?_) (fun u3 => ?_)
    · simp [near, Oper.looksAt, Op.operands] at hN; obtain ⟨g, rfl, hcell⟩ := hN; go_simp; exact ⟨Below.refl _ _, g, rfl, hcell⟩
    simp only [Act.put, List.setIfInBounds_toArray, List.set_cons_zero, List.set_cons_succ]
    refine wpParts_det (by rfl) (fun W hE hN => ?_) ?_
    · simp [near, Oper.looksAt, Op.operands] at hN; obtain ⟨g, rfl, hcell⟩ := hN; go_simp; refine ⟨Below.refl _ _, ?_⟩; rfl
    simp only [Act.put, List.setIfInBounds_toArray, List.set_cons_zero, List.set_cons_succ]
    refine wpParts_det (by rfl) (fun W hE hN => ?_) ?_
    · have hc := fun b o h => hE.cell (p := ⟨b, o, none⟩) h
      go_simp; refine ⟨Below.refl _ _, ?_⟩; rfl
    simp only [Act.put, List.setIfInBounds_toArray, List.set_cons_zero, List.set_cons_succ]
    refine wpParts_any rfl (StatsTup.later) (by rfl) (fun W hE hN => ?_) (fun u6 => ?_)
    · go_simp; refine ⟨Below.refl _ _, ?_⟩; refine (HCC.out _).mono ?_; rintro e w' ⟨hp, hb⟩; unfold TrydStatBack at hp; rw [if_pos rfl] at hp; obtain ⟨g, cg, q, cq, rfl, hg, hq, hu⟩ := hp; exact ⟨_, rfl, hb, _, rfl, g, cg, q, cq, rfl, Nat.le_trans hE.size hg, Nat.le_trans hE.size hq, hu⟩
    simp only [Act.put, List.setIfInBounds_toArray, List.set_cons_zero, List.set_cons_succ]
    refine wpParts_any rfl (StatsIn.later) (by rfl) (fun W hE hN => ?_) (fun u7 => ?_)
    · simp [near, Oper.looksAt, Op.operands] at hN; obtain ⟨u, rfl, hu⟩ := hN; go_simp; first | exact ⟨Below.refl _ _, hu⟩ | exact Below.refl _ _
    simp only [Act.put, List.setIfInBounds_toArray, List.set_cons_zero, List.set_cons_succ]
    refine wpParts_det (by rfl) (fun W hE hN => ?_) ?_
    · simp [near, Oper.looksAt, Op.operands] at hN; obtain ⟨u, rfl, hu⟩ := hN; go_simp; refine ⟨Below.refl _ _, ?_⟩; rfl
    simp only [Act.put, List.setIfInBounds_toArray, List.set_cons_zero, List.set_cons_succ]
    refine wpParts_end fun W2 hE2 hG2 => ?_
    have hcW2 := fun b o h => hE2.cell (p := ⟨b, o, none⟩) h
    have hfW2 := fun b o h => hE2.frozen (p := ⟨b, o, none⟩) h
    obtain ⟨hu, _⟩ := hG2
    have HU := Lib.hid hu
    obtain ⟨g, cg, q, cq, rfl, _⟩ := hu
    have s2 := hE2.size
    try simp at s2
    have lt_W2_0_0 : w.heap.size < W2.heap.size := by omega
    have lt_W2_0_1 : w.heap.size < W2.heap.size + 1 := by omega
    have lt_W2_1_0 : w.heap.size + 1 < W2.heap.size := by omega
    have lt_W2_1_1 : w.heap.size + 1 < W2.heap.size + 1 := by omega
    have hbel2 : Below w.heap.size w W2 := (by repeat (first | (with_reducible exact Below.refl _ _) | (with_reducible exact Below.refl _ _) | (with_reducible refine Below.setCell ?_ (by first | omega | (simp; done) | (simp; omega)) _) | (with_reducible refine Below.alloc ?_ (by first | omega | (simp; done) | (simp; omega)) _) | (with_reducible refine Below.drew ?_) | (with_reducible refine below_drewN ?_ _) | (with_reducible refine Below.trans ?_ (hE2.mono (by first | omega | (simp; done) | (simp; omega)))) | (with_reducible refine Below.trans ?_ (hb1.mono (by first | omega | (simp; done) | (simp; omega))))))
    have HB2 := Lib.hid hbel2
    clear hbel2
    go_wp2
    have o := Only.fiveV W2 (w.heap.size + 1) (.int .i64 6) (.int .i64 0) (.string ⟨#[]⟩) (.slice (some ⟨g, 0, none⟩) 5 cg) (.slice (some ⟨q, 0, none⟩) 5 cq)
    have HV := Lib.hid (HU.out.keep o (by omega))
    have HB9 := Lib.hid (below_only HB2.out o (by omega) (by omega))
    clear o
    refine bodyPost_ret (v := .tuple #[.agg #[.int .i64 6, .int .i64 0, .string ⟨#[]⟩, .slice (some ⟨g, 0, none⟩) 5 cg, .slice (some ⟨q, 0, none⟩) 5 cq], .int .i64 0]) (by simp [results, Tryd.results15, go_sem, *]) rfl ⟨⟨_, rfl, ?_⟩, HB9.out⟩
    obtain ⟨_, _, _, _, _, _, _, h4⟩ := HV.out
    exact h4

set_option maxRecDepth 8000 in
set_option maxHeartbeats 8000000 in
theorem Tryd_Tell5n (r : Red) (w : World) (hok : r.ok = true) (hc : I64 r.c) (hni : I64 r.n) (hl : I64 r.l) (hm : I64 r.m) (hn0 : 0 ≤ r.n) (hf : fitsB r.s = false) :
    Calls Tryd.prog 15 #[.int .i64 5, .agg #[.int .i64 r.c, .int .i64 r.n, .int .i64 (hi r.s), .int .u64 (lo r.s), .int .i64 r.l, .int .i64 r.m]] w fun e w' => e = .returned (.tuple #[.agg #[.int .i64 0, .int .i64 0, .string ⟨#[]⟩, .slice none 0 0, .slice none 0 0], .int .i64 5]) ∧ Below w.heap.size w w' := by
  have HER := Lib.hid (show redE r.ok = 0 by rw [hok]; rfl)
  have HCK := Lib.hid (fun W => Tryd_mCheck r W hl hm)
  have HCC := Lib.hid (fun W => Tryd_stats r W hc hni hn0 false hf hl hm)
  clear hok hn0 hc hni hl hm hf
  go_enter Tryd.func15, Tryd.ntmps15
  go_wp2_with fail
  refine (HCK.out _).mono ?_; rintro e w1 ⟨rfl, hb1⟩; obtain ⟨hc1, hf1, hs1⟩ := after hb1
  simp at hs1
  have lt_w1_0_0 : w.heap.size < w1.heap.size := by omega
  have lt_w1_0_1 : w.heap.size < w1.heap.size + 1 := by omega
  have lt_w1_1_0 : w.heap.size + 1 < w1.heap.size := by omega
  have lt_w1_1_1 : w.heap.size + 1 < w1.heap.size + 1 := by omega
  rw [HER.out]
  go_wp2_with fail
  refine' wp_region_seq [.inr (TrydKinds w1.heap.size), .inl _, .inr (CellIs 10 11 (.func (.func 72) #[] #[])), .inr (CellIs 11 11 (.func (.func 72) #[] #[])), .inl _, .inl _, .inl _, .inl _, .inl _] (by kernel_rfl) (by kernel_rfl) ?main2
  case main2 =>
    refine wpParts_any rfl (Tryd_kinds_later _) (by rfl) (fun W hE hN => ?_) (fun u0 => ?_)
    · go_simp; refine ⟨Below.refl _ _, (Tryd_kinds _).mono ?_⟩; rintro e w' ⟨v, rfl, hb, g, cap, rfl, hg, hcell⟩; exact ⟨_, rfl, hb, g, cap, rfl, Nat.le_trans hE.size hg, hcell⟩
    simp only [Act.put, List.setIfInBounds_toArray, List.set_cons_zero, List.set_cons_succ]
    refine wpParts_det (by rfl) (fun W hE hN => ?_) ?_
    · go_simp; refine ⟨Below.refl _ _, ?_⟩; rfl
    simp only [Act.put, List.setIfInBounds_toArray, List.set_cons_zero, List.set_cons_succ]
    refine wpParts_any rfl (CellIs.later) (by rfl) (fun W hE hN => ?_) (fun u2 => ?_)
    · simp [near, Oper.looksAt, Op.operands] at hN; obtain ⟨g, cap, rfl, hg, hcell⟩ := hN; go_simp; exact ⟨Below.refl _ _, g, rfl, hcell 11 _ rfl⟩
    simp only [Act.put, List.setIfInBounds_toArray, List.set_cons_zero, List.set_cons_succ]
    refine wpParts_any rfl (CellIs.later) (by rfl) (fun W hE hN => ?_) (fun u3 => ?_)
    · simp [near, Oper.looksAt, Op.operands] at hN; obtain ⟨g, rfl, hcell⟩ := hN; go_simp; exact ⟨Below.refl _ _, g, rfl, hcell⟩
    simp only [Act.put, List.setIfInBounds_toArray, List.set_cons_zero, List.set_cons_succ]
    refine wpParts_det (by rfl) (fun W hE hN => ?_) ?_
    · simp [near, Oper.looksAt, Op.operands] at hN; obtain ⟨g, rfl, hcell⟩ := hN; go_simp; refine ⟨Below.refl _ _, ?_⟩; rfl
    simp only [Act.put, List.setIfInBounds_toArray, List.set_cons_zero, List.set_cons_succ]
    refine wpParts_det (by rfl) (fun W hE hN => ?_) ?_
    · have hc := fun b o h => hE.cell (p := ⟨b, o, none⟩) h
      go_simp; refine ⟨Below.refl _ _, ?_⟩; rfl
    simp only [Act.put, List.setIfInBounds_toArray, List.set_cons_zero, List.set_cons_succ]
    refine wpParts_det (by rfl) (fun W hE hN => ?_) ?_
    · go_simp; refine ⟨Below.refl _ _, ?_⟩; refine (HCC.out _).mono ?_; rintro e w' ⟨hp, hb⟩; unfold TrydStatBack at hp; rw [if_neg (by decide)] at hp; subst hp; refine ⟨?_, hb⟩; rfl
    simp only [Act.put, List.setIfInBounds_toArray, List.set_cons_zero, List.set_cons_succ]
    refine wpParts_det (by rfl) (fun W hE hN => ?_) ?_
    · go_simp; refine ⟨Below.refl _ _, ?_⟩; rfl
    simp only [Act.put, List.setIfInBounds_toArray, List.set_cons_zero, List.set_cons_succ]
    refine wpParts_det (by rfl) (fun W hE hN => ?_) ?_
    · go_simp; refine ⟨Below.refl _ _, ?_⟩; rfl
    simp only [Act.put, List.setIfInBounds_toArray, List.set_cons_zero, List.set_cons_succ]
    refine wpParts_end fun W2 hE2 hG2 => ?_
    have hcW2 := fun b o h => hE2.cell (p := ⟨b, o, none⟩) h
    have hfW2 := fun b o h => hE2.frozen (p := ⟨b, o, none⟩) h
    have s2 := hE2.size
    try simp at s2
    have lt_W2_0_0 : w.heap.size < W2.heap.size := by omega
    have lt_W2_0_1 : w.heap.size < W2.heap.size + 1 := by omega
    have lt_W2_1_0 : w.heap.size + 1 < W2.heap.size := by omega
    have lt_W2_1_1 : w.heap.size + 1 < W2.heap.size + 1 := by omega
    go_wp2
    refine bodyPost_ret (v := .tuple #[.agg #[.int .i64 0, .int .i64 0, .string ⟨#[]⟩, .slice none 0 0, .slice none 0 0], .int .i64 5]) (by simp [results, Tryd.results15, go_sem, *]) rfl ⟨rfl, ?_⟩
    exact (by repeat (first | (with_reducible exact Below.refl _ _) | (with_reducible exact Below.refl _ _) | (with_reducible refine Below.setCell ?_ (by first | omega | (simp; done) | (simp; omega)) _) | (with_reducible refine Below.alloc ?_ (by first | omega | (simp; done) | (simp; omega)) _) | (with_reducible refine Below.drew ?_) | (with_reducible refine below_drewN ?_ _) | (with_reducible refine Below.trans ?_ (hE2.mono (by first | omega | (simp; done) | (simp; omega)))) | (with_reducible refine Below.trans ?_ (hb1.mono (by first | omega | (simp; done) | (simp; omega))))))

/-- The kinds' names. -/
def TrydNames : List Value := [.string ⟨#[95, 99, 111, 117, 110, 116]⟩, .string ⟨#[95, 115, 117, 109]⟩, .string ⟨#[95, 109, 105, 110]⟩, .string ⟨#[95, 109, 97, 120]⟩, .string ⟨#[95, 115, 116, 97, 116, 115]⟩]
end Go.Proofs.YtmcmknndhppljaaDoor

namespace Go.Dav
set_option linter.unusedVariables false
set_option linter.unusedSimpArgs false
open Go Go.RowKit
/-- What Tell tells, and its error. -/
def toldX (k : Int) (r : Red) : ValN 2 := if r.ok = false ∨ k < 1 ∨ 5 < k ∨ overB k r = true then leafV 1 0 0 else tellV k.toNat r
def toldE (k : Int) (r : Red) : Int := if r.ok = false then 230 else if k < 1 ∨ 5 < k then 2 else if overB k r = true then 5 else 0
end Go.Dav
namespace Go.Proofs.YtmcmknndhppljaaDoor
set_option linter.unusedVariables false
set_option linter.unusedSimpArgs false
open Go.RowKit Go.Dav
attribute [local go_sem] Gives ite_val ite_val_true

theorem Tryd_TellAll (k : Int) (r : Red) (w : World) (hf : r.fits) :
    Calls Tryd.prog 15 #[.int .i64 k, .agg #[.int .i64 r.c, .int .i64 r.n, .int .i64 (hi r.s), .int .u64 (lo r.s), .int .i64 r.l, .int .i64 r.m]] w fun e w' => ToldTo 2 (toldX k r) (.int .i64 (toldE k r)) e w' ∧ Below w.heap.size w w' := by
  obtain ⟨hc, hn, hl, hm⟩ := hf
  have hz : ∀ W, ValAt W 2 (.agg #[.int .i64 0, .int .i64 0, .string ⟨#[]⟩, .slice none 0 0, .slice none 0 0]) (leafV 1 0 0) := fun W => leaf_at W 1 (by unfold I64'; omega) (by unfold I64'; omega)
  cases hok : r.ok with
  | false =>
    have hx : toldX k r = leafV 1 0 0 := by unfold toldX; rw [if_pos (.inl hok)]
    have he : toldE k r = 230 := by unfold toldE; rw [if_pos hok]
    rw [hx, he]
    refine (Tryd_Tell_no k r w hl hm (.inl hok)).mono ?_; rintro e w' ⟨rfl, hb⟩
    rw [if_pos hok]
    exact ⟨⟨_, rfl, hz _⟩, hb⟩
  | true =>
    by_cases hk : k < 1 ∨ 5 < k
    · have hx : toldX k r = leafV 1 0 0 := by unfold toldX; rw [if_pos (.inr (by rcases hk with h | h; exact .inl h; exact .inr (.inl h)))]
      have he : toldE k r = 2 := by unfold toldE; rw [if_neg (by rw [hok]; decide), if_pos hk]
      rw [hx, he]
      refine (Tryd_Tell_no k r w hl hm (.inr hk)).mono ?_; rintro e w' ⟨rfl, hb⟩
      rw [if_neg (by rw [hok]; decide)]
      exact ⟨⟨_, rfl, hz _⟩, hb⟩
    · have hn0 := (Red.ok_spec hok).1
      have hk1 : 1 ≤ k ∧ k ≤ 5 := by omega
      cases ho : overB k r with
      | true =>
        have hx : toldX k r = leafV 1 0 0 := by unfold toldX; rw [if_pos (.inr (.inr (.inr ho)))]
        have he : toldE k r = 5 := by unfold toldE; rw [if_neg (by rw [hok]; decide), if_neg hk, if_pos ho]
        rw [hx, he]
        unfold overB at ho
        simp only [Bool.and_eq_true, Bool.or_eq_true, decide_eq_true_eq, Bool.not_eq_true'] at ho
        rcases ho.1 with rfl | rfl
        · refine (Tryd_Tell_sum_no r w hok hl hm ho.2).mono ?_; rintro e w' ⟨rfl, hb⟩
          exact ⟨⟨_, rfl, hz _⟩, hb⟩
        · refine (Tryd_Tell5n r w hok hc hn hl hm hn0 ho.2).mono ?_; rintro e w' ⟨rfl, hb⟩
          exact ⟨⟨_, rfl, hz _⟩, hb⟩
      | false =>
        have hx : toldX k r = tellV k.toNat r := by unfold toldX; rw [if_neg (fun h => by rcases h with h | h | h | h; (rw [hok] at h; cases h); exact hk (.inl h); exact hk (.inr h); (rw [ho] at h; cases h))]
        have he : toldE k r = 0 := by unfold toldE; rw [if_neg (by rw [hok]; decide), if_neg hk, if_neg (by rw [ho]; decide)]
        rw [hx, he]
        have hfit : (k = 2 ∨ k = 5) → fitsB r.s = true := fun h => by
          unfold overB at ho
          cases hfb : fitsB r.s with
          | true => rfl
          | false => rw [hfb] at ho; simp at ho; omega
        have hend : ∀ x, endV 1 r.n x = leafV 1 (TrydEndB r.n x).1 (TrydEndB r.n x).2 := fun x => by unfold endV TrydEndB; split <;> rfl
        have hI : ∀ x, I64 x → I64' (TrydEndB r.n x).1 ∧ I64' (TrydEndB r.n x).2 := fun x h => by unfold TrydEndB; unfold I64 at h; unfold I64'; split <;> (dsimp only; omega)
        rcases (by omega : k = 1 ∨ k = 2 ∨ k = 3 ∨ k = 4 ∨ k = 5) with rfl | rfl | rfl | rfl | rfl
        · refine (Tryd_Tell1 r w hok hl hm hn0).mono ?_; rintro e w' ⟨rfl, hb⟩
          exact ⟨⟨_, rfl, leaf_at _ 1 (by unfold I64'; omega) hc.v⟩, hb⟩
        · have hf := hfit (.inl rfl)
          refine (Tryd_Tell_sum_yes r w hok hl hm hf).mono ?_; rintro e w' ⟨rfl, hb⟩
          exact ⟨⟨_, rfl, leaf_at _ 1 (by unfold I64'; omega) (by unfold fitsB at hf; rw [decide_eq_true_eq] at hf; unfold I64'; omega)⟩, hb⟩
        · refine (Tryd_Tell3 r w hok hl hm hn0).mono ?_; rintro e w' ⟨rfl, hb⟩
          refine ⟨⟨_, rfl, ?_⟩, hb⟩
          rw [show tellV (3 : Int).toNat r = endV 1 r.n r.l from rfl, hend]
          exact leaf_at _ 1 (hI _ hl).1 (hI _ hl).2
        · refine (Tryd_Tell4 r w hok hl hm hn0).mono ?_; rintro e w' ⟨rfl, hb⟩
          refine ⟨⟨_, rfl, ?_⟩, hb⟩
          rw [show tellV (4 : Int).toNat r = endV 1 r.n r.m from rfl, hend]
          exact leaf_at _ 1 (hI _ hm).1 (hI _ hm).2
        · exact (Tryd_Tell5y r w hok hc hn hl hm hn0 (hfit (.inr rfl))).mono fun e w' h => h
end Go.Proofs.YtmcmknndhppljaaDoor

namespace Go.Dav
set_option linter.unusedVariables false
set_option linter.unusedSimpArgs false
open Go Go.RowKit
/-- The second is the first, turned. -/
structure Mirror (A B : Red) : Prop where
  c : B.c = A.c
  n : B.n = A.n
  s : B.s = -A.s
  l : B.l = -A.m
  m : B.m = -A.l
  pos : 0 ≤ A.n
theorem Mirror.zero : Mirror Red.zero Red.zero := ⟨rfl, rfl, by simp [Red.zero], by simp [Red.zero], by simp [Red.zero], by simp [Red.zero]⟩
theorem Mirror.one {A B : Red} (h : Mirror A B) (y : Int) : Mirror (A.both (rowRed true y)) (B.both (rowRed true (-y))) := by
  obtain ⟨h1, h2, h3, h4, h5, h6⟩ := h
  have e1 : ∀ (r : Red) (z : Int), r.both (rowRed true z) = ⟨r.c + 1, r.n + 1, r.s + z, if 0 < r.n then min r.l z else z, if 0 < r.n then max r.m z else z⟩ := fun r z => by
    simp [Red.both, rowRed, bothN, bothS, bothL, bothM]
  rw [e1, e1]
  refine ⟨?_, ?_, ?_, ?_, ?_, ?_⟩
  · show B.c + 1 = A.c + 1; omega
  · show B.n + 1 = A.n + 1; omega
  · show B.s + -y = -(A.s + y); omega
  · show (if 0 < B.n then min B.l (-y) else -y) = -(if 0 < A.n then max A.m y else y)
    rw [h2]; split <;> omega
  · show (if 0 < B.n then max B.m (-y) else -y) = -(if 0 < A.n then min A.l y else y)
    rw [h2]; split <;> omega
  · show 0 ≤ A.n + 1; omega
theorem Mirror.all : ∀ (ys : List Int) (A B : Red), Mirror A B → Mirror ((ys.map (rowRed true)).foldl Red.both A) ((ys.map (fun y => rowRed true (-y))).foldl Red.both B)
  | [], _, _, h => h
  | y :: ys, A, B, h => Mirror.all ys _ _ (h.one y)
theorem mirror_redAll (ys : List Int) : Mirror (redAll (ys.map (rowRed true))) (redAll (ys.map (fun y => rowRed true (-y)))) := Mirror.all ys _ _ Mirror.zero
/-- Both joined: the sum is 0, the least is the greatest, turned. -/
theorem Mirror.both {A B : Red} (h : Mirror A B) (g : A.good) : (A.both B).s = 0 ∧ (A.both B).l = -(A.both B).m := by
  obtain ⟨h1, h2, h3, h4, h5, h6⟩ := h
  simp only [Red.both, bothS, bothL, bothM]
  by_cases h0 : B.n = 0
  · obtain ⟨z1, z2, z3⟩ := g.none (by omega)
    rw [if_pos h0, if_pos h0, if_pos h0, z1, z2, z3]; simp
  · rw [if_neg h0, if_neg h0, if_neg h0, if_pos (by omega), if_pos (by omega)]
    constructor <;> omega
theorem leaf_sameV (k : Int) (n : Int) (d e : Nat) (h : k = 3 ∨ (k = 1 ∧ n = 0)) : sameV (d + 1) (e + 1) (leafV d k n) (leafV e k n) = true := by
  have h1 : ∀ d, rightV (d + 1) (leafV d k n) = true := fun d => by unfold rightV; rw [leaf_within d 8 256 h (by omega)]; decide
  unfold sameV
  rw [h1, h1, Bool.true_and, Bool.true_and]
  show (decide (k = k) && (decide (n = n) && (noStr.toList == noStr.toList && (decide (([] : List (ValN d)).length = ([] : List (ValN e)).length) && oneL (oneV d e) k ([] : List (ValN d)) ([] : List (ValN e)) [] [])))) = true
  simp [oneL]
/-- Numbers, one behind the other. -/
def IntsAt (W : World) (B : Nat) (k : IntKind) (a : Option Addr) (l : List Int) : Prop :=
  ∀ i x, l[i]? = some x → ∃ b o, a = some ⟨b, o, none⟩ ∧ b < B ∧ W.cell? ⟨b, o + i, none⟩ = some (.int k x)
end Go.Dav
namespace Go.Proofs.YtmcmknndhppljaaDoor
set_option linter.unusedVariables false
set_option linter.unusedSimpArgs false
open Go.RowKit Go.Dav
attribute [local go_sem] Gives ite_val ite_val_true

/-- A row that has a number alone. -/
def TrydNum (y : Int) : TrydRow := ⟨none, 0, 0, none, 0, 0, true, y⟩
theorem TrydNum_cells (y : Int) : (TrydNum y).cells = [.slice none 0 0, .slice none 0 0, .bool true, .int .i64 y] := rfl
theorem Tryd_infoItem : (Tryd.prog.info? 27).map (fun i => (i.zero, i.size, i.bytes)) = some (some (.agg #[.slice none 0 0, .slice none 0 0, .bool false, .int .i64 0]), 4, 64) := by kernel_rfl
/-- Rows in a slice that was made above B. -/
theorem Tryd_rows_own {w : World} {B e n : Nat} {v : Value} {l : List TrydRow} (h : w.ownsRow B e 4 v n (l.flatMap TrydRow.cells)) : ∃ a c, v = .slice a n c ∧ TrydRowsIn w w.heap.size a l := by
  rcases h.2 with ⟨rfl, rfl⟩ | ⟨g, cap, cur, rfl, hb, hg, hnc, hcm, hcs, htake⟩
  · have h0 := h.1
    have : l = [] := by
      cases l with
      | nil => rfl
      | cons r l => simp [TrydRow.cells] at h0
    subst this
    exact ⟨none, 0, rfl, fun k r hk => by simp at hk⟩
  · refine ⟨_, cap, rfl, fun k r hk => ⟨g, 0, rfl, (Array.getElem?_eq_some_iff.1 hg).1, fun j v hj => ?_⟩⟩
    have hx : (l.flatMap TrydRow.cells)[k * 4 + j]? = some v := by
      have hgen : ∀ (l : List TrydRow) (k : Nat), l[k]? = some r → (l.flatMap TrydRow.cells)[k * 4 + j]? = some v := by
        intro l
        have hj4 : j < 4 := by have := (List.getElem?_eq_some_iff.1 hj).1; simpa [TrydRow.cells] using this
        induction l with
        | nil => intro k hk; simp at hk
        | cons s l ih =>
          intro k hk
          rw [List.flatMap_cons]
          have hs : s.cells.length = 4 := rfl
          cases k with
          | zero =>
            simp only [List.getElem?_cons_zero, Option.some.injEq] at hk
            subst hk
            rw [List.getElem?_append_left (by rw [hs]; omega), Nat.zero_mul, Nat.zero_add]; exact hj
          | succ k =>
            rw [List.getElem?_append_right (by rw [hs]; omega), hs, show (k + 1) * 4 + j - 4 = k * 4 + j by omega]
            exact ih k (by simpa using hk)
      exact hgen l k hk
    have := h.cells (g := g) rfl (k * 4 + j) v hx
    rw [Addr.add_mid] at this
    rw [show 0 + k * 4 + j = 0 + (k * 4 + j) by omega]
    exact this
theorem TrydSum_nums (ys : List Int) {n : Nat} (h : ys.length = n) : TrydSum (ys.map TrydNum) n = redAll (ys.map (rowRed true)) := by
  unfold TrydSum
  rw [List.take_of_length_le (by simp; omega), List.map_map]
  rfl
theorem Tryd_news_row {W : World} {q : Nat} {y : Int} {t : TypeId} (h : Blk W q [.slice none 0 0, .slice none 0 0, .bool true, .int .i64 y] t) : ∀ j u, [Value.slice none 0 0, .slice none 0 0, .bool true, .int .i64 y][j]? = some u → W.cell? ((⟨q, 0, none⟩ : Addr).add j) = some u := fun j u hj => by
  rw [Addr.add_mid, Nat.zero_add, h.cells j, hj]
end Go.Proofs.YtmcmknndhppljaaDoor
