/-
  Layer 14: several items read, walked.
  Layer 14: several kids read, walked.
-/
import Derived.Test.YtfhhcpolicdfpaaNdH
import Derived.Test.YtfhhcpolicdfpaaNdJ
namespace Go.Dav
set_option linter.unusedVariables false
set_option linter.unusedSimpArgs false
open Go Go.RowKit
def sevI : Nat → List ItemD → TkSt → List ItemD × TkSt × Bool
  | 0, acc, s => (acc, s, true)
  | k + 1, acc, s => if (rdItemS s).ok then sevI k (acc ++ [rdItem s]) (rdItemS s) else (acc, rdItemS s, false)
/-- The cells of items. -/
def ItemCells (W : World) (S : Nat → Prop) (cs : List Value) (L : List ItemD) : Prop :=
  cs.length = L.length * 4 ∧ ∀ (k : Nat) (x : ItemD), L[k]? = some x → ∃ ka kl kc va vl vc, cs[k * 4]? = some (.slice ka kl kc) ∧ cs[k * 4 + 1]? = some (.slice va vl vc) ∧ cs[k * 4 + 2]? = some (.bool x.int) ∧ cs[k * 4 + 3]? = some (.int .i64 x.n) ∧ BytesS W S ka kl kc x.key ∧ BytesS W S va vl vc x.value ∧ I64' x.n
theorem ItemCells.same {W W' : World} {S : Nat → Prop} {cs : List Value} {L : List ItemD} (h : ItemCells W S cs L) (hs : W.heap.size ≤ W'.heap.size) (hb : ∀ b, S b → b < W.heap.size → W'.heap[b]? = W.heap[b]?) : ItemCells W' S cs L :=
  ⟨h.1, fun k x hx => by obtain ⟨ka, kl, kc, va, vl, vc, c0, c1, c2, c3, h1, h2, h3⟩ := h.2 k x hx; exact ⟨ka, kl, kc, va, vl, vc, c0, c1, c2, c3, h1.same hs hb, h2.same hs hb, h3⟩⟩
theorem ItemCells.nil {W : World} {S : Nat → Prop} : ItemCells W S [] [] := ⟨rfl, fun k x h => by simp at h⟩
theorem ItemCells.snoc {W : World} {S : Nat → Prop} {cs : List Value} {L : List ItemD} {x : ItemD} {ka va : Option Addr} {kl kc vl vc : Nat} (h : ItemCells W S cs L) (h1 : BytesS W S ka kl kc x.key) (h2 : BytesS W S va vl vc x.value) (h3 : I64' x.n) : ItemCells W S (cs ++ [.slice ka kl kc, .slice va vl vc, .bool x.int, .int .i64 x.n]) (L ++ [x]) := by
  refine ⟨by simp [h.1]; omega, fun k y hy => ?_⟩
  by_cases hk : k < L.length
  · rw [List.getElem?_append_left hk] at hy
    obtain ⟨ka, kl, kc, va, vl, vc, c0, c1, c2, c3, g1, g2, g3⟩ := h.2 k y hy
    have hl := h.1
    exact ⟨ka, kl, kc, va, vl, vc, by rw [List.getElem?_append_left (by omega)]; exact c0, by rw [List.getElem?_append_left (by omega)]; exact c1, by rw [List.getElem?_append_left (by omega)]; exact c2, by rw [List.getElem?_append_left (by omega)]; exact c3, g1, g2, g3⟩
  · have hl := (List.getElem?_eq_some_iff.1 hy).1
    simp at hl
    obtain rfl : k = L.length := by omega
    rw [List.getElem?_append_right (Nat.le_refl _), Nat.sub_self] at hy
    obtain rfl : x = y := by simpa using hy
    have hl := h.1
    exact ⟨ka, kl, kc, va, vl, vc, by rw [List.getElem?_append_right (by omega), show L.length * 4 - cs.length = 0 by omega]; rfl, by rw [List.getElem?_append_right (by omega), show L.length * 4 + 1 - cs.length = 1 by omega]; rfl, by rw [List.getElem?_append_right (by omega), show L.length * 4 + 2 - cs.length = 2 by omega]; rfl, by rw [List.getElem?_append_right (by omega), show L.length * 4 + 3 - cs.length = 3 by omega]; rfl, h1, h2, h3⟩
theorem ItemCells.shut {W : World} {S : Nat → Prop} {cs : List Value} {L : List ItemD} {e base n : Nat} {v : Value} (h : ItemCells W S cs L) (ho : W.ownsRow base e 4 v n cs) (hn : n ≤ 1000000) : ∃ a c, v = .slice a n c ∧ ItemsS W (fun b => S b ∨ base ≤ b) a n c L := by
  have hln : L.length = n := by have := ho.1; have := h.1; omega
  rcases ho.2 with ⟨h1, h2⟩ | ⟨g, cap, cur, hv, hg, hh, hc, hm, _⟩
  · subst h2
    have : L = [] := List.length_eq_zero_iff.1 hln
    subst this
    exact ⟨none, 0, h1, ⟨rfl, Nat.le_refl _, by unfold maxLen; omega, by omega, fun k x hx => by simp at hx, fun _ => rfl⟩⟩
  · refine ⟨some ⟨g, 0, none⟩, cap, hv, ⟨hln, hc, hm, by omega, fun k x hx => ?_, fun h => by cases h⟩⟩
    obtain ⟨ka, kl, kc, va, vl, vc, c0, c1, c2, c3, g1, g2, g3⟩ := h.2 k x hx
    have hcell := fun j u hu => ho.cells (g := g) (by rw [hv]; rfl) j u hu
    have e : ∀ j, (⟨g, 0, none⟩ : Addr).add j = ⟨g, 0 + j, none⟩ := fun j => Addr.add_mid g 0 j
    have hlt := (Array.getElem?_eq_some_iff.1 hh).1
    have r := fun j u hu => (show W.cell? ⟨g, 0 + j, none⟩ = some u by rw [← e]; exact hcell j u hu)
    exact ⟨g, 0, ka, kl, kc, va, vl, vc, rfl, hlt, .inr hg, r _ _ c0, by have := r _ _ c1; rwa [Nat.add_assoc] , by have := r _ _ c2; rwa [Nat.add_assoc], by have := r _ _ c3; rwa [Nat.add_assoc], g1.mono fun b hb => .inl hb, g2.mono fun b hb => .inl hb, g3⟩
theorem OnlyS.grown {p : Nat → Prop} {w W W' : World} {base e size n : Nat} {v : Value} {xs : List Value} (h : OnlyS p w W) (ho : W.ownsRow base e size v n xs) (hb : w.heap.size ≤ base) (hg : W.grownBy W' v.ownBlock) : OnlyS p w W' :=
  ⟨hg.os.trans h.os, hg.tape.trans h.tape, hg.output.trans h.output, Nat.le_trans h.size hg.size, fun k hk hn => (hg.block k (Nat.lt_of_lt_of_le hk h.size) (fun e => by have := (ho.lt k e.symm).1; omega)).trans (h.block k hk hn)⟩
theorem ownsRow_onlyS {p : Nat → Prop} {W W' : World} {base e size n : Nat} {v : Value} {xs : List Value} (h : W.ownsRow base e size v n xs) (ho : OnlyS p W W') (hp : ∀ b, p b → b < base) : W'.ownsRow base e size v n xs := by
  refine ⟨h.1, ?_⟩
  rcases h.2 with h2 | ⟨g, cap, cur, h1, h2, h3, h4⟩
  · exact .inl h2
  · exact .inr ⟨g, cap, cur, h1, h2, (ho.block g (Array.getElem?_eq_some_iff.1 h3).1 (fun hpg => by have := hp g hpg; omega)).trans h3, h4⟩
theorem ownsRow_keep {W W' : World} {base e size n : Nat} {v : Value} {xs : List Value} (h : W.ownsRow base e size v n xs) (hk : ∀ k, v.ownBlock = some k → W'.heap[k]? = W.heap[k]?) : W'.ownsRow base e size v n xs := by
  refine ⟨h.1, ?_⟩
  rcases h.2 with h2 | ⟨g, cap, cur, h1, h2, h3, h4⟩
  · exact .inl h2
  · exact .inr ⟨g, cap, cur, h1, h2, (hk g (by rw [h1]; rfl)).trans h3, h4⟩
theorem StAt.below {tb tq : TypeId} {W W' : World} {S : Nat → Prop} {pR pO B : Nat} {s : TkSt} (h : StAt tb tq W S pR pO s) (hb : Below B W W') (h1 : pR < B) (h2 : pO < B) (h3 : ∀ b, S b → b < B) : StAt tb tq W' S pR pO s :=
  ⟨h.hR.below hb h1, h.hO.below hb h2, h.hB.same hb.size fun b hs _ => hb.block b (h3 b hs), h.hf⟩
theorem StAt.only_ {tb tq : TypeId} {W W' : World} {S p : Nat → Prop} {pR pO : Nat} {s : TkSt} (h : StAt tb tq W S pR pO s) (ho : OnlyS p W W') (h1 : ¬ p pR) (h2 : ¬ p pO) (h3 : ∀ b, S b → ¬ p b) : StAt tb tq W' S pR pO s :=
  ⟨h.hR.onlyS ho h1, h.hO.onlyS ho h2, h.hB.onlyS ho h3, h.hf⟩
theorem cnt_bytes {tb tq : TypeId} {W : World} {S : Nat → Prop} {pR pO : Nat} {s : TkSt} (h : StAt tb tq W S pR pO s) : BytesS W S ((s.next 1).outA (s.num 1)) ((s.next 1).outN (s.num 1)) ((s.next 1).outN (s.num 1)) s.cnt := by
  have hn : StAt tb tq W S pR pO s → BytesS W S (s.next 1).a (s.next 1).n (s.next 1).c (s.next 1).l := fun h => by
    unfold TkSt.next
    cases hc : s.can 1 with
    | false => exact h.hB
    | true =>
      unfold TkSt.can at hc
      simp only [Bool.and_eq_true, decide_eq_true_eq] at hc
      exact h.hB.drop hc.2
  unfold TkSt.cnt TkSt.outA TkSt.outN TkSt.bytes
  cases hc : (s.next 1).can (s.num 1) with
  | false => exact BytesS.nil_
  | true =>
    unfold TkSt.can at hc
    simp only [Bool.and_eq_true, decide_eq_true_eq] at hc
    simp only [if_true]
    exact (hn h).takes hc.2
theorem next_bytes {W : World} {S : Nat → Prop} {s : TkSt} (h : BytesS W S s.a s.n s.c s.l) (k : Nat) : BytesS W S (s.next k).a (s.next k).n (s.next k).c (s.next k).l := by
  unfold TkSt.next
  cases hc : s.can k with
  | false => exact h
  | true =>
    unfold TkSt.can at hc
    simp only [Bool.and_eq_true, decide_eq_true_eq] at hc
    exact h.drop hc.2
theorem out_bytes2 {W : World} {S : Nat → Prop} {s : TkSt} (h : BytesS W S s.a s.n s.c s.l) (k : Nat) : BytesS W S (s.outA k) (s.outN k) (s.outN k) (s.bytes k) := by
  unfold TkSt.outA TkSt.outN TkSt.bytes
  cases hc : s.can k with
  | false => exact BytesS.nil_
  | true =>
    unfold TkSt.can at hc
    simp only [Bool.and_eq_true, decide_eq_true_eq] at hc
    simp only [if_true]
    exact h.takes hc.2
theorem rdItem_n (s : TkSt) : I64' (rdItem s).n := by
  unfold rdItem I64'
  dsimp only
  rw [wrap64_def]; omega
end Go.Dav
namespace Go.Proofs.Ytfhhcpolicdfpaa
set_option linter.unusedVariables false
set_option linter.unusedSimpArgs false
open Go.RowKit Go.Dav
attribute [local go_sem] Gives GivesC ite_val ite_val_true

theorem Try_infoItem : (Try.prog.info? 56).map (fun i => (i.zero, i.size, i.bytes)) = some (some (.agg #[.slice none 0 0, .slice none 0 0, .bool false, .int .i64 0]), 4, 64) := by kernel_rfl
def TryGivesItems (S : Nat → Prop) (pR pO : Nat) (w : World) (R : List ItemD × TkSt × Bool) (e : Ending) (w' : World) : Prop :=
  ∃ a n c, e = .returned (.tuple #[.slice a n c, .bool R.2.2]) ∧ ItemsS w' (fun b => S b ∨ w.heap.size ≤ b) a n c R.1 ∧ StAt 22 4 w' S pR pO R.2.1 ∧ OnlyS (TwoS pR pO) w w'
def TryOneV (f pT pN pO : Nat) : Value := .func (.func f) #[] #[.pointer (some ⟨pT, 0, none⟩), .pointer (some ⟨pN, 0, none⟩), .pointer (some ⟨pO, 0, none⟩)]
def TrySevRel (S : Nat → Prop) (pR pO : Nat) (w : World) (many : Nat) (R : List ItemD × TkSt × Bool) (k : Nat) (vx : Value) (wr : World) : Prop :=
  ∃ acc s cs, sevI (many - k) acc s = R ∧ wr.ownsRow w.heap.size 56 4 vx k cs ∧ ItemCells wr S cs acc ∧ StAt 22 4 wr S pR pO s ∧ OnlyS (TwoS pR pO) w wr
theorem Try_en_item (args : Array Value) (W : World) : (callFunc 36 args).run Try.prog W = .ok (.enter 36 args) W := by kernel_rfl
set_option maxRecDepth 8000 in
set_option maxHeartbeats 8000000 in
theorem Try_sevItem (S : Nat → Prop) (pT pN pR pO many : Nat) (s : TkSt) (w : World) (hst : StAt 22 4 w S pR pO s) (hT : Blk w pT [TryTakeV pR pO] 62) (hN : Blk w pN [TryNumV pT] 63) (ha : TryApart S pT pN pR pO) (hS : ∀ b, S b → b < w.heap.size) (hm : many ≤ 7) :
    Calls Try.prog 35 #[.int .i64 (many : Int), .func (.func 36) #[] #[.pointer (some ⟨pT, 0, none⟩), .pointer (some ⟨pN, 0, none⟩), .pointer (some ⟨pO, 0, none⟩)]] w (TryGivesItems S pR pO w (sevI many [] s)) := by
  have hen := fun args W => Try_en_item args W
  have hm' : (many : Int) ≤ 7 := by omega
  obtain ⟨R, hR⟩ : ∃ R, sevI many [] s = R := ⟨_, rfl⟩
  rw [hR]
  have HR := Lib.hid hR
  have HST := Lib.hid hst
  have HT := Lib.hid hT
  have HN := Lib.hid hN
  have HA := Lib.hid ha
  have HS := Lib.hid hS
  have LT := Lib.hid (And.intro hT.lt (And.intro hN.lt (And.intro hst.hR.lt hst.hO.lt)))
  obtain ⟨i0, hi0, hz0, hz1, hz2⟩ := info_parts Try_infoItem
  have HI := Lib.hid (And.intro hi0 (And.intro hz0 (And.intro hz1 hz2)))
  clear hR hst hT hN ha hS hi0 hz0 hz1 hz2
  go_enter Try.func35, Try.ntmps35
  go_wp2_with fail
  go_step3
  go_wp2_with fail
  go_step3
  go_wp2_with fail
  go_loopg [8, 4, 5] many (fun g ix vx ok wr => ∃ k : Nat, k ≤ many ∧ g = many - k ∧ ix = .int .i64 k ∧ ok = .bool true ∧ TrySevRel S pR pO w many R k vx wr)
  case atStart => exact ⟨0, Nat.zero_le _, rfl, rfl, rfl, [], s, [], HR.out, World.ownsRow_nil _ _ _ _, ItemCells.nil, HST.out, OnlyS.refl _ _⟩
  case round =>
    obtain ⟨k, hk, rfl, rfl, rfl, acc, s, cs, hsev, hown, hcells, hst, hon⟩ := hrel
    have HSEV := Lib.hid hsev
    have HO := Lib.hid hown
    have HC := Lib.hid hcells
    have HSA := Lib.hid hst
    have HON := Lib.hid hon
    have hsz := hon.size
    clear hsev hown hcells hst hon
    by_cases hkm : k < many
    · have hkm' : (k : Int) < (many : Int) := by omega
      have hbx : Below wr.heap.size wr (wr.alloc (.cells #[.slice none 0 0, .slice none 0 0, .bool false, .int .i64 0] 56)) := (Below.refl _ _).alloc (Nat.le_refl _) _
      have hrd := Try_rdItem S pT pN pR pO s (wr.alloc (.cells #[.slice none 0 0, .slice none 0 0, .bool false, .int .i64 0] 56)) (HSA.out.ext hbx) ((HT.out.onlyS HON.out HA.out.t).ext hbx) ((HN.out.onlyS HON.out HA.out.n).ext hbx) HA.out (fun b h => by have := HS.out b h; simp; omega)
      unfold TryRdItem cntV at hrd
      have hB1 := cnt_bytes HSA.out
      have hB2 : BytesS wr S ((s.skip.next 1).outA (s.skip.num 1)) ((s.skip.next 1).outN (s.skip.num 1)) ((s.skip.next 1).outN (s.skip.num 1)) s.skip.cnt := out_bytes2 (next_bytes (next_bytes (next_bytes HSA.out.hB 1) (s.num 1)) 1) (s.skip.num 1)
      obtain ⟨ka, hka⟩ : ∃ x, (s.next 1).outA (s.num 1) = x := ⟨_, rfl⟩
      obtain ⟨kn, hkn⟩ : ∃ x, (s.next 1).outN (s.num 1) = x := ⟨_, rfl⟩
      obtain ⟨va, hva⟩ : ∃ x, (s.skip.next 1).outA (s.skip.num 1) = x := ⟨_, rfl⟩
      obtain ⟨vn, hvn⟩ : ∃ x, (s.skip.next 1).outN (s.skip.num 1) = x := ⟨_, rfl⟩
      rw [hka, hkn, hva, hvn] at hrd
      rw [hka, hkn] at hB1
      rw [hva, hvn] at hB2
      have HRD := Lib.hid hrd
      have HB1 := Lib.hid (show BytesS wr S ka kn kn (rdItem s).key from hB1)
      have HB2 := Lib.hid (show BytesS wr S va vn vn (rdItem s).value from hB2)
      have HKM := Lib.hid hkm
      have hPnew := Blk.new wr [.slice none 0 0, .slice none 0 0, .bool false, .int .i64 0] 56
      have HPN := Lib.hid hPnew
      have hP : ¬ TwoS pR pO wr.heap.size := by have := LT.out; unfold TwoS; omega
      have HPP := Lib.hid hP
      have HBX := Lib.hid hbx
      clear hrd hB1 hB2 hka hkn hva hvn hkm hPnew hP hbx hk
      go_wp2_with fail
      (with_reducible refine HRD.out.mono ?_); rintro e W2 ⟨rfl, hst2, ho2⟩
      have HST2 := Lib.hid hst2
      have HO2 := Lib.hid ho2
      have hx2 := HPN.out.onlyS ho2 HPP.out
      have HX2 := Lib.hid hx2
      have c2 := hx2.cells
      have m2 := hx2.marks
      have l2 := hx2.lt
      obtain ⟨bq, hbq⟩ : ∃ b, (rdItem s).int = b := ⟨_, rfl⟩
      obtain ⟨nn, hnn⟩ : ∃ b, (rdItem s).n = b := ⟨_, rfl⟩
      obtain ⟨okk, hok⟩ : ∃ b, (rdItemS s).ok = b := ⟨_, rfl⟩
      rw [hbq, hnn, hok]
      have HBQ := Lib.hid hbq
      have HNN := Lib.hid hnn
      have HOK := Lib.hid hok
      obtain ⟨W3, hW3⟩ : ∃ W3, (((W2.setCell ⟨wr.heap.size, 0, none⟩ (.slice ka kn kn)).setCell ⟨wr.heap.size, 1, none⟩ (.slice va vn vn)).setCell ⟨wr.heap.size, 2, none⟩ (.bool bq)).setCell ⟨wr.heap.size, 3, none⟩ (.int .i64 nn) = W3 := ⟨_, rfl⟩
      have hx3 : Blk W3 wr.heap.size [.slice ka kn kn, .slice va vn vn, .bool bq, .int .i64 nn] 56 := by rw [← hW3]; exact (((hx2.set 0 _).set 1 _).set 2 _).set 3 _
      have ho3 : OnlyS (fun b => b = wr.heap.size) W2 W3 := by rw [← hW3]; exact (((((OnlyS.refl (fun b => b = wr.heap.size) W2).set wr.heap.size 0 _ rfl).set wr.heap.size 1 _ rfl).set wr.heap.size 2 _ rfl).set wr.heap.size 3 _ rfl)
      have HX3 := Lib.hid hx3
      have HO3 := Lib.hid ho3
      have HONA := Lib.hid (show OnlyS (TwoS pR pO) w W3 from ⟨ho3.os.trans (HO2.out.os.trans (HBX.out.os.trans HON.out.os)), ho3.tape.trans (HO2.out.tape.trans (HBX.out.tape.trans HON.out.tape)), ho3.output.trans (HO2.out.output.trans (HBX.out.output.trans HON.out.output)), by have := ho3.size; have := HO2.out.size; have := HBX.out.size; omega, fun j hj hn => (ho3.block j (by have := HO2.out.size; have := HBX.out.size; omega) (by omega)).trans ((HO2.out.block j (by have := HBX.out.size; omega) hn).trans ((HBX.out.block j (by omega)).trans (HON.out.block j hj hn)))⟩)
      have lts := LT.out
      have hs3 : wr.heap.size + 1 ≤ W3.heap.size := by have := hx3.lt; omega
      have HST3 := Lib.hid (HST2.out.only_ ho3 (by omega) (by omega) (fun b h => by have := HS.out b h; omega))
      have hkeep : ∀ b, b < wr.heap.size → ¬ TwoS pR pO b → W3.heap[b]? = wr.heap[b]? := fun b h1 h2 => (ho3.block b (by have := HO2.out.size; have := HBX.out.size; omega) (by omega)).trans ((HO2.out.block b (by have := HBX.out.size; omega) h2).trans (HBX.out.block b h1))
      have HOW3 := Lib.hid (ownsRow_keep HO.out fun g hg => hkeep g (HO.out.lt g hg).2 (by have := (HO.out.lt g hg).1; unfold TwoS; omega))
      have HC3 := Lib.hid (HC.out.same (W' := W3) (by omega) fun b h1 h2 => hkeep b h2 (HA.out.hS b h1))
      have HK1 := Lib.hid (HB1.out.same (W' := W3) (by omega) fun b h1 h2 => hkeep b h2 (HA.out.hS b h1))
      have HK2 := Lib.hid (HB2.out.same (W' := W3) (by omega) fun b h1 h2 => hkeep b h2 (HA.out.hS b h1))
      have HL3 := Lib.hid hs3
      clear hst2 ho2 hx2 hbq hnn hok hx3 ho3 lts hkeep
      cases okk with
      | false =>
        have HRR := Lib.hid (show R = (acc, rdItemS s, false) by
          have h := HSEV.out
          rw [show many - k = (many - (k + 1)) + 1 by have := HKM.out; omega] at h
          unfold sevI at h
          rw [HOK.out, if_neg Bool.false_ne_true] at h
          exact h.symm)
        obtain ⟨ra, rc, rfl, hIS⟩ := HC3.out.shut HOW3.out (by have := HKM.out; omega)
        have HIS := Lib.hid hIS
        clear hIS
        go_wp2
        rw [Exit.noGoto_ret]
        go_ret2
        exact ⟨ra, k, rc, by rw [HRR.out]; rfl, by rw [HRR.out]; exact HIS.out, by rw [HRR.out]; exact HST3.out, HONA.out⟩
      | true =>
        have c3 := HX3.out.cells
        have l3 := HX3.out.lt
        obtain ⟨hi0, hz0, hz1, hz2⟩ := HI.out
        have HO4 := Lib.hid (HOW3.out.alloc (.cells #[.slice ka kn kn, .slice va vn vn, .bool bq, .int .i64 nn] 56))
        have HSR := Lib.hid ((ownsRow_blk (n := 1) (size := 4) (base := W3.heap.size) (xs := [.slice ka kn kn, .slice va vn vn, .bool bq, .int .i64 nn]) (Blk.new W3 [_, _, _, _] 56) (Nat.le_refl _) rfl (by unfold maxLen; omega)).cells (g := W3.heap.size) rfl)
        have hcl := HC.out.1
        go_wp2_with (at_builtin; refine wpList_append_own _ rfl (.tmp 17) (.tmp 19) 25 rfl w.heap.size 56 i0 _ 4 64 Try.underlying25 hi0 hz0 hz1 hz2 rfl (by decide) _ k cs rfl HO4.out ⟨W3.heap.size, 0, none⟩ 1 1 [.slice ka kn kn, .slice va vn vn, .bool bq, .int .i64 nn] rfl rfl HSR.out (by intro u hu; simp at hu; rcases hu with rfl | rfl | rfl | rfl <;> rfl) (by unfold maxLen; omega) (by omega) (by simp; omega) ?_; intro v' w6 hown6 hgrow _)
        have HSEV2 := Lib.hid (show sevI (many - (k + 1)) (acc ++ [rdItem s]) (rdItemS s) = R by
          have h := HSEV.out
          rw [show many - k = (many - (k + 1)) + 1 by have := HKM.out; omega] at h
          unfold sevI at h
          rw [HOK.out, if_pos rfl] at h
          exact h)
        have hbel : Below w.heap.size W3 w6 := ((Below.refl w.heap.size W3).alloc (by omega) (.cells #[.slice ka kn kn, .slice va vn vn, .bool bq, .int .i64 nn] 56)).grown hgrow (by simp; omega) (fun k hk => (HO4.out.lt k hk).1)
        have lts := LT.out
        have HST6 := Lib.hid (HST3.out.below hbel lts.2.2.1 lts.2.2.2 HS.out)
        have hcl6 : ItemCells w6 S (cs ++ [.slice ka kn kn, .slice va vn vn, .bool bq, .int .i64 nn]) (acc ++ [rdItem s]) := by
          have h1 := HC3.out.same (W' := w6) hbel.size fun b h1 h2 => hbel.block b (HS.out b h1)
          have h2 := HK1.out.same (W' := w6) hbel.size fun b h1 h2 => hbel.block b (HS.out b h1)
          have h3 := HK2.out.same (W' := w6) hbel.size fun b h1 h2 => hbel.block b (HS.out b h1)
          rw [← HBQ.out, ← HNN.out]
          exact h1.snoc h2 h3 (rdItem_n s)
        have HC6 := Lib.hid hcl6
        have HON6 := Lib.hid (show OnlyS (TwoS pR pO) w w6 from ⟨hbel.os.trans HONA.out.os, hbel.tape.trans HONA.out.tape, hbel.output.trans HONA.out.output, Nat.le_trans HONA.out.size hbel.size, fun j hj hn => (hbel.block j hj).trans (HONA.out.block j hj hn)⟩)
        have HO6 := Lib.hid hown6
        clear hown6 hgrow hcl6 hbel lts hcl hi0 hz0 hz1 hz2 c2 m2 l2 c3 l3
        go_roundg (many - (k + 1))
        case measure => have := HKM.out; omega
        case rel => exact ⟨k + 1, HKM.out, rfl, by go_num, rfl, acc ++ [rdItem s], rdItemS s, _, HSEV2.out, HO6.out, HC6.out, HST6.out, HON6.out⟩
    · obtain rfl : k = many := by omega
      have hk3 : ¬ (k : Int) < (k : Int) := by omega
      have HRR := Lib.hid (show R = (acc, s, true) by
        have h := HSEV.out
        rw [Nat.sub_self] at h
        exact h.symm)
      obtain ⟨ra, rc, rfl, hIS⟩ := HC.out.shut HO.out (by omega)
      have HIS := Lib.hid hIS
      clear hIS hkm
      go_wp2
      go_ret2
      exact ⟨ra, k, rc, by rw [HRR.out]; rfl, by rw [HRR.out]; exact HIS.out, by rw [HRR.out]; exact HSA.out, HON.out⟩
end Go.Proofs.Ytfhhcpolicdfpaa

namespace Go.Dav
set_option linter.unusedVariables false
set_option linter.unusedSimpArgs false
open Go Go.RowKit
def sevK : Nat → List KidD → TkSt → List KidD × TkSt × Bool
  | 0, acc, s => (acc, s, true)
  | k + 1, acc, s => if (rdKidS s).ok then sevK k (acc ++ [rdKid s]) (rdKidS s) else (acc, rdKidS s, false)
def kidVals (x : KidD) : List Value := [.int .i64 x.at_, .int .i64 x.red.c, .int .i64 x.red.n, .int .i64 (hi x.red.s), .int .u64 (lo x.red.s), .int .i64 x.red.l, .int .i64 x.red.m]
/-- The cells of kids. -/
def KidCells (W : World) (S : Nat → Prop) (cs : List Value) (L : List KidD) : Prop :=
  cs.length = L.length * 8 ∧ ∀ (k : Nat) (x : KidD), L[k]? = some x → ∃ ka kl kc, (∀ j v, (Value.slice ka kl kc :: kidVals x)[j]? = some v → cs[k * 8 + j]? = some v) ∧ BytesS W S ka kl kc x.key ∧ I64' x.at_ ∧ x.red.fits
theorem KidCells.same {W W' : World} {S : Nat → Prop} {cs : List Value} {L : List KidD} (h : KidCells W S cs L) (hs : W.heap.size ≤ W'.heap.size) (hb : ∀ b, S b → b < W.heap.size → W'.heap[b]? = W.heap[b]?) : KidCells W' S cs L :=
  ⟨h.1, fun k x hx => by obtain ⟨ka, kl, kc, c0, h1, h2, h3⟩ := h.2 k x hx; exact ⟨ka, kl, kc, c0, h1.same hs hb, h2, h3⟩⟩
theorem KidCells.nil {W : World} {S : Nat → Prop} : KidCells W S [] [] := ⟨rfl, fun k x h => by simp at h⟩
theorem KidCells.snoc {W : World} {S : Nat → Prop} {cs : List Value} {L : List KidD} {x : KidD} {ka : Option Addr} {kl kc : Nat} (h : KidCells W S cs L) (h1 : BytesS W S ka kl kc x.key) (h2 : I64' x.at_) (h3 : x.red.fits) : KidCells W S (cs ++ (Value.slice ka kl kc :: kidVals x)) (L ++ [x]) := by
  refine ⟨by simp [h.1, kidVals]; omega, fun k y hy => ?_⟩
  by_cases hk : k < L.length
  · rw [List.getElem?_append_left hk] at hy
    obtain ⟨ka, kl, kc, c0, g1, g2, g3⟩ := h.2 k y hy
    refine ⟨ka, kl, kc, fun j v hv => ?_, g1, g2, g3⟩
    have := c0 j v hv
    rw [List.getElem?_append_left (List.getElem?_eq_some_iff.1 this).1]; exact this
  · have hl := (List.getElem?_eq_some_iff.1 hy).1
    simp at hl
    obtain rfl : k = L.length := by omega
    rw [List.getElem?_append_right (Nat.le_refl _), Nat.sub_self] at hy
    obtain rfl : x = y := by simpa using hy
    have hl := h.1
    refine ⟨ka, kl, kc, fun j v hv => ?_, h1, h2, h3⟩
    rw [List.getElem?_append_right (by omega), show L.length * 8 + j - cs.length = j by omega]; exact hv
theorem KidCells.shut {W : World} {S : Nat → Prop} {cs : List Value} {L : List KidD} {e base n : Nat} {v : Value} (h : KidCells W S cs L) (ho : W.ownsRow base e 8 v n cs) (hn : n ≤ 1000000) : ∃ a c, v = .slice a n c ∧ KidsS W (fun b => S b ∨ base ≤ b) a n c L := by
  have hln : L.length = n := by have := ho.1; have := h.1; omega
  rcases ho.2 with ⟨h1, h2⟩ | ⟨g, cap, cur, hv, hg, hh, hc, hm, _⟩
  · subst h2
    have : L = [] := List.length_eq_zero_iff.1 hln
    subst this
    exact ⟨none, 0, h1, ⟨rfl, Nat.le_refl _, by unfold maxLen; omega, by omega, fun k x hx => by simp at hx, fun _ => rfl⟩⟩
  · refine ⟨some ⟨g, 0, none⟩, cap, hv, ⟨hln, hc, hm, by omega, fun k x hx => ?_, fun h => by cases h⟩⟩
    obtain ⟨ka, kl, kc, c0, g1, g2, g3⟩ := h.2 k x hx
    have e : ∀ j, (⟨g, 0, none⟩ : Addr).add j = ⟨g, 0 + j, none⟩ := fun j => Addr.add_mid g 0 j
    have hlt := (Array.getElem?_eq_some_iff.1 hh).1
    have r : ∀ j u, (Value.slice ka kl kc :: kidVals x)[j]? = some u → W.cell? ⟨g, 0 + k * 8 + j, none⟩ = some u := fun j u hu => by
      have := ho.cells (g := g) (by rw [hv]; rfl) (k * 8 + j) u (c0 j u hu)
      rw [e] at this
      rw [Nat.add_assoc]; exact this
    exact ⟨g, 0, ka, kl, kc, rfl, hlt, .inr hg, r 0 _ rfl, r 1 _ rfl, r 2 _ rfl, r 3 _ rfl, r 4 _ rfl, r 5 _ rfl, r 6 _ rfl, r 7 _ rfl, g1.mono fun b hb => .inl hb, g2, g3⟩
theorem rdKid_at (s : TkSt) : I64' (rdKid s).at_ := by
  have := numOf_4_le _ (bytes_len s.skip 4)
  have h2 : (rdKid s).at_ = ((s.skip.num 4 : Nat) : Int) := rfl
  have h3 : s.skip.num 4 < 4294967296 := this
  unfold I64'; rw [h2]; omega
theorem wrap64_bd (n : Int) : I64 (wrap64 n) := by unfold I64; rw [wrap64_def]; omega
theorem rdKid_fits (s : TkSt) : (rdKid s).red.fits := by
  have h1 : (k2 s).num 4 < 4294967296 := numOf_4_le _ (bytes_len (k2 s) 4)
  have h2 : (k3 s).num 4 < 4294967296 := numOf_4_le _ (bytes_len (k3 s) 4)
  refine ⟨?_, ?_, wrap64_bd _, wrap64_bd _⟩
  · show I64 ((k2 s).num 4 : Nat); unfold I64; omega
  · show I64 ((k3 s).num 4 : Nat); unfold I64; omega
theorem rdKid_hi (s : TkSt) : hi (rdKid s).red.s = wrap64 ((k4 s).num 8 : Nat) := by
  have h1 : (k5 s).num 8 < 18446744073709551616 := numOf_8_le _ (bytes_len (k5 s) 8)
  exact pair_hi (wrap64_bd _) (by omega) (by omega)
theorem rdKid_lo (s : TkSt) : lo (rdKid s).red.s = ((k5 s).num 8 : Nat) := by
  have h1 : (k5 s).num 8 < 18446744073709551616 := numOf_8_le _ (bytes_len (k5 s) 8)
  exact pair_lo (by omega) (by omega)
end Go.Dav
namespace Go.Proofs.Ytfhhcpolicdfpaa
set_option linter.unusedVariables false
set_option linter.unusedSimpArgs false
open Go.RowKit Go.Dav
attribute [local go_sem] Gives GivesC ite_val ite_val_true

theorem Try_infoKid : (Try.prog.info? 58).map (fun i => (i.zero, i.size, i.bytes)) = some (some (.agg #[.slice none 0 0, .int .i64 0, .int .i64 0, .int .i64 0, .int .i64 0, .int .u64 0, .int .i64 0, .int .i64 0]), 8, 80) := by kernel_rfl
def TryGivesKids (S : Nat → Prop) (pR pO : Nat) (w : World) (R : List KidD × TkSt × Bool) (e : Ending) (w' : World) : Prop :=
  ∃ a n c, e = .returned (.tuple #[.slice a n c, .bool R.2.2]) ∧ KidsS w' (fun b => S b ∨ w.heap.size ≤ b) a n c R.1 ∧ StAt 22 4 w' S pR pO R.2.1 ∧ OnlyS (TwoS pR pO) w w'
def TrySevRelK (S : Nat → Prop) (pR pO : Nat) (w : World) (many : Nat) (R : List KidD × TkSt × Bool) (k : Nat) (vx : Value) (wr : World) : Prop :=
  ∃ acc s cs, sevK (many - k) acc s = R ∧ wr.ownsRow w.heap.size 58 8 vx k cs ∧ KidCells wr S cs acc ∧ StAt 22 4 wr S pR pO s ∧ OnlyS (TwoS pR pO) w wr
theorem Try_en_kid (args : Array Value) (W : World) : (callFunc 38 args).run Try.prog W = .ok (.enter 38 args) W := by kernel_rfl
set_option maxRecDepth 8000 in
set_option maxHeartbeats 8000000 in
theorem Try_sevKid (S : Nat → Prop) (pT pN pR pO many : Nat) (s : TkSt) (w : World) (hst : StAt 22 4 w S pR pO s) (hT : Blk w pT [TryTakeV pR pO] 62) (hN : Blk w pN [TryNumV pT] 63) (ha : TryApart S pT pN pR pO) (hS : ∀ b, S b → b < w.heap.size) (hm : many ≤ 7) :
    Calls Try.prog 37 #[.int .i64 (many : Int), .func (.func 38) #[] #[.pointer (some ⟨pT, 0, none⟩), .pointer (some ⟨pN, 0, none⟩), .pointer (some ⟨pO, 0, none⟩)]] w (TryGivesKids S pR pO w (sevK many [] s)) := by
  have hen := fun args W => Try_en_kid args W
  have hm' : (many : Int) ≤ 7 := by omega
  obtain ⟨R, hR⟩ : ∃ R, sevK many [] s = R := ⟨_, rfl⟩
  rw [hR]
  have HR := Lib.hid hR
  have HST := Lib.hid hst
  have HT := Lib.hid hT
  have HN := Lib.hid hN
  have HA := Lib.hid ha
  have HS := Lib.hid hS
  have LT := Lib.hid (And.intro hT.lt (And.intro hN.lt (And.intro hst.hR.lt hst.hO.lt)))
  obtain ⟨i0, hi0, hz0, hz1, hz2⟩ := info_parts Try_infoKid
  have HI := Lib.hid (And.intro hi0 (And.intro hz0 (And.intro hz1 hz2)))
  clear hR hst hT hN ha hS hi0 hz0 hz1 hz2
  go_enter Try.func37, Try.ntmps37
  go_wp2_with fail
  go_step3
  go_wp2_with fail
  go_step3
  go_wp2_with fail
  go_loopg [8, 4, 5] many (fun g ix vx ok wr => ∃ k : Nat, k ≤ many ∧ g = many - k ∧ ix = .int .i64 k ∧ ok = .bool true ∧ TrySevRelK S pR pO w many R k vx wr)
  case atStart => exact ⟨0, Nat.zero_le _, rfl, rfl, rfl, [], s, [], HR.out, World.ownsRow_nil _ _ _ _, KidCells.nil, HST.out, OnlyS.refl _ _⟩
  case round =>
    obtain ⟨k, hk, rfl, rfl, rfl, acc, s, cs, hsev, hown, hcells, hst, hon⟩ := hrel
    have HSEV := Lib.hid hsev
    have HO := Lib.hid hown
    have HC := Lib.hid hcells
    have HSA := Lib.hid hst
    have HON := Lib.hid hon
    have hsz := hon.size
    clear hsev hown hcells hst hon
    by_cases hkm : k < many
    · have hkm' : (k : Int) < (many : Int) := by omega
      have hbx : Below wr.heap.size wr (wr.alloc (.cells #[.slice none 0 0, .int .i64 0, .int .i64 0, .int .i64 0, .int .i64 0, .int .u64 0, .int .i64 0, .int .i64 0] 58)) := (Below.refl _ _).alloc (Nat.le_refl _) _
      have hrd := Try_rdKid S pT pN pR pO s (wr.alloc (.cells #[.slice none 0 0, .int .i64 0, .int .i64 0, .int .i64 0, .int .i64 0, .int .u64 0, .int .i64 0, .int .i64 0] 58)) (HSA.out.ext hbx) ((HT.out.onlyS HON.out HA.out.t).ext hbx) ((HN.out.onlyS HON.out HA.out.n).ext hbx) HA.out (fun b h => by have := HS.out b h; simp; omega)
      unfold TryRdKid cntV at hrd
      have hB1 := cnt_bytes HSA.out
      obtain ⟨ka, hka⟩ : ∃ x, (s.next 1).outA (s.num 1) = x := ⟨_, rfl⟩
      obtain ⟨kn, hkn⟩ : ∃ x, (s.next 1).outN (s.num 1) = x := ⟨_, rfl⟩
      rw [hka, hkn] at hrd hB1
      obtain ⟨x1, hx1⟩ : ∃ x, (rdKid s).at_ = x := ⟨_, rfl⟩
      obtain ⟨x2, hx2⟩ : ∃ x, (rdKid s).red.c = x := ⟨_, rfl⟩
      obtain ⟨x3, hx3⟩ : ∃ x, (rdKid s).red.n = x := ⟨_, rfl⟩
      obtain ⟨x4, hx4⟩ : ∃ x, hi (rdKid s).red.s = x := ⟨_, rfl⟩
      obtain ⟨x5, hx5⟩ : ∃ x, lo (rdKid s).red.s = x := ⟨_, rfl⟩
      obtain ⟨x6, hx6⟩ : ∃ x, (rdKid s).red.l = x := ⟨_, rfl⟩
      obtain ⟨x7, hx7⟩ : ∃ x, (rdKid s).red.m = x := ⟨_, rfl⟩
      rw [show ((s.skip.num 4 : Nat) : Int) = x1 from hx1, show (((k2 s).num 4 : Nat) : Int) = x2 from hx2, show (((k3 s).num 4 : Nat) : Int) = x3 from hx3, show wrap64 ((k4 s).num 8 : Nat) = x4 by rw [← hx4, rdKid_hi], show (((k5 s).num 8 : Nat) : Int) = x5 by rw [← hx5, rdKid_lo], show wrap64 ((k6 s).num 8 : Nat) = x6 from hx6, show wrap64 ((k7 s).num 8 : Nat) = x7 from hx7] at hrd
      have HVALS := Lib.hid (show kidVals (rdKid s) = [.int .i64 x1, .int .i64 x2, .int .i64 x3, .int .i64 x4, .int .u64 x5, .int .i64 x6, .int .i64 x7] by unfold kidVals; rw [hx1, hx2, hx3, hx4, hx5, hx6, hx7])
      have HRD := Lib.hid hrd
      have HB1 := Lib.hid (show BytesS wr S ka kn kn (rdKid s).key from hB1)
      have HKM := Lib.hid hkm
      have hPnew := Blk.new wr [.slice none 0 0, .int .i64 0, .int .i64 0, .int .i64 0, .int .i64 0, .int .u64 0, .int .i64 0, .int .i64 0] 58
      have HPN := Lib.hid hPnew
      have hP : ¬ TwoS pR pO wr.heap.size := by have := LT.out; unfold TwoS; omega
      have HPP := Lib.hid hP
      have HBX := Lib.hid hbx
      clear hrd hB1 hka hkn hkm hx1 hx2 hx3 hx4 hx5 hx6 hx7 hPnew hP hbx hk
      go_wp2_with fail
      (with_reducible refine HRD.out.mono ?_); rintro e W2 ⟨rfl, hst2, ho2⟩
      have HST2 := Lib.hid hst2
      have HO2 := Lib.hid ho2
      have hx2 := HPN.out.onlyS ho2 HPP.out
      have HX2 := Lib.hid hx2
      have c2 := hx2.cells
      have m2 := hx2.marks
      have l2 := hx2.lt
      obtain ⟨okk, hok⟩ : ∃ b, (rdKidS s).ok = b := ⟨_, rfl⟩
      rw [hok]
      have HOK := Lib.hid hok
      obtain ⟨W3, hW3⟩ : ∃ W3, ((((((((W2.setCell ⟨wr.heap.size, 0, none⟩ (.slice ka kn kn)).setCell ⟨wr.heap.size, 1, none⟩ (.int .i64 x1)).setCell ⟨wr.heap.size, 2, none⟩ (.int .i64 x2)).setCell ⟨wr.heap.size, 3, none⟩ (.int .i64 x3)).setCell ⟨wr.heap.size, 4, none⟩ (.int .i64 x4)).setCell ⟨wr.heap.size, 5, none⟩ (.int .u64 x5)).setCell ⟨wr.heap.size, 6, none⟩ (.int .i64 x6)).setCell ⟨wr.heap.size, 7, none⟩ (.int .i64 x7)) = W3 := ⟨_, rfl⟩
      have hx3 : Blk W3 wr.heap.size [.slice ka kn kn, .int .i64 x1, .int .i64 x2, .int .i64 x3, .int .i64 x4, .int .u64 x5, .int .i64 x6, .int .i64 x7] 58 := by rw [← hW3]; exact ((((((((hx2.set 0 _).set 1 _).set 2 _).set 3 _).set 4 _).set 5 _).set 6 _).set 7 _)
      have ho3 : OnlyS (fun b => b = wr.heap.size) W2 W3 := by rw [← hW3]; exact (((((((((OnlyS.refl (fun b => b = wr.heap.size) W2).set wr.heap.size 0 _ rfl).set wr.heap.size 1 _ rfl).set wr.heap.size 2 _ rfl).set wr.heap.size 3 _ rfl).set wr.heap.size 4 _ rfl).set wr.heap.size 5 _ rfl).set wr.heap.size 6 _ rfl).set wr.heap.size 7 _ rfl)
      have HX3 := Lib.hid hx3
      have HO3 := Lib.hid ho3
      have HONA := Lib.hid (show OnlyS (TwoS pR pO) w W3 from ⟨ho3.os.trans (HO2.out.os.trans (HBX.out.os.trans HON.out.os)), ho3.tape.trans (HO2.out.tape.trans (HBX.out.tape.trans HON.out.tape)), ho3.output.trans (HO2.out.output.trans (HBX.out.output.trans HON.out.output)), by have := ho3.size; have := HO2.out.size; have := HBX.out.size; omega, fun j hj hn => (ho3.block j (by have := HO2.out.size; have := HBX.out.size; omega) (by omega)).trans ((HO2.out.block j (by have := HBX.out.size; omega) hn).trans ((HBX.out.block j (by omega)).trans (HON.out.block j hj hn)))⟩)
      have lts := LT.out
      have hs3 : wr.heap.size + 1 ≤ W3.heap.size := by have := hx3.lt; omega
      have HST3 := Lib.hid (HST2.out.only_ ho3 (by omega) (by omega) (fun b h => by have := HS.out b h; omega))
      have hkeep : ∀ b, b < wr.heap.size → ¬ TwoS pR pO b → W3.heap[b]? = wr.heap[b]? := fun b h1 h2 => (ho3.block b (by have := HO2.out.size; have := HBX.out.size; omega) (by omega)).trans ((HO2.out.block b (by have := HBX.out.size; omega) h2).trans (HBX.out.block b h1))
      have HOW3 := Lib.hid (ownsRow_keep HO.out fun g hg => hkeep g (HO.out.lt g hg).2 (by have := (HO.out.lt g hg).1; unfold TwoS; omega))
      have HC3 := Lib.hid (HC.out.same (W' := W3) (by omega) fun b h1 h2 => hkeep b h2 (HA.out.hS b h1))
      have HK1 := Lib.hid (HB1.out.same (W' := W3) (by omega) fun b h1 h2 => hkeep b h2 (HA.out.hS b h1))
      have HL3 := Lib.hid hs3
      clear hst2 ho2 hx2 hok hx3 ho3 lts hkeep
      cases okk with
      | false =>
        have HRR := Lib.hid (show R = (acc, rdKidS s, false) by
          have h := HSEV.out
          rw [show many - k = (many - (k + 1)) + 1 by have := HKM.out; omega] at h
          unfold sevK at h
          rw [HOK.out, if_neg Bool.false_ne_true] at h
          exact h.symm)
        obtain ⟨ra, rc, rfl, hIS⟩ := HC3.out.shut HOW3.out (by have := HKM.out; omega)
        have HIS := Lib.hid hIS
        clear hIS
        go_wp2
        rw [Exit.noGoto_ret]
        go_ret2
        exact ⟨ra, k, rc, by rw [HRR.out]; rfl, by rw [HRR.out]; exact HIS.out, by rw [HRR.out]; exact HST3.out, HONA.out⟩
      | true =>
        have c3 := HX3.out.cells
        have l3 := HX3.out.lt
        obtain ⟨hi0, hz0, hz1, hz2⟩ := HI.out
        have HO4 := Lib.hid (HOW3.out.alloc (.cells #[.slice ka kn kn, .int .i64 x1, .int .i64 x2, .int .i64 x3, .int .i64 x4, .int .u64 x5, .int .i64 x6, .int .i64 x7] 58))
        have HSR := Lib.hid ((ownsRow_blk (n := 1) (size := 8) (base := W3.heap.size) (xs := [.slice ka kn kn, .int .i64 x1, .int .i64 x2, .int .i64 x3, .int .i64 x4, .int .u64 x5, .int .i64 x6, .int .i64 x7]) (Blk.new W3 [_, _, _, _, _, _, _, _] 58) (Nat.le_refl _) rfl (by unfold maxLen; omega)).cells (g := W3.heap.size) rfl)
        have hcl := HC.out.1
        go_wp2_with (at_builtin; refine wpList_append_own _ rfl (.tmp 17) (.tmp 19) 26 rfl w.heap.size 58 i0 _ 8 80 Try.underlying26 hi0 hz0 hz1 hz2 rfl (by decide) _ k cs rfl HO4.out ⟨W3.heap.size, 0, none⟩ 1 1 [.slice ka kn kn, .int .i64 x1, .int .i64 x2, .int .i64 x3, .int .i64 x4, .int .u64 x5, .int .i64 x6, .int .i64 x7] rfl rfl HSR.out (by intro u hu; simp at hu; rcases hu with rfl | rfl | rfl | rfl | rfl | rfl | rfl | rfl <;> rfl) (by unfold maxLen; omega) (by omega) (by simp; omega) ?_; intro v' w6 hown6 hgrow _)
        have HSEV2 := Lib.hid (show sevK (many - (k + 1)) (acc ++ [rdKid s]) (rdKidS s) = R by
          have h := HSEV.out
          rw [show many - k = (many - (k + 1)) + 1 by have := HKM.out; omega] at h
          unfold sevK at h
          rw [HOK.out, if_pos rfl] at h
          exact h)
        have hbel : Below w.heap.size W3 w6 := ((Below.refl w.heap.size W3).alloc (by omega) (.cells #[.slice ka kn kn, .int .i64 x1, .int .i64 x2, .int .i64 x3, .int .i64 x4, .int .u64 x5, .int .i64 x6, .int .i64 x7] 58)).grown hgrow (by simp; omega) (fun k hk => (HO4.out.lt k hk).1)
        have lts := LT.out
        have HST6 := Lib.hid (HST3.out.below hbel lts.2.2.1 lts.2.2.2 HS.out)
        have hcl6 : KidCells w6 S (cs ++ [.slice ka kn kn, .int .i64 x1, .int .i64 x2, .int .i64 x3, .int .i64 x4, .int .u64 x5, .int .i64 x6, .int .i64 x7]) (acc ++ [rdKid s]) := by
          have h1 := HC3.out.same (W' := w6) hbel.size fun b h1 h2 => hbel.block b (HS.out b h1)
          have h2 := HK1.out.same (W' := w6) hbel.size fun b h1 h2 => hbel.block b (HS.out b h1)
          rw [← HVALS.out]
          exact h1.snoc h2 (rdKid_at s) (rdKid_fits s)
        have HC6 := Lib.hid hcl6
        have HON6 := Lib.hid (show OnlyS (TwoS pR pO) w w6 from ⟨hbel.os.trans HONA.out.os, hbel.tape.trans HONA.out.tape, hbel.output.trans HONA.out.output, Nat.le_trans HONA.out.size hbel.size, fun j hj hn => (hbel.block j hj).trans (HONA.out.block j hj hn)⟩)
        have HO6 := Lib.hid hown6
        clear hown6 hgrow hcl6 hbel lts hcl hi0 hz0 hz1 hz2 c2 m2 l2 c3 l3
        go_roundg (many - (k + 1))
        case measure => have := HKM.out; omega
        case rel => exact ⟨k + 1, HKM.out, rfl, by go_num, rfl, acc ++ [rdKid s], rdKidS s, _, HSEV2.out, HO6.out, HC6.out, HST6.out, HON6.out⟩
    · obtain rfl : k = many := by omega
      have hk3 : ¬ (k : Int) < (k : Int) := by omega
      have HRR := Lib.hid (show R = (acc, s, true) by
        have h := HSEV.out
        rw [Nat.sub_self] at h
        exact h.symm)
      obtain ⟨ra, rc, rfl, hIS⟩ := HC.out.shut HO.out (by omega)
      have HIS := Lib.hid hIS
      clear hIS hkm
      go_wp2
      go_ret2
      exact ⟨ra, k, rc, by rw [HRR.out]; rfl, by rw [HRR.out]; exact HIS.out, by rw [HRR.out]; exact HSA.out, HON.out⟩
end Go.Proofs.Ytfhhcpolicdfpaa
