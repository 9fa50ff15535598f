/-
  Layer 10, the statements: a file in memory of its own.
-/
import Derived.Test.YtmjmjjakhmeogaaLawFE
namespace Go.Dav
set_option linter.unusedVariables false
set_option linter.unusedSimpArgs false
open Go Go.RowKit
/-- Block b holds cells of type e, at n or beyond. -/
def OfType (n : Nat) (e : TypeId) (W : World) (b : Nat) : Prop := n ≤ b ∧ ∃ cs fz, W.heap[b]? = some (.cells cs e fz)
theorem OfType.ext {n : Nat} {e : TypeId} {W W' : World} {b : Nat} (h : OfType n e W b) (hb : Below W.heap.size W W') : OfType n e W' b := by
  obtain ⟨h1, cs, fz, h2⟩ := h
  exact ⟨h1, cs, fz, (hb.block b (Array.getElem?_eq_some_iff.1 h2).1).trans h2⟩
theorem OfType.grown {n m k : Nat} {e e2 : TypeId} {W W' : World} {b : Nat} {v : Value} {xs : List Value} (h : OfType n e W b) (hne : e ≠ e2) (hown : W.ownsRow m e2 1 v k xs) (hg : W.grownBy W' v.ownBlock) : W'.heap[b]? = W.heap[b]? ∧ OfType n e W' b := by
  obtain ⟨h1, cs, fz, h2⟩ := h
  have e1 : W'.heap[b]? = W.heap[b]? := hg.block b (Array.getElem?_eq_some_iff.1 h2).1 fun e' => by
    rcases hown.2 with ⟨rfl, _⟩ | ⟨g, cap, cur, rfl, _, hgb, _⟩
    · simp [Value.ownBlock] at e'
    · obtain rfl : b = g := by simpa [Value.ownBlock] using e'
      rw [hgb] at h2; cases h2; exact hne rfl
  exact ⟨e1, h1, cs, fz, e1.trans h2⟩
theorem own_cells_typed {w : World} {base e n : Nat} {v : Value} {xs : List Value} (h : w.ownsRow base e 1 v n xs) : ∃ a cap, v = .slice a n cap ∧ n ≤ cap ∧ cap ≤ maxLen ∧ (a = none → cap = 0) ∧ CellsS w (OfType base e w) a n xs := by
  obtain ⟨a, cap, h1, h2, h3, h4, h5⟩ := own_cells h
  refine ⟨a, cap, h1, h2, h3, h4, h5.len, fun k u hk => ?_⟩
  obtain ⟨b, o, e1, e2, e3, e4⟩ := h5.at_ k u hk
  refine ⟨b, o, e1, e2, ⟨e3, ?_⟩, e4⟩
  rcases h.2 with ⟨h', _⟩ | ⟨g, cap', cur, h', _, hg, _⟩
  · rw [h1] at h'; cases h'; cases e1
  · rw [h1] at h'; cases h'; cases e1; exact ⟨_, _, hg⟩
/-- An own row of bytes: they lie in blocks of bytes. -/
theorem own_typed {w : World} {base e n : Nat} {v : Value} {l : List UInt8} (h : w.ownsRow base e 1 v n (u8s l)) (hn : n ≤ 140737488355328) : ∃ a c, v = .slice a n c ∧ BytesS w (OfType base e w) a n c l := by
  obtain ⟨a, cap, h1, h2, h3, h4, h5⟩ := own_cells_typed h
  exact ⟨a, cap, h1, BytesS.of_cells h5 h2 h3 hn h4⟩
theorem BytesS.ofSame {W W' : World} {n e : Nat} {a : Option Addr} {len cap : Nat} {l : List UInt8} (h : BytesS W (OfType n e W) a len cap l) (hs : W.heap.size ≤ W'.heap.size) (hb : ∀ b, OfType n e W b → W'.heap[b]? = W.heap[b]?) : BytesS W' (OfType n e W') a len cap l :=
  (h.same hs fun b k _ => hb b k).mono fun b k => ⟨k.1, by
    have e := hb b k
    obtain ⟨_, cs, fz, h2⟩ := k
    exact ⟨cs, fz, e.trans h2⟩⟩
theorem OfType.ne {n e p t : Nat} {W : World} {b : Nat} {cs : List Value} (h : OfType n e W b) (hp : Blk W p cs t) (hne : t ≠ e) : b ≠ p := fun e' => by
  obtain ⟨_, cs', fz, h2⟩ := h
  subst e'
  rw [show W.heap[b]? = _ from hp] at h2
  cases h2; exact hne rfl
/-- Block b, at n or beyond, holds cells of another type than e. -/
def Apart (n : Nat) (e : TypeId) (W : World) (b : Nat) : Prop := n ≤ b ∧ ∃ cs t fz, W.heap[b]? = some (.cells cs t fz) ∧ t ≠ e
theorem OfType.apart {n m e f : Nat} {W : World} {b : Nat} (h : OfType n e W b) (hm : m ≤ n) (hne : e ≠ f) : Apart m f W b := by
  obtain ⟨h1, cs, fz, h2⟩ := h
  exact ⟨Nat.le_trans hm h1, cs, e, fz, h2, hne⟩
theorem Apart.ext {n : Nat} {e : TypeId} {W W' : World} {b : Nat} (h : Apart n e W b) (hb : Below W.heap.size W W') : Apart n e W' b := by
  obtain ⟨h1, cs, t, fz, h2, h3⟩ := h
  exact ⟨h1, cs, t, fz, (hb.block b (Array.getElem?_eq_some_iff.1 h2).1).trans h2, h3⟩
theorem Apart.ne {n e p : Nat} {W : World} {b : Nat} {cs : List Value} (h : Apart n e W b) (hp : Blk W p cs e) : b ≠ p := fun e' => by
  obtain ⟨_, cs', t, fz, h2, h3⟩ := h
  subst e'
  rw [show W.heap[b]? = _ from hp] at h2
  cases h2; exact h3 rfl
theorem PieceCells.ofType {W W' : World} {n m k : Nat} {e e2 : TypeId} {v : Value} {xs vs : List Value} {L : List (List UInt8)} (h : PieceCells W (OfType n e W) vs L) (hne : e ≠ e2) (hown : W.ownsRow m e2 1 v k xs) (hg : W.grownBy W' v.ownBlock) : PieceCells W' (OfType n e W') vs L :=
  ⟨h.1, fun i p hi => by
    obtain ⟨pa, pl, pc, h1, h2⟩ := h.2 i p hi
    refine ⟨pa, pl, pc, h1, ?_⟩
    have h3 := h2.same hg.size fun b hb _ => (hb.grown hne hown hg).1
    exact ⟨h3.at_, fun j x hj => by
      obtain ⟨b, o, e1, e2'⟩ := h2.in_ j x hj
      exact ⟨b, o, e1, (e2'.grown hne hown hg).2⟩⟩⟩
theorem PieceCells.ofExt {W W' : World} {n : Nat} {e : TypeId} {vs : List Value} {L : List (List UInt8)} (h : PieceCells W (OfType n e W) vs L) (hb : Below W.heap.size W W') : PieceCells W' (OfType n e W') vs L :=
  ⟨h.1, fun i p hi => by
    obtain ⟨pa, pl, pc, h1, h2⟩ := h.2 i p hi
    refine ⟨pa, pl, pc, h1, (h2.ext hb).at_, fun j x hj => ?_⟩
    obtain ⟨b, o, e1, e2'⟩ := h2.in_ j x hj
    exact ⟨b, o, e1, e2'.ext hb⟩⟩
/-- A file is handed back, in new memory, in blocks of other types than f. -/
def GivesNew (f : TypeId) (w : World) (F : FileD) (e : Ending) (w' : World) : Prop :=
  ∃ fa fl fc la ll lc, e = .returned (.agg #[.slice fa fl fc, .slice la ll lc, .int .i64 F.fuse, .int .i64 F.fault, .bool F.off]) ∧ FileS w' (Apart w.heap.size f w') fa fl fc la ll lc F ∧ Below w.heap.size w w'
end Go.Dav
namespace Go.Proofs.Ytmjmjjakhmeogaa
set_option linter.unusedVariables false
set_option linter.unusedSimpArgs false
open Go.RowKit Go.Dav
attribute [local go_sem] Gives ite_val ite_val_true

set_option maxHeartbeats 1000000 in
theorem Try_CloneOwn (a : Option Addr) (al ac : Nat) (x : List UInt8) (S : Nat → Prop) (w : World) (hx : BytesS w S a al ac x) :
    Calls Try.prog 46 #[.slice a al ac] w fun e w' => ∃ v, e = .returned v ∧ w'.ownsRow w.heap.size 5 1 v al (u8s x) ∧ Below w.heap.size w w' := by
  cases a with
  | none =>
    have h0 := hx.at_.hnil rfl
    have h1 := hx.at_.hcap
    obtain rfl : al = 0 := by omega
    subst h0
    have hx0 : x = [] := List.length_eq_zero_iff.1 hx.at_.hlen
    subst hx0
    clear hx h1
    have knil := @Try_eqNil
    go_enter Try.func46, Try.ntmps46
    go_wp2
    go_ret
    exact ⟨.slice none 0 0, rfl, World.ownsRow_nil _ _ _ _, (by repeat (first | (with_reducible exact Below.refl _ _) | (with_reducible exact Below.refl _ _) | (with_reducible refine Below.setCell ?_ (by first | omega | (simp; done) | (simp; omega)) _) | (with_reducible refine Below.alloc ?_ (by first | omega | (simp; done) | (simp; omega)) _) | (with_reducible refine Below.drew ?_) | (with_reducible refine below_drewN ?_ _)))⟩
  | some ad =>
    have hc := (hx.cells.ext ((Below.refl _ w).alloc (Nat.le_refl _) (.cells #[] 5)))
    have hf := hx.at_.hfew
    have HX := Lib.hid hc
    clear hx hc
    have knil := @Try_eqNil
    go_enter Try.func46, Try.ntmps46
    have hown := World.ownsRow_made (e := 5) (size := 1) w #[] 0 (Nat.le_refl _) (by unfold maxLen; omega) rfl
    go_wp2_with (at_builtin; refine wpList_append_rowS rfl (.tmp 5) (.tmp 6) 22 rfl Try_elemU8 w.heap.size _ 0 [] rfl hown S (some ad) al ac (u8s x) rfl HX.out (u8s_one x) (fun h => by cases h) (by unfold maxLen; omega) (by omega) (by simp) ?_; intro v' w1 hown1 hgrow)
    rw [Nat.zero_add, List.nil_append] at hown1
    have hbel : Below w.heap.size w w1 := ((Below.refl _ w).alloc (Nat.le_refl _) _).grown hgrow (by simp) (fun k hk => (hown.lt k hk).1)
    have HO := Lib.hid hown1
    clear hown1 hgrow
    go_wp2
    go_ret
    exact ⟨v', rfl, HO.out, hbel⟩

def TryOwnRel (L : World) (n₀ : Nat) (F : FileD) (v ix : Value) (wr : World) : Prop :=
  ∃ (k : Nat) (vs : List Value), k ≤ F.loose.length ∧ ix = .int .i64 k ∧ wr.ownsRow n₀ 22 1 v k vs ∧ PieceCells wr (OfType n₀ 5 wr) vs (F.loose.take k) ∧ Below n₀ L wr

set_option maxRecDepth 8000 in
set_option maxHeartbeats 8000000 in
theorem Try_own (F : FileD) (fa la : Option Addr) (fl fc ll lc : Nat) (w : World) (S : Nat → Prop) (hF : FileS w S fa fl fc la ll lc F) (hS : ∀ b, S b → b < w.heap.size) (hll : ll * 24 ≤ 140737488355328) :
    Calls Try.prog 18 #[.agg #[.slice fa fl fc, .slice la ll lc, .int .i64 F.fuse, .int .i64 F.fault, .bool F.off]] w (GivesNew 25 w F) := by
  have hW : Below w.heap.size w ((w.alloc (.cells [.slice fa fl fc, .slice la ll lc, .int .i64 F.fuse, .int .i64 F.fault, .bool F.off].toArray 25)).alloc (.cells #[.slice none 0 0, .slice none 0 0, .int .i64 0, .int .i64 0, .bool false] 25)) := (by repeat (first | (with_reducible exact Below.refl _ _) | (with_reducible exact Below.refl _ _) | (with_reducible refine Below.setCell ?_ (by first | omega | (simp; done) | (simp; omega)) _) | (with_reducible refine Below.alloc ?_ (by first | omega | (simp; done) | (simp; omega)) _) | (with_reducible refine Below.drew ?_) | (with_reducible refine below_drewN ?_ _)))
  have hf0 := (Blk.new w [.slice fa fl fc, .slice la ll lc, .int .i64 F.fuse, .int .i64 F.fault, .bool F.off] 25).alloc (o := (.cells #[.slice none 0 0, .slice none 0 0, .int .i64 0, .int .i64 0, .bool false] 25))
  have B0 := Blk.new' (w.alloc (.cells [.slice fa fl fc, .slice la ll lc, .int .i64 F.fuse, .int .i64 F.fault, .bool F.off].toArray 25)) [.slice none 0 0, .slice none 0 0, .int .i64 0, .int .i64 0, .bool false] 25 (p := w.heap.size + 1) (by simp)
  have hff := hF.firm.at_.hfew
  have hA := Try_CloneOwn fa fl fc F.firm S _ (hF.ext hW).firm
  have HA := Lib.hid hA
  have HF := Lib.hid hF
  have HSS := Lib.hid hS
  have HF0 := Lib.hid hf0
  have HB0 := Lib.hid B0
  have hll0 : F.loose.length = ll := hF.loose.hlen
  have HLL := Lib.hid hll0
  have hlf : (ll : Int) ≤ 140737488355328 := by omega
  clear hW hf0 B0 hA hF hS hll0
  go_enter Try.func18, Try.ntmps18
  go_wp2_with fail
  refine HA.out.mono ?_; rintro e w1 ⟨v1, rfl, hown, hb1⟩
  have s1 := hb1.size
  simp only [World.size_alloc] at s1
  obtain ⟨a1, c1, rfl, hfirm⟩ := own_typed hown hff
  have B1 := HF0.out.ext hb1
  have q1 := B1.cells
  have m1 := B1.marks
  have l1 := B1.lt
  have bel1 : Below w.heap.size w w1 := (by repeat (first | (with_reducible exact Below.refl _ _) | (with_reducible exact Below.refl _ _) | (with_reducible refine Below.setCell ?_ (by first | omega | (simp; done) | (simp; omega)) _) | (with_reducible refine Below.alloc ?_ (by first | omega | (simp; done) | (simp; omega)) _) | (with_reducible refine Below.drew ?_) | (with_reducible refine below_drewN ?_ _) | (with_reducible refine Below.trans ?_ (hb1.mono (by first | omega | (simp; done) | (simp; omega))))))
  have HR1 := Lib.hid (B1.set 0 (.slice a1 fl c1))
  have HFI := Lib.hid (hfirm.ofSame (W' := w1.setCell ⟨w.heap.size, 0, none⟩ (.slice a1 fl c1)) (by simp) (fun b h => Below.heap_setCell w1 ⟨w.heap.size, 0, none⟩ (.slice a1 fl c1) b (h.ne B1 (by decide))))
  have HB1 := Lib.hid ((HB0.out.ext hb1).other (q := w.heap.size) (by omega) 0 (.slice a1 fl c1))
  have bel2 : Below w.heap.size w (w1.setCell ⟨w.heap.size, 0, none⟩ (.slice a1 fl c1)) := (by repeat (first | (with_reducible exact Below.refl _ _) | (with_reducible exact Below.refl _ _) | (with_reducible refine Below.setCell ?_ (by first | omega | (simp; done) | (simp; omega)) _) | (with_reducible refine Below.alloc ?_ (by first | omega | (simp; done) | (simp; omega)) _) | (with_reducible refine Below.drew ?_) | (with_reducible refine below_drewN ?_ _) | (with_reducible refine Below.trans ?_ (bel1.mono (by first | omega | (simp; done) | (simp; omega))))))
  obtain ⟨L, hL⟩ : ∃ L, w1.setCell ⟨w.heap.size, 0, none⟩ (.slice a1 fl c1) = L := ⟨_, rfl⟩
  have hLs : L.heap.size = w1.heap.size := by rw [← hL]; simp
  rw [hL] at HR1 HFI HB1 bel2
  have BEL2 := Lib.hid bel2
  have HLS := Lib.hid hLs
  have HL := Lib.hid hL
  clear B1 hb1 hown hfirm HA HF0 HB0 bel1 bel2 hL hLs
  go_wp2_with fail
  rw [HL.out]
  clear q1 m1 HL
  go_loopw [3, 13] (fun v ix wr => TryOwnRel L L.heap.size F v ix wr) (fun _ ix _ => ll - (intOf ix).toNat)
  case atStart => exact ⟨0, [], Nat.zero_le _, rfl, World.ownsRow_nil _ _ _ _, ⟨rfl, fun k p hk => by simp at hk⟩, Below.refl _ _⟩
  case round =>
    obtain ⟨k, vs, hk, rfl, hrow, hpc, hbl⟩ := hrel
    have hll' := HLL.out
    have hLs' := HLS.out
    have hbw : Below w.heap.size w wr := BEL2.out.trans (hbl.mono (by omega))
    have B1 := HR1.out.below hbl (by omega)
    have q1 := B1.cells
    have m1 := B1.marks
    have lk := B1.lt
    have HBK := Lib.hid B1
    have HB2 := Lib.hid (HB1.out.below hbl (by omega))
    have HROW := Lib.hid hrow
    have HPC := Lib.hid hpc
    have HBL := Lib.hid hbl
    have HBW := Lib.hid hbw
    have hws := hbl.size
    clear hrow hpc hbl hbw B1
    by_cases hlt : k < F.loose.length
    · obtain ⟨p, hp⟩ : ∃ p, F.loose[k]? = some p := ⟨_, List.getElem?_eq_getElem hlt⟩
      obtain ⟨b, o, pa, pl, pc, rfl, hb, hSb, hc, hP⟩ := HF.out.loose.hat k p hp
      have hcell : wr.cell? ⟨b, o + k, none⟩ = some (.slice pa pl pc) := (HBW.out.cell (p := ⟨b, o + k, none⟩) hb).trans hc
      have hkl : (k : Int) < (ll : Int) := by omega
      have hpf := hP.at_.hfew
      have htk : F.loose.take (k + 1) = F.loose.take k ++ [p] := by rw [List.take_add_one, hp]; rfl
      have HTK := Lib.hid htk
      have HLT := Lib.hid hlt
      have hA := Try_CloneOwn pa pl pc p S wr (hP.ext HBW.out)
      have HA := Lib.hid hA
      clear hc hP hp hlt hk hA htk hSb hb hll' hLs'
      go_wp2_with fail
      refine HA.out.mono ?_; rintro e w2 ⟨v2, rfl, hown2, hb2⟩
      obtain ⟨a2, c2, rfl, hB2⟩ := own_typed hown2 hpf
      have s2 := hb2.size
      have hrow2 := ownsRow_ext HROW.out hb2
      have hpc2 := HPC.out.ofExt hb2
      have ha2 := (Below.refl w2.heap.size w2).alloc (Nat.le_refl _) (.cells #[.slice a2 pl c2] 22)
      have hpc3 := (PieceCells.append hpc2 (pieces_one (hB2.mono (T := OfType L.heap.size 5 w2) fun b h => ⟨Nat.le_trans hws h.1, h.2⟩))).ofExt ha2
      have HPC3 := Lib.hid hpc3
      have HROW2 := Lib.hid hrow2
      have HB22 := Lib.hid hb2
      have hkk : (k + 1) * 24 ≤ 140737488355328 := by omega
      clear hown2 hB2 hb2 hrow2 hpc2 ha2 hpc3 HA q1 m1 hcell
      go_wp2_with (at_builtin; refine wpList_append_rowS rfl (.tmp 17) (.tmp 20) 23 rfl Try_elemBytes L.heap.size _ k vs rfl (HROW2.out.alloc _) (fun _ => True) (some ⟨w2.heap.size, 0, none⟩) 1 1 [.slice a2 pl c2] rfl (cells_one trivial (by simp) ((Blk.new w2 [_] _).cell 0 rfl)) (by simp [Value.oneCell']) (fun h => by cases h) (by unfold maxLen; omega) hkk (by simp; omega) ?_; intro v3 w3 hown3 hgrow3; have HO3 := Lib.hid hown3; have HG3 := Lib.hid hgrow3; clear hkk hown3 hgrow3)
      have hpcs := HPC3.out.ofType (by decide) (HROW2.out.alloc (.cells #[.slice a2 pl c2] 22)) HG3.out
      rw [← HTK.out] at hpcs
      have hbel3 := below_own (B := L.heap.size) (W0 := L) (((HBL.out.trans (HB22.out.mono hws))).alloc (by omega) (.cells #[.slice a2 pl c2] 22)) (by simp; omega) (HROW2.out.alloc (.cells #[.slice a2 pl c2] 22)) (Nat.le_refl _) HG3.out
      have HPCS := Lib.hid hpcs
      have HBEL3 := Lib.hid hbel3
      clear hpcs hbel3
      go_roundw
      case rel => exact ⟨k + 1, _, HLT.out, by go_num, HO3.out, HPCS.out, HBEL3.out⟩
      case measure => simp [intOf]; omega
    · have hke : k = ll := by omega
      subst hke
      have hkl : ¬ (k : Int) < (k : Int) := by omega
      have htk : F.loose.take k = F.loose := by rw [← hll', List.take_length]
      have hpc := HPC.out
      rw [htk] at hpc
      obtain ⟨a', c', rfl, h1', h2', h3', h4'⟩ := own_cells_typed HROW.out
      have hloose : LooseS wr (Apart (w.heap.size + 1 + 1) 25 wr) a' k c' F.loose := LooseS.shut_ (h4'.mono fun b h => h.apart (by omega) (by decide)) (hpc.mono fun b h => h.apart (by omega) (by decide)) h1' h2' (by omega) h3'
      have hfirm : BytesS wr (Apart (w.heap.size + 1 + 1) 25 wr) a1 fl c1 F.firm := (HFI.out.ofSame hws (fun b h => HBL.out.block b (by obtain ⟨_, _, _, h2⟩ := h; exact (Array.getElem?_eq_some_iff.1 h2).1))).mono fun b h => h.apart (by simp) (by decide)
      have HFILE := Lib.hid (show FileS wr (Apart (w.heap.size + 1 + 1) 25 wr) a1 fl c1 a' k c' F from ⟨hfirm, hloose, HF.out.fuse, HF.out.fault⟩)
      have q3 := HB2.out.cells
      have m3 := HB2.out.marks
      have l3 := HB2.out.lt
      have nAB : w.heap.size ≠ w.heap.size + 1 := by omega
      have c2 := ((HB2.out.other (q := w.heap.size) (by omega) 1 (.slice a' k c')).five (.slice a1 fl c1) (.slice a' k c') (.int .i64 F.fuse) (.int .i64 F.fault) (.bool F.off)).cells
      have bel := HBW.out
      clear hlt hpc h1' h2' h3' h4' hloose hfirm hll' hLs' htk
      go_wp2
      refine bodyPost_ret (v := .agg #[.slice a1 fl c1, .slice a' k c', .int .i64 F.fuse, .int .i64 F.fault, .bool F.off]) (by simp [results, Try.results18, go_sem, c2]) rfl ⟨a1, fl, c1, a', k, c', rfl, ?_, ?_⟩
      · have hO1 : Only w.heap.size wr (wr.setCell ⟨w.heap.size, 1, none⟩ (.slice a' k c')) := (by repeat (first | (with_reducible exact Only.refl _ _) | (with_reducible refine Only.set ?_ _ _) | (with_reducible refine Only.alloc ?_ _) | (with_reducible refine Only.drew ?_)))
        have hO2 := Only.five (wr.setCell ⟨w.heap.size, 1, none⟩ (.slice a' k c')) (w.heap.size + 1) (.slice a1 fl c1) (.slice a' k c') (.int .i64 F.fuse) (.int .i64 F.fault) (.bool F.off)
        refine (file_two HFILE.out (fun b h => by have := h.1; omega) hO1 hO2).mono fun b h => ?_
        obtain ⟨g1, cs, t, fz, g2, g3⟩ := h
        have gl := (Array.getElem?_eq_some_iff.1 g2).1
        exact ⟨by omega, cs, t, fz, ((hO2.block b (by simpa using gl) (by omega)).trans (hO1.block b gl (by omega))).trans g2, g3⟩
      · exact (by repeat (first | (with_reducible exact Below.refl _ _) | (with_reducible exact Below.refl _ _) | (with_reducible refine Below.setCell ?_ (by first | omega | (simp; done) | (simp; omega)) _) | (with_reducible refine Below.alloc ?_ (by first | omega | (simp; done) | (simp; omega)) _) | (with_reducible refine Below.drew ?_) | (with_reducible refine below_drewN ?_ _) | (with_reducible refine Below.trans ?_ (bel.mono (by first | omega | (simp; done) | (simp; omega))))))
end Go.Proofs.Ytmjmjjakhmeogaa
