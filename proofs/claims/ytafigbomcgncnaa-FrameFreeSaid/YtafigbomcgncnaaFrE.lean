/-
  Layer 11: the bytes behind a place, past the marks: in plain, and the program's behind: its iterator's contract.
-/
import Derived.Test.YtafigbomcgncnaaFrC
import Derived.Test.YtafigbomcgncnaaFilP
import Derived.Test.YtafigbomcgncnaaFilQ
namespace Go.Dav
set_option linter.unusedVariables false
set_option linter.unusedSimpArgs false
open Go Go.RowKit
def pastsL : Nat → List UInt8 → List (Nat × UInt8)
  | _, [] => []
  | i, c :: r => if i % 64 = 0 then (if c = 0 then pastsL (i + 1) r else []) else (i, c) :: pastsL (i + 1) r
/-- The bytes from a place on, past the marks, till a mark is not 0. -/
def pasts (l : List UInt8) (i : Nat) : List (Nat × UInt8) := pastsL i (l.drop i)
theorem drop_of_get {l : List UInt8} {i : Nat} {c : UInt8} (h : l[i]? = some c) : l.drop i = c :: l.drop (i + 1) := by
  obtain ⟨hl, hc⟩ := List.getElem?_eq_some_iff.1 h
  rw [List.drop_eq_getElem_cons hl, hc]
theorem pasts_end {l : List UInt8} {i : Nat} (h : l.length ≤ i) : pasts l i = [] := by
  unfold pasts; rw [List.drop_eq_nil_of_le h]; rfl
theorem pasts_mid {l : List UInt8} {i : Nat} {c : UInt8} (h : l[i]? = some c) (hi : i % 64 ≠ 0) : pasts l i = (i, c) :: pasts l (i + 1) := by
  unfold pasts; rw [drop_of_get h, pastsL, if_neg hi]
theorem pasts_zero {l : List UInt8} {i : Nat} (h : l[i]? = some 0) (hi : i % 64 = 0) : pasts l i = pasts l (i + 1) := by
  unfold pasts; rw [drop_of_get h, pastsL, if_pos hi, if_pos rfl]
theorem pasts_stop {l : List UInt8} {i : Nat} {c : UInt8} (h : l[i]? = some c) (hi : i % 64 = 0) (hc : c ≠ 0) : pasts l i = [] := by
  unfold pasts; rw [drop_of_get h, pastsL, if_pos hi, if_neg hc]
/-- .. from the block at 'from_' on, for a place in it or ahead of it. -/
def restAt (l : List UInt8) (at_ from_ : Nat) : List (Nat × UInt8) :=
  if from_ ≤ at_ then (if l[from_]? = some 0 then pasts l at_ else []) else pasts l from_
def pastAll (l : List UInt8) (at_ : Int) : List (Nat × UInt8) :=
  if at_ < 0 ∨ (l.length : Int) ≤ at_ ∨ at_ % 64 = 0 then [] else restAt l at_.toNat (at_.toNat - at_.toNat % 64)
abbrev PlT : Type := { x : Nat × UInt8 // x.1 ≤ 524288 }
abbrev PlT.encs (x : PlT) : Array Value := #[.int .i64 (x.1.1 : Int), .int .u8 (x.1.2.toNat : Int)]
theorem cell_cells {W : World} {b i : Nat} {v : Value} (h : W.cell? ⟨b, i, none⟩ = some v) : ∃ o, W.heap[b]? = some o ∧ o.isCells = true := by
  unfold World.cell? at h
  cases hb : W.heap[b]? with
  | none => simp [hb] at h
  | some o =>
    refine ⟨o, rfl, ?_⟩
    cases o <;> first | rfl | (simp [hb] at h)
/-- The box q holds a slice over block k. -/
def PtsTo (W : World) (q k : Nat) : Prop := ∃ o n c, W.cell? ⟨q, 0, none⟩ = some (.slice (some ⟨k, o, none⟩) n c)
theorem grownBy_of_below1 {W W' : World} (h : Below W.heap.size W W') : W.grownBy W' none := ⟨h.os, h.tape, h.output, h.size, fun k hk _ => h.block k hk⟩
/-- Blocks of cells are kept, but for those that p names and for the row over which box q lies; that row may be a new one. -/
structure KpQ (q : Nat) (p : Nat → Prop) (W W' : World) : Prop where
  size : W.heap.size ≤ W'.heap.size
  same : ∀ (k : Nat) (o : Obj), W.heap[k]? = some o → o.isCells = true → ¬ p k → ¬ PtsTo W q k → W'.heap[k]? = some o
  pts : ∀ k, PtsTo W' q k → PtsTo W q k ∨ (W.heap.size ≤ k ∧ k < W'.heap.size)
theorem KpQ.t {q : Nat} {p : Nat → Prop} : ∀ {A B C : World}, KpQ q p A B → KpQ q p B C → KpQ q p A C := fun {A B C} h k =>
  ⟨Nat.le_trans h.size k.size, fun i o h1 h2 h3 h4 => k.same i o (h.same i o h1 h2 h3 h4) h2 h3 (fun h5 => by
    rcases h.pts i h5 with h6 | h6
    · exact h4 h6
    · have := (Array.getElem?_eq_some_iff.1 h1).1; omega),
   fun i h5 => by
    rcases k.pts i h5 with h6 | h6
    · rcases h.pts i h6 with h7 | h7
      · exact .inl h7
      · exact .inr ⟨h7.1, Nat.lt_of_lt_of_le h7.2 k.size⟩
    · exact .inr ⟨Nat.le_trans h.size h6.1, h6.2⟩⟩
theorem KpQ.of_below {q : Nat} {p : Nat → Prop} {W W' : World} (hq : q < W.heap.size) (h : Below W.heap.size W W') : KpQ q p W W' :=
  ⟨h.size, fun k o h1 _ _ _ => (h.block k (Array.getElem?_eq_some_iff.1 h1).1).trans h1, fun k ⟨o, n, c, hc⟩ => .inl ⟨o, n, c, by rw [← World.cell?_of_block (h.block q hq)]; exact hc⟩⟩
theorem KpQ.refl {q : Nat} {p : Nat → Prop} (W : World) (hq : q < W.heap.size) : KpQ q p W W := KpQ.of_below hq (Below.refl _ _)
theorem KpQ.b {q n : Nat} {p : Nat → Prop} (hn : q < n) : ∀ (W : World) (l : Nat) (o o' : Obj), n ≤ l → W.heap[l]? = some o → o.isCells = false → o.isWalk = false → KpQ q p W (W.putObj l o') := fun W l o o' h0 h2 h3 _ => by
  refine ⟨(grownBy_putObj' W l o').size, fun k x h4 h5 _ _ => ?_, fun k hk => ?_⟩
  · refine ((grownBy_putObj' W l o').block k (Array.getElem?_eq_some_iff.1 h4).1 (fun e => ?_)).trans h4
    cases e
    rw [h2] at h4; cases h4; rw [h3] at h5; cases h5
  · obtain ⟨o1, n1, c1, hc⟩ := hk
    have hl : q < W.heap.size := by have := (Array.getElem?_eq_some_iff.1 h2).1; omega
    exact .inl ⟨o1, n1, c1, by
      rw [← World.cell?_of_block ((grownBy_putObj' W l o').block q hl (by intro e; cases e; omega))]; exact hc⟩
theorem KpQ.blk {q : Nat} {p : Nat → Prop} {W W' : World} (h : KpQ q p W W') {b : Nat} {cs : List Value} {t : TypeId} (hb : Blk W b cs t) (hp : ¬ p b) (hq : ¬ PtsTo W q b) : Blk W' b cs t := h.same b _ hb rfl hp hq
theorem BytesS.kpq {q : Nat} {p : Nat → Prop} {W W' : World} {S : Nat → Prop} {a : Option Addr} {n c : Nat} {l : List UInt8} (h : BytesS W S a n c l) (k : KpQ q p W W') (hp : ∀ b, S b → ¬ p b ∧ ¬ PtsTo W q b) : BytesS W' S a n c l :=
  ⟨⟨h.at_.hlen, h.at_.hcap, h.at_.hmax, h.at_.hfew, fun i x hi => by
    obtain ⟨b, o, h1, h2, h3⟩ := h.at_.hat i x hi
    obtain ⟨b', o', h1', h4⟩ := h.in_ i x hi
    rw [h1] at h1'; cases h1'
    obtain ⟨ob, hb, hc⟩ := cell_cells h3
    have h5 := k.same b ob hb hc (hp b h4).1 (hp b h4).2
    refine ⟨b, o, h1, by have := k.size; omega, ?_⟩
    rw [World.cell?_of_block (h5.trans hb.symm)]; exact h3, h.at_.hnil⟩, h.in_⟩
theorem LooseS.kpq {q : Nat} {p : Nat → Prop} {W W' : World} {S : Nat → Prop} {a : Option Addr} {n c : Nat} {L : List (List UInt8)} (h : LooseS W S a n c L) (k : KpQ q p W W') (hp : ∀ b, S b → ¬ p b ∧ ¬ PtsTo W q b) : LooseS W' S a n c L :=
  ⟨h.hlen, h.hcap, h.hmax, h.hfew, fun i x hi => by
    obtain ⟨b, o, pa, pl, pc, h1, h2, h3, h4, h5⟩ := h.hat i x hi
    obtain ⟨ob, hb, hc⟩ := cell_cells h4
    have h6 := k.same b ob hb hc (hp b h3).1 (hp b h3).2
    exact ⟨b, o, pa, pl, pc, h1, by have := k.size; omega, h3, by rw [World.cell?_of_block (h6.trans hb.symm)]; exact h4, h5.kpq k hp⟩, h.hnil⟩
theorem FileS.kpq {q : Nat} {p : Nat → Prop} {W W' : World} {S : Nat → Prop} {fa la : Option Addr} {fl fc ll lc : Nat} {F : FileD} (h : FileS W S fa fl fc la ll lc F) (k : KpQ q p W W') (hp : ∀ b, S b → ¬ p b ∧ ¬ PtsTo W q b) : FileS W' S fa fl fc la ll lc F :=
  ⟨h.firm.kpq k hp, h.loose.kpq k hp, h.fuse, h.fault⟩
theorem BytesS.bound {W : World} {S : Nat → Prop} {a : Option Addr} {n c : Nat} {l : List UInt8} (h : BytesS W S a n c l) : BytesS W (fun b => S b ∧ b < W.heap.size) a n c l :=
  ⟨h.at_, fun k x hk => by
    obtain ⟨b, o, h1, h2⟩ := h.in_ k x hk
    obtain ⟨b', o', h1', h3, _⟩ := h.at_.hat k x hk
    rw [h1] at h1'; cases h1'
    exact ⟨b, o, h1, h2, h3⟩⟩
theorem read_part {F : FileD} (hr : F.right = true) {i k : Nat} (h : i + k ≤ F.many) : F.read (i : Int) (k : Int) = ((F.all.drop i).take k, 0) := by
  unfold FileD.read
  rw [if_pos hr, if_neg (by omega), if_neg (by omega), Int.toNat_natCast, Int.toNat_natCast]
end Go.Dav
namespace Go.Proofs.Ytafigbomcgncnaa
set_option linter.unusedVariables false
set_option linter.unusedSimpArgs false
open Go.RowKit Go.Dav Go.Shelf
attribute [local go_sem] Gives ite_val ite_val_true Oper.semAt_some

theorem Try_behind (F : FileD) (fa la : Option Addr) (fl fc ll lc : Nat) (at_ : Int) (w : World) :
    Calls Try.prog 29 #[.agg #[.slice fa fl fc, .slice la ll lc, .int .i64 F.fuse, .int .i64 F.fault, .bool F.off], .int .i64 at_] w fun e w' => e = .returned (.func (.func 44) #[] #[.pointer (some ⟨w.heap.size, 0, none⟩), .pointer (some ⟨w.heap.size + 1, 0, none⟩)]) ∧ w' = (w.alloc (.cells [.slice fa fl fc, .slice la ll lc, .int .i64 F.fuse, .int .i64 F.fault, .bool F.off].toArray 25)).alloc (.cells #[.int .i64 at_] 3) := by
  go_enter Try.func29, Try.ntmps29
  go_wp2
  go_ret
  exact ⟨rfl, rfl⟩
theorem Try_enter44 (args : Array Value) (W : World) : (callFunc 44 args).run Try.prog W = .ok (Next.enter 44 args) W := by kernel_rfl

set_option maxRecDepth 100000 in
set_option maxHeartbeats 8000000 in
theorem Try_behind1 (F : FileD) (fa la : Option Addr) (fl fc ll lc : Nat) (at_ : Int) (w : World) (S p : Nat → Prop) (n B q ty : Nat) (hn : 1 ≤ n) (hF : FileS w S fa fl fc la ll lc F) (hr : F.right = true) (hS : ∀ b, S b → b < w.heap.size ∧ ¬ p b) (hp : ∀ b, p b → b < w.heap.size) (hB : Blk w B [.slice fa fl fc, .slice la ll lc, .int .i64 F.fuse, .int .i64 F.fault, .bool F.off] 25) (hB2 : Blk w (B + 1) [.int .i64 at_] 3) (hBp : ¬ p B ∧ ¬ p (B + 1)) (hq : Blk w q [.slice none 0 0] ty) (ha : I64' at_) :
    SeqStopsK Fence.wide n Try.prog 44 #[.pointer (some ⟨B, 0, none⟩), .pointer (some ⟨B + 1, 0, none⟩)] PlT.encs (KpQ q p) (fun xs => xs.map (·.1) = pastAll F.all at_) (fun pre => pre.map (·.1) <+: pastAll F.all at_) (pastAll F.all at_).length w := fun l J Jx W0 hW hA _ hY hJ0 => by
  obtain ⟨m, hm⟩ : ∃ m, F.many = m := ⟨_, rfl⟩
  have hmx := (FileD.right_spec.1 hr).2.2.2.2
  have hal := F.all_length
  rw [hm] at hmx hal
  have hB0 := hB.ext hW
  have hB20 := hB2.ext hW
  have q1 := hB0.cells
  have l1 := hB0.lt
  have q2 := hB20.cells
  have l2 := hB20.lt
  have hqw := hq.lt
  have HF := Lib.hid (hF.ext hW)
  have HFw := Lib.hid hF
  have HA := Lib.hid hA
  have HY := Lib.hid hY
  have HJ0 := Lib.hid hJ0
  have HS := Lib.hid hS
  have HP := Lib.hid hp
  have HW := Lib.hid hW
  have HR := Lib.hid hr
  have HM := Lib.hid hm
  have HAL := Lib.hid hal
  have HBw := Lib.hid hB
  have HB2w := Lib.hid hB2
  have HBP := Lib.hid hBp
  have HK0 := Lib.hid (KpQ.of_below (p := p) hqw hW)
  have HNP := Lib.hid (show ∀ k, ¬ PtsTo w q k from fun k ⟨o, n1, c, h⟩ => by rw [hq.cells] at h; cases h)
  have hL := Try_Len F fa la fl fc ll lc W0 HF.out.at_
  rw [if_pos hr, hm] at hL
  have HL := Lib.hid hL
  clear hF hB hB2 hB0 hB20 hA hY hJ0 hS hp hW hL hr hm hal hq hBp
  refine callsIn_of_wp Try.func44 rfl trivial (wpIn_wide.2 ?_) rfl
  simp only [Try.ntmps44, List.size_toArray, List.length_cons, List.length_nil, Nat.reduceAdd, Nat.reduceSub, Array.replicate_succ, Array.replicate_zero, List.push_toArray, List.append_toArray, List.nil_append, List.cons_append]
  go_wp2_with fail
  refine HL.out.mono ?_; rintro e w1 ⟨rfl, hb1⟩
  have HJ1 := Lib.hid (HA.out [] W0 w1 none HJ0.out (grownBy_of_below1 hb1) (fun r e => by cases e))
  have HK1 := Lib.hid (KpQ.t HK0.out (KpQ.of_below (by have := HW.out.size; omega) hb1))
  have hbw := HW.out.trans (hb1.mono HW.out.size)
  have hB1 := HBw.out.ext hbw
  have hB21 := HB2w.out.ext hbw
  clear q1 l1 q2 l2 HL
  have q1 := hB1.cells
  have l1 := hB1.lt
  have q2 := hB21.cells
  have l2 := hB21.lt
  have hszw := hbw.size
  clear hb1 hbw hB1 hB21
  by_cases h0 : at_ < 0
  · have HT := Lib.hid (show pastAll F.all at_ = [] by unfold pastAll; rw [if_pos (.inl h0)])
    go_wp2
    refine bodyPost_ret (results_none rfl _ _ _) rfl ?_
    exact ⟨⟨_, rfl⟩, .inl ⟨[], HT.out.symm, HJ1.out⟩⟩
  · obtain ⟨i, rfl⟩ := Int.eq_ofNat_of_zero_le (show 0 ≤ at_ by omega)
    by_cases h1 : (m : Int) ≤ (i : Int)
    · have HT := Lib.hid (show pastAll F.all (i : Int) = [] by unfold pastAll; rw [if_pos (.inr (.inl (by rw [HAL.out]; exact h1)))])
      go_wp2
      refine bodyPost_ret (results_none rfl _ _ _) rfl ?_
      exact ⟨⟨_, rfl⟩, .inl ⟨[], HT.out.symm, HJ1.out⟩⟩
    · have htm : (i : Int).tmod 64 = (i : Int) % 64 := Int.tmod_eq_emod_of_nonneg (by omega)
      by_cases h2 : (i : Int) % 64 = 0
      · have HT := Lib.hid (show pastAll F.all (i : Int) = [] by unfold pastAll; rw [if_pos (.inr (.inr h2))])
        go_wp2
        refine bodyPost_ret (results_none rfl _ _ _) rfl ?_
        exact ⟨⟨_, rfl⟩, .inl ⟨[], HT.out.symm, HJ1.out⟩⟩
      · have h2' : ((i : Int) % 64 == 0) = false := by simp; omega
        obtain ⟨f0, hf0⟩ : ∃ f0, i - i % 64 = f0 := ⟨_, rfl⟩
        have HT := Lib.hid (show pastAll F.all (i : Int) = restAt F.all i f0 by unfold pastAll; rw [if_neg (by rw [HAL.out]; omega), Int.toNat_natCast, hf0])
        have hwf : IntKind.i64.wrap ((i : Int) - (i : Int) % 64) = (f0 : Int) := by rw [IntWalk.i64_in _ (by omega)]; omega
        have hf64 : f0 % 64 = 0 := by omega
        have him : i < m := by omega
        have hi64 : i % 64 ≠ 0 := by omega
        have hf0i : f0 + i % 64 = i := by omega
        go_wp2_with fail
        have HBBw := Lib.hid (And.intro HBw.out HB2w.out)
        clear q1 l1 q2 l2 hszw h0 h1 h2
        refine (wpIn_wide (n := n)).1 ?_
        gi_loopw [5] (fun fv wr => ∃ (f : Nat) (pre : List PlT), fv = .int .i64 (f : Int) ∧ f % 64 = 0 ∧ f0 ≤ f ∧ f ≤ m + 64 ∧ pre.map (·.1) ++ restAt F.all i f = pastAll F.all (i : Int) ∧ J pre wr ∧ KpQ q p w wr) (fun fv _ => m + 64 - (intOf fv).toNat)
        case atStart => exact ⟨f0, [], rfl, hf64, Nat.le_refl _, by omega, by rw [HT.out]; rfl, HJ1.out, HK1.out⟩
        case round =>
          obtain ⟨f, pre, rfl, hf, hf0f, hfm, hpre, hJ, hk⟩ := hrel
          have HJ := Lib.hid hJ
          have HK := Lib.hid hk
          have HPRE := Lib.hid hpre
          have hfI : (f : Int) ≤ 600000 := by omega
          have hb1 := hk.blk HBw.out HBP.out.1 (HNP.out B)
          have hb2 := hk.blk HB2w.out HBP.out.2 (HNP.out (B + 1))
          have q1 := hb1.cells
          have l1 := hb1.lt
          have q2 := hb2.cells
          have l2 := hb2.lt
          have hszr := hk.size
          have HFr := Lib.hid (HFw.out.kpq hk (fun b h => ⟨(HS.out b h).2, HNP.out b⟩))
          clear hJ hk hpre hb1 hb2
          by_cases hlt : f < m
          · obtain ⟨c, hc⟩ : ∃ c, F.all[f]? = some c := ⟨_, List.getElem?_eq_getElem (by rw [HAL.out]; exact hlt)⟩
            obtain ⟨k, hkk⟩ : ∃ k, min 64 (m - f) = k := ⟨_, rfl⟩
            have hlt' : (f : Int) < (m : Int) := by omega
            have hk1 : 1 ≤ k := by omega
            have hk64 : k ≤ 64 := by omega
            have hkm : f + k ≤ m := by omega
            have w1 : IntKind.i64.wrap ((m : Int) - (f : Int)) = (m : Int) - (f : Int) := IntWalk.i64_in _ (by omega)
            have w2 : (if (m : Int) - (f : Int) < 64 then (m : Int) - (f : Int) else 64) = (k : Int) := by split <;> omega
            have hA := Try_Read F fa la fl fc ll lc (f : Int) (k : Int) wr S HFr.out (fun b h => by have := (HS.out b h).1; omega) (by unfold I64'; omega) (by unfold I64'; omega)
            rw [read_part HR.out (by rw [HM.out]; exact hkm)] at hA
            have HA2 := Lib.hid hA
            have HC := Lib.hid hc
            have HKK := Lib.hid hkk
            clear hA hc hlt hkk
            gi_wp2_with fail
            refine ⟨trivial, (callsIn_wide.2 HA2.out).mono ?_⟩
            rintro e w3 ⟨ra, rl, rc, rfl, hR, hb3⟩
            have hblk : ∀ j, j < k → ((F.all.drop f).take k)[j]? = F.all[f + j]? := fun j hj => by rw [List.getElem?_take, if_pos hj, List.getElem?_drop]
            have hrl : rl = k := by have h := hR.at_.hlen; rw [List.length_take, List.length_drop, HAL.out] at h; omega
            subst hrl
            obtain ⟨b0, o0, rfl, hb0, hcell⟩ := hR.at_.hat 0 c (by rw [hblk 0 (by omega)]; exact HC.out)
            rw [Nat.add_zero] at hcell
            have HRB := Lib.hid hR.bound
            have HBK := Lib.hid hblk
            have HJ3 := Lib.hid (HA.out pre wr w3 none HJ.out (grownBy_of_below1 hb3) (fun r e => by cases e))
            have HK3 := Lib.hid (KpQ.t HK.out (KpQ.of_below (by omega) hb3))
            have hsz3 := hb3.size
            have HPT := Lib.hid (show ∀ b, wr.heap.size ≤ b → ¬ PtsTo w3 q b from fun b hb ⟨o1, n1, c1, h1⟩ => by
              have h2 : PtsTo wr q b := ⟨o1, n1, c1, by rw [← World.cell?_of_block (hb3.block q (by omega))]; exact h1⟩
              rcases HK.out.pts b h2 with h3 | h3
              · exact HNP.out b h3
              · omega)
            have hbb1 := HK3.out.blk HBw.out HBP.out.1 (HNP.out B)
            have hbb2 := HK3.out.blk HB2w.out HBP.out.2 (HNP.out (B + 1))
            clear q1 l1 q2 l2 hR hblk hb3
            have q2 := hbb2.cells
            have l2 := hbb2.lt
            clear hbb1 hbb2
            by_cases hc0 : c = 0
            · subst hc0
              have hcz : w3.cell? ⟨b0, o0, none⟩ = some (.int .u8 0) := hcell
              obtain ⟨i0, hi0, hi1, hi2, hi3⟩ : ∃ i0 : Nat, (if IntKind.i64.wrap ((i : Int) - (f : Int)) < 1 then (1 : Int) else IntKind.i64.wrap ((i : Int) - (f : Int))) = (i0 : Int) ∧ 1 ≤ i0 ∧ i0 ≤ rl ∧ restAt F.all i f = pasts F.all (f + i0) := by
                have hw : IntKind.i64.wrap ((i : Int) - (f : Int)) = (i : Int) - (f : Int) := IntWalk.i64_in _ (by omega)
                rw [hw]
                by_cases hfi : f ≤ i
                · refine ⟨i - f, by split <;> omega, by omega, by have := HKK.out; omega, ?_⟩
                  unfold restAt
                  rw [if_pos hfi, if_pos HC.out, show f + (i - f) = i by omega]
                · refine ⟨1, by split <;> omega, by omega, by omega, ?_⟩
                  unfold restAt
                  rw [if_neg hfi, pasts_zero HC.out hf]
              have HI3 := Lib.hid hi3
              have hsub : IntKind.i64.wrap ((i : Int) - (f : Int)) = (i : Int) - (f : Int) := IntWalk.i64_in _ (by omega)
              rw [hsub] at hi0
              clear hcell hi3
              gi_wp2_with fail
              clear hi0 hsub hcz
              obtain ⟨lo, hlo⟩ : ∃ lo, wr.heap.size = lo := ⟨_, rfl⟩
              rw [hlo] at HRB hszr hsz3
              have HPT0 := Lib.hid (show ∀ b, lo ≤ b → ¬ PtsTo w3 q b by rw [← hlo]; exact HPT.out)
              gi_loopw [8] (fun jv wv => ∃ (j : Nat) (pre' : List PlT), jv = .int .i64 (j : Int) ∧ 1 ≤ j ∧ j ≤ rl ∧ pre'.map (·.1) ++ pasts F.all (f + j) = pastAll F.all (i : Int) ∧ J pre' wv ∧ KpQ q p w wv ∧ BytesS wv (fun b => lo ≤ b ∧ b < w3.heap.size) (some ⟨b0, o0, none⟩) rl rc ((F.all.drop f).take rl) ∧ (∀ b, lo ≤ b → b < w3.heap.size → ¬ PtsTo wv q b) ∧ w3.heap.size ≤ wv.heap.size) (fun jv _ => rl - (intOf jv).toNat)
              case atStart => exact ⟨i0, pre, rfl, hi1, hi2, by have h := HPRE.out; rw [HI3.out] at h; exact h, HJ3.out, HK3.out, HRB.out, fun b h1 _ => HPT0.out b h1, Nat.le_refl _⟩
              case round =>
                obtain ⟨j, pre', rfl, hj1, hjl, hpre', hJ', hk', hrow, hpt, hszv⟩ := hrel
                have HJ' := Lib.hid hJ'
                have HK' := Lib.hid hk'
                have HPRE' := Lib.hid hpre'
                have HROW := Lib.hid hrow
                have HPT' := Lib.hid hpt
                clear hJ' hk' hpre' hrow hpt
                by_cases hjt : j < rl
                · obtain ⟨x, hx⟩ : ∃ x, F.all[f + j]? = some x := ⟨_, List.getElem?_eq_getElem (by rw [HAL.out]; omega)⟩
                  obtain ⟨b0', o0', e0, _, hxc⟩ := HROW.out.at_.hat j x (by rw [HBK.out j hjt]; exact hx)
                  cases e0
                  have HMID := Lib.hid (pasts_mid hx (by omega))
                  obtain ⟨z, hz⟩ : ∃ z, f + j = z := ⟨_, rfl⟩
                  obtain ⟨y, hy⟩ : ∃ y : PlT, y.1 = (z, x) := ⟨⟨(z, x), by show z ≤ 524288; omega⟩, rfl⟩
                  have hlen : pre'.length < (pastAll F.all (i : Int)).length := by
                    rw [← HPRE'.out, HMID.out]; simp
                  obtain ⟨fn, tmps, assign, body, hy2, hR⟩ := HY.out pre' y wr HJ'.out hlen
                  dsimp only [PlT.encs] at hy2
                  rw [hy] at hy2
                  dsimp only at hy2
                  have hnx : (pre' ++ [y]).map (·.1) ++ pasts F.all (f + (j + 1)) = pastAll F.all (i : Int) := by
                    rw [List.map_append, List.map_singleton, hy, List.append_assoc, ← HPRE'.out, HMID.out, ← hz]; rfl
                  have HNX := Lib.hid hnx
                  have HR := Lib.hid hR
                  have w4 : IntKind.i64.wrap ((f : Int) + (j : Int)) = (z : Int) := by rw [IntWalk.i64_in _ (by omega)]; omega
                  have hjI : (j : Int) < (rl : Int) := by omega
                  have hJT := Lib.hid hjt
                  clear hx hy hlen hnx hR hjt hz
                  gi_wp2_with fail
                  refine HR.out.mono ?_
                  rintro e W5 (⟨rfl, hJ5, hk5⟩ | ⟨rfl, hx5⟩)
                  · have HJ5 := Lib.hid hJ5
                    have HK5 := Lib.hid hk5
                    clear hJ5 hk5 HR hxc hy2
                    gi_wp2_with fail
                    go_roundw
                    case rel =>
                      refine ⟨j + 1, _, by go_num, by omega, by have := hJT.out; omega, HNX.out, HJ5.out, KpQ.t HK'.out HK5.out, HROW.out.kpq HK5.out (fun b h => ⟨fun hpb => ?_, HPT'.out b h.1 h.2⟩), fun b h1 h2 h3 => ?_, Nat.le_trans hszv HK5.out.size⟩
                      · have := HP.out b hpb; have := h.1; omega
                      · rcases HK5.out.pts b h3 with h4 | h4
                        · exact HPT'.out b h1 h2 h4
                        · omega
                    case measure => have := hJT.out; simp [intOf]; omega
                  · gi_wp2
                    refine bodyPost_ret (results_none rfl _ _ _) rfl ?_
                    exact ⟨⟨_, rfl⟩, .inr ⟨_, ⟨_, HNX.out⟩, hx5⟩⟩
                · obtain rfl : j = rl := by omega
                  have HNX := Lib.hid (show pre'.map (·.1) ++ restAt F.all i (f + 64) = pastAll F.all (i : Int) by
                    have h := HPRE'.out
                    have hk2 := HKK.out
                    have e : restAt F.all i (f + 64) = pasts F.all (f + 64) := by unfold restAt; rw [if_neg (by omega)]
                    rw [e]
                    by_cases h64 : j = 64
                    · rw [h64] at h; exact h
                    · rw [pasts_end (by rw [HAL.out]; omega)] at h
                      rw [pasts_end (by rw [HAL.out]; omega)]; exact h)
                  have hjI : ¬ (j : Int) < (j : Int) := by omega
                  have w5 : IntKind.i64.wrap ((f : Int) + 64) = (f : Int) + 64 := IntWalk.i64_in _ (by omega)
                  clear hjt
                  gi_wp2_with fail
                  go_roundw
                  case rel => exact ⟨f + 64, by go_num, by omega, by omega, by omega, pre', HNX.out, HJ'.out, HK'.out⟩
                  case measure => simp [intOf]; omega
            · have hne : ((c.toNat : Int) != 0) = true := by
                simp
                intro h
                exact hc0 (by rw [← UInt8.toNat_inj]; exact_mod_cast h)
              have HE := Lib.hid (show restAt F.all i f = [] by
                unfold restAt
                split
                · rw [if_neg (by rw [HC.out]; intro h; exact hc0 (Option.some.inj h))]
                · exact pasts_stop HC.out hf hc0)
              clear hc0
              gi_wp2
              refine bodyPost_ret (results_none rfl _ _ _) rfl ?_
              exact ⟨⟨_, rfl⟩, .inl ⟨pre, by have h := HPRE.out; rw [HE.out, List.append_nil] at h; exact h, HJ3.out⟩⟩
          · have hlt' : ¬ (f : Int) < (m : Int) := by omega
            have HE := Lib.hid (show restAt F.all i f = [] by unfold restAt; rw [if_neg (by omega)]; exact pasts_end (by rw [HAL.out]; omega))
            clear hlt
            gi_wp2
            go_end0
            exact ⟨⟨_, rfl⟩, .inl ⟨pre, by have h := HPRE.out; rw [HE.out, List.append_nil] at h; exact h, HJ.out⟩⟩
end Go.Proofs.Ytafigbomcgncnaa
