/-
  Layer 12: a file's whole blocks, from the last one down: the iterator's contract.
  Layer 12: Find, walked: the program's.
  Layer 12: the reference's Find, walked.
  Layer 12: a block of a header says that header; the layer does something, in plain.
  Layer 12: the layer does something: wakes, walked.
  Layer 10: Crash, walked: the program's.
-/
import Derived.Test.YthpdcbklaapngaaHeaderTornE
import Derived.Test.YthpdcbklaapngaaHeaderTornD
import Derived.RegionTactic
import Derived.BigRegion
import Derived.Test.YthpdcbklaapngaaHeaderTornC
namespace Go.Dav
set_option linter.unusedVariables false
set_option linter.unusedSimpArgs false
open Go Go.RowKit
/-- What a file's bytes are, if it may be. -/
def FileD.said (F : FileD) : List UInt8 := if F.right = true then F.all else []
theorem FileD.said_len {F : FileD} : F.said.length = if F.right = true then F.many else 0 := by
  unfold FileD.said; split
  · exact F.all_length
  · rfl
theorem FileD.said_le (F : FileD) : F.said.length ≤ 524288 := by
  rw [FileD.said_len]; split
  · rename_i h; exact (FileD.right_spec.1 h).2.2.2.2
  · omega
theorem FileD.read_said (F : FileD) : F.read 0 (F.said.length : Int) = (F.said, if F.right = true then 0 else 200) := by
  unfold FileD.said FileD.read
  by_cases h : F.right = true
  · rw [if_pos h, if_pos h, if_pos h, if_neg (by omega), FileD.all_length, if_neg (by omega)]
    have : (F.many : Int).toNat = F.all.length := by rw [FileD.all_length]; rfl
    rw [this]; simp
  · rw [if_neg h, if_neg h, if_neg h]
def BlkOk (x : Nat × List UInt8) : Prop := x.2.length = 64 ∧ x.1 ≤ 524288
abbrev BlkT : Type := { x : Nat × List UInt8 // BlkOk x }
abbrev BlkT.encs (x : BlkT) : Array Value := #[.int .i64 (x.1.1 : Int), .agg (u8s x.1.2).toArray]
/-- The first k blocks that are told: from the last one down. -/
def RevTo (l : List UInt8) (k : Nat) (xs : List BlkT) : Prop :=
  xs.length = k ∧ k ≤ l.length / 64 ∧ ∀ (j : Nat) x, xs[j]? = some x → x.1 = ((l.length / 64 - 1 - j) * 64, blockAt l (l.length / 64 - 1 - j))
theorem RevTo.nil_ (l : List UInt8) : RevTo l 0 [] := ⟨rfl, Nat.zero_le _, fun j x h => by simp at h⟩
theorem RevTo.snoc {l : List UInt8} {k : Nat} {xs : List BlkT} (h : RevTo l k xs) (hk : k < l.length / 64) {x : BlkT} (hx : x.1 = ((l.length / 64 - 1 - k) * 64, blockAt l (l.length / 64 - 1 - k))) : RevTo l (k + 1) (xs ++ [x]) := by
  refine ⟨by rw [List.length_append, h.1]; rfl, by omega, fun j y hy => ?_⟩
  by_cases hj : j < xs.length
  · rw [List.getElem?_append_left hj] at hy; exact h.2.2 j y hy
  · rw [List.getElem?_append_right (by omega)] at hy
    have hj2 : j - xs.length = 0 := by
      obtain ⟨h2, _⟩ := List.getElem?_eq_some_iff.1 hy
      simp at h2; omega
    rw [hj2] at hy
    cases hy
    have : j = k := by have := h.1; omega
    rw [this]; exact hx
/-- Blocks of cells are kept, but for those that p names. -/
def KpC (p : Nat → Prop) (W W' : World) : Prop := W.heap.size ≤ W'.heap.size ∧ ∀ (k : Nat) (o : Obj), W.heap[k]? = some o → o.isCells = true → ¬ p k → W'.heap[k]? = some o
theorem KpC.refl (p : Nat → Prop) (W : World) : KpC p W W := ⟨Nat.le_refl _, fun _ _ h _ _ => h⟩
theorem KpC.trans {p : Nat → Prop} {A B C : World} (h : KpC p A B) (k : KpC p B C) : KpC p A C := ⟨Nat.le_trans h.1 k.1, fun i o h1 h2 h3 => k.2 i o (h.2 i o h1 h2 h3) h2 h3⟩
theorem KpC.t {p : Nat → Prop} : ∀ {A B C : World}, KpC p A B → KpC p B C → KpC p A C := fun h k => h.trans k
theorem KpC.b {p : Nat → Prop} {n : Nat} : ∀ (W : World) (l : Nat) (o o' : Obj), n ≤ l → W.heap[l]? = some o → o.isCells = false → o.isWalk = false → KpC p W (W.putObj l o') := fun W l o o' _ h2 h3 _ =>
  ⟨(grownBy_putObj' W l o').size, fun k x h4 h5 _ => by
    refine ((grownBy_putObj' W l o').block k (Array.getElem?_eq_some_iff.1 h4).1 (fun e => ?_)).trans h4
    cases e
    rw [h2] at h4; cases h4; rw [h3] at h5; cases h5⟩
theorem KpC.of_only {p : Nat → Prop} {W W' : World} (h : OnlyS p W W') : KpC p W W' := ⟨h.size, fun k o h1 _ h3 => (h.block k (Array.getElem?_eq_some_iff.1 h1).1 h3).trans h1⟩
theorem KpC.of_below {p : Nat → Prop} {W W' : World} (h : Below W.heap.size W W') : KpC p W W' := KpC.of_only (OnlyS.of_below h)
theorem KpC.blk {p : Nat → Prop} {W W' : World} (h : KpC p W W') {q : Nat} {cs : List Value} {t : TypeId} (hb : Blk W q cs t) (hq : ¬ p q) : Blk W' q cs t := h.2 q _ hb rfl hq
theorem grownBy_of_below {W W' : World} (h : Below W.heap.size W W') : W.grownBy W' none := ⟨h.os, h.tape, h.output, h.size, fun k hk _ => h.block k hk⟩
/-- A cell that a block of cells holds. -/
theorem cell_isCells {W : World} {b i : Nat} {v : Value} (h : W.cell? ⟨b, i, none⟩ = some v) : ∃ o, W.heap[b]? = some o ∧ o.isCells = true := by
  unfold World.cell? at h
  cases hb : W.heap[b]? with
  | none => simp [hb] at h
  | some o =>
    refine ⟨o, rfl, ?_⟩
    cases o <;> first | rfl | (simp [hb] at h)
theorem BytesS.kpc {p : Nat → Prop} {W W' : World} {S : Nat → Prop} {a : Option Addr} {n c : Nat} {l : List UInt8} (h : BytesS W S a n c l) (k : KpC p W W') (hp : ∀ b, S b → ¬ p b) : BytesS W' S a n c l :=
  ⟨⟨h.at_.hlen, h.at_.hcap, h.at_.hmax, h.at_.hfew, fun i x hi => by
    obtain ⟨b, o, h1, h2, h3⟩ := h.at_.hat i x hi
    obtain ⟨b', o', h1', h4⟩ := h.in_ i x hi
    rw [h1] at h1'; cases h1'
    obtain ⟨ob, hb, hc⟩ := cell_isCells h3
    have h5 := k.2 b ob hb hc (hp b h4)
    refine ⟨b, o, h1, by have := k.1; omega, ?_⟩
    rw [World.cell?_of_block (h5.trans hb.symm)]; exact h3, h.at_.hnil⟩, h.in_⟩
theorem wpListIn_load_cells {Fn : Fence} {n0 : Nat} {P : Program} {ops : Array Oper} {rest : List Oper} {o : Oper} {a : Act} {w : World} {Q : Exit → Act → World → Prop} (hgd : o.guard = none) (ty : TypeId) (x : Operand) (ho : o.op = .load ty x) (ad : Addr) (hx : a.eval x = .pointer (some ad)) (cs : List Value) (d : TypeDesc)
    (hc : ∀ j v, cs[j]? = some v → w.cell? (ad.add j) = some v) (hu : P.underlying ty = some d) (hd : (match d with | .struct _ | .array _ _ => true | _ => false) = true) (hi : (P.info? ty).map (·.size) = some cs.length)
    (h : wpListIn Fn n0 P ops Q rest (a.put o.dst (.agg cs.toArray)) w) : wpListIn Fn n0 P ops Q (o :: rest) a w := by
  refine wpListIn_plain hgd fun K hK => ?_
  have hr := exec_load_cells (o := o) (a := a) w ad ty x ho hx cs d hc hu hd hi
  unfold Oper.wpIn
  refine ⟨?_, ?_⟩
  · simp [Oper.about, ho]
  · rw [Oper.semAt_plain Fn _ _ (by rw [ho]; intro c hc'; cases hc'), hr]
    exact hK _ _ h
end Go.Dav
namespace Go.Proofs.Ythpdcbklaapngaa
set_option linter.unusedVariables false
set_option linter.unusedSimpArgs false
open Go.RowKit Go.Dav Go.Shelf
attribute [local go_sem] Gives ite_val ite_val_true Oper.semAt_some

set_option maxHeartbeats 4000000 in
theorem Try_blocks (F : FileD) (fa la : Option Addr) (fl fc ll lc : Nat) (w : World) :
    Calls Try.prog 25 #[.agg #[.slice fa fl fc, .slice la ll lc, .int .i64 F.fuse, .int .i64 F.fault, .bool F.off]] w fun e w' => e = .returned (.func (.func 38) #[] #[.pointer (some ⟨w.heap.size, 0, none⟩)]) ∧ w' = w.alloc (.cells [.slice fa fl fc, .slice la ll lc, .int .i64 F.fuse, .int .i64 F.fault, .bool F.off].toArray 27) := by
  go_enter Try.func25, Try.ntmps25
  go_wp2
  go_ret
  exact ⟨rfl, rfl⟩
theorem Try_enter38 (args : Array Value) (W : World) : (callFunc 38 args).run Try.prog W = .ok (Next.enter 38 args) W := by kernel_rfl

def TryRead2 (B : Nat) (x : List UInt8) (err : Int) (v : Value) (W : World) : Prop := ∃ a n c, v = .tuple #[.slice a n c, .int .i64 err] ∧ BytesS W (fun b => B ≤ b) a n c x
theorem Try_read2_later {B : Nat} {x : List UInt8} {err : Int} : ∀ v W W', TryRead2 B x err v W → Below W.heap.size W W' → TryRead2 B x err v W' := fun _ _ _ ⟨a, n, c, h1, h2⟩ hb => ⟨a, n, c, h1, h2.ext hb⟩
def TryRow2 (B : Nat) (x : List UInt8) (v : Value) (W : World) : Prop := ∃ a n c, v = .slice a n c ∧ BytesS W (fun b => B ≤ b) a n c x
theorem Try_row2_later {B : Nat} {x : List UInt8} : ∀ v W W', TryRow2 B x v W → Below W.heap.size W W' → TryRow2 B x v W' := fun _ _ _ ⟨a, n, c, h1, h2⟩ hb => ⟨a, n, c, h1, h2.ext hb⟩

set_option maxRecDepth 100000 in
set_option maxHeartbeats 4000000 in
theorem Try_blocks1 (F : FileD) (fa la : Option Addr) (fl fc ll lc : Nat) (w : World) (S p : Nat → Prop) (n B : Nat) (hn : 1 ≤ n) (hF : FileS w S fa fl fc la ll lc F) (hS : ∀ b, S b → b < w.heap.size) (hp : ∀ b, p b → b < w.heap.size) (hB : Blk w B [.slice fa fl fc, .slice la ll lc, .int .i64 F.fuse, .int .i64 F.fault, .bool F.off] 27) :
    SeqStopsK Fence.wide n Try.prog 38 #[.pointer (some ⟨B, 0, none⟩)] BlkT.encs (KpC p) (RevTo F.said (F.said.length / 64)) (fun pre => ∃ k, RevTo F.said k pre) (F.said.length / 64) w := fun l J Jx W0 hW hA _ hY hJ0 => by
  have hB1 := hB.ext hW
  have q1 := hB1.cells
  have l1 := hB1.lt
  have HF := Lib.hid (hF.ext hW)
  have HA := Lib.hid hA
  have HY := Lib.hid hY
  have HJ0 := Lib.hid hJ0
  have HS := Lib.hid hS
  have HP := Lib.hid hp
  have HW := Lib.hid hW
  have HN := Lib.hid F.said_le
  clear hF hB hB1 hA hY hJ0 hS hp hW
  refine callsIn_of_wp Try.func38 rfl trivial (wpIn_wide.2 ?_) rfl
  simp only [Try.ntmps38, List.size_toArray, List.length_cons, List.length_nil, Nat.reduceAdd, Nat.reduceSub, Array.replicate_succ, Array.replicate_zero, List.push_toArray, List.append_toArray, List.nil_append, List.cons_append]
  go_wp2_with fail
  obtain ⟨err, herr⟩ : ∃ err : Int, (if F.right = true then (0 : Int) else 200) = err := ⟨_, rfl⟩
  have HERR := Lib.hid herr
  have hsl : (if F.right = true then (F.many : Int) else 0) = (F.said.length : Int) := by rw [FileD.said_len]; split <;> rfl
  have HSL := Lib.hid hsl
  clear herr hsl
  refine' wp_region_seq [.inl _, .inl _, .inl _, .inr (TryRead2 W0.heap.size F.said err), .inr (TryRead2 W0.heap.size F.said err), .inr (TryRow2 W0.heap.size F.said), .inl _, .inr (TryRow2 W0.heap.size F.said), .inl _] (by kernel_rfl) (by kernel_rfl) ?main1
  case main1 =>
    refine wpParts_det (by rfl) (fun W hE hN => ?_) ?_
    · have hc := fun b o h => hE.cell (p := ⟨b, o, none⟩) h
      go_simp; refine ⟨Below.refl _ _, ?_⟩; rfl
    simp only [Act.put, List.setIfInBounds_toArray, List.set_cons_zero, List.set_cons_succ]
    refine wpParts_det (by rfl) (fun W hE hN => ?_) ?_
    · have hc := fun b o h => hE.cell (p := ⟨b, o, none⟩) h
      go_simp; refine ⟨Below.refl _ _, ?_⟩; rfl
    simp only [Act.put, List.setIfInBounds_toArray, List.set_cons_zero, List.set_cons_succ]
    refine wpParts_det (by rfl) (fun W hE hN => ?_) ?_
    · go_simp; refine ⟨Below.refl _ _, ?_⟩; have hA := Try_Len F fa la fl fc ll lc W (HF.out.ext hE).at_; rw [HSL.out] at hA; refine hA.mono ?_; rintro e w' ⟨rfl, hb⟩; refine ⟨?_, hb⟩; rfl
    simp only [Act.put, List.setIfInBounds_toArray, List.set_cons_zero, List.set_cons_succ]
    refine wpParts_any rfl (Try_read2_later) (by rfl) (fun W hE hN => ?_) (fun u3 => ?_)
    · go_simp; refine ⟨Below.refl _ _, ?_⟩; have hA := Try_Read F fa la fl fc ll lc 0 (F.said.length : Int) W _ (HF.out.ext hE) (fun b h => by have := HS.out b h; have := hE.size; have := HW.out.size; omega) (by unfold I64'; omega) (by have := HN.out; unfold I64'; omega); rw [FileD.read_said, HERR.out] at hA; refine hA.mono ?_; rintro e w' ⟨ra, rl, rc, rfl, hR, hb⟩; exact ⟨_, rfl, hb, ra, rl, rc, rfl, hR.mono fun b h => Nat.le_trans hE.size h⟩
    simp only [Act.put, List.setIfInBounds_toArray, List.set_cons_zero, List.set_cons_succ]
    refine wpParts_any rfl (Try_read2_later) (by rfl) (fun W hE hN => ?_) (fun u4 => ?_)
    · simp [near, Oper.looksAt, Op.operands] at hN; go_simp; exact Below.refl _ _
    simp only [Act.put, List.setIfInBounds_toArray, List.set_cons_zero, List.set_cons_succ]
    refine wpParts_any rfl (Try_row2_later) (by rfl) (fun W hE hN => ?_) (fun u5 => ?_)
    · simp [near, Oper.looksAt, Op.operands] at hN; obtain ⟨ra, rl, rc, rfl, hR⟩ := hN; go_simp; exact ⟨Below.refl _ _, ra, rl, rc, rfl, hR⟩
    simp only [Act.put, List.setIfInBounds_toArray, List.set_cons_zero, List.set_cons_succ]
    refine wpParts_det (by rfl) (fun W hE hN => ?_) ?_
    · simp [near, Oper.looksAt, Op.operands] at hN; obtain ⟨ra, rl, rc, rfl, hR⟩ := hN; go_simp; refine ⟨Below.refl _ _, ?_⟩; rfl
    simp only [Act.put, List.setIfInBounds_toArray, List.set_cons_zero, List.set_cons_succ]
    refine wpParts_any rfl (Try_row2_later) (by rfl) (fun W hE hN => ?_) (fun u7 => ?_)
    · simp [near, Oper.looksAt, Op.operands] at hN; go_simp; exact Below.refl _ _
    simp only [Act.put, List.setIfInBounds_toArray, List.set_cons_zero, List.set_cons_succ]
    refine wpParts_det (by rfl) (fun W hE hN => ?_) ?_
    · go_simp; refine ⟨Below.refl _ _, ?_⟩; rfl
    simp only [Act.put, List.setIfInBounds_toArray, List.set_cons_zero, List.set_cons_succ]
    refine wpParts_end fun W2 hE2 hG2 => ?_
    have hcW2 := fun b o h => hE2.cell (p := ⟨b, o, none⟩) h
    have hfW2 := fun b o h => hE2.frozen (p := ⟨b, o, none⟩) h
    obtain ⟨⟨ra, rl, rc, rfl, hR⟩, _⟩ := hG2
    have HR2 := Lib.hid hR
    have hlen := hR.at_.hlen
    have hJ2 : J [] W2 := HA.out [] W0 W2 none HJ0.out (grownBy_of_below hE2) (fun r e => by cases e)
    have HJ2 := Lib.hid hJ2
    have HS2 := Lib.hid hE2.size
    clear hR hJ2 hE2 hcW2 hfW2 q1 l1 HSL
    cases hr : F.right with
    | false =>
      have he : err = 200 := by rw [← HERR.out, hr]; rfl
      have hs : F.said = [] := by unfold FileD.said; rw [hr]; rfl
      have HSD := Lib.hid hs
      subst he
      clear hs hr
      go_wp2
      refine bodyPost_ret (results_none rfl _ _ _) rfl ?_
      exact ⟨⟨_, rfl⟩, .inl ⟨[], by rw [HSD.out]; exact RevTo.nil_ [], HJ2.out⟩⟩
    | true =>
      have he : err = 0 := by rw [← HERR.out, hr]; rfl
      subst he
      clear hr
      obtain ⟨N, hN⟩ : ∃ N, F.said.length / 64 = N := ⟨_, rfl⟩
      obtain ⟨sd, hsd⟩ : ∃ sd, F.said = sd := ⟨_, rfl⟩
      have HNN := Lib.hid hN
      have hrl : rl = sd.length := by rw [← hsd]; exact hlen.symm
      have hq : (rl : Int).tdiv 64 = (N : Int) := by rw [Int.tdiv_eq_ediv_of_nonneg (by omega)]; omega
      have hNle : N ≤ 8192 := by have := HN.out; omega
      have hw0 : IntKind.i64.wrap ((N : Int) * 64) = (N : Int) * 64 := IntWalk.i64_in _ (by omega)
      have HRB := Lib.hid (show BytesS W2 (fun b => W0.heap.size ≤ b) ra rl rc sd by rw [← hsd]; exact HR2.out)
      have hcap := HRB.out.at_.hcap
      have HLN := Lib.hid hrl
      have HSD := Lib.hid hsd
      clear hlen hN hsd hrl
      go_wp2_with fail
      refine (wpIn_wide (n := n)).1 ?_
      gi_loopw [5] (fun atv wr => ∃ (k : Nat) (pre : List BlkT), atv = .int .i64 (((N - k) * 64 : Nat) : Int) ∧ RevTo sd k pre ∧ J pre wr ∧ KpC p W2 wr) (fun atv _ => (intOf atv).toNat)
      case atStart => exact ⟨0, [], by go_num, RevTo.nil_ _, HJ2.out, KpC.refl _ _⟩
      case round =>
        obtain ⟨k, pre, rfl, hrt, hJ, hkp⟩ := hrel
        have hkN : k ≤ N := by have := hrt.2.1; rw [HSD.out.symm, HNN.out] at this; exact this
        have hrb := HRB.out.kpc hkp (fun b h hpb => by have := HP.out b hpb; have := HW.out.size; omega)
        have hprel := hrt.1
        have HRT := Lib.hid hrt
        have HJ := Lib.hid hJ
        have HKP := Lib.hid hkp
        have HRR := Lib.hid hrb
        clear hrt hJ hkp hrb
        obtain ⟨y, hy⟩ : ∃ y, N - k = y := ⟨_, rfl⟩
        rw [hy]
        cases y with
        | zero =>
          have hkE : k = N := by omega
          have HKE := Lib.hid hkE
          clear hkE hy hq
          gi_wp2
          go_end0
          exact ⟨⟨_, rfl⟩, .inl ⟨pre, by have h := HRT.out; rw [HKE.out, ← HNN.out] at h; rw [HNN.out] at h; rw [HSD.out, show sd.length / 64 = N by rw [← HSD.out]; exact HNN.out]; exact h, HJ.out⟩⟩
        | succ z =>
          obtain ⟨m, hm⟩ : ∃ m, z * 64 = m := ⟨_, rfl⟩
          have hm2 : (z + 1) * 64 = m + 64 := by omega
          have hmr : m + 64 ≤ rl := by have h1 := HNN.out; have h2 := HLN.out; rw [HSD.out, ← h2] at h1; omega
          rw [hm2]
          have hsl0 : 0 < sd.length := by have := HLN.out; omega
          obtain ⟨b0, o0, rfl⟩ : ∃ b0 o0, ra = some ⟨b0, o0, none⟩ := by
            obtain ⟨c0, hc0⟩ : ∃ c0, sd[0]? = some c0 := ⟨_, List.getElem?_eq_getElem hsl0⟩
            obtain ⟨b0, o0, h1, _⟩ := HRR.out.at_.hat 0 c0 hc0
            exact ⟨b0, o0, h1⟩
          have hbl : (blockAt sd z).length = 64 := blockAt_len (by have := HLN.out; omega)
          have hcs := HRR.out.cells.part (lo := m) (hi := m + 64) (by omega) hmr
          have e1 : ((u8s sd).take (m + 64)).drop m = u8s (blockAt sd z) := by
            unfold blockAt
            rw [u8s_part, hm, List.drop_take, Nat.add_sub_cancel_left]
          rw [e1] at hcs
          have HCS := Lib.hid hcs
          have HBL := Lib.hid hbl
          obtain ⟨x, hx⟩ : ∃ x : BlkT, x.1 = (m, blockAt sd z) := ⟨⟨(m, blockAt sd z), hbl, by have := HN.out; have h := HSD.out; rw [h] at this; have := HLN.out; show m ≤ 524288; omega⟩, rfl⟩
          obtain ⟨fn, tmps, assign, body, hy2, hR⟩ := HY.out pre x wr HJ.out (by rw [hprel, HNN.out]; omega)
          dsimp only [BlkT.encs] at hy2
          rw [hx] at hy2
          dsimp only at hy2
          have hz : N - 1 - k = z := by omega
          have HNX := Lib.hid (show RevTo sd (k + 1) (pre ++ [x]) from HRT.out.snoc (by rw [← HSD.out, HNN.out]; omega) (by rw [hx, ← HSD.out, HNN.out, hz, hm]))
          have hy3 : N - (k + 1) = z := by omega
          have HY3 := Lib.hid (And.intro hy3 hm)
          have HR := Lib.hid hR
          have k1 : (64 : Int) ≤ (m : Int) + 64 := by omega
          have k2 : IntKind.i64.wrap ((m : Int) + 64 - 64) = (m : Int) := by rw [Int.add_sub_cancel]; exact IntWalk.i64_in _ (by have := HN.out; have h := HSD.out; rw [h] at this; have := HLN.out; omega)
          have k2' : IntKind.i64.wrap (m : Int) = (m : Int) := IntWalk.i64_in _ (by have := HN.out; have h := HSD.out; rw [h] at this; have := HLN.out; omega)
          have k3 : (m : Int) ≤ (rl : Int) := by omega
          have k3' : m ≤ rl := by omega
          have k4 : (rl : Int) ≤ (rc : Int) := by omega
          have k5 : ¬ rc = m := by omega
          have k6 : 64 ≤ rl - m := by omega
          have k8 : ∀ w, (Instr.arrayAt 50 (.slice (some ⟨b0, o0 + m, none⟩) (rl - m) (rc - m))).run Try.prog w = .ok (.pointer (some ⟨b0, o0 + m, none⟩)) w := fun w => run_arrayAt (P := Try.prog) (w := w) 50 5 64 _ _ _ Try.underlying50 k6
          clear hbl hcs e1 hx hy hz hm hm2 hR hsl0 hy3 hkN hprel hq hNle hw0 hmr hcap
          gi_wp2_with (first | (refine wpListIn_load_cells rfl 50 (.tmp 28) rfl ⟨b0, o0 + m, none⟩ rfl (u8s (blockAt sd z)) _ HCS.out.from_ Try.underlying50 rfl (by rw [Try_size64, u8s_len, HBL.out]) ?_))
          refine HR.out.mono ?_
          rintro e W3 (⟨rfl, hJ3, hk3⟩ | ⟨rfl, hx3⟩)
          · have HJ3 := Lib.hid hJ3
            have HK3 := Lib.hid (HKP.out.trans hk3)
            clear hJ3 hk3 HR
            gi_wp2_with fail
            go_roundw
            case rel => exact ⟨k + 1, _, by rw [HY3.out.1, HY3.out.2], HNX.out, HJ3.out, HK3.out⟩
            case measure => simp [intOf]; omega
          · gi_wp2
            refine bodyPost_ret (results_none rfl _ _ _) rfl ?_
            exact ⟨⟨_, rfl⟩, .inr ⟨_, ⟨_, by rw [HSD.out]; exact HNX.out⟩, hx3⟩⟩
end Go.Proofs.Ythpdcbklaapngaa

namespace Go.Dav
set_option linter.unusedVariables false
set_option linter.unusedSimpArgs false
open Go Go.RowKit
theorem wpListIn_store_row {Fn : Fence} {n0 : Nat} {P : Program} {ops : Array Oper} {rest : List Oper} {o : Oper} {a : Act} {w : World} {Q : Exit → Act → World → Prop} (hgd : o.guard = none) (ty : TypeId) (x y : Operand) (ho : o.op = .store ty x y)
    (g : Nat) (cells : Array Value) (hx : a.eval x = .pointer (some ⟨g, 0, none⟩)) (hy : a.eval y = .agg cells)
    (t : TypeId) (old : Array Value) (hg : w.heap[g]? = some (.cells old t (0, 0))) (hi : (P.info? ty).map (·.size) = some cells.size)
    (hold : old.size = cells.size) (h1 : cells.all (·.oneCell') = true)
    (h : wpListIn Fn n0 P ops Q rest (a.put o.dst undef) (w.setRow g cells)) : wpListIn Fn n0 P ops Q (o :: rest) a w := by
  refine wpListIn_plain hgd fun K hK => ?_
  unfold Oper.wpIn
  refine ⟨?_, ?_⟩
  · simp [Oper.about, ho]
  · rw [Oper.semAt_plain Fn _ _ (by rw [ho]; intro c hc'; cases hc')]
    unfold execOp
    simp only [ho, hx, hy, Instr.storeAt, Instr.sureAddr, Sem.run_bind, Sem.run_pure, Result.andThen_ok, run_storeVar_row w g t ty old cells hg hi hold h1]
    exact hK _ _ h
theorem KeepsFrom.of_only {p : Nat → Prop} {B : Nat} {W W' : World} (h : OnlyS p W W') (hp : ∀ k, p k → k < B) : KeepsFrom B W W' :=
  ⟨h.size, fun k o hk h1 _ => (h.block k (Array.getElem?_eq_some_iff.1 h1).1 (fun hpk => by have := hp k hpk; omega)).trans h1⟩
theorem KeepsFrom.of_below {B : Nat} {W W' : World} (h : Below W.heap.size W W') : KeepsFrom B W W' :=
  ⟨h.size, fun k o hk h1 _ => (h.block k (Array.getElem?_eq_some_iff.1 h1).1).trans h1⟩
end Go.Dav
namespace Go.Proofs.Ythpdcbklaapngaa
set_option linter.unusedVariables false
set_option linter.unusedSimpArgs false
open Go.RowKit Go.Dav Go.Shelf
attribute [local go_sem] Gives ite_val ite_val_true Oper.semAt_some

theorem Try_looked_own {β : Type} (ph pf pp g a z : Nat) (f : Bool) : Own (fun (_ : β) W => TryLooked ph pf pp g a f z W) := fun s X Y row h hg hr =>
  ⟨blk_own ph _ _ s X Y row h.h hg hr, blk_own pf _ _ s X Y row h.f hg hr, blk_own pp _ _ s X Y row h.p hg hr⟩
/-- No block that was told is a header's. -/
def TryNone (pre : List BlkT) : Prop := ∀ x ∈ pre, isOf x.1.2 = false

theorem TryLooked.ext {ph pf pp g a z : Nat} {f : Bool} {W W' : World} (h : TryLooked ph pf pp g a f z W) (hb : Below W.heap.size W W') : TryLooked ph pf pp g a f z W' := ⟨h.h.ext hb, h.f.ext hb, h.p.ext hb⟩

set_option maxRecDepth 100000 in
set_option maxHeartbeats 8000000 in
theorem Try_Find (F : FileD) (fa la : Option Addr) (fl fc ll lc : Nat) (w : World) (S : Nat → Prop) (hF : FileS w S fa fl fc la ll lc F) (hS : ∀ b, S b → b < w.heap.size) :
    Calls Try.prog 14 #[.agg #[.slice fa fl fc, .slice la ll lc, .int .i64 F.fuse, .int .i64 F.fault, .bool F.off]] w fun e w' => e = .returned (findOf F.said) ∧ Below w.heap.size w w' := by
  have HF := Lib.hid hF
  have HSS := Lib.hid hS
  clear hF hS
  refine (callsIn_wide (n := 4)).1 ?_
  refine callsIn_of_wp_marks Try.func14 rfl trivial (wpIn_wide.2 ?_) rfl
  simp only [Try.ntmps14, List.size_toArray, List.length_cons, List.length_nil, Nat.reduceAdd, Nat.reduceSub, Array.replicate_succ, Array.replicate_zero, List.push_toArray, List.append_toArray, List.nil_append, List.cons_append]
  go_wp2_with fail
  go_step3
  go_wp2_with fail
  go_step3
  go_wp2_with fail
  refine (Try_blocks F fa la fl fc ll lc _).mono ?_; rintro e w4 ⟨rfl, rfl⟩
  go_wp2_with fail
  obtain ⟨L, hL⟩ : ∃ L, (((((w.alloc (.cells [.slice fa fl fc, .slice la ll lc, .int .i64 F.fuse, .int .i64 F.fault, .bool F.off].toArray 27)).alloc (.cells #[.int .u64 0, .int .i64 0] 30)).alloc (.cells #[.int .i64 0] 3)).alloc (.cells #[.bool false] 4)).alloc (.cells #[Value.func (Fn.func 24) #[] #[.pointer (some ⟨w.heap.size + 1, 0, none⟩), .pointer (some ⟨w.heap.size + 1 + 1 + 1, 0, none⟩), .pointer (some ⟨w.heap.size + 1 + 1, 0, none⟩)]] 64)).alloc (.cells [.slice fa fl fc, .slice la ll lc, .int .i64 F.fuse, .int .i64 F.fault, .bool F.off].toArray 27) = L := ⟨_, rfl⟩
  have hsz : L.heap.size = w.heap.size + 1 + 1 + 1 + 1 + 1 + 1 := by rw [← hL]; simp
  have hbL : Below w.heap.size w L := by rw [← hL]; exact (by repeat (first | (with_reducible exact Below.refl _ _) | (with_reducible exact Below.refl _ _) | (with_reducible refine Below.setCell ?_ (by first | omega | (simp; done) | (simp; omega)) _) | (with_reducible refine Below.alloc ?_ (by first | omega | (simp; done) | (simp; omega)) _) | (with_reducible refine Below.drew ?_) | (with_reducible refine below_drewN ?_ _)))
  have hb1 : Blk L (w.heap.size + 1) [.int .u64 0, .int .i64 0] 30 := by rw [← hL]; exact ((((Blk.new' _ _ _ (by simp)).alloc _).alloc _).alloc _).alloc _
  have hb2 : Blk L (w.heap.size + 1 + 1) [.int .i64 0] 3 := by rw [← hL]; exact (((Blk.new' _ _ _ (by simp)).alloc _).alloc _).alloc _
  have hb3 : Blk L (w.heap.size + 1 + 1 + 1) [.bool false] 4 := by rw [← hL]; exact ((Blk.new' _ _ _ (by simp)).alloc _).alloc _
  have hb4 : Blk L (w.heap.size + 1 + 1 + 1 + 1) [Value.func (Fn.func 24) #[] #[.pointer (some ⟨w.heap.size + 1, 0, none⟩), .pointer (some ⟨w.heap.size + 1 + 1 + 1, 0, none⟩), .pointer (some ⟨w.heap.size + 1 + 1, 0, none⟩)]] 64 := by rw [← hL]; exact (Blk.new' _ _ _ (by simp)).alloc _
  have hb5 : Blk L (w.heap.size + 1 + 1 + 1 + 1 + 1) [.slice fa fl fc, .slice la ll lc, .int .i64 F.fuse, .int .i64 F.fault, .bool F.off] 27 := by rw [← hL]; exact Blk.new' _ [.slice fa fl fc, .slice la ll lc, .int .i64 F.fuse, .int .i64 F.fault, .bool F.off] _ (by simp)
  have hseq := Try_blocks1 F fa la fl fc ll lc L S (fun k => k = w.heap.size + 1 ∨ k = w.heap.size + 1 + 1 + 1 ∨ k = w.heap.size + 1 + 1) (4 - 1) (w.heap.size + 1 + 1 + 1 + 1 + 1) (by decide) (HF.out.ext hbL) (fun b h => by have := HSS.out b h; omega) (fun b h => by omega) hb5
  have HSEQ := Lib.hid hseq
  have HBL := Lib.hid hbL
  have hI0 : TryLooked (w.heap.size + 1) (w.heap.size + 1 + 1 + 1) (w.heap.size + 1 + 1) 0 0 false 0 L := ⟨hb1, hb3, hb2⟩
  have HI0 := Lib.hid hI0
  have HB4 := Lib.hid hb4
  rw [show _ = L from hL]
  have HSZ := Lib.hid hsz
  clear hL hsz hbL hb1 hb2 hb3 hb4 hb5 hseq hI0
  refine wpIn_wide.1 (wpIn_rangeFunc_ownH (n := 4) rfl (by decide) (gf := 38) (lb := #[.pointer (some ⟨w.heap.size + 1 + 1 + 1 + 1 + 1, 0, none⟩)]) rfl trivial Try_enter38 HSEQ.out KpC.t KpC.b (Below.refl _ _) (fun _ => rfl)
    (fun pre W => TryLooked (w.heap.size + 1) (w.heap.size + 1 + 1 + 1) (w.heap.size + 1 + 1) 0 0 false 0 W ∧ Blk W (w.heap.size + 1 + 1 + 1 + 1) [Value.func (Fn.func 24) #[] #[.pointer (some ⟨w.heap.size + 1, 0, none⟩), .pointer (some ⟨w.heap.size + 1 + 1 + 1, 0, none⟩), .pointer (some ⟨w.heap.size + 1 + 1, 0, none⟩)]] 64 ∧ Below w.heap.size L W ∧ TryNone pre)
    (fun c pre W => (c = .exit 0 ∧ ∃ pre' x, pre = pre' ++ [x] ∧ TryNone pre' ∧ isOf x.1.2 = true ∧ TryLooked (w.heap.size + 1) (w.heap.size + 1 + 1 + 1) (w.heap.size + 1 + 1) (genOf x.1.2) (atOf x.1.2) true x.1.1 W) ∧ Below w.heap.size L W)
    (OwnFrom.and (Own.from (Try_looked_own _ _ _ _ _ _ _) _) (OwnFrom.and (Own.from (blk_own _ _ _) _) (OwnFrom.and (ownFrom_below (by rw [HSZ.out]; omega) (by rw [HSZ.out]; omega)) (ownFrom_pure _ _))))
    (fun c => OwnFrom.and (Own.from (fun s A B row hs hg hr => by obtain ⟨hc, pre', x, e, hn, hx, hv⟩ := hs; exact ⟨hc, pre', x, e, hn, hx, Try_looked_own (β := Unit) _ _ _ _ _ _ _ () A B row hv hg hr⟩) _) (ownFrom_below (by rw [HSZ.out]; omega) (by rw [HSZ.out]; omega)))
    ⟨HI0.out, HB4.out, Below.refl _ _, fun x hx => by cases hx⟩
    (fun x a' W => ∃ bb, a' = { tmps := #[.agg #[.slice fa fl fc, .slice la ll lc, .int .i64 F.fuse, .int .i64 F.fault, .bool F.off], .pointer (some ⟨w.heap.size, 0, none⟩), .pointer (some ⟨w.heap.size + 1, 0, none⟩), .pointer (some ⟨w.heap.size + 1 + 1, 0, none⟩), .pointer (some ⟨w.heap.size + 1 + 1 + 1, 0, none⟩), .pointer (some ⟨w.heap.size + 1 + 1 + 1 + 1, 0, none⟩), .int .i64 (x.1.1 : Int), .pointer (some ⟨bb, 0, none⟩), Value.func (Fn.func 24) #[] #[.pointer (some ⟨w.heap.size + 1, 0, none⟩), .pointer (some ⟨w.heap.size + 1 + 1 + 1, 0, none⟩), .pointer (some ⟨w.heap.size + 1 + 1, 0, none⟩)], .agg #[.slice fa fl fc, .slice la ll lc, .int .i64 F.fuse, .int .i64 F.fault, .bool F.off], Value.func (Fn.func 38) #[] #[.pointer (some ⟨w.heap.size + 1 + 1 + 1 + 1 + 1, 0, none⟩)], .int .i64 (x.1.1 : Int), .agg (u8s x.1.2).toArray, undef, undef, undef, undef, undef, undef, undef], defers := [] } ∧ Blk W bb (u8s x.1.2) 50)
    (fun x a' => Own.from (fun s A B row hs hg hr => by obtain ⟨bb, e, hv⟩ := hs; exact ⟨bb, e, blk_own (β := Unit) bb _ _ () A B row hv hg hr⟩) _)
    ?assign ?body ?done ?stop)
  case assign =>
    rintro l pre x W K ⟨hlk, h4, hbw, hno⟩ hK
    have HK := Lib.hid hK
    have HLK := Lib.hid hlk
    have H4 := Lib.hid h4
    have HBW := Lib.hid hbw
    have HNO := Lib.hid hno
    have HXL := Lib.hid x.2.1
    have HBz := Lib.hid (show Blk (W.alloc (.cells #[.int .u8 0, .int .u8 0, .int .u8 0, .int .u8 0, .int .u8 0, .int .u8 0, .int .u8 0, .int .u8 0, .int .u8 0, .int .u8 0, .int .u8 0, .int .u8 0, .int .u8 0, .int .u8 0, .int .u8 0, .int .u8 0, .int .u8 0, .int .u8 0, .int .u8 0, .int .u8 0, .int .u8 0, .int .u8 0, .int .u8 0, .int .u8 0, .int .u8 0, .int .u8 0, .int .u8 0, .int .u8 0, .int .u8 0, .int .u8 0, .int .u8 0, .int .u8 0, .int .u8 0, .int .u8 0, .int .u8 0, .int .u8 0, .int .u8 0, .int .u8 0, .int .u8 0, .int .u8 0, .int .u8 0, .int .u8 0, .int .u8 0, .int .u8 0, .int .u8 0, .int .u8 0, .int .u8 0, .int .u8 0, .int .u8 0, .int .u8 0, .int .u8 0, .int .u8 0, .int .u8 0, .int .u8 0, .int .u8 0, .int .u8 0, .int .u8 0, .int .u8 0, .int .u8 0, .int .u8 0, .int .u8 0, .int .u8 0, .int .u8 0, .int .u8 0] 50)) W.heap.size (u8s (List.replicate 64 0)) 50 from Blk.new W _ _)
    clear hK hlk h4 hbw hno
    gi_wp2_with (first | (refine wpListIn_store_row rfl 50 (.tmp 7) (.tmp 12) rfl W.heap.size (u8s x.1.2).toArray rfl rfl 50 (u8s (List.replicate 64 0)).toArray HBz.out (Try_size64_of HXL.out) (by simp [u8s_len, HXL.out]) (u8s_all _) ?_))
    have bx : Below W.heap.size W ((W.alloc (.cells #[.int .u8 0, .int .u8 0, .int .u8 0, .int .u8 0, .int .u8 0, .int .u8 0, .int .u8 0, .int .u8 0, .int .u8 0, .int .u8 0, .int .u8 0, .int .u8 0, .int .u8 0, .int .u8 0, .int .u8 0, .int .u8 0, .int .u8 0, .int .u8 0, .int .u8 0, .int .u8 0, .int .u8 0, .int .u8 0, .int .u8 0, .int .u8 0, .int .u8 0, .int .u8 0, .int .u8 0, .int .u8 0, .int .u8 0, .int .u8 0, .int .u8 0, .int .u8 0, .int .u8 0, .int .u8 0, .int .u8 0, .int .u8 0, .int .u8 0, .int .u8 0, .int .u8 0, .int .u8 0, .int .u8 0, .int .u8 0, .int .u8 0, .int .u8 0, .int .u8 0, .int .u8 0, .int .u8 0, .int .u8 0, .int .u8 0, .int .u8 0, .int .u8 0, .int .u8 0, .int .u8 0, .int .u8 0, .int .u8 0, .int .u8 0, .int .u8 0, .int .u8 0, .int .u8 0, .int .u8 0, .int .u8 0, .int .u8 0, .int .u8 0, .int .u8 0] 50)).setRow W.heap.size (u8s x.1.2).toArray) := below_only ((Below.refl _ W).alloc (Nat.le_refl _) _) (only_row _ _ _) (by simp) (Nat.le_refl _)
    exact HK.out _ _ (KeepsFrom.of_below bx) (KpC.of_below bx) ⟨HLK.out.ext bx, H4.out.ext bx, HBW.out.trans (bx.mono (by have := HBW.out.size; have := HSZ.out; omega)), HNO.out⟩ ⟨_, rfl, blk_row (ds := u8s x.1.2) HBz.out⟩
  case body =>
    rintro l pre x a' W - - ⟨hlk, h4, hbw, hno⟩ ⟨bb, rfl, hbb⟩ -
    have HLK := Lib.hid hlk
    have H4 := Lib.hid h4
    have HBW := Lib.hid hbw
    have HNO := Lib.hid hno
    have HXL := Lib.hid x.2.1
    have HBB := Lib.hid hbb
    have q4 := h4.cells
    have l4 := h4.lt
    have hen := Try_enter24
    have HCT := Lib.hid (Try_look x.1.2 x.2.1 x.1.1 (w.heap.size + 1) (w.heap.size + 1 + 1 + 1) (w.heap.size + 1 + 1) 0 0 0 false (by omega) (by omega) (by omega) W hlk)
    clear hlk h4 hbw hno hbb
    gi_wp2_with (first | (refine wpListIn_load_cells rfl 50 (.tmp 7) rfl ⟨bb, 0, none⟩ rfl (u8s x.1.2) _ ((cells_of_blk HBB.out).from_) Try.underlying50 rfl (by rw [Try_size64, u8s_len, HXL.out]) ?_))
    refine ⟨trivial, ((callsIn_wide.2 HCT.out).inRound l).mono ?_⟩
    rintro e W2 ⟨rfl, hlk2, hon⟩
    have hkf : KeepsFrom L.heap.size W W2 := KeepsFrom.of_only hon (fun k h => by have := HSZ.out; omega)
    have hbw2 : Below w.heap.size L W2 := HBW.out.trans (hon.below (by have := HBW.out.size; have := HSZ.out; omega) (fun k h => by omega))
    have h42 := H4.out.onlyS hon (by omega)
    have hkc := KpC.of_only hon
    have HLK2 := Lib.hid hlk2
    have H42 := Lib.hid h42
    have HKF := Lib.hid hkf
    have HBW2 := Lib.hid hbw2
    have HKC := Lib.hid hkc
    clear hlk2 h42 hkf hbw2 hkc hon q4 l4
    cases hv : isOf x.1.2 with
    | true =>
      have HV := Lib.hid hv
      clear hv
      gi_wp2
      refine ⟨HKF.out, ⟨rfl, pre, x, rfl, HNO.out, HV.out, ?_⟩, HBW2.out⟩
      have h := HLK2.out
      unfold sayG sayA placeIf at h
      rw [HV.out] at h
      exact h
    | false =>
      have HV := Lib.hid hv
      clear hv
      gi_wp2
      refine ⟨HKF.out, HKC.out, ?_, H42.out, HBW2.out, ?_⟩
      · have h := HLK2.out
        rw [sayG_no HV.out, sayA_no HV.out, HV.out] at h
        exact h
      · intro y hy
        rcases List.mem_append.1 hy with h | h
        · exact HNO.out y h
        · rw [List.mem_singleton.1 h]; exact HV.out
  case done =>
    rintro D xs W hD hys ⟨hlk, h4, hbw, hno⟩ hK
    have hval : findOf F.said = .tuple #[.agg #[.int .u64 0, .int .i64 0], .int .i64 0, .bool false] := find_none (lastIs_none fun j hj => by
      obtain ⟨x, hx⟩ : ∃ x, xs[F.said.length / 64 - 1 - j]? = some x := ⟨_, List.getElem?_eq_getElem (by rw [hys.1]; omega)⟩
      have h := hys.2.2 _ x hx
      have h2 := hno x (List.mem_of_getElem? hx)
      rw [h] at h2
      rw [show F.said.length / 64 - 1 - (F.said.length / 64 - 1 - j) = j by omega] at h2
      exact h2)
    have HVAL := Lib.hid hval
    have HLK := Lib.hid hlk
    have HBW := Lib.hid (HBL.out.trans hbw)
    have HKK := Lib.hid hK
    have q1 := hlk.h.cells
    have q2 := hlk.p.cells
    have q3 := hlk.f.cells
    have m1 := hlk.h.marks
    have m2 := hlk.p.marks
    have m3 := hlk.f.marks
    have l1 := hlk.h.lt
    have l2 := hlk.p.lt
    have l3 := hlk.f.lt
    clear hval hlk hbw hK
    go_wp2_with fail
    go_region
    obtain ⟨V, hV⟩ : ∃ V, ((((W.setCell ⟨w.heap.size + 1, 0, none⟩ (.int .u64 0)).setCell ⟨w.heap.size + 1, 1, none⟩ (.int .i64 0)).setCell ⟨w.heap.size + 1 + 1, 0, none⟩ (.int .i64 0)).setCell ⟨w.heap.size + 1 + 1 + 1, 0, none⟩ (.bool false)).drew = V := ⟨_, rfl⟩
    have hon : OnlyS (fun k => k = w.heap.size + 1 ∨ k = w.heap.size + 1 + 1 + 1 ∨ k = w.heap.size + 1 + 1) W V := by
      rw [← hV]
      exact (((((OnlyS.refl _ W).set _ 0 _ (.inl rfl)).set _ 1 _ (.inl rfl)).set _ 0 _ (.inr (.inr rfl))).set _ 0 _ (.inr (.inl rfl))).ext ((Below.refl _ _).drew)
    have e1 : Blk V (w.heap.size + 1) [.int .u64 0, .int .i64 0] 30 := by
      rw [← hV]; exact ((((HLK.out.h.set 0 _).set 1 _).other (by omega) _ _).other (by omega) _ _).drew
    have e2 : Blk V (w.heap.size + 1 + 1) [.int .i64 0] 3 := by
      rw [← hV]; exact ((((HLK.out.p.other (by omega) _ _).other (by omega) _ _).set 0 _).other (by omega) _ _).drew
    have e3 : Blk V (w.heap.size + 1 + 1 + 1) [.bool false] 4 := by
      rw [← hV]; exact ((((HLK.out.f.other (by omega) _ _).other (by omega) _ _).other (by omega) _ _).set 0 _).drew
    first | rw [hV] | rw [show _ = V from hV]
    have hD2 := HSZ.out
    have hsV := hon.size
    have hDW : D < W.heap.size := (Array.getElem?_eq_some_iff.1 HKK.out).1
    have hKV : V.heap[D]? = some (.deferred (some [])) := (hon.block D hDW (by omega)).trans HKK.out
    have e1' : Blk (V.putObj D (.deferred none)) (w.heap.size + 1) [.int .u64 0, .int .i64 0] 30 := (putObj_block e1.lt (by omega)).trans e1
    have e2' : Blk (V.putObj D (.deferred none)) (w.heap.size + 1 + 1) [.int .i64 0] 3 := (putObj_block e2.lt (by omega)).trans e2
    have e3' : Blk (V.putObj D (.deferred none)) (w.heap.size + 1 + 1 + 1) [.bool false] 4 := (putObj_block e3.lt (by omega)).trans e3
    have c1 := e1'.cells
    have c2 := e2'.cells
    have c3 := e3'.cells
    have hbV : Below w.heap.size w V := HBW.out.trans (hon.below (by have := HBW.out.size; omega) (fun k h => by omega))
    have hbe : Below w.heap.size w (V.putObj D (.deferred none)) := hbV.trans (belowK_b (w := w) (Nat.le_refl _) V D _ _ (by omega) hKV rfl rfl)
    have HKV := Lib.hid hKV
    have HBE := Lib.hid hbe
    clear hV hon e1 e2 e3 e1' e2' e3' hKV hbV hbe q1 q2 q3 m1 m2 m3 l1 l2 l3
    go_wp2_with fail
    rw [Exit.noGoto_ret]
    refine ⟨by simp, .inl ⟨_, _, rfl, run_takeDeferred HKV.out, ?_⟩⟩
    refine ⟨.tuple #[.agg #[.int .u64 0, .int .i64 0], .int .i64 0, .bool false], by simp [results, Try.results14, go_sem, c1, c2, c3], by rw [HVAL.out], HBE.out⟩
  case stop =>
    rintro D c pre W hD ⟨k, hk⟩ ⟨⟨rfl, pre', x, rfl, hno, hx, hlk⟩, hbw⟩ hK
    have hl := hk.1
    rw [List.length_append, List.length_singleton] at hl
    have hk2 := hk.2.1
    have hxv := hk.2.2 pre'.length x (by simp)
    obtain ⟨i, hi⟩ : ∃ i, F.said.length / 64 - 1 - pre'.length = i := ⟨_, rfl⟩
    rw [hi] at hxv
    have hval : findOf F.said = .tuple #[.agg #[.int .u64 (genOf x.1.2 : Int), .int .i64 (atOf x.1.2 : Int)], .int .i64 (x.1.1 : Int), .bool true] := by
      have h := find_some (l := F.said) (i := i) (lastIs_some (by omega) (by rw [hxv] at hx; exact hx) fun j h1 h2 => by
        obtain ⟨y, hy⟩ : ∃ y, pre'[F.said.length / 64 - 1 - j]? = some y := ⟨_, List.getElem?_eq_getElem (by omega)⟩
        have h3 := hk.2.2 (F.said.length / 64 - 1 - j) y ((List.getElem?_append_left (by omega)).trans hy)
        have h4 := hno y (List.mem_of_getElem? hy)
        rw [h3] at h4
        rw [show F.said.length / 64 - 1 - (F.said.length / 64 - 1 - j) = j by omega] at h4
        exact h4)
      rw [hxv]; exact h
    obtain ⟨xg, hxg⟩ : ∃ z, genOf x.1.2 = z := ⟨_, rfl⟩
    obtain ⟨xa, hxa⟩ : ∃ z, atOf x.1.2 = z := ⟨_, rfl⟩
    obtain ⟨xp, hxp⟩ : ∃ z, x.1.1 = z := ⟨_, rfl⟩
    rw [hxg, hxa, hxp] at hval hlk
    clear hl hk2 hxv hi hno hx hk hxg hxa hxp
    refine wpIn_wide.2 ?_
    have HVAL := Lib.hid hval
    have HLK := Lib.hid hlk
    have HBW := Lib.hid (HBL.out.trans hbw)
    have HKK := Lib.hid hK
    have q1 := hlk.h.cells
    have q2 := hlk.p.cells
    have q3 := hlk.f.cells
    have m1 := hlk.h.marks
    have m2 := hlk.p.marks
    have m3 := hlk.f.marks
    have l1 := hlk.h.lt
    have l2 := hlk.p.lt
    have l3 := hlk.f.lt
    clear hval hlk hbw hK
    go_wp2_with fail
    go_region
    obtain ⟨V, hV⟩ : ∃ V, ((((W.setCell ⟨w.heap.size + 1, 0, none⟩ (.int .u64 (xg : Int))).setCell ⟨w.heap.size + 1, 1, none⟩ (.int .i64 (xa : Int))).setCell ⟨w.heap.size + 1 + 1, 0, none⟩ (.int .i64 (xp : Int))).setCell ⟨w.heap.size + 1 + 1 + 1, 0, none⟩ (.bool true)).drew = V := ⟨_, rfl⟩
    have hon : OnlyS (fun k => k = w.heap.size + 1 ∨ k = w.heap.size + 1 + 1 + 1 ∨ k = w.heap.size + 1 + 1) W V := by
      rw [← hV]
      exact (((((OnlyS.refl _ W).set _ 0 _ (.inl rfl)).set _ 1 _ (.inl rfl)).set _ 0 _ (.inr (.inr rfl))).set _ 0 _ (.inr (.inl rfl))).ext ((Below.refl _ _).drew)
    have e1 : Blk V (w.heap.size + 1) [.int .u64 (xg : Int), .int .i64 (xa : Int)] 30 := by
      rw [← hV]; exact ((((HLK.out.h.set 0 _).set 1 _).other (by omega) _ _).other (by omega) _ _).drew
    have e2 : Blk V (w.heap.size + 1 + 1) [.int .i64 (xp : Int)] 3 := by
      rw [← hV]; exact ((((HLK.out.p.other (by omega) _ _).other (by omega) _ _).set 0 _).other (by omega) _ _).drew
    have e3 : Blk V (w.heap.size + 1 + 1 + 1) [.bool true] 4 := by
      rw [← hV]; exact ((((HLK.out.f.other (by omega) _ _).other (by omega) _ _).other (by omega) _ _).set 0 _).drew
    first | rw [hV] | rw [show _ = V from hV]
    have hD2 := HSZ.out
    have hsV := hon.size
    have hDW : D < W.heap.size := (Array.getElem?_eq_some_iff.1 HKK.out).1
    have hKV : V.heap[D]? = some (.deferred (some [])) := (hon.block D hDW (by omega)).trans HKK.out
    have e1' : Blk (V.putObj D (.deferred none)) (w.heap.size + 1) [.int .u64 (xg : Int), .int .i64 (xa : Int)] 30 := (putObj_block e1.lt (by omega)).trans e1
    have e2' : Blk (V.putObj D (.deferred none)) (w.heap.size + 1 + 1) [.int .i64 (xp : Int)] 3 := (putObj_block e2.lt (by omega)).trans e2
    have e3' : Blk (V.putObj D (.deferred none)) (w.heap.size + 1 + 1 + 1) [.bool true] 4 := (putObj_block e3.lt (by omega)).trans e3
    have c1 := e1'.cells
    have c2 := e2'.cells
    have c3 := e3'.cells
    have hbV : Below w.heap.size w V := HBW.out.trans (hon.below (by have := HBW.out.size; omega) (fun k h => by omega))
    have hbe : Below w.heap.size w (V.putObj D (.deferred none)) := hbV.trans (belowK_b (w := w) (Nat.le_refl _) V D _ _ (by omega) hKV rfl rfl)
    have HKV := Lib.hid hKV
    have HBE := Lib.hid hbe
    clear hV hon e1 e2 e3 e1' e2' e3' hKV hbV hbe q1 q2 q3 m1 m2 m3 l1 l2 l3
    go_wp2_with fail
    rw [Exit.noGoto_ret]
    refine ⟨by simp, .inl ⟨_, _, rfl, run_takeDeferred HKV.out, ?_⟩⟩
    refine ⟨.tuple #[.agg #[.int .u64 (xg : Int), .int .i64 (xa : Int)], .int .i64 (xp : Int), .bool true], by simp [results, Try.results14, go_sem, c1, c2, c3], by rw [HVAL.out], HBE.out⟩
end Go.Proofs.Ythpdcbklaapngaa

namespace Go.Dav
set_option linter.unusedVariables false
set_option linter.unusedSimpArgs false
open Go Go.RowKit
/-- What stands behind the first k blocks. -/
def lastG (l : List UInt8) (k : Nat) : Nat := match lastIs l k with | some i => genOf (blockAt l i) | none => 0
def lastA (l : List UInt8) (k : Nat) : Nat := match lastIs l k with | some i => atOf (blockAt l i) | none => 0
def lastP (l : List UInt8) (k : Nat) : Nat := match lastIs l k with | some i => i * 64 | none => 0
def lastF (l : List UInt8) (k : Nat) : Bool := (lastIs l k).isSome
theorem findOf_last (l : List UInt8) : findOf l = .tuple #[.agg #[.int .u64 (lastG l (l.length / 64) : Int), .int .i64 (lastA l (l.length / 64) : Int)], .int .i64 (lastP l (l.length / 64) : Int), .bool (lastF l (l.length / 64))] := rfl
theorem lastIs_yes {l : List UInt8} {k : Nat} (h : isOf (blockAt l k) = true) : lastIs l (k + 1) = some k := by rw [lastIs, if_pos h]
theorem lastIs_no {l : List UInt8} {k : Nat} (h : isOf (blockAt l k) = false) : lastIs l (k + 1) = lastIs l k := by rw [lastIs, if_neg (by rw [h]; decide)]
theorem last_yes {l : List UInt8} {k : Nat} (h : isOf (blockAt l k) = true) : lastG l (k + 1) = sayG (blockAt l k) ∧ lastA l (k + 1) = sayA (blockAt l k) ∧ lastP l (k + 1) = k * 64 ∧ lastF l (k + 1) = true := by
  unfold lastG lastA lastP lastF sayG sayA
  rw [lastIs_yes h, if_pos h, if_pos h]; exact ⟨rfl, rfl, rfl, rfl⟩
theorem last_no {l : List UInt8} {k : Nat} (h : isOf (blockAt l k) = false) : lastG l (k + 1) = lastG l k ∧ lastA l (k + 1) = lastA l k ∧ lastP l (k + 1) = lastP l k ∧ lastF l (k + 1) = lastF l k := by
  unfold lastG lastA lastP lastF
  rw [lastIs_no h]; exact ⟨rfl, rfl, rfl, rfl⟩
end Go.Dav
namespace Go.Proofs.Ythpdcbklaapngaa
set_option linter.unusedVariables false
set_option linter.unusedSimpArgs false
open Go.RowKit Go.Dav
attribute [local go_sem] Gives ite_val ite_val_true

end Go.Proofs.Ythpdcbklaapngaa

namespace Go.Dav
set_option linter.unusedVariables false
set_option linter.unusedSimpArgs false
open Go Go.RowKit
theorem highOf_succ (x n : Nat) : highOf x (n + 1) = highOf (x / 256) n ++ [UInt8.ofNat x] := by
  unfold highOf
  rw [List.range_succ, List.map_append]
  congr 1
  · refine List.map_congr_left fun i hi => ?_
    have hi := List.mem_range.1 hi
    rw [Nat.div_div_eq_div_mul, show (256 : Nat) = 2 ^ 8 from rfl, ← Nat.pow_add]
    congr 3
    omega
  · simp
theorem numOf_high : ∀ (n x : Nat), x < 256 ^ n → numOf (highOf x n) = x
  | 0, x, h => by
    have : x = 0 := by simpa using h
    subst this; rfl
  | n + 1, x, h => by
    rw [highOf_succ, numOf_snoc, numOf_high n (x / 256) (by rw [Nat.pow_succ] at h; omega), UInt8.toNat_ofNat']
    omega
theorem blockOf_parts (g a : Nat) : blockOf g a = [1] ++ (highOf g 8 ++ (highOf a 4 ++ (List.replicate 46 0 ++ (crcFour (crcSum (bodyOf g a)) ++ [165])))) := by
  simp [blockOf, crcLay, bodyOf, headOf]
theorem block_gen (g a : Nat) : ((blockOf g a).drop 1).take 8 = highOf g 8 := by
  rw [blockOf_parts, List.drop_append_of_le_length (by simp)]
  simp only [List.drop_succ_cons, List.drop_zero, List.nil_append]
  rw [List.take_append_of_le_length (by rw [highOf_len]; omega), List.take_of_length_le (by rw [highOf_len]; omega)]
theorem block_at (g a : Nat) : ((blockOf g a).drop 9).take 4 = highOf a 4 := by
  have e : blockOf g a = ([1] ++ highOf g 8) ++ (highOf a 4 ++ (List.replicate 46 0 ++ (crcFour (crcSum (bodyOf g a)) ++ [165]))) := by rw [blockOf_parts, List.append_assoc]
  have hl : ([1] ++ highOf g 8).length = 9 := by simp [highOf_len]
  rw [e, ← hl, List.drop_left, List.take_append_of_le_length (by rw [highOf_len]; omega), List.take_of_length_le (by rw [highOf_len]; omega)]
theorem genOf_block {g a : Nat} (hg : g < 18446744073709551616) : genOf (blockOf g a) = g := by
  unfold genOf; rw [block_gen, numOf_high 8 g (by omega)]
theorem atOf_block {g a : Nat} (ha : a < 4294967296) : atOf (blockOf g a) = a := by
  unfold atOf; rw [block_at, numOf_high 4 a (by omega)]
theorem isOf_block {g a : Nat} (hg : g < 18446744073709551616) (hr : (HeadD.mk g (a : Int)).right = true) : isOf (blockOf g a) = true := by
  have ha := (HeadD.right_spec.1 hr).2.2
  dsimp only at ha
  unfold isOf
  rw [genOf_block hg, atOf_block (by omega), hr]
  simp
theorem isOf_zeros : isOf (List.replicate 64 0) = false := by
  cases h : isOf (List.replicate 64 0) with
  | false => rfl
  | true => have := isOf_first h; simp at this
theorem saysOf_block {g a : Nat} (hg : g < 18446744073709551616) (hr : (HeadD.mk g (a : Int)).right = true) : saysOf (blockOf g a) = .tuple #[.agg #[.int .u64 (g : Int), .int .i64 (a : Int)], .bool true] := by
  have ha := (HeadD.right_spec.1 hr).2.2
  dsimp only at ha
  rw [saysOf_eq]
  unfold sayG sayA
  rw [isOf_block hg hr, if_pos rfl, if_pos rfl, genOf_block hg, atOf_block (by omega)]
theorem saysOf_no {l : List UInt8} (h : isOf l = false) : saysOf l = .tuple #[.agg #[.int .u64 0, .int .i64 0], .bool false] := by
  rw [saysOf_eq, sayG_no h, sayA_no h, h]; rfl
theorem blockAt_zero {l : List UInt8} (h : l.length = 64) : blockAt l 0 = l := by
  unfold blockAt; rw [Nat.zero_mul, List.drop_zero, List.take_of_length_le (by omega)]
theorem findOf_block {g a : Nat} (hg : g < 18446744073709551616) (hr : (HeadD.mk g (a : Int)).right = true) : findOf (blockOf g a) = .tuple #[.agg #[.int .u64 (g : Int), .int .i64 (a : Int)], .int .i64 0, .bool true] := by
  have ha := (HeadD.right_spec.1 hr).2.2
  dsimp only at ha
  have h := find_some (l := blockOf g a) (i := 0) (lastIs_some (by rw [blockOf_len]; omega) (by rw [blockAt_zero (blockOf_len g a)]; exact isOf_block hg hr) (fun j h1 h2 => by rw [blockOf_len] at h2; omega))
  rw [blockAt_zero (blockOf_len g a), genOf_block hg, atOf_block (by omega)] at h
  exact h
/-- What wakes makes. -/
def wakeF : FileD := ⟨[], [blockOf 1 1], -1, -1, false⟩
theorem wake_right : (HeadD.mk 1 ((1 : Nat) : Int)).right = true := by decide
theorem wake_put : FileD.none.put ⟨1, 1⟩ = (wakeF, 0) := by
  have e : laidOf (FileD.none.many) 1 (1 : Int).toNat = blockOf 1 1 := rfl
  have hl := blockOf_len 1 1
  have hne : blockOf 1 1 ≠ [] := fun h => by rw [h] at hl; simp at hl
  unfold FileD.put
  rw [if_pos (by decide), if_pos (by decide)]
  show FileD.none.append (laidOf (FileD.none.many) 1 (1 : Int).toNat) = _
  rw [e]
  unfold FileD.append
  rw [if_neg (fun h => hne h.2)]
  unfold FileD.op
  rw [if_pos (by decide), hl]
  rfl
theorem wake_no : FileD.none.put ⟨0, 0⟩ = (FileD.none, 220) := by
  unfold FileD.put
  rw [if_pos (by decide), if_neg (by decide)]
theorem wake_many : wakeF.many = 64 := by show 0 + ([blockOf 1 1].map List.length).sum = 64; simp [blockOf_len]
theorem wake_file : wakeF.right = true := by
  have hl := blockOf_len 1 1
  refine FileD.right_spec.2 ⟨?_, by decide, by decide, by decide, by rw [wake_many]; omega⟩
  show ([blockOf 1 1].all fun p => !p.isEmpty) = true
  cases h : blockOf 1 1 with
  | nil => rw [h] at hl; simp at hl
  | cons x xs => rfl
theorem wake_said : wakeF.said = blockOf 1 1 := by
  unfold FileD.said
  rw [if_pos wake_file]
  show [] ++ [blockOf 1 1].flatten = blockOf 1 1
  simp
theorem wake_find : findOf wakeF.said = .tuple #[.agg #[.int .u64 1, .int .i64 1], .int .i64 0, .bool true] := by
  rw [wake_said]; exact findOf_block (by omega) wake_right
theorem wake_0 : (blockOf 1 1)[0]? = some 1 := blockOf_first 1 1
theorem wake_8 : (blockOf 1 1)[8]? = some 1 := by
  rw [blockOf, crcLay, bodyOf, List.append_assoc, List.append_assoc, List.getElem?_append_left (by rw [headOf_len]; omega)]; rfl
theorem wake_12 : (blockOf 1 1)[12]? = some 1 := by
  rw [blockOf, crcLay, bodyOf, List.append_assoc, List.append_assoc, List.getElem?_append_left (by rw [headOf_len]; omega)]; rfl
end Go.Dav

namespace Go.Dav
set_option linter.unusedVariables false
set_option linter.unusedSimpArgs false
open Go Go.RowKit
/-- A file that lies in blocks lies in none that holds an empty file. -/
theorem BytesS.off {W : World} {S : Nat → Prop} {a : Option Addr} {n c p t : Nat} {l : List UInt8} {cs : List Value} (h : BytesS W S a n c l) (hp : Blk W p cs t) (hc : ∀ v ∈ cs, ∀ x, v ≠ .int .u8 x) : BytesS W (fun b => S b ∧ b ≠ p) a n c l :=
  ⟨h.at_, fun k x hk => by
    obtain ⟨b, o, h1, h2⟩ := h.in_ k x hk
    obtain ⟨b', o', h1', _, h3⟩ := h.at_.hat k x hk
    rw [h1] at h1'; cases h1'
    refine ⟨b, o, h1, h2, fun e => ?_⟩
    subst e
    rw [hp.cells] at h3
    exact hc _ (List.mem_of_getElem? h3) _ rfl⟩
theorem LooseS.off {W : World} {S : Nat → Prop} {a : Option Addr} {n c p t : Nat} {L : List (List UInt8)} {cs : List Value} (h : LooseS W S a n c L) (hp : Blk W p cs t) (hc : ∀ v ∈ cs, ∀ x, v ≠ .int .u8 x) (hs : ∀ v ∈ cs, ∀ a n c, v ≠ .slice (some a) n c) (hf : ∀ x ∈ L, x ≠ []) : LooseS W (fun b => S b ∧ b ≠ p) a n c L :=
  ⟨h.hlen, h.hcap, h.hmax, h.hfew, fun k x hk => by
    obtain ⟨b, o, pa, pl, pc, h1, h2, h3, h4, h5⟩ := h.hat k x hk
    refine ⟨b, o, pa, pl, pc, h1, h2, ⟨h3, fun e => ?_⟩, h4, h5.off hp hc⟩
    subst e
    rw [hp.cells] at h4
    obtain ⟨y, hy⟩ : ∃ y, x[0]? = some y := by
      cases x with
      | nil => exact absurd rfl (hf _ (List.mem_of_getElem? hk))
      | cons y ys => exact ⟨y, rfl⟩
    obtain ⟨b', o', h6, _⟩ := h5.at_.hat 0 y hy
    rw [h6] at h4
    exact hs _ (List.mem_of_getElem? h4) _ _ _ rfl, h.hnil⟩
theorem FileS.off {W : World} {S : Nat → Prop} {fa la : Option Addr} {fl fc ll lc p t : Nat} {F : FileD} (h : FileS W S fa fl fc la ll lc F) (hp : Blk W p [.slice none 0 0, .slice none 0 0, .int .i64 0, .int .i64 0, .bool false] t) (hf : F.right = true) : FileS W (fun b => S b ∧ b ≠ p) fa fl fc la ll lc F :=
  ⟨h.firm.off hp (by simp), h.loose.off hp (by simp) (by simp) (fun x hx e => by
    have h1 := (FileD.right_spec.1 hf).1
    unfold FileD.full at h1
    have h2 := List.all_eq_true.1 h1 x hx
    rw [e] at h2; cases h2), h.fuse, h.fault⟩
theorem fileS_none {W : World} {S : Nat → Prop} : FileS W S none 0 0 none 0 0 FileD.none := ⟨BytesS.nil_, LooseS.nil_, by unfold I64'; simp [FileD.none], by unfold I64'; simp [FileD.none]⟩
/-- What is laid over an empty file's block. -/
theorem blk_store5 {W : World} {p t : Nat} {cs : List Value} {v0 v1 v2 v3 v4 : Value} (h : Blk W p cs t) (hl : cs.length = 5) : Blk (((((W.setCell ⟨p, 0, none⟩ v0).setCell ⟨p, 1, none⟩ v1).setCell ⟨p, 2, none⟩ v2).setCell ⟨p, 3, none⟩ v3).setCell ⟨p, 4, none⟩ v4) p [v0, v1, v2, v3, v4] t := by
  match cs, hl with
  | [_, _, _, _, _], _ => exact ((((h.set 0 _).set 1 _).set 2 _).set 3 _).set 4 _
end Go.Dav
namespace Go.Proofs.Ythpdcbklaapngaa
set_option linter.unusedVariables false
set_option linter.unusedSimpArgs false
open Go.RowKit Go.Dav
attribute [local go_sem] Gives ite_val ite_val_true

set_option maxRecDepth 100000 in
set_option maxHeartbeats 8000000 in
theorem Try_wakes12 (w : World) : Calls Try.prog 5 #[] w fun e w' => e = .returned (.bool true) ∧ Below w.heap.size w w' := by
  go_enter Try.func5, Try.ntmps5
  go_wp2_with fail
  obtain ⟨W0, hW0⟩ : ∃ W0, w.alloc (.cells #[.int .u64 1, .int .i64 1] 30) = W0 := ⟨_, rfl⟩
  have hb1 : Blk W0 w.heap.size [.int .u64 1, .int .i64 1] 30 := by rw [← hW0]; exact Blk.new _ _ _
  have bel0 : Below w.heap.size w W0 := by rw [← hW0]; exact (by repeat (first | (with_reducible exact Below.refl _ _) | (with_reducible exact Below.refl _ _) | (with_reducible refine Below.setCell ?_ (by first | omega | (simp; done) | (simp; omega)) _) | (with_reducible refine Below.alloc ?_ (by first | omega | (simp; done) | (simp; omega)) _) | (with_reducible refine Below.drew ?_) | (with_reducible refine below_drewN ?_ _)))
  have HB1 := Lib.hid hb1
  have BEL0 := Lib.hid bel0
  have q1 := hb1.cells
  have l1 := hb1.lt
  rw [hW0]
  clear hW0 hb1 bel0
  refine' wp_region_seqF [5] [.inl _, .inl _, .inr (FileTup W0 (fun _ => False) wakeF 0), .inr (FileTup W0 (fun _ => False) wakeF 0), .inr (FileV W0 (fun _ => False) wakeF), .inl _, .inr (NewBlk W0.heap.size [.slice none 0 0, .slice none 0 0, .int .i64 0, .int .i64 0, .bool false] 27)] (by kernel_rfl) (by kernel_rfl) ?main1
  case main1 =>
    refine wpParts_det (by rfl) (fun W hE hN => ?_) ?_
    · go_simp; refine ⟨Below.refl _ _, ?_⟩; refine (Try_New W).mono ?_; rintro e w' ⟨rfl, hb⟩; refine ⟨?_, hb⟩; rfl
    simp only [Act.put, List.setIfInBounds_toArray, List.set_cons_zero, List.set_cons_succ]
    refine wpParts_det (by rfl) (fun W hE hN => ?_) ?_
    · have hc := fun b o h => hE.cell (p := ⟨b, o, none⟩) h
      go_simp; refine ⟨Below.refl _ _, ?_⟩; rfl
    simp only [Act.put, List.setIfInBounds_toArray, List.set_cons_zero, List.set_cons_succ]
    refine wpParts_any rfl (FileTup.later) (by rfl) (fun W hE hN => ?_) (fun u2 => ?_)
    · go_simp; refine ⟨Below.refl _ _, ?_⟩; have hA := Try_Put FileD.none ⟨1, 1⟩ none none 0 0 0 0 W (fun _ => False) ⟨by show 1 < _; omega, by unfold I64'; decide⟩ fileS_none (fun b h => h.elim); rw [wake_put] at hA; refine hA.mono ?_; rintro e w' ⟨ga, gl, gc, ma, ml, mc, rfl, hR, hb⟩; exact ⟨_, rfl, hb, ga, gl, gc, ma, ml, mc, rfl, hR.mono fun b h => h.imp id fun h => Nat.le_trans hE.size h⟩
    simp only [Act.put, List.setIfInBounds_toArray, List.set_cons_zero, List.set_cons_succ]
    refine wpParts_any rfl (FileTup.later) (by rfl) (fun W hE hN => ?_) (fun u3 => ?_)
    · simp [near, Oper.looksAt, Op.operands] at hN; go_simp; exact Below.refl _ _
    simp only [Act.put, List.setIfInBounds_toArray, List.set_cons_zero, List.set_cons_succ]
    refine wpParts_any rfl (FileV.later) (by rfl) (fun W hE hN => ?_) (fun u4 => ?_)
    · simp [near, Oper.looksAt, Op.operands] at hN; obtain ⟨ga, gl, gc, ma, ml, mc, rfl, hR⟩ := hN; go_simp; exact ⟨Below.refl _ _, ga, gl, gc, ma, ml, mc, rfl, hR⟩
    simp only [Act.put, List.setIfInBounds_toArray, List.set_cons_zero, List.set_cons_succ]
    refine wpParts_det (by rfl) (fun W hE hN => ?_) ?_
    · simp [near, Oper.looksAt, Op.operands] at hN; obtain ⟨ga, gl, gc, ma, ml, mc, rfl, hR⟩ := hN; go_simp; refine ⟨Below.refl _ _, ?_⟩; rfl
    simp only [Act.put, List.setIfInBounds_toArray, List.set_cons_zero, List.set_cons_succ]
    refine wpParts_any rfl (NewBlk.later) (by rfl) (fun W hE hN => ?_) (fun u6 => ?_)
    · go_simp; exact newBlk_alloc (cs := [.slice none 0 0, .slice none 0 0, .int .i64 0, .int .i64 0, .bool false]) hE.size
    simp only [Act.put, List.setIfInBounds_toArray, List.set_cons_zero, List.set_cons_succ]
    refine wpParts_end fun W2 hE2 hG2 => ?_
    have hcW2 := fun b o h => hE2.cell (p := ⟨b, o, none⟩) h
    have hfW2 := fun b o h => hE2.frozen (p := ⟨b, o, none⟩) h
    obtain ⟨⟨p2, rfl, hp2, hk2⟩, ⟨ga, gl, gc, ma, ml, mc, rfl, hR⟩, _⟩ := hG2
    have HR := Lib.hid (hR.off hk2 wake_file)
    have HK2 := Lib.hid hk2
    have HB12 := Lib.hid (HB1.out.ext hE2)
    have BEL2 := Lib.hid (BEL0.out.trans (hE2.mono BEL0.out.size))
    have q2 := hk2.cells
    have m2 := hk2.marks
    have l2 := hk2.lt
    have HP2 := Lib.hid (show w.heap.size ≠ p2 ∧ w.heap.size ≤ p2 by have := HB1.out.lt; omega)
    clear hR hk2 hE2 hcW2 hfW2 q1 l1
    go_wp2_with fail
    refine noPanic_normal ?_
    go_wp2_with fail
    obtain ⟨V, hV⟩ : ∃ V, (((((W2.setCell ⟨p2, 0, none⟩ (.slice ga gl gc)).setCell ⟨p2, 1, none⟩ (.slice ma ml mc)).setCell ⟨p2, 2, none⟩ (.int .i64 wakeF.fuse)).setCell ⟨p2, 3, none⟩ (.int .i64 wakeF.fault)).setCell ⟨p2, 4, none⟩ (.bool wakeF.off)) = V := ⟨_, rfl⟩
    have o5 : Only p2 W2 V := by rw [← hV]; exact (by repeat (first | (with_reducible exact Only.refl _ _) | (with_reducible refine Only.set ?_ _ _) | (with_reducible refine Only.alloc ?_ _) | (with_reducible refine Only.drew ?_)))
    have HBF := Lib.hid (show Blk V p2 [.slice ga gl gc, .slice ma ml mc, .int .i64 wakeF.fuse, .int .i64 wakeF.fault, .bool wakeF.off] 27 by rw [← hV]; exact blk_store5 HK2.out rfl)
    have HFV := Lib.hid (HR.out.same o5.size (fun b h hlt => o5.block b hlt h.2))
    have HB1V := Lib.hid (HB12.out.only o5 HP2.out.1)
    have BELV := Lib.hid (below_only BEL2.out o5 BEL2.out.size HP2.out.2)
    rw [hV]
    clear hV o5 q2 m2 l2 HR HK2 HB12 BEL2
    have hA := Try_Find wakeF ga ma gl gc ml mc V _ HFV.out.at_.s (fun b h => h)
    rw [wake_find] at hA
    refine hA.mono ?_; rintro e w3 ⟨rfl, hb3⟩
    clear hA
    have HF1 := Lib.hid (HFV.out.at_.ext hb3)
    have HBF1 := Lib.hid (HBF.out.ext hb3)
    have HB1W := Lib.hid (HB1V.out.ext hb3)
    have BEL3 := Lib.hid (BELV.out.trans (hb3.mono BELV.out.size))
    have q1 := HB1W.out.cells
    have l1 := HB1W.out.lt
    clear hb3 HFV HBF HB1V BELV
    go_wp2_with fail
    obtain ⟨WA, hWA⟩ : ∃ WA, w3.alloc (.cells #[.int .u64 1, .int .i64 1] 30) = WA := ⟨_, rfl⟩
    have hbA : Below w3.heap.size w3 WA := by rw [← hWA]; exact (by repeat (first | (with_reducible exact Below.refl _ _) | (with_reducible exact Below.refl _ _) | (with_reducible refine Below.setCell ?_ (by first | omega | (simp; done) | (simp; omega)) _) | (with_reducible refine Below.alloc ?_ (by first | omega | (simp; done) | (simp; omega)) _) | (with_reducible refine Below.drew ?_) | (with_reducible refine below_drewN ?_ _)))
    have HG := Lib.hid (show Blk WA w3.heap.size [.int .u64 1, .int .i64 1] 30 by rw [← hWA]; exact Blk.new _ _ _)
    rw [hWA]
    have hA := Try_Block ⟨1, 1⟩ ⟨by show 1 < _; omega, by unfold I64'; decide⟩ WA
    rw [show blkOf ⟨1, 1⟩ = blockOf 1 1 from rfl] at hA
    refine hA.mono ?_; rintro e w4 ⟨rfl, hb4⟩
    clear hA
    have hb := hbA.trans (hb4.mono hbA.size)
    have HF2 := Lib.hid (HF1.out.ext hb)
    have HBF2 := Lib.hid (HBF1.out.ext hb)
    have HB12 := Lib.hid (HB1W.out.ext hb)
    have HG2 := Lib.hid (HG.out.ext hb4)
    have BEL4 := Lib.hid (BEL3.out.trans (hb.mono BEL3.out.size))
    clear hb hb4 hbA hWA HF1 HBF1 HB1W HG BEL3 q1 l1
    have HBz := Lib.hid (show Blk (w4.alloc (.cells #[.int .u8 0, .int .u8 0, .int .u8 0, .int .u8 0, .int .u8 0, .int .u8 0, .int .u8 0, .int .u8 0, .int .u8 0, .int .u8 0, .int .u8 0, .int .u8 0, .int .u8 0, .int .u8 0, .int .u8 0, .int .u8 0, .int .u8 0, .int .u8 0, .int .u8 0, .int .u8 0, .int .u8 0, .int .u8 0, .int .u8 0, .int .u8 0, .int .u8 0, .int .u8 0, .int .u8 0, .int .u8 0, .int .u8 0, .int .u8 0, .int .u8 0, .int .u8 0, .int .u8 0, .int .u8 0, .int .u8 0, .int .u8 0, .int .u8 0, .int .u8 0, .int .u8 0, .int .u8 0, .int .u8 0, .int .u8 0, .int .u8 0, .int .u8 0, .int .u8 0, .int .u8 0, .int .u8 0, .int .u8 0, .int .u8 0, .int .u8 0, .int .u8 0, .int .u8 0, .int .u8 0, .int .u8 0, .int .u8 0, .int .u8 0, .int .u8 0, .int .u8 0, .int .u8 0, .int .u8 0, .int .u8 0, .int .u8 0, .int .u8 0, .int .u8 0] 50)) w4.heap.size (u8s (List.replicate 64 0)) 50 from Blk.new w4 _ _)
    have HBx := Lib.hid (show Blk ((w4.alloc (.cells #[.int .u8 0, .int .u8 0, .int .u8 0, .int .u8 0, .int .u8 0, .int .u8 0, .int .u8 0, .int .u8 0, .int .u8 0, .int .u8 0, .int .u8 0, .int .u8 0, .int .u8 0, .int .u8 0, .int .u8 0, .int .u8 0, .int .u8 0, .int .u8 0, .int .u8 0, .int .u8 0, .int .u8 0, .int .u8 0, .int .u8 0, .int .u8 0, .int .u8 0, .int .u8 0, .int .u8 0, .int .u8 0, .int .u8 0, .int .u8 0, .int .u8 0, .int .u8 0, .int .u8 0, .int .u8 0, .int .u8 0, .int .u8 0, .int .u8 0, .int .u8 0, .int .u8 0, .int .u8 0, .int .u8 0, .int .u8 0, .int .u8 0, .int .u8 0, .int .u8 0, .int .u8 0, .int .u8 0, .int .u8 0, .int .u8 0, .int .u8 0, .int .u8 0, .int .u8 0, .int .u8 0, .int .u8 0, .int .u8 0, .int .u8 0, .int .u8 0, .int .u8 0, .int .u8 0, .int .u8 0, .int .u8 0, .int .u8 0, .int .u8 0, .int .u8 0] 50)).setRow w4.heap.size (u8s (blockOf 1 1)).toArray) w4.heap.size (u8s (blockOf 1 1)) 50 from blk_row (ds := u8s (blockOf 1 1)) HBz.out)
    go_wp2_with (first | (refine wpList_store_row rfl 50 (.tmp 7) (.tmp 28) rfl w4.heap.size (u8s (blockOf 1 1)).toArray rfl rfl 50 (u8s (List.replicate 64 0)).toArray HBz.out (Try_size64_of (blockOf_len 1 1)) (by simp [u8s_len, blockOf_len]) (u8s_all _) ?_) | (refine wpList_load_row rfl 50 (.tmp 7) rfl w4.heap.size rfl 50 (u8s (blockOf 1 1)).toArray (0, 0) _ HBx.out Try.underlying50 rfl (Try_size64_of (blockOf_len 1 1)) ?_))
    obtain ⟨WB, hWB⟩ : ∃ WB, (w4.alloc (.cells #[.int .u8 0, .int .u8 0, .int .u8 0, .int .u8 0, .int .u8 0, .int .u8 0, .int .u8 0, .int .u8 0, .int .u8 0, .int .u8 0, .int .u8 0, .int .u8 0, .int .u8 0, .int .u8 0, .int .u8 0, .int .u8 0, .int .u8 0, .int .u8 0, .int .u8 0, .int .u8 0, .int .u8 0, .int .u8 0, .int .u8 0, .int .u8 0, .int .u8 0, .int .u8 0, .int .u8 0, .int .u8 0, .int .u8 0, .int .u8 0, .int .u8 0, .int .u8 0, .int .u8 0, .int .u8 0, .int .u8 0, .int .u8 0, .int .u8 0, .int .u8 0, .int .u8 0, .int .u8 0, .int .u8 0, .int .u8 0, .int .u8 0, .int .u8 0, .int .u8 0, .int .u8 0, .int .u8 0, .int .u8 0, .int .u8 0, .int .u8 0, .int .u8 0, .int .u8 0, .int .u8 0, .int .u8 0, .int .u8 0, .int .u8 0, .int .u8 0, .int .u8 0, .int .u8 0, .int .u8 0, .int .u8 0, .int .u8 0, .int .u8 0, .int .u8 0] 50)).setRow w4.heap.size (u8s (blockOf 1 1)).toArray = WB := ⟨_, rfl⟩
    have hbB : Below w4.heap.size w4 WB := by rw [← hWB]; exact below_only ((Below.refl _ w4).alloc (Nat.le_refl _) _) (only_row _ _ _) (by simp) (Nat.le_refl _)
    have HBxB := Lib.hid (show Blk WB w4.heap.size (u8s (blockOf 1 1)) 50 by rw [← hWB]; exact HBx.out)
    rw [hWB]
    have hA := Try_Says (blockOf 1 1) (blockOf_len 1 1) WB
    rw [saysOf_block (by omega) wake_right] at hA
    refine hA.mono ?_; rintro e w5 ⟨rfl, hb5⟩
    clear hA
    have hb := hbB.trans (hb5.mono hbB.size)
    have HF3 := Lib.hid (HF2.out.ext hb)
    have HBF3 := Lib.hid (HBF2.out.ext hb)
    have HB13 := Lib.hid (HB12.out.ext hb)
    have HG3 := Lib.hid (HG2.out.ext hb)
    have HX3 := Lib.hid (HBxB.out.ext hb5)
    have BEL5 := Lib.hid (BEL4.out.trans (hb.mono BEL4.out.size))
    clear hb hb5 hbB hWB HF2 HBF2 HB12 HG2 HBxB HBx HBz BEL4
    go_wp2_with fail
    obtain ⟨WC, hWC⟩ : ∃ WC, w5.alloc (.cells #[.int .u64 1, .int .i64 1] 30) = WC := ⟨_, rfl⟩
    have hbC : Below w5.heap.size w5 WC := by rw [← hWC]; exact (by repeat (first | (with_reducible exact Below.refl _ _) | (with_reducible exact Below.refl _ _) | (with_reducible refine Below.setCell ?_ (by first | omega | (simp; done) | (simp; omega)) _) | (with_reducible refine Below.alloc ?_ (by first | omega | (simp; done) | (simp; omega)) _) | (with_reducible refine Below.drew ?_) | (with_reducible refine below_drewN ?_ _)))
    have HS := Lib.hid (show Blk WC w5.heap.size [.int .u64 1, .int .i64 1] 30 by rw [← hWC]; exact Blk.new _ _ _)
    rw [hWC]
    have hA := Try_Says (List.replicate 64 0) rfl WC
    rw [saysOf_no isOf_zeros] at hA
    refine (show Calls Try.prog 16 #[.agg #[.int .u8 0, .int .u8 0, .int .u8 0, .int .u8 0, .int .u8 0, .int .u8 0, .int .u8 0, .int .u8 0, .int .u8 0, .int .u8 0, .int .u8 0, .int .u8 0, .int .u8 0, .int .u8 0, .int .u8 0, .int .u8 0, .int .u8 0, .int .u8 0, .int .u8 0, .int .u8 0, .int .u8 0, .int .u8 0, .int .u8 0, .int .u8 0, .int .u8 0, .int .u8 0, .int .u8 0, .int .u8 0, .int .u8 0, .int .u8 0, .int .u8 0, .int .u8 0, .int .u8 0, .int .u8 0, .int .u8 0, .int .u8 0, .int .u8 0, .int .u8 0, .int .u8 0, .int .u8 0, .int .u8 0, .int .u8 0, .int .u8 0, .int .u8 0, .int .u8 0, .int .u8 0, .int .u8 0, .int .u8 0, .int .u8 0, .int .u8 0, .int .u8 0, .int .u8 0, .int .u8 0, .int .u8 0, .int .u8 0, .int .u8 0, .int .u8 0, .int .u8 0, .int .u8 0, .int .u8 0, .int .u8 0, .int .u8 0, .int .u8 0, .int .u8 0]] WC _ from hA).mono ?_; rintro e w6 ⟨rfl, hb6⟩
    clear hA
    have hb := hbC.trans (hb6.mono hbC.size)
    have HF4 := Lib.hid (HF3.out.ext hb)
    have HBF4 := Lib.hid (HBF3.out.ext hb)
    have HB14 := Lib.hid (HB13.out.ext hb)
    have HG4 := Lib.hid (HG3.out.ext hb)
    have HX4 := Lib.hid (HX3.out.ext hb)
    have HS4 := Lib.hid (HS.out.ext hb6)
    have BEL6 := Lib.hid (BEL5.out.trans (hb.mono BEL5.out.size))
    clear hb hb6 hbC hWC HF3 HBF3 HB13 HG3 HX3 HS BEL5
    go_wp2_with fail
    obtain ⟨WD, hWD⟩ : ∃ WD, w6.alloc (.cells #[.int .u64 0, .int .i64 0] 30) = WD := ⟨_, rfl⟩
    have hbD : Below w6.heap.size w6 WD := by rw [← hWD]; exact (by repeat (first | (with_reducible exact Below.refl _ _) | (with_reducible exact Below.refl _ _) | (with_reducible refine Below.setCell ?_ (by first | omega | (simp; done) | (simp; omega)) _) | (with_reducible refine Below.alloc ?_ (by first | omega | (simp; done) | (simp; omega)) _) | (with_reducible refine Below.drew ?_) | (with_reducible refine below_drewN ?_ _)))
    rw [hWD]
    refine (Try_New WD).mono ?_; rintro e w7 ⟨rfl, hb7⟩
    go_wp2_with fail
    have hA := Try_Put FileD.none ⟨0, 0⟩ none none 0 0 0 0 w7 (fun _ => False) ⟨by show 0 < _; omega, by unfold I64'; decide⟩ fileS_none (fun b h => h.elim)
    rw [wake_no] at hA
    refine hA.mono ?_; rintro e w8 ⟨na, nl, nc, oa, ol, oc, rfl, _, hb8⟩
    clear hA
    have hb := (hbD.trans (hb7.mono hbD.size)).trans (hb8.mono (Nat.le_trans hbD.size hb7.size))
    have HF5 := Lib.hid (HF4.out.ext hb)
    have HBF5 := Lib.hid (HBF4.out.ext hb)
    have HB15 := Lib.hid (HB14.out.ext hb)
    have HG5 := Lib.hid (HG4.out.ext hb)
    have HX5 := Lib.hid (HX4.out.ext hb)
    have HS5 := Lib.hid (HS4.out.ext hb)
    have BEL8 := Lib.hid (BEL6.out.trans (hb.mono BEL6.out.size))
    clear hb hb7 hb8 hbD hWD HF4 HBF4 HB14 HG4 HX4 HS4 BEL6
    have q2 := HBF5.out.cells
    have l2 := HBF5.out.lt
    go_wp2_with fail
    obtain ⟨WE, hWE⟩ : ∃ WE, w8.alloc (.cells #[.slice na nl nc, .slice oa ol oc, .int .i64 FileD.none.fuse, .int .i64 FileD.none.fault, .bool FileD.none.off] 27) = WE := ⟨_, rfl⟩
    have hbE : Below w8.heap.size w8 WE := by rw [← hWE]; exact (by repeat (first | (with_reducible exact Below.refl _ _) | (with_reducible exact Below.refl _ _) | (with_reducible refine Below.setCell ?_ (by first | omega | (simp; done) | (simp; omega)) _) | (with_reducible refine Below.alloc ?_ (by first | omega | (simp; done) | (simp; omega)) _) | (with_reducible refine Below.drew ?_) | (with_reducible refine below_drewN ?_ _)))
    rw [hWE]
    have hA := Try_Len wakeF ga ma gl gc ml mc WE (HF5.out.ext hbE)
    rw [if_pos wake_file, wake_many] at hA
    refine hA.mono ?_; rintro e w9 ⟨rfl, hb9⟩
    clear hA
    have hb := hbE.trans (hb9.mono hbE.size)
    have b1 := HB15.out.ext hb
    have b4 := HG5.out.ext hb
    have b7 := HX5.out.ext hb
    have b8 := HS5.out.ext hb
    have BEL9 := Lib.hid (BEL8.out.trans (hb.mono BEL8.out.size))
    have q1 := b1.cells
    have q4 := b4.cells
    have q8 := b8.cells
    have l1 := b1.lt
    have l4 := b4.lt
    have l8 := b8.lt
    have l7 := b7.lt
    have c0 : w9.cell? ⟨w4.heap.size, 0, none⟩ = some (.int .u8 1) := b7.cell 0 (u8s_get wake_0)
    have c8 : w9.cell? ⟨w4.heap.size, 8, none⟩ = some (.int .u8 1) := b7.cell 8 (u8s_get wake_8)
    have c12 : w9.cell? ⟨w4.heap.size, 12, none⟩ = some (.int .u8 1) := b7.cell 12 (u8s_get wake_12)
    have c63 : w9.cell? ⟨w4.heap.size, 63, none⟩ = some (.int .u8 165) := b7.cell 63 (u8s_get (blockOf_last 1 1))
    have hq : ∀ w, (binOp .eql 30 (.agg #[.int .u64 1, .int .i64 1]) (.agg #[.int .u64 1, .int .i64 1])).run Try.prog w = .ok (.bool true) w := fun w => by kernel_rfl
    clear hb hb9 hbE hWE b1 b4 b7 b8 HF5 HBF5 HB15 HG5 HX5 HS5 BEL8 q2 l2
    go_wp2
    go_ret
    exact ⟨rfl, BEL9.out⟩
end Go.Proofs.Ythpdcbklaapngaa

namespace Go.Dav
set_option linter.unusedVariables false
set_option linter.unusedSimpArgs false
open Go Go.RowKit
structure BoolsAt (W : World) (a : Option Addr) (len cap : Nat) (l : List Bool) : Prop where
  hlen : l.length = len
  hcap : len ≤ cap
  hfew : len ≤ 140737488355328
  hat : ∀ (k : Nat) (x : Bool), l[k]? = some x → ∃ b o, a = some ⟨b, o, none⟩ ∧ b < W.heap.size ∧ W.cell? ⟨b, o + k, none⟩ = some (.bool x)
theorem BoolsAt.ext {W W' : World} {a : Option Addr} {len cap : Nat} {l : List Bool} (h : BoolsAt W a len cap l) (hb : Below W.heap.size W W') : BoolsAt W' a len cap l :=
  ⟨h.hlen, h.hcap, h.hfew, fun k x hk => by
    obtain ⟨b, o, h1, h2, h3⟩ := h.hat k x hk
    exact ⟨b, o, h1, Nat.lt_of_lt_of_le h2 hb.size, by rw [hb.cell (p := ⟨b, o + k, none⟩) h2]; exact h3⟩⟩
theorem FirmOf.bytes {e : TypeId} {S : Nat → Prop} {n : Nat} {v : Value} {l : List UInt8} {W : World} (h : FirmOf e S n v l W) (hl : l.length ≤ 140737488355328) : ∃ a c, v = .slice a l.length c ∧ BytesS W (fun b => S b ∨ n ≤ b) a l.length c l := by
  rcases h with ⟨a, rfl, h2, h3⟩ | h
  · exact ⟨a, _, rfl, BytesS.of_cells (h2.mono fun b hb => .inl hb) (Nat.le_refl _) (by unfold maxLen; omega) hl h3⟩
  · obtain ⟨a, c, rfl, h1, h2, h3, h4⟩ := own_cells h
    exact ⟨a, c, rfl, BytesS.of_cells (h4.mono fun b hb => .inr hb) h1 h2 hl h3⟩
end Go.Dav
namespace Go.Proofs.Ythpdcbklaapngaa
set_option linter.unusedVariables false
set_option linter.unusedSimpArgs false
open Go.RowKit Go.Dav
attribute [local go_sem] Gives ite_val ite_val_true

def TryCrashRel (w w1 : World) (S : Nat → Prop) (G n₀ : Nat) (F : FileD) (keep : List Bool) (tear cut : Int) (ix lost : Value) (wr : World) : Prop :=
  ∃ (k : Nat) (v : Value), k ≤ F.loose.length ∧ ix = .int .i64 k ∧ lost = .int .i64 ((crashTo F keep tear cut k).2 : Int) ∧ Blk wr G [v, .slice none 0 0, .int .i64 (-1), .int .i64 (-1), .bool false] 27 ∧
    FirmOf 5 S n₀ v (crashTo F keep tear cut k).1 wr ∧ Below n₀ w1 wr

set_option maxRecDepth 8000 in
set_option maxHeartbeats 8000000 in
theorem Try_Crash_yes (F : FileD) (fa la ka : Option Addr) (fl fc ll lc kl kc : Nat) (keep : List Bool) (tear cut : Int) (w : World) (S : Nat → Prop) (hF : FileS w S fa fl fc la ll lc F) (hK : BoolsAt w ka kl kc keep) (hS : ∀ b, S b → b < w.heap.size) (hr : F.right = true) (ht : I64' tear) (hcut : I64' cut) :
    Calls Try.prog 11 #[.agg #[.slice fa fl fc, .slice la ll lc, .int .i64 F.fuse, .int .i64 F.fault, .bool F.off], .slice ka kl kc, .int .i64 tear, .int .i64 cut] w (GivesFile w S (F.crash keep tear cut).1 (F.crash keep tear cut).2) := by
  have hW : Below w.heap.size w ((w.alloc (.cells [.slice fa fl fc, .slice la ll lc, .int .i64 F.fuse, .int .i64 F.fault, .bool F.off].toArray 27)).alloc (.cells #[.slice none 0 0, .slice none 0 0, .int .i64 0, .int .i64 0, .bool false] 27)) := (by repeat (first | (with_reducible exact Below.refl _ _) | (with_reducible exact Below.refl _ _) | (with_reducible refine Below.setCell ?_ (by first | omega | (simp; done) | (simp; omega)) _) | (with_reducible refine Below.alloc ?_ (by first | omega | (simp; done) | (simp; omega)) _) | (with_reducible refine Below.drew ?_) | (with_reducible refine below_drewN ?_ _)))
  have hf0 := (Blk.new w [.slice fa fl fc, .slice la ll lc, .int .i64 F.fuse, .int .i64 F.fault, .bool F.off] 27).alloc (o := (.cells #[.slice none 0 0, .slice none 0 0, .int .i64 0, .int .i64 0, .bool false] 27))
  have B0 := Blk.new' (w.alloc (.cells [.slice fa fl fc, .slice la ll lc, .int .i64 F.fuse, .int .i64 F.fault, .bool F.off].toArray 27)) [.slice none 0 0, .slice none 0 0, .int .i64 0, .int .i64 0, .bool false] 27 (p := w.heap.size + 1) (by simp)
  have hC := Try_Check F fa la fl fc ll lc _ (hF.ext hW).at_
  rw [FileD.err_right hr] at hC
  have HC := Lib.hid hC
  have HF := Lib.hid (hF.ext hW)
  have HK := Lib.hid (hK.ext hW)
  have HK0 := Lib.hid hK
  have HSS := Lib.hid hS
  have HR := Lib.hid hr
  have HF0 := Lib.hid hf0
  have HB0 := Lib.hid B0
  have HTT := Lib.hid ht
  have HCT := Lib.hid hcut
  have f0 : (0 : Int) ≤ (fl : Int) := by omega
  have f1 : (fl : Int) ≤ (fc : Int) := by have := hF.firm.at_.hcap; omega
  have f2 : fl ≤ fc := hF.firm.at_.hcap
  clear hW hf0 B0 hC hF hK hS hr ht hcut
  go_enter Try.func11, Try.ntmps11
  go_wp2_with fail
  refine HC.out.mono ?_; rintro e w1 ⟨rfl, hb1⟩
  have s1 := hb1.size
  simp only [World.size_alloc] at s1
  have B1 := HF0.out.ext hb1
  have q1 := B1.cells
  have l1 := B1.lt
  have HF1 := Lib.hid B1
  have HB1 := Lib.hid (HB0.out.ext hb1)
  have HW1 := Lib.hid hb1
  clear B1 hb1 HC HF0 HB0
  go_wp2_with fail
  refine (Try_New w1).mono ?_; rintro e w2 ⟨rfl, hb2⟩
  have s2 := hb2.size
  have B1 := HF1.out.ext hb2
  have HB2 := Lib.hid (HB1.out.ext hb2)
  clear q1 l1
  have q1 := B1.cells
  have l1 := B1.lt
  have HF2 := Lib.hid B1
  have HW2 := Lib.hid hb2
  clear B1 hb2 HF1 HB1
  have HF3 := Lib.hid (HF2.out.alloc (o := .cells #[.slice fa fl fl, .slice none 0 0, .int .i64 (-1), .int .i64 (-1), .bool false] 27))
  have hG := Blk.new w2 [.slice fa fl fl, .slice none 0 0, .int .i64 (-1), .int .i64 (-1), .bool false] 27
  have HG := Lib.hid hG
  have HB3 := Lib.hid (HB2.out.alloc (o := .cells #[.slice fa fl fl, .slice none 0 0, .int .i64 (-1), .int .i64 (-1), .bool false] 27))
  have hm1 := (FileD.right_spec.1 HR.out).2.2.2.2
  have hm2 : F.firm.length ≤ F.many := by unfold FileD.many; omega
  have hw1L : Below w1.heap.size w1 (w2.alloc (.cells #[.slice fa fl fl, .slice none 0 0, .int .i64 (-1), .int .i64 (-1), .bool false] 27)) := (by repeat (first | (with_reducible exact Below.refl _ _) | (with_reducible exact Below.refl _ _) | (with_reducible refine Below.setCell ?_ (by first | omega | (simp; done) | (simp; omega)) _) | (with_reducible refine Below.alloc ?_ (by first | omega | (simp; done) | (simp; omega)) _) | (with_reducible refine Below.drew ?_) | (with_reducible refine below_drewN ?_ _) | (with_reducible refine Below.trans ?_ (HW2.out.mono (by first | omega | (simp; done) | (simp; omega))))))
  have HFL := Lib.hid ((HF.out.ext HW1.out).ext hw1L)
  have HKL := Lib.hid ((HK.out.ext HW1.out).ext hw1L)
  have hfirm : FirmOf 5 S w2.heap.size (.slice fa fl fl) (crashTo F keep tear cut 0).1 (w2.alloc (.cells #[.slice fa fl fl, .slice none 0 0, .int .i64 (-1), .int .i64 (-1), .bool false] 27)) := by
    have e : fl = F.firm.length := HFL.out.firm.at_.hlen.symm
    refine .inl ⟨fa, by show _ = Value.slice fa F.firm.length F.firm.length; rw [← e], ?_, fun h => ?_⟩
    · show CellsS _ S fa F.firm.length (u8s F.firm)
      rw [← e]; exact HFL.out.firm.cells
    · have := HFL.out.firm.at_.hnil h
      show F.firm.length = 0; omega
  have HFIRM := Lib.hid hfirm
  have HM := Lib.hid (And.intro hm1 hm2)
  clear hG hm1 hm2 hw1L hfirm HF2
  go_wp2_with fail
  go_loopw [36, 12] (fun ix lost wr => TryCrashRel w (w2.alloc (.cells #[.slice fa fl fl, .slice none 0 0, .int .i64 (-1), .int .i64 (-1), .bool false] 27)) S w2.heap.size w2.heap.size F keep tear cut ix lost wr) (fun ix _ _ => ll - (intOf ix).toNat)
  case atStart => exact ⟨0, _, Nat.zero_le _, rfl, rfl, HG.out, HFIRM.out, Below.refl _ _⟩
  case round =>
    obtain ⟨k, v, hk, rfl, rfl, hgb, hfo, hbl⟩ := hrel
    have hlo := crashTo_le F keep tear cut k
    have hsm := sumTo_mono F.loose k
    obtain ⟨lost, hlost⟩ : ∃ lost, (crashTo F keep tear cut k).2 = lost := ⟨_, rfl⟩
    obtain ⟨out, hout⟩ : ∃ out, (crashTo F keep tear cut k).1 = out := ⟨_, rfl⟩
    rw [hlost, hout] at hlo
    rw [hout] at hfo
    rw [hlost]
    have hmany : out.length + lost ≤ 524288 := by
      have h1 := HM.out.1
      unfold FileD.many at h1
      omega
    have hloI : (lost : Int) ≤ 524288 := by omega
    have hFk := HF3.out.below hbl (by have := HF3.out.lt; simp at this; omega)
    have q1 := hFk.cells
    have q2 := hgb.cells
    have m2 := hgb.marks
    have l1 := hFk.lt
    have l2 := hgb.lt
    have hk2 : k ≤ ll := by have := HFL.out.loose.hlen; omega
    have hll : ll ≤ 140737488355328 := HFL.out.loose.hfew
    have HST := Lib.hid (show crashTo F keep tear cut k = (out, lost) from by rw [← hlost, ← hout])
    have HFO := Lib.hid hfo
    have HBL := Lib.hid hbl
    have HGB := Lib.hid hgb
    clear hlost hout hfo hbl hgb hFk hlo hsm
    by_cases hlt : k < F.loose.length
    · obtain ⟨p, hp⟩ : ∃ p, F.loose[k]? = some p := ⟨_, List.getElem?_eq_getElem hlt⟩
      obtain ⟨b, o, pa, pl, pc, rfl, hb, hSb, hc, hP⟩ := HFL.out.loose.hat k p hp
      have hcell : wr.cell? ⟨b, o + k, none⟩ = some (.slice pa pl pc) := (HBL.out.cell (p := ⟨b, o + k, none⟩) (by have := HSS.out b hSb; show b < _; omega)).trans hc
      have hpl := hP.at_.hlen
      have hp2 : pl ≤ 524288 := by have := loose_le hp; have := HM.out.1; omega
      have hp3 : (pl : Int) ≤ 524288 := by omega
      have hpc : pl ≤ pc := hP.at_.hcap
      have hpne : pl ≠ 0 := by
        intro h
        have := List.all_eq_true.1 (FileD.right_spec.1 HR.out).1 p (List.mem_of_getElem? hp)
        have hnil : p = [] := List.length_eq_zero_iff.1 (by omega)
        rw [hnil] at this; cases this
      have hkl : (k : Int) < (ll : Int) := by have := HFL.out.loose.hlen; omega
      have HLT := Lib.hid hlt
      have hstep := crashTo_succ (keep := keep) (tear := tear) (cut := cut) hp
      rw [HST.out] at hstep
      have hsle := staysOf_le keep tear cut k p
      have HSTEP := Lib.hid hstep
      have HP := Lib.hid hP
      have HPL := Lib.hid hpl
      have htk : F.firm.length + sumTo F.loose k + pl ≤ 524288 := by
        have h1 := sumTo_succ hp
        have h2 := sumTo_mono F.loose (k + 1)
        have h3 := HM.out.1
        unfold FileD.many at h3
        omega
      have HTK := Lib.hid htk
      clear hstep hlt hk hP hp hb hSb hc htk
      by_cases g1 : (k : Int) = tear
      · have g1' : ((k : Int) == tear) = true := by simp [g1]
        by_cases c0 : cut < 0
        · have HE := Lib.hid (show staysOf keep tear cut k p = 0 by unfold staysOf; rw [if_pos g1]; omega)
          have c1 : ¬ (pl : Int) < 0 := by omega
          clear g1 hsle
          have hval : crashTo F keep tear (cut) (k + 1) = (out, lost + pl) := by
            rw [HSTEP.out]
            unfold crashStep
            rw [HE.out, if_neg (by omega), HPL.out]
          have HVAL := Lib.hid hval
          clear hval
          go_wp2_with fail
          go_roundw
          case rel => exact ⟨k + 1, v, HLT.out, by go_num, by rw [HVAL.out]; go_num, HGB.out, by rw [HVAL.out]; exact HFO.out, HBL.out⟩
          case measure => simp [intOf]; omega
        · obtain ⟨mx, rfl⟩ : ∃ mx : Nat, cut = (mx : Int) := ⟨cut.toNat, by omega⟩
          by_cases c1 : pl < mx
          · have HE := Lib.hid (show staysOf keep tear (mx : Int) k p = pl by unfold staysOf; rw [if_pos g1, hpl]; omega)
            have c2 : (pl : Int) < (mx : Int) := by omega
            have g10 : (0 : Int) < (pl : Int) := by omega
            clear g1 hsle
            have hval : crashTo F keep tear ((mx : Int)) (k + 1) = (out ++ List.replicate lost 0 ++ p.take pl, pl - pl) := by
              rw [HSTEP.out]
              unfold crashStep
              rw [HE.out, if_pos (by omega), HPL.out]
            have HVAL := Lib.hid hval
            clear hval
            go_wp2_with fail
            have hstc : pl ≤ pc := by omega
            refine wp_region_any (by kernel_rfl) ?_
            refine wpAny_takeD (i := 0) (v := ?_) (some 65) rfl rfl (by kernel_rfl) (by kernel_rfl) (by kernel_rfl) (fun _ _ _ h => h) (Or.inl ⟨by rfl, ?_⟩) ?_
            rotate_left
            · intro w'; go_simp; rfl
            simp only [Act.put, List.setIfInBounds_toArray, List.set_cons_zero, List.set_cons_succ]
            refine wpAny_takeD (i := 2) (v := ?_) (some 67) rfl rfl (by kernel_rfl) (by kernel_rfl) (by kernel_rfl) (fun _ _ _ h => h) (Or.inl ⟨by rfl, ?_⟩) ?_
            rotate_left
            · intro w'; go_simp; rfl
            simp only [Act.put, List.setIfInBounds_toArray, List.set_cons_zero, List.set_cons_succ]
            refine wpAny_takeD (i := 4) (v := ?_) (some 69) rfl rfl (by kernel_rfl) (by kernel_rfl) (by kernel_rfl) (fun _ _ _ h => h) (Or.inl ⟨by rfl, ?_⟩) ?_
            rotate_left
            · intro w'; go_simp; rfl
            simp only [Act.put, List.setIfInBounds_toArray, List.set_cons_zero, List.set_cons_succ]
            refine wpAny_takeD (i := 5) (v := ?_) (some 70) rfl rfl (by kernel_rfl) (by kernel_rfl) (by kernel_rfl) (fun _ _ _ h => h) (Or.inl ⟨by rfl, ?_⟩) ?_
            rotate_left
            · intro w'; go_simp; rfl
            simp only [Act.put, List.setIfInBounds_toArray, List.set_cons_zero, List.set_cons_succ]
            refine wpAny_takeD (i := 6) (v := ?_) (some 71) rfl rfl (by kernel_rfl) (by kernel_rfl) (by kernel_rfl) (fun _ _ _ h => h) (Or.inl ⟨by rfl, ?_⟩) ?_
            rotate_left
            · intro w'; go_simp; rfl
            simp only [Act.put, List.setIfInBounds_toArray, List.set_cons_zero, List.set_cons_succ]
            refine wpAny_runsD (i := 1) (v := v) (w' := wr.drew) (some 66) (by kernel_rfl) rfl rfl (by rfl) ?_ ?_
            · go_simp
            simp only [Act.put, List.setIfInBounds_toArray, List.set_cons_zero, List.set_cons_succ]
            obtain ⟨i0, hi, hz0, hz1, hz2⟩ := info_parts Try_infoU8
            obtain ⟨v3, w3, hr3, hf3, hg3⟩ := firm_zeros (P := Try.prog) (W := wr.drew) 24 3 24 5 i0 .i64 Try.underlying24 Try.underlying3 hi hz0 hz1 hz2 S w2.heap.size (by show _ ≤ wr.heap.size; omega) v out (HFO.out.ext ((Below.refl _ wr).drew)) lost (by omega)
            refine wpAny_runsD (i := 3) (v := v3) (w' := w3) (some 68) (by kernel_rfl) rfl rfl (by rfl) ?_ ?_
            · exact run_append_op (s := .tmp 66) (x := .tmp 67) (v1 := v) (v2 := .int .i64 (lost : Int)) rfl (by rfl) (by rfl) hr3
            simp only [Act.put, List.setIfInBounds_toArray, List.set_cons_zero, List.set_cons_succ]
            clear hr3
            have hPw := HP.out.same HBL.out.size (fun b hb _ => HBL.out.block b (by have := HSS.out b hb; omega))
            have hx3 := (hPw.same (W' := w3) hg3.size (fun b hb hlt => hg3.block b hlt (.inl (by have := HSS.out b hb; omega)))).cells.take (k := pl) (by omega)
            rw [u8s_take] at hx3
            have hpane : pa ≠ none := fun e => by
              obtain ⟨b0, o0, h1, _⟩ := HP.out.at_.hat 0 (p[0]'(by omega)) (List.getElem?_eq_getElem (by omega))
              rw [e] at h1; cases h1
            have hs3 := hg3.size
            simp only [World.size_drew] at hs3
            obtain ⟨v4, w4, hr4, hs4, hown4, hg4⟩ := firm_append (P := Try.prog) (W := w3) Try_elemU8 24 S w2.heap.size (by omega) v3 (out ++ List.replicate lost 0) hf3 S pa pl pc (p.take pl) hx3 hpane (by omega) (by simp; omega)
            obtain ⟨out', hout'⟩ : ∃ out', out ++ List.replicate lost 0 ++ p.take pl = out' := ⟨_, rfl⟩
            rw [hout'] at hown4
            have hval' := HVAL.out
            rw [hout'] at hval'
            have HVAL2 := Lib.hid hval'
            clear hval' hout' HVAL
            obtain ⟨a4, c4, rfl, _⟩ := own_cells hown4
            refine wpAny_runsD (i := 7) (v := .slice a4 out'.length c4) (w' := w4) (some 72) (by kernel_rfl) rfl rfl (by rfl) ?_ ?_
            · exact run_append_op (s := .tmp 68) (x := .tmp 71) (v1 := v3) (v2 := .slice pa pl pc) rfl (by rfl) (by rfl) hr4
            simp only [Act.put, List.setIfInBounds_toArray, List.set_cons_zero, List.set_cons_succ]
            clear hr4
            refine wpAny_runsD (i := 8) (v := .pointer (some ⟨w2.heap.size, 0, none⟩)) (w' := w4) (some 73) (by kernel_rfl) rfl rfl (by rfl) ?_ ?_
            · go_simp
            simp only [Act.put, List.setIfInBounds_toArray, List.set_cons_zero, List.set_cons_succ]
            have hG4 := hg4.blk (hg3.blk HGB.out.drew (by decide)) (by decide)
            have q4 := hG4.cells
            have m4 := hG4.marks
            refine wpAny_skipsD (i := 9) (w' := w4.setCell ⟨w2.heap.size, 0, none⟩ (.slice a4 out'.length c4)) none (by kernel_rfl) rfl rfl (by rfl) ?_ ?_
            · go_simp
            simp only [Act.put, List.setIfInBounds_toArray, List.set_cons_zero, List.set_cons_succ]
            refine wpAny_done (by kernel_rfl) ?_ _
            have hbel4 := ((HBL.out.drew.trans (hg3.below (by simp; omega))).trans (hg4.below (by omega))).setCell (p := ⟨w2.heap.size, 0, none⟩) (Nat.le_refl _) (.slice a4 out'.length c4)
            have hG5 := hG4.set 0 (.slice a4 out'.length c4)
            have hown5 := ownsRow_set_other (i := 0) (u := .slice a4 out'.length c4) hown4 hG4 (by decide)
            have HG5 := Lib.hid hG5
            have HOWN5 := Lib.hid hown5
            have HBEL4 := Lib.hid hbel4
            clear hx3 hpane hPw hf3 hg3 hs4 hown4 hg4 hG4 q4 m4 hbel4 hG5 hown5
            go_wp2_with fail
            go_roundw
            case rel => exact ⟨k + 1, _, HLT.out, by go_num, by rw [HVAL2.out]; go_num, HG5.out, by rw [HVAL2.out]; exact .inr HOWN5.out, HBEL4.out⟩
            case measure => simp [intOf]; omega
          · have c2 : ¬ (pl : Int) < (mx : Int) := by omega
            by_cases c3 : mx = 0
            · subst c3
              have HE := Lib.hid (show staysOf keep tear ((0 : Nat) : Int) k p = 0 by unfold staysOf; rw [if_pos g1]; omega)
              clear g1 hsle
              have hval : crashTo F keep tear (((0 : Nat) : Int)) (k + 1) = (out, lost + pl) := by
                rw [HSTEP.out]
                unfold crashStep
                rw [HE.out, if_neg (by omega), HPL.out]
              have HVAL := Lib.hid hval
              clear hval
              go_wp2_with fail
              go_roundw
              case rel => exact ⟨k + 1, v, HLT.out, by go_num, by rw [HVAL.out]; go_num, HGB.out, by rw [HVAL.out]; exact HFO.out, HBL.out⟩
              case measure => simp [intOf]; omega
            · have HE := Lib.hid (show staysOf keep tear (mx : Int) k p = mx by unfold staysOf; rw [if_pos g1, hpl]; omega)
              have g10 : (0 : Int) < (mx : Int) := by omega
              have g11 : (mx : Int) ≤ (pl : Int) := by omega
              clear g1 hsle
              have hval : crashTo F keep tear ((mx : Int)) (k + 1) = (out ++ List.replicate lost 0 ++ p.take mx, pl - mx) := by
                rw [HSTEP.out]
                unfold crashStep
                rw [HE.out, if_pos (by omega), HPL.out]
              have HVAL := Lib.hid hval
              clear hval
              go_wp2_with fail
              have hstc : mx ≤ pc := by omega
              refine wp_region_any (by kernel_rfl) ?_
              refine wpAny_takeD (i := 0) (v := ?_) (some 65) rfl rfl (by kernel_rfl) (by kernel_rfl) (by kernel_rfl) (fun _ _ _ h => h) (Or.inl ⟨by rfl, ?_⟩) ?_
              rotate_left
              · intro w'; go_simp; rfl
              simp only [Act.put, List.setIfInBounds_toArray, List.set_cons_zero, List.set_cons_succ]
              refine wpAny_takeD (i := 2) (v := ?_) (some 67) rfl rfl (by kernel_rfl) (by kernel_rfl) (by kernel_rfl) (fun _ _ _ h => h) (Or.inl ⟨by rfl, ?_⟩) ?_
              rotate_left
              · intro w'; go_simp; rfl
              simp only [Act.put, List.setIfInBounds_toArray, List.set_cons_zero, List.set_cons_succ]
              refine wpAny_takeD (i := 4) (v := ?_) (some 69) rfl rfl (by kernel_rfl) (by kernel_rfl) (by kernel_rfl) (fun _ _ _ h => h) (Or.inl ⟨by rfl, ?_⟩) ?_
              rotate_left
              · intro w'; go_simp; rfl
              simp only [Act.put, List.setIfInBounds_toArray, List.set_cons_zero, List.set_cons_succ]
              refine wpAny_takeD (i := 5) (v := ?_) (some 70) rfl rfl (by kernel_rfl) (by kernel_rfl) (by kernel_rfl) (fun _ _ _ h => h) (Or.inl ⟨by rfl, ?_⟩) ?_
              rotate_left
              · intro w'; go_simp; rfl
              simp only [Act.put, List.setIfInBounds_toArray, List.set_cons_zero, List.set_cons_succ]
              refine wpAny_takeD (i := 6) (v := ?_) (some 71) rfl rfl (by kernel_rfl) (by kernel_rfl) (by kernel_rfl) (fun _ _ _ h => h) (Or.inl ⟨by rfl, ?_⟩) ?_
              rotate_left
              · intro w'; go_simp; rfl
              simp only [Act.put, List.setIfInBounds_toArray, List.set_cons_zero, List.set_cons_succ]
              refine wpAny_runsD (i := 1) (v := v) (w' := wr.drew) (some 66) (by kernel_rfl) rfl rfl (by rfl) ?_ ?_
              · go_simp
              simp only [Act.put, List.setIfInBounds_toArray, List.set_cons_zero, List.set_cons_succ]
              obtain ⟨i0, hi, hz0, hz1, hz2⟩ := info_parts Try_infoU8
              obtain ⟨v3, w3, hr3, hf3, hg3⟩ := firm_zeros (P := Try.prog) (W := wr.drew) 24 3 24 5 i0 .i64 Try.underlying24 Try.underlying3 hi hz0 hz1 hz2 S w2.heap.size (by show _ ≤ wr.heap.size; omega) v out (HFO.out.ext ((Below.refl _ wr).drew)) lost (by omega)
              refine wpAny_runsD (i := 3) (v := v3) (w' := w3) (some 68) (by kernel_rfl) rfl rfl (by rfl) ?_ ?_
              · exact run_append_op (s := .tmp 66) (x := .tmp 67) (v1 := v) (v2 := .int .i64 (lost : Int)) rfl (by rfl) (by rfl) hr3
              simp only [Act.put, List.setIfInBounds_toArray, List.set_cons_zero, List.set_cons_succ]
              clear hr3
              have hPw := HP.out.same HBL.out.size (fun b hb _ => HBL.out.block b (by have := HSS.out b hb; omega))
              have hx3 := (hPw.same (W' := w3) hg3.size (fun b hb hlt => hg3.block b hlt (.inl (by have := HSS.out b hb; omega)))).cells.take (k := mx) (by omega)
              rw [u8s_take] at hx3
              have hpane : pa ≠ none := fun e => by
                obtain ⟨b0, o0, h1, _⟩ := HP.out.at_.hat 0 (p[0]'(by omega)) (List.getElem?_eq_getElem (by omega))
                rw [e] at h1; cases h1
              have hs3 := hg3.size
              simp only [World.size_drew] at hs3
              obtain ⟨v4, w4, hr4, hs4, hown4, hg4⟩ := firm_append (P := Try.prog) (W := w3) Try_elemU8 24 S w2.heap.size (by omega) v3 (out ++ List.replicate lost 0) hf3 S pa mx pc (p.take mx) hx3 hpane (by omega) (by simp; omega)
              obtain ⟨out', hout'⟩ : ∃ out', out ++ List.replicate lost 0 ++ p.take mx = out' := ⟨_, rfl⟩
              rw [hout'] at hown4
              have hval' := HVAL.out
              rw [hout'] at hval'
              have HVAL2 := Lib.hid hval'
              clear hval' hout' HVAL
              obtain ⟨a4, c4, rfl, _⟩ := own_cells hown4
              refine wpAny_runsD (i := 7) (v := .slice a4 out'.length c4) (w' := w4) (some 72) (by kernel_rfl) rfl rfl (by rfl) ?_ ?_
              · exact run_append_op (s := .tmp 68) (x := .tmp 71) (v1 := v3) (v2 := .slice pa mx pc) rfl (by rfl) (by rfl) hr4
              simp only [Act.put, List.setIfInBounds_toArray, List.set_cons_zero, List.set_cons_succ]
              clear hr4
              refine wpAny_runsD (i := 8) (v := .pointer (some ⟨w2.heap.size, 0, none⟩)) (w' := w4) (some 73) (by kernel_rfl) rfl rfl (by rfl) ?_ ?_
              · go_simp
              simp only [Act.put, List.setIfInBounds_toArray, List.set_cons_zero, List.set_cons_succ]
              have hG4 := hg4.blk (hg3.blk HGB.out.drew (by decide)) (by decide)
              have q4 := hG4.cells
              have m4 := hG4.marks
              refine wpAny_skipsD (i := 9) (w' := w4.setCell ⟨w2.heap.size, 0, none⟩ (.slice a4 out'.length c4)) none (by kernel_rfl) rfl rfl (by rfl) ?_ ?_
              · go_simp
              simp only [Act.put, List.setIfInBounds_toArray, List.set_cons_zero, List.set_cons_succ]
              refine wpAny_done (by kernel_rfl) ?_ _
              have hbel4 := ((HBL.out.drew.trans (hg3.below (by simp; omega))).trans (hg4.below (by omega))).setCell (p := ⟨w2.heap.size, 0, none⟩) (Nat.le_refl _) (.slice a4 out'.length c4)
              have hG5 := hG4.set 0 (.slice a4 out'.length c4)
              have hown5 := ownsRow_set_other (i := 0) (u := .slice a4 out'.length c4) hown4 hG4 (by decide)
              have HG5 := Lib.hid hG5
              have HOWN5 := Lib.hid hown5
              have HBEL4 := Lib.hid hbel4
              clear hx3 hpane hPw hf3 hg3 hs4 hown4 hg4 hG4 q4 m4 hbel4 hG5 hown5
              go_wp2_with fail
              go_roundw
              case rel => exact ⟨k + 1, _, HLT.out, by go_num, by rw [HVAL2.out]; go_num, HG5.out, by rw [HVAL2.out]; exact .inr HOWN5.out, HBEL4.out⟩
              case measure => simp [intOf]; omega
      · have g1' : ((k : Int) == tear) = false := by simp [g1]
        by_cases c1 : k < kl
        · obtain ⟨x, hx⟩ : ∃ x, keep[k]? = some x := ⟨_, List.getElem?_eq_getElem (by have := HK0.out.hlen; omega)⟩
          obtain ⟨kb, ko, rfl, hkb, hkc⟩ := HK0.out.hat k x hx
          have hbw0 : Below w.heap.size w (w2.alloc (.cells #[.slice fa fl fl, .slice none 0 0, .int .i64 (-1), .int .i64 (-1), .bool false] 27)) := (by repeat (first | (with_reducible exact Below.refl _ _) | (with_reducible exact Below.refl _ _) | (with_reducible refine Below.setCell ?_ (by first | omega | (simp; done) | (simp; omega)) _) | (with_reducible refine Below.alloc ?_ (by first | omega | (simp; done) | (simp; omega)) _) | (with_reducible refine Below.drew ?_) | (with_reducible refine below_drewN ?_ _) | (with_reducible refine Below.trans ?_ (HW2.out.mono (by first | omega | (simp; done) | (simp; omega)))) | (with_reducible refine Below.trans ?_ (HW1.out.mono (by first | omega | (simp; done) | (simp; omega))))))
          have hkcell : wr.cell? ⟨kb, ko + k, none⟩ = some (.bool x) := ((hbw0.trans (HBL.out.mono (by omega))).cell (p := ⟨kb, ko + k, none⟩) hkb).trans hkc
          have c2 : (k : Int) < (kl : Int) := by omega
          cases x with
          | true =>
            have HE := Lib.hid (show staysOf keep tear cut k p = pl by unfold staysOf; rw [if_neg g1, if_pos hx, hpl])
            have g10 : (0 : Int) < (pl : Int) := by omega
            clear g1 hsle hx hkc hbw0
            have hval : crashTo F keep tear (cut) (k + 1) = (out ++ List.replicate lost 0 ++ p.take pl, pl - pl) := by
              rw [HSTEP.out]
              unfold crashStep
              rw [HE.out, if_pos (by omega), HPL.out]
            have HVAL := Lib.hid hval
            clear hval
            go_wp2_with fail
            have hstc : pl ≤ pc := by omega
            refine wp_region_any (by kernel_rfl) ?_
            refine wpAny_takeD (i := 0) (v := ?_) (some 65) rfl rfl (by kernel_rfl) (by kernel_rfl) (by kernel_rfl) (fun _ _ _ h => h) (Or.inl ⟨by rfl, ?_⟩) ?_
            rotate_left
            · intro w'; go_simp; rfl
            simp only [Act.put, List.setIfInBounds_toArray, List.set_cons_zero, List.set_cons_succ]
            refine wpAny_takeD (i := 2) (v := ?_) (some 67) rfl rfl (by kernel_rfl) (by kernel_rfl) (by kernel_rfl) (fun _ _ _ h => h) (Or.inl ⟨by rfl, ?_⟩) ?_
            rotate_left
            · intro w'; go_simp; rfl
            simp only [Act.put, List.setIfInBounds_toArray, List.set_cons_zero, List.set_cons_succ]
            refine wpAny_takeD (i := 4) (v := ?_) (some 69) rfl rfl (by kernel_rfl) (by kernel_rfl) (by kernel_rfl) (fun _ _ _ h => h) (Or.inl ⟨by rfl, ?_⟩) ?_
            rotate_left
            · intro w'; go_simp; rfl
            simp only [Act.put, List.setIfInBounds_toArray, List.set_cons_zero, List.set_cons_succ]
            refine wpAny_takeD (i := 5) (v := ?_) (some 70) rfl rfl (by kernel_rfl) (by kernel_rfl) (by kernel_rfl) (fun _ _ _ h => h) (Or.inl ⟨by rfl, ?_⟩) ?_
            rotate_left
            · intro w'; go_simp; rfl
            simp only [Act.put, List.setIfInBounds_toArray, List.set_cons_zero, List.set_cons_succ]
            refine wpAny_takeD (i := 6) (v := ?_) (some 71) rfl rfl (by kernel_rfl) (by kernel_rfl) (by kernel_rfl) (fun _ _ _ h => h) (Or.inl ⟨by rfl, ?_⟩) ?_
            rotate_left
            · intro w'; go_simp; rfl
            simp only [Act.put, List.setIfInBounds_toArray, List.set_cons_zero, List.set_cons_succ]
            refine wpAny_runsD (i := 1) (v := v) (w' := wr.drew) (some 66) (by kernel_rfl) rfl rfl (by rfl) ?_ ?_
            · go_simp
            simp only [Act.put, List.setIfInBounds_toArray, List.set_cons_zero, List.set_cons_succ]
            obtain ⟨i0, hi, hz0, hz1, hz2⟩ := info_parts Try_infoU8
            obtain ⟨v3, w3, hr3, hf3, hg3⟩ := firm_zeros (P := Try.prog) (W := wr.drew) 24 3 24 5 i0 .i64 Try.underlying24 Try.underlying3 hi hz0 hz1 hz2 S w2.heap.size (by show _ ≤ wr.heap.size; omega) v out (HFO.out.ext ((Below.refl _ wr).drew)) lost (by omega)
            refine wpAny_runsD (i := 3) (v := v3) (w' := w3) (some 68) (by kernel_rfl) rfl rfl (by rfl) ?_ ?_
            · exact run_append_op (s := .tmp 66) (x := .tmp 67) (v1 := v) (v2 := .int .i64 (lost : Int)) rfl (by rfl) (by rfl) hr3
            simp only [Act.put, List.setIfInBounds_toArray, List.set_cons_zero, List.set_cons_succ]
            clear hr3
            have hPw := HP.out.same HBL.out.size (fun b hb _ => HBL.out.block b (by have := HSS.out b hb; omega))
            have hx3 := (hPw.same (W' := w3) hg3.size (fun b hb hlt => hg3.block b hlt (.inl (by have := HSS.out b hb; omega)))).cells.take (k := pl) (by omega)
            rw [u8s_take] at hx3
            have hpane : pa ≠ none := fun e => by
              obtain ⟨b0, o0, h1, _⟩ := HP.out.at_.hat 0 (p[0]'(by omega)) (List.getElem?_eq_getElem (by omega))
              rw [e] at h1; cases h1
            have hs3 := hg3.size
            simp only [World.size_drew] at hs3
            obtain ⟨v4, w4, hr4, hs4, hown4, hg4⟩ := firm_append (P := Try.prog) (W := w3) Try_elemU8 24 S w2.heap.size (by omega) v3 (out ++ List.replicate lost 0) hf3 S pa pl pc (p.take pl) hx3 hpane (by omega) (by simp; omega)
            obtain ⟨out', hout'⟩ : ∃ out', out ++ List.replicate lost 0 ++ p.take pl = out' := ⟨_, rfl⟩
            rw [hout'] at hown4
            have hval' := HVAL.out
            rw [hout'] at hval'
            have HVAL2 := Lib.hid hval'
            clear hval' hout' HVAL
            obtain ⟨a4, c4, rfl, _⟩ := own_cells hown4
            refine wpAny_runsD (i := 7) (v := .slice a4 out'.length c4) (w' := w4) (some 72) (by kernel_rfl) rfl rfl (by rfl) ?_ ?_
            · exact run_append_op (s := .tmp 68) (x := .tmp 71) (v1 := v3) (v2 := .slice pa pl pc) rfl (by rfl) (by rfl) hr4
            simp only [Act.put, List.setIfInBounds_toArray, List.set_cons_zero, List.set_cons_succ]
            clear hr4
            refine wpAny_runsD (i := 8) (v := .pointer (some ⟨w2.heap.size, 0, none⟩)) (w' := w4) (some 73) (by kernel_rfl) rfl rfl (by rfl) ?_ ?_
            · go_simp
            simp only [Act.put, List.setIfInBounds_toArray, List.set_cons_zero, List.set_cons_succ]
            have hG4 := hg4.blk (hg3.blk HGB.out.drew (by decide)) (by decide)
            have q4 := hG4.cells
            have m4 := hG4.marks
            refine wpAny_skipsD (i := 9) (w' := w4.setCell ⟨w2.heap.size, 0, none⟩ (.slice a4 out'.length c4)) none (by kernel_rfl) rfl rfl (by rfl) ?_ ?_
            · go_simp
            simp only [Act.put, List.setIfInBounds_toArray, List.set_cons_zero, List.set_cons_succ]
            refine wpAny_done (by kernel_rfl) ?_ _
            have hbel4 := ((HBL.out.drew.trans (hg3.below (by simp; omega))).trans (hg4.below (by omega))).setCell (p := ⟨w2.heap.size, 0, none⟩) (Nat.le_refl _) (.slice a4 out'.length c4)
            have hG5 := hG4.set 0 (.slice a4 out'.length c4)
            have hown5 := ownsRow_set_other (i := 0) (u := .slice a4 out'.length c4) hown4 hG4 (by decide)
            have HG5 := Lib.hid hG5
            have HOWN5 := Lib.hid hown5
            have HBEL4 := Lib.hid hbel4
            clear hx3 hpane hPw hf3 hg3 hs4 hown4 hg4 hG4 q4 m4 hbel4 hG5 hown5
            go_wp2_with fail
            go_roundw
            case rel => exact ⟨k + 1, _, HLT.out, by go_num, by rw [HVAL2.out]; go_num, HG5.out, by rw [HVAL2.out]; exact .inr HOWN5.out, HBEL4.out⟩
            case measure => simp [intOf]; omega
          | false =>
            have HE := Lib.hid (show staysOf keep tear cut k p = 0 by unfold staysOf; rw [if_neg g1, if_neg (by rw [hx]; simp)])
            clear g1 hsle hx hkc hbw0
            have hval : crashTo F keep tear (cut) (k + 1) = (out, lost + pl) := by
              rw [HSTEP.out]
              unfold crashStep
              rw [HE.out, if_neg (by omega), HPL.out]
            have HVAL := Lib.hid hval
            clear hval
            go_wp2_with fail
            go_roundw
            case rel => exact ⟨k + 1, v, HLT.out, by go_num, by rw [HVAL.out]; go_num, HGB.out, by rw [HVAL.out]; exact HFO.out, HBL.out⟩
            case measure => simp [intOf]; omega
        · have c2 : ¬ (k : Int) < (kl : Int) := by omega
          have HE := Lib.hid (show staysOf keep tear cut k p = 0 by unfold staysOf; rw [if_neg g1, if_neg (by rw [List.getElem?_eq_none (by have := HK0.out.hlen; omega)]; simp)])
          clear g1 hsle
          have hval : crashTo F keep tear (cut) (k + 1) = (out, lost + pl) := by
            rw [HSTEP.out]
            unfold crashStep
            rw [HE.out, if_neg (by omega), HPL.out]
          have HVAL := Lib.hid hval
          clear hval
          go_wp2_with fail
          go_roundw
          case rel => exact ⟨k + 1, v, HLT.out, by go_num, by rw [HVAL.out]; go_num, HGB.out, by rw [HVAL.out]; exact HFO.out, HBL.out⟩
          case measure => simp [intOf]; omega
    · have hkl : k = F.loose.length := by omega
      have hk3 : ¬ ((k : Int) < (ll : Int)) := by have := HFL.out.loose.hlen; omega
      have hop : F.crash keep tear cut = ({ firm := out, loose := [], fuse := -1, fault := -1, off := false }, 0) := by
        unfold FileD.crash
        rw [if_pos HR.out, ← hkl, HST.out]
      have HOP := Lib.hid hop
      obtain ⟨ga, gc, rfl, hby⟩ := HFO.out.bytes (by omega)
      have B1 := HB3.out.below HBL.out (by have := HB3.out.lt; simp at this; omega)
      have HBY := Lib.hid hby
      have q3 := B1.cells
      have m3 := B1.marks
      have l3 := B1.lt
      have nG : w2.heap.size ≠ w.heap.size + 1 := by omega
      have hsw := HBL.out.size
      simp only [World.size_alloc] at hsw
      clear hkl hlt hk hop hby
      have hr2 := ((((B1.set 0 (.slice ga out.length gc)).set 1 (.slice none 0 0)).set 2 (.int .i64 (-1))).set 3 (.int .i64 (-1))).set 4 (.bool false)
      have c2 := hr2.cells
      simp only [List.set_cons_zero, List.set_cons_succ] at c2
      go_wp2
      rw [HOP.out]
      refine bodyPost_ret (v := .tuple #[.agg #[.slice ga out.length gc, .slice none 0 0, .int .i64 (-1), .int .i64 (-1), .bool false], .int .i64 0]) (by simp [results, Try.results11, go_sem, c2]) rfl ⟨ga, out.length, gc, none, 0, 0, rfl, ⟨?_, LooseS.nil_, by unfold I64'; simp, by unfold I64'; simp⟩, ?_⟩
      · refine (HBY.out.same (Only.size (p := w.heap.size + 1) (by repeat (first | (with_reducible exact Only.refl _ _) | (with_reducible refine Only.set ?_ _ _) | (with_reducible refine Only.alloc ?_ _) | (with_reducible refine Only.drew ?_)))) (fun b h hlt => Only.block (p := w.heap.size + 1) (by repeat (first | (with_reducible exact Only.refl _ _) | (with_reducible refine Only.set ?_ _ _) | (with_reducible refine Only.alloc ?_ _) | (with_reducible refine Only.drew ?_))) b hlt ?_)).mono (T := Or S w) (fun b h => ?_)
        · rcases h with h | h
          · have := HSS.out b h; omega
          · omega
        · rcases h with h | h
          · exact .inl h
          · exact .inr (by omega)
      · have hb0 : Below w.heap.size w (w2.alloc (.cells #[.slice fa fl fl, .slice none 0 0, .int .i64 (-1), .int .i64 (-1), .bool false] 27)) := (by repeat (first | (with_reducible exact Below.refl _ _) | (with_reducible exact Below.refl _ _) | (with_reducible refine Below.setCell ?_ (by first | omega | (simp; done) | (simp; omega)) _) | (with_reducible refine Below.alloc ?_ (by first | omega | (simp; done) | (simp; omega)) _) | (with_reducible refine Below.drew ?_) | (with_reducible refine below_drewN ?_ _) | (with_reducible refine Below.trans ?_ (HW2.out.mono (by first | omega | (simp; done) | (simp; omega)))) | (with_reducible refine Below.trans ?_ (HW1.out.mono (by first | omega | (simp; done) | (simp; omega))))))
        have hb4 := hb0.trans (HBL.out.mono (by omega))
        exact (by repeat (first | (with_reducible exact Below.refl _ _) | (with_reducible exact Below.refl _ _) | (with_reducible refine Below.setCell ?_ (by first | omega | (simp; done) | (simp; omega)) _) | (with_reducible refine Below.alloc ?_ (by first | omega | (simp; done) | (simp; omega)) _) | (with_reducible refine Below.drew ?_) | (with_reducible refine below_drewN ?_ _) | (with_reducible refine Below.trans ?_ (hb4.mono (by first | omega | (simp; done) | (simp; omega))))))
end Go.Proofs.Ythpdcbklaapngaa
