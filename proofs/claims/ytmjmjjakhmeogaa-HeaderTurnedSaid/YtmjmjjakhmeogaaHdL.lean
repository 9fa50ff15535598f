/-
  Layer 12: a file's whole blocks, from the last one down: the iterator's contract.
-/
import Derived.Test.YtmjmjjakhmeogaaHdK
import Derived.Test.YtmjmjjakhmeogaaFilU
namespace Go.Dav
set_option linter.unusedVariables false
set_option linter.unusedSimpArgs false
open Go Go.RowKit
/-- What a file's bytes are, if it may be. -/
def FileD.said (F : FileD) : List UInt8 := if F.right = true then F.all else []
theorem FileD.said_len {F : FileD} : F.said.length = if F.right = true then F.many else 0 := by
  unfold FileD.said; split
  · exact F.all_length
  · rfl
theorem FileD.said_le (F : FileD) : F.said.length ≤ 524288 := by
  rw [FileD.said_len]; split
  · rename_i h; exact (FileD.right_spec.1 h).2.2.2.2
  · omega
theorem FileD.read_said (F : FileD) : F.read 0 (F.said.length : Int) = (F.said, if F.right = true then 0 else 200) := by
  unfold FileD.said FileD.read
  by_cases h : F.right = true
  · rw [if_pos h, if_pos h, if_pos h, if_neg (by omega), FileD.all_length, if_neg (by omega)]
    have : (F.many : Int).toNat = F.all.length := by rw [FileD.all_length]; rfl
    rw [this]; simp
  · rw [if_neg h, if_neg h, if_neg h]
def BlkOk (x : Nat × List UInt8) : Prop := x.2.length = 64 ∧ x.1 ≤ 524288
abbrev BlkT : Type := { x : Nat × List UInt8 // BlkOk x }
abbrev BlkT.encs (x : BlkT) : Array Value := #[.int .i64 (x.1.1 : Int), .agg (u8s x.1.2).toArray]
/-- The first k blocks that are told: from the last one down. -/
def RevTo (l : List UInt8) (k : Nat) (xs : List BlkT) : Prop :=
  xs.length = k ∧ k ≤ l.length / 64 ∧ ∀ (j : Nat) x, xs[j]? = some x → x.1 = ((l.length / 64 - 1 - j) * 64, blockAt l (l.length / 64 - 1 - j))
theorem RevTo.nil_ (l : List UInt8) : RevTo l 0 [] := ⟨rfl, Nat.zero_le _, fun j x h => by simp at h⟩
theorem RevTo.snoc {l : List UInt8} {k : Nat} {xs : List BlkT} (h : RevTo l k xs) (hk : k < l.length / 64) {x : BlkT} (hx : x.1 = ((l.length / 64 - 1 - k) * 64, blockAt l (l.length / 64 - 1 - k))) : RevTo l (k + 1) (xs ++ [x]) := by
  refine ⟨by rw [List.length_append, h.1]; rfl, by omega, fun j y hy => ?_⟩
  by_cases hj : j < xs.length
  · rw [List.getElem?_append_left hj] at hy; exact h.2.2 j y hy
  · rw [List.getElem?_append_right (by omega)] at hy
    have hj2 : j - xs.length = 0 := by
      obtain ⟨h2, _⟩ := List.getElem?_eq_some_iff.1 hy
      simp at h2; omega
    rw [hj2] at hy
    cases hy
    have : j = k := by have := h.1; omega
    rw [this]; exact hx
/-- Blocks of cells are kept, but for those that p names. -/
def KpC (p : Nat → Prop) (W W' : World) : Prop := W.heap.size ≤ W'.heap.size ∧ ∀ (k : Nat) (o : Obj), W.heap[k]? = some o → o.isCells = true → ¬ p k → W'.heap[k]? = some o
theorem KpC.refl (p : Nat → Prop) (W : World) : KpC p W W := ⟨Nat.le_refl _, fun _ _ h _ _ => h⟩
theorem KpC.trans {p : Nat → Prop} {A B C : World} (h : KpC p A B) (k : KpC p B C) : KpC p A C := ⟨Nat.le_trans h.1 k.1, fun i o h1 h2 h3 => k.2 i o (h.2 i o h1 h2 h3) h2 h3⟩
theorem KpC.t {p : Nat → Prop} : ∀ {A B C : World}, KpC p A B → KpC p B C → KpC p A C := fun h k => h.trans k
theorem KpC.b {p : Nat → Prop} {n : Nat} : ∀ (W : World) (l : Nat) (o o' : Obj), n ≤ l → W.heap[l]? = some o → o.isCells = false → o.isWalk = false → KpC p W (W.putObj l o') := fun W l o o' _ h2 h3 _ =>
  ⟨(grownBy_putObj' W l o').size, fun k x h4 h5 _ => by
    refine ((grownBy_putObj' W l o').block k (Array.getElem?_eq_some_iff.1 h4).1 (fun e => ?_)).trans h4
    cases e
    rw [h2] at h4; cases h4; rw [h3] at h5; cases h5⟩
theorem KpC.of_only {p : Nat → Prop} {W W' : World} (h : OnlyS p W W') : KpC p W W' := ⟨h.size, fun k o h1 _ h3 => (h.block k (Array.getElem?_eq_some_iff.1 h1).1 h3).trans h1⟩
theorem KpC.of_below {p : Nat → Prop} {W W' : World} (h : Below W.heap.size W W') : KpC p W W' := KpC.of_only (OnlyS.of_below h)
theorem KpC.blk {p : Nat → Prop} {W W' : World} (h : KpC p W W') {q : Nat} {cs : List Value} {t : TypeId} (hb : Blk W q cs t) (hq : ¬ p q) : Blk W' q cs t := h.2 q _ hb rfl hq
theorem grownBy_of_below {W W' : World} (h : Below W.heap.size W W') : W.grownBy W' none := ⟨h.os, h.tape, h.output, h.size, fun k hk _ => h.block k hk⟩
/-- A cell that a block of cells holds. -/
theorem cell_isCells {W : World} {b i : Nat} {v : Value} (h : W.cell? ⟨b, i, none⟩ = some v) : ∃ o, W.heap[b]? = some o ∧ o.isCells = true := by
  unfold World.cell? at h
  cases hb : W.heap[b]? with
  | none => simp [hb] at h
  | some o =>
    refine ⟨o, rfl, ?_⟩
    cases o <;> first | rfl | (simp [hb] at h)
theorem BytesS.kpc {p : Nat → Prop} {W W' : World} {S : Nat → Prop} {a : Option Addr} {n c : Nat} {l : List UInt8} (h : BytesS W S a n c l) (k : KpC p W W') (hp : ∀ b, S b → ¬ p b) : BytesS W' S a n c l :=
  ⟨⟨h.at_.hlen, h.at_.hcap, h.at_.hmax, h.at_.hfew, fun i x hi => by
    obtain ⟨b, o, h1, h2, h3⟩ := h.at_.hat i x hi
    obtain ⟨b', o', h1', h4⟩ := h.in_ i x hi
    rw [h1] at h1'; cases h1'
    obtain ⟨ob, hb, hc⟩ := cell_isCells h3
    have h5 := k.2 b ob hb hc (hp b h4)
    refine ⟨b, o, h1, by have := k.1; omega, ?_⟩
    rw [World.cell?_of_block (h5.trans hb.symm)]; exact h3, h.at_.hnil⟩, h.in_⟩
theorem wpListIn_load_cells {Fn : Fence} {n0 : Nat} {P : Program} {ops : Array Oper} {rest : List Oper} {o : Oper} {a : Act} {w : World} {Q : Exit → Act → World → Prop} (hgd : o.guard = none) (ty : TypeId) (x : Operand) (ho : o.op = .load ty x) (ad : Addr) (hx : a.eval x = .pointer (some ad)) (cs : List Value) (d : TypeDesc)
    (hc : ∀ j v, cs[j]? = some v → w.cell? (ad.add j) = some v) (hu : P.underlying ty = some d) (hd : (match d with | .struct _ | .array _ _ => true | _ => false) = true) (hi : (P.info? ty).map (·.size) = some cs.length)
    (h : wpListIn Fn n0 P ops Q rest (a.put o.dst (.agg cs.toArray)) w) : wpListIn Fn n0 P ops Q (o :: rest) a w := by
  refine wpListIn_plain hgd fun K hK => ?_
  have hr := exec_load_cells (o := o) (a := a) w ad ty x ho hx cs d hc hu hd hi
  unfold Oper.wpIn
  refine ⟨?_, ?_⟩
  · simp [Oper.about, ho]
  · rw [Oper.semAt_plain Fn _ _ (by rw [ho]; intro c hc'; cases hc'), hr]
    exact hK _ _ h
end Go.Dav
namespace Go.Proofs.Ytmjmjjakhmeogaa
set_option linter.unusedVariables false
set_option linter.unusedSimpArgs false
open Go.RowKit Go.Dav Go.Shelf
attribute [local go_sem] Gives ite_val ite_val_true Oper.semAt_some

set_option maxHeartbeats 4000000 in
theorem Try_blocks (F : FileD) (fa la : Option Addr) (fl fc ll lc : Nat) (w : World) :
    Calls Try.prog 72 #[.agg #[.slice fa fl fc, .slice la ll lc, .int .i64 F.fuse, .int .i64 F.fault, .bool F.off]] w fun e w' => e = .returned (.func (.func 83) #[] #[.pointer (some ⟨w.heap.size, 0, none⟩)]) ∧ w' = w.alloc (.cells [.slice fa fl fc, .slice la ll lc, .int .i64 F.fuse, .int .i64 F.fault, .bool F.off].toArray 25) := by
  go_enter Try.func72, Try.ntmps72
  go_wp2
  go_ret
  exact ⟨rfl, rfl⟩
theorem Try_enter83 (args : Array Value) (W : World) : (callFunc 83 args).run Try.prog W = .ok (Next.enter 83 args) W := by kernel_rfl

def TryRead2 (B : Nat) (x : List UInt8) (err : Int) (v : Value) (W : World) : Prop := ∃ a n c, v = .tuple #[.slice a n c, .int .i64 err] ∧ BytesS W (fun b => B ≤ b) a n c x
theorem Try_read2_later {B : Nat} {x : List UInt8} {err : Int} : ∀ v W W', TryRead2 B x err v W → Below W.heap.size W W' → TryRead2 B x err v W' := fun _ _ _ ⟨a, n, c, h1, h2⟩ hb => ⟨a, n, c, h1, h2.ext hb⟩
def TryRow2 (B : Nat) (x : List UInt8) (v : Value) (W : World) : Prop := ∃ a n c, v = .slice a n c ∧ BytesS W (fun b => B ≤ b) a n c x
theorem Try_row2_later {B : Nat} {x : List UInt8} : ∀ v W W', TryRow2 B x v W → Below W.heap.size W W' → TryRow2 B x v W' := fun _ _ _ ⟨a, n, c, h1, h2⟩ hb => ⟨a, n, c, h1, h2.ext hb⟩

set_option maxRecDepth 100000 in
set_option maxHeartbeats 4000000 in
theorem Try_blocks1 (F : FileD) (fa la : Option Addr) (fl fc ll lc : Nat) (w : World) (S p : Nat → Prop) (n B : Nat) (hn : 1 ≤ n) (hF : FileS w S fa fl fc la ll lc F) (hS : ∀ b, S b → b < w.heap.size) (hp : ∀ b, p b → b < w.heap.size) (hB : Blk w B [.slice fa fl fc, .slice la ll lc, .int .i64 F.fuse, .int .i64 F.fault, .bool F.off] 25) :
    SeqStopsK Fence.wide n Try.prog 83 #[.pointer (some ⟨B, 0, none⟩)] BlkT.encs (KpC p) (RevTo F.said (F.said.length / 64)) (fun pre => ∃ k, RevTo F.said k pre) (F.said.length / 64) w := fun l J Jx W0 hW hA _ hY hJ0 => by
  have hB1 := hB.ext hW
  have q1 := hB1.cells
  have l1 := hB1.lt
  have HF := Lib.hid (hF.ext hW)
  have HA := Lib.hid hA
  have HY := Lib.hid hY
  have HJ0 := Lib.hid hJ0
  have HS := Lib.hid hS
  have HP := Lib.hid hp
  have HW := Lib.hid hW
  have HN := Lib.hid F.said_le
  clear hF hB hB1 hA hY hJ0 hS hp hW
  refine callsIn_of_wp Try.func83 rfl trivial (wpIn_wide.2 ?_) rfl
  simp only [Try.ntmps83, List.size_toArray, List.length_cons, List.length_nil, Nat.reduceAdd, Nat.reduceSub, Array.replicate_succ, Array.replicate_zero, List.push_toArray, List.append_toArray, List.nil_append, List.cons_append]
  go_wp2_with fail
  obtain ⟨err, herr⟩ : ∃ err : Int, (if F.right = true then (0 : Int) else 200) = err := ⟨_, rfl⟩
  have HERR := Lib.hid herr
  have hsl : (if F.right = true then (F.many : Int) else 0) = (F.said.length : Int) := by rw [FileD.said_len]; split <;> rfl
  have HSL := Lib.hid hsl
  clear herr hsl
  refine' wp_region_seq [.inl _, .inl _, .inl _, .inr (TryRead2 W0.heap.size F.said err), .inr (TryRead2 W0.heap.size F.said err), .inr (TryRow2 W0.heap.size F.said), .inl _, .inr (TryRow2 W0.heap.size F.said), .inl _] (by kernel_rfl) (by kernel_rfl) ?main1
  case main1 =>
    refine wpParts_det (by rfl) (fun W hE hN => ?_) ?_
    · have hc := fun b o h => hE.cell (p := ⟨b, o, none⟩) h
      go_simp; refine ⟨Below.refl _ _, ?_⟩; rfl
    simp only [Act.put, List.setIfInBounds_toArray, List.set_cons_zero, List.set_cons_succ]
    refine wpParts_det (by rfl) (fun W hE hN => ?_) ?_
    · have hc := fun b o h => hE.cell (p := ⟨b, o, none⟩) h
      go_simp; refine ⟨Below.refl _ _, ?_⟩; rfl
    simp only [Act.put, List.setIfInBounds_toArray, List.set_cons_zero, List.set_cons_succ]
    refine wpParts_det (by rfl) (fun W hE hN => ?_) ?_
    · go_simp; refine ⟨Below.refl _ _, ?_⟩; have hA := Try_Len F fa la fl fc ll lc W (HF.out.ext hE).at_; rw [HSL.out] at hA; refine hA.mono ?_; rintro e w' ⟨rfl, hb⟩; refine ⟨?_, hb⟩; rfl
    simp only [Act.put, List.setIfInBounds_toArray, List.set_cons_zero, List.set_cons_succ]
    refine wpParts_any rfl (Try_read2_later) (by rfl) (fun W hE hN => ?_) (fun u3 => ?_)
    · go_simp; refine ⟨Below.refl _ _, ?_⟩; have hA := Try_Read F fa la fl fc ll lc 0 (F.said.length : Int) W _ (HF.out.ext hE) (fun b h => by have := HS.out b h; have := hE.size; have := HW.out.size; omega) (by unfold I64'; omega) (by have := HN.out; unfold I64'; omega); rw [FileD.read_said, HERR.out] at hA; refine hA.mono ?_; rintro e w' ⟨ra, rl, rc, rfl, hR, hb⟩; exact ⟨_, rfl, hb, ra, rl, rc, rfl, hR.mono fun b h => Nat.le_trans hE.size h⟩
    simp only [Act.put, List.setIfInBounds_toArray, List.set_cons_zero, List.set_cons_succ]
    refine wpParts_any rfl (Try_read2_later) (by rfl) (fun W hE hN => ?_) (fun u4 => ?_)
    · simp [near, Oper.looksAt, Op.operands] at hN; go_simp; exact Below.refl _ _
    simp only [Act.put, List.setIfInBounds_toArray, List.set_cons_zero, List.set_cons_succ]
    refine wpParts_any rfl (Try_row2_later) (by rfl) (fun W hE hN => ?_) (fun u5 => ?_)
    · simp [near, Oper.looksAt, Op.operands] at hN; obtain ⟨ra, rl, rc, rfl, hR⟩ := hN; go_simp; exact ⟨Below.refl _ _, ra, rl, rc, rfl, hR⟩
    simp only [Act.put, List.setIfInBounds_toArray, List.set_cons_zero, List.set_cons_succ]
    refine wpParts_det (by rfl) (fun W hE hN => ?_) ?_
    · simp [near, Oper.looksAt, Op.operands] at hN; obtain ⟨ra, rl, rc, rfl, hR⟩ := hN; go_simp; refine ⟨Below.refl _ _, ?_⟩; rfl
    simp only [Act.put, List.setIfInBounds_toArray, List.set_cons_zero, List.set_cons_succ]
    refine wpParts_any rfl (Try_row2_later) (by rfl) (fun W hE hN => ?_) (fun u7 => ?_)
    · simp [near, Oper.looksAt, Op.operands] at hN; go_simp; exact Below.refl _ _
    simp only [Act.put, List.setIfInBounds_toArray, List.set_cons_zero, List.set_cons_succ]
    refine wpParts_det (by rfl) (fun W hE hN => ?_) ?_
    · go_simp; refine ⟨Below.refl _ _, ?_⟩; rfl
    simp only [Act.put, List.setIfInBounds_toArray, List.set_cons_zero, List.set_cons_succ]
    refine wpParts_end fun W2 hE2 hG2 => ?_
    have hcW2 := fun b o h => hE2.cell (p := ⟨b, o, none⟩) h
    have hfW2 := fun b o h => hE2.frozen (p := ⟨b, o, none⟩) h
    obtain ⟨⟨ra, rl, rc, rfl, hR⟩, _⟩ := hG2
    have HR2 := Lib.hid hR
    have hlen := hR.at_.hlen
    have hJ2 : J [] W2 := HA.out [] W0 W2 none HJ0.out (grownBy_of_below hE2) (fun r e => by cases e)
    have HJ2 := Lib.hid hJ2
    have HS2 := Lib.hid hE2.size
    clear hR hJ2 hE2 hcW2 hfW2 q1 l1 HSL
    cases hr : F.right with
    | false =>
      have he : err = 200 := by rw [← HERR.out, hr]; rfl
      have hs : F.said = [] := by unfold FileD.said; rw [hr]; rfl
      have HSD := Lib.hid hs
      subst he
      clear hs hr
      go_wp2
      refine bodyPost_ret (results_none rfl _ _ _) rfl ?_
      exact ⟨⟨_, rfl⟩, .inl ⟨[], by rw [HSD.out]; exact RevTo.nil_ [], HJ2.out⟩⟩
    | true =>
      have he : err = 0 := by rw [← HERR.out, hr]; rfl
      subst he
      clear hr
      obtain ⟨N, hN⟩ : ∃ N, F.said.length / 64 = N := ⟨_, rfl⟩
      obtain ⟨sd, hsd⟩ : ∃ sd, F.said = sd := ⟨_, rfl⟩
      have HNN := Lib.hid hN
      have hrl : rl = sd.length := by rw [← hsd]; exact hlen.symm
      have hq : (rl : Int).tdiv 64 = (N : Int) := by rw [Int.tdiv_eq_ediv_of_nonneg (by omega)]; omega
      have hNle : N ≤ 8192 := by have := HN.out; omega
      have hw0 : IntKind.i64.wrap ((N : Int) * 64) = (N : Int) * 64 := IntWalk.i64_in _ (by omega)
      have HRB := Lib.hid (show BytesS W2 (fun b => W0.heap.size ≤ b) ra rl rc sd by rw [← hsd]; exact HR2.out)
      have hcap := HRB.out.at_.hcap
      have HLN := Lib.hid hrl
      have HSD := Lib.hid hsd
      clear hlen hN hsd hrl
      go_wp2_with fail
      refine (wpIn_wide (n := n)).1 ?_
      gi_loopw [5] (fun atv wr => ∃ (k : Nat) (pre : List BlkT), atv = .int .i64 (((N - k) * 64 : Nat) : Int) ∧ RevTo sd k pre ∧ J pre wr ∧ KpC p W2 wr) (fun atv _ => (intOf atv).toNat)
      case atStart => exact ⟨0, [], by go_num, RevTo.nil_ _, HJ2.out, KpC.refl _ _⟩
      case round =>
        obtain ⟨k, pre, rfl, hrt, hJ, hkp⟩ := hrel
        have hkN : k ≤ N := by have := hrt.2.1; rw [HSD.out.symm, HNN.out] at this; exact this
        have hrb := HRB.out.kpc hkp (fun b h hpb => by have := HP.out b hpb; have := HW.out.size; omega)
        have hprel := hrt.1
        have HRT := Lib.hid hrt
        have HJ := Lib.hid hJ
        have HKP := Lib.hid hkp
        have HRR := Lib.hid hrb
        clear hrt hJ hkp hrb
        obtain ⟨y, hy⟩ : ∃ y, N - k = y := ⟨_, rfl⟩
        rw [hy]
        cases y with
        | zero =>
          have hkE : k = N := by omega
          have HKE := Lib.hid hkE
          clear hkE hy hq
          gi_wp2
          go_end0
          exact ⟨⟨_, rfl⟩, .inl ⟨pre, by have h := HRT.out; rw [HKE.out, ← HNN.out] at h; rw [HNN.out] at h; rw [HSD.out, show sd.length / 64 = N by rw [← HSD.out]; exact HNN.out]; exact h, HJ.out⟩⟩
        | succ z =>
          obtain ⟨m, hm⟩ : ∃ m, z * 64 = m := ⟨_, rfl⟩
          have hm2 : (z + 1) * 64 = m + 64 := by omega
          have hmr : m + 64 ≤ rl := by have h1 := HNN.out; have h2 := HLN.out; rw [HSD.out, ← h2] at h1; omega
          rw [hm2]
          have hsl0 : 0 < sd.length := by have := HLN.out; omega
          obtain ⟨b0, o0, rfl⟩ : ∃ b0 o0, ra = some ⟨b0, o0, none⟩ := by
            obtain ⟨c0, hc0⟩ : ∃ c0, sd[0]? = some c0 := ⟨_, List.getElem?_eq_getElem hsl0⟩
            obtain ⟨b0, o0, h1, _⟩ := HRR.out.at_.hat 0 c0 hc0
            exact ⟨b0, o0, h1⟩
          have hbl : (blockAt sd z).length = 64 := blockAt_len (by have := HLN.out; omega)
          have hcs := HRR.out.cells.part (lo := m) (hi := m + 64) (by omega) hmr
          have e1 : ((u8s sd).take (m + 64)).drop m = u8s (blockAt sd z) := by
            unfold blockAt
            rw [u8s_part, hm, List.drop_take, Nat.add_sub_cancel_left]
          rw [e1] at hcs
          have HCS := Lib.hid hcs
          have HBL := Lib.hid hbl
          obtain ⟨x, hx⟩ : ∃ x : BlkT, x.1 = (m, blockAt sd z) := ⟨⟨(m, blockAt sd z), hbl, by have := HN.out; have h := HSD.out; rw [h] at this; have := HLN.out; show m ≤ 524288; omega⟩, rfl⟩
          obtain ⟨fn, tmps, assign, body, hy2, hR⟩ := HY.out pre x wr HJ.out (by rw [hprel, HNN.out]; omega)
          dsimp only [BlkT.encs] at hy2
          rw [hx] at hy2
          dsimp only at hy2
          have hz : N - 1 - k = z := by omega
          have HNX := Lib.hid (show RevTo sd (k + 1) (pre ++ [x]) from HRT.out.snoc (by rw [← HSD.out, HNN.out]; omega) (by rw [hx, ← HSD.out, HNN.out, hz, hm]))
          have hy3 : N - (k + 1) = z := by omega
          have HY3 := Lib.hid (And.intro hy3 hm)
          have HR := Lib.hid hR
          have k1 : (64 : Int) ≤ (m : Int) + 64 := by omega
          have k2 : IntKind.i64.wrap ((m : Int) + 64 - 64) = (m : Int) := by rw [Int.add_sub_cancel]; exact IntWalk.i64_in _ (by have := HN.out; have h := HSD.out; rw [h] at this; have := HLN.out; omega)
          have k2' : IntKind.i64.wrap (m : Int) = (m : Int) := IntWalk.i64_in _ (by have := HN.out; have h := HSD.out; rw [h] at this; have := HLN.out; omega)
          have k3 : (m : Int) ≤ (rl : Int) := by omega
          have k3' : m ≤ rl := by omega
          have k4 : (rl : Int) ≤ (rc : Int) := by omega
          have k5 : ¬ rc = m := by omega
          have k6 : 64 ≤ rl - m := by omega
          have k8 : ∀ w, (Instr.arrayAt 57 (.slice (some ⟨b0, o0 + m, none⟩) (rl - m) (rc - m))).run Try.prog w = .ok (.pointer (some ⟨b0, o0 + m, none⟩)) w := fun w => run_arrayAt (P := Try.prog) (w := w) 57 5 64 _ _ _ Try.underlying57 k6
          clear hbl hcs e1 hx hy hz hm hm2 hR hsl0 hy3 hkN hprel hq hNle hw0 hmr hcap
          gi_wp2_with (first | (refine wpListIn_load_cells rfl 57 (.tmp 28) rfl ⟨b0, o0 + m, none⟩ rfl (u8s (blockAt sd z)) _ HCS.out.from_ Try.underlying57 rfl (by rw [Try_size64, u8s_len, HBL.out]) ?_))
          refine HR.out.mono ?_
          rintro e W3 (⟨rfl, hJ3, hk3⟩ | ⟨rfl, hx3⟩)
          · have HJ3 := Lib.hid hJ3
            have HK3 := Lib.hid (HKP.out.trans hk3)
            clear hJ3 hk3 HR
            gi_wp2_with fail
            go_roundw
            case rel => exact ⟨k + 1, _, by rw [HY3.out.1, HY3.out.2], HNX.out, HJ3.out, HK3.out⟩
            case measure => simp [intOf]; omega
          · gi_wp2
            refine bodyPost_ret (results_none rfl _ _ _) rfl ?_
            exact ⟨⟨_, rfl⟩, .inr ⟨_, ⟨_, by rw [HSD.out]; exact HNX.out⟩, hx3⟩⟩
end Go.Proofs.Ytmjmjjakhmeogaa
