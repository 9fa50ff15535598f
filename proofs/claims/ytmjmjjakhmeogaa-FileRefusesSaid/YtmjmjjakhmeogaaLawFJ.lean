/-
  Layer 10: in plain: what is left behind a loss of power, byte by byte; operations on a quiet file, with a fuse and with a fault; a file's content, walked.
-/
import Derived.Test.YtmjmjjakhmeogaaLawFI
namespace Go.Dav
set_option linter.unusedVariables false
set_option linter.unusedSimpArgs false
open Go Go.RowKit

section
variable (F : FileD) (keep : List Bool) (tear cut : Int)
theorem crashTo_step (k : Nat) : ∃ t, (crashTo F keep tear cut (k + 1)).1 = (crashTo F keep tear cut k).1 ++ t := by
  cases h : F.loose[k]? with
  | none => exact ⟨[], by rw [crashTo, h, List.append_nil]⟩
  | some p =>
    rw [crashTo_succ h]
    unfold crashStep
    split
    · exact ⟨_, by dsimp only; rw [List.append_assoc]⟩
    · exact ⟨[], by simp⟩
theorem crashTo_grows (k : Nat) : ∀ d, ∃ t, (crashTo F keep tear cut (k + d)).1 = (crashTo F keep tear cut k).1 ++ t
  | 0 => ⟨[], by simp⟩
  | d + 1 => by
    obtain ⟨t, ht⟩ := crashTo_grows k d
    obtain ⟨u, hu⟩ := crashTo_step F keep tear cut (k + d)
    exact ⟨t ++ u, by rw [← Nat.add_assoc, hu, ht, List.append_assoc]⟩
theorem crashTo_pre {k : Nat} (h : k ≤ F.loose.length) : ∃ t, (crashTo F keep tear cut F.loose.length).1 = (crashTo F keep tear cut k).1 ++ t := by
  obtain ⟨t, ht⟩ := crashTo_grows F keep tear cut k (F.loose.length - k)
  exact ⟨t, by rw [← ht, Nat.add_sub_cancel' h]⟩
/-- Where noughts are owed, there is one, if there is any byte, and more behind it. -/
theorem crash_gap : ∀ (d k : Nat), k + d = F.loose.length → ∀ q, (crashTo F keep tear cut k).1.length ≤ q → q < (crashTo F keep tear cut k).1.length + (crashTo F keep tear cut k).2 →
    q < (crashTo F keep tear cut F.loose.length).1.length → (crashTo F keep tear cut F.loose.length).1[q]? = some 0 ∧ q + 1 < (crashTo F keep tear cut F.loose.length).1.length
  | 0, k, hk, q, h1, h2, h3 => by
    obtain rfl : k = F.loose.length := by omega
    omega
  | d + 1, k, hk, q, h1, h2, h3 => by
    have hlt : k < F.loose.length := by omega
    obtain ⟨p, hp⟩ : ∃ p, F.loose[k]? = some p := ⟨_, List.getElem?_eq_getElem hlt⟩
    have hs := crashTo_succ (keep := keep) (tear := tear) (cut := cut) hp
    have hle := staysOf_le keep tear cut k p
    unfold crashStep at hs
    split at hs
    · rename_i h0
      obtain ⟨t, ht⟩ := crashTo_pre F keep tear cut (k := k + 1) (by omega)
      rw [hs] at ht
      dsimp only at ht
      have hl := congrArg List.length ht
      simp only [List.length_append, List.length_replicate, List.length_take] at hl
      refine ⟨?_, by omega⟩
      rw [ht, List.append_assoc, List.append_assoc, List.getElem?_append_right h1, List.getElem?_append_left (by simp; omega), List.getElem?_replicate, if_pos (by omega)]
    · have e1 := congrArg Prod.fst hs
      have e2 := congrArg Prod.snd hs
      dsimp only at e1 e2
      exact crash_gap d (k + 1) (by omega) q (by rw [e1]; omega) (by rw [e1, e2]; omega) h3
/-- Byte j of piece i behind a loss of power. -/
theorem crash_byte {i j : Nat} {p : List UInt8} {x : UInt8} (hi : F.loose[i]? = some p) (hj : p[j]? = some x) :
    (staysB keep tear cut i j = true → (crashTo F keep tear cut F.loose.length).1[F.firm.length + sumTo F.loose i + j]? = some x) ∧
    (staysB keep tear cut i j = false → F.firm.length + sumTo F.loose i + j < (crashTo F keep tear cut F.loose.length).1.length →
      (crashTo F keep tear cut F.loose.length).1[F.firm.length + sumTo F.loose i + j]? = some 0 ∧ F.firm.length + sumTo F.loose i + j + 1 < (crashTo F keep tear cut F.loose.length).1.length) := by
  have hil : i < F.loose.length := (List.getElem?_eq_some_iff.1 hi).1
  have hjl : j < p.length := (List.getElem?_eq_some_iff.1 hj).1
  have hlen := crashTo_len F keep tear cut i
  have hs := crashTo_succ (keep := keep) (tear := tear) (cut := cut) hi
  have hle := staysOf_le keep tear cut i p
  have hiff := staysB_iff (keep := keep) (tear := tear) (cut := cut) (i := i) hjl
  unfold crashStep at hs
  refine ⟨fun hb => ?_, fun hb hlt => ?_⟩
  · have hst := hiff.1 hb
    rw [if_pos (by omega)] at hs
    obtain ⟨t, ht⟩ := crashTo_pre F keep tear cut (k := i + 1) (by omega)
    rw [hs] at ht
    dsimp only at ht
    have hc : F.firm.length + sumTo F.loose i + j = ((crashTo F keep tear cut i).1 ++ List.replicate (crashTo F keep tear cut i).2 0).length + j := by simp; omega
    rw [ht, List.append_assoc, hc, List.getElem?_append_right (by omega), List.getElem?_append_left (by simp; omega), Nat.add_sub_cancel_left, List.getElem?_take, if_pos hst, hj]
  · have hst : ¬ j < staysOf keep tear cut i p := fun k => by rw [hiff.2 k] at hb; cases hb
    split at hs
    · have e1 := congrArg Prod.fst hs
      have e2 := congrArg Prod.snd hs
      dsimp only at e1 e2
      refine crash_gap F keep tear cut (F.loose.length - (i + 1)) (i + 1) (by omega) _ ?_ ?_ hlt
      · rw [e1]; simp; omega
      · rw [e1, e2]; simp; omega
    · have e1 := congrArg Prod.fst hs
      have e2 := congrArg Prod.snd hs
      dsimp only at e1 e2
      refine crash_gap F keep tear cut (F.loose.length - (i + 1)) (i + 1) (by omega) _ ?_ ?_ hlt
      · rw [e1]; omega
      · rw [e1, e2]; omega
end

/-- A file that has power, no fuse and no fault. -/
structure FileD.Quiet (F : FileD) : Prop where
  right : F.right = true
  fuse : F.fuse = -1
  fault : F.fault = -1
  off : F.off = false
theorem FileD.quiet_none : FileD.none.Quiet := ⟨rfl, rfl, rfl, rfl⟩
/-- A deed that asks for an operation. -/
def DeedD.asks (X : DeedD) : Prop := X.which ≤ 3 ∧ (X.which < 3 → X.bytes ≠ [])
def DeedD.more (X : DeedD) : Int := if X.which = 3 then 0 else X.bytes.length
def DeedD.go (X : DeedD) (G : FileD) : FileD := if X.which = 3 then { G with firm := G.all, loose := [] } else { G with loose := G.loose ++ [X.bytes] }
theorem DeedD.go_nums (X : DeedD) (G : FileD) : (X.go G).fuse = G.fuse ∧ (X.go G).fault = G.fault ∧ (X.go G).off = G.off := by
  unfold DeedD.go; split <;> exact ⟨rfl, rfl, rfl⟩
theorem DeedD.go_with (X : DeedD) (G H : FileD) (h1 : H.firm = G.firm) (h2 : H.loose = G.loose) : (X.go H).firm = (X.go G).firm ∧ (X.go H).loose = (X.go G).loose := by
  unfold DeedD.go FileD.all
  split
  · exact ⟨by dsimp only; rw [h1, h2], rfl⟩
  · exact ⟨h1, by dsimp only; rw [h2]⟩
theorem FileD.does_op {F : FileD} {X : DeedD} (hx : X.asks) : F.does X = F.op X.more X.go := by
  unfold FileD.does DeedD.more
  by_cases h3 : X.which = 3
  · rw [if_pos h3, if_pos h3]
    unfold FileD.sync
    congr 1
    funext G
    unfold DeedD.go
    rw [if_pos h3]
  · have := hx.1
    rw [if_neg h3, if_neg h3, if_neg (by omega), if_neg (by omega), if_neg (by omega)]
    unfold FileD.append
    rw [if_neg (fun k => hx.2 (by omega) k.2)]
    congr 1
    funext G
    unfold DeedD.go
    rw [if_neg h3]
theorem FileD.op_of {F G : FileD} {e more : Int} {g : FileD → FileD} (hr : F.right = true) (ha : F.asked more = (G, e)) : F.op more g = if e = 0 then (g G, 0) else (G, e) := by
  unfold FileD.op
  rw [if_pos hr, ha]
theorem asked_full {F : FileD} {more : Int} (ho : F.off = false) (h : 524288 - (F.many : Int) < more) : F.asked more = (F, 8) := by
  unfold FileD.asked
  rw [if_neg (by rw [ho]; decide), if_pos h]
theorem asked_on {F : FileD} {more : Int} (ho : F.off = false) (h : ¬ 524288 - (F.many : Int) < more) (h3 : F.fault ≠ 0) (h4 : F.fuse ≠ 0) :
    F.asked more = ({ F with fault := if 0 < F.fault then F.fault - 1 else F.fault, fuse := if 0 < F.fuse then F.fuse - 1 else F.fuse }, 0) := by
  unfold FileD.asked
  rw [if_neg (by rw [ho]; decide), if_neg h, if_neg h3, if_neg h4]
theorem asked_fault {F : FileD} {more : Int} (ho : F.off = false) (h : ¬ 524288 - (F.many : Int) < more) (h3 : F.fault = 0) : F.asked more = ({ F with fault := -1 }, 9) := by
  unfold FileD.asked
  rw [if_neg (by rw [ho]; decide), if_neg h, if_pos h3]
theorem asked_dark {F : FileD} {more : Int} (ho : F.off = false) (h : ¬ 524288 - (F.many : Int) < more) (h3 : F.fault < 0) (h4 : F.fuse = 0) : F.asked more = ({ F with fuse := -1, off := true }, 10) := by
  unfold FileD.asked
  rw [if_neg (by rw [ho]; decide), if_neg h, if_neg (by omega), if_pos h4, if_neg (by omega)]
theorem FileD.does_quiet {F : FileD} {X : DeedD} (hq : F.Quiet) (hx : X.asks) : F.does X = if 524288 - (F.many : Int) < X.more then (F, 8) else (X.go F, 0) := by
  rw [FileD.does_op hx]
  obtain ⟨h1, h2, h3, h4⟩ := hq
  by_cases hm : 524288 - (F.many : Int) < X.more
  · rw [if_pos hm, FileD.op_of h1 (asked_full h4 hm)]; rfl
  · rw [if_neg hm, FileD.op_of h1 (asked_on h4 hm (by omega) (by omega)), if_pos rfl, if_neg (by omega), if_neg (by omega)]
theorem FileD.Quiet.go {F : FileD} {X : DeedD} (hq : F.Quiet) (hx : X.asks) (hm : ¬ 524288 - (F.many : Int) < X.more) : (X.go F).Quiet := by
  have h := FileD.does_right hq.right X
  rw [FileD.does_quiet hq hx, if_neg hm] at h
  obtain ⟨h1, h2, h3⟩ := X.go_nums F
  exact ⟨h, h1.trans hq.fuse, h2.trans hq.fault, h3.trans hq.off⟩
theorem FileD.Quiet.lit {F : FileD} (hq : F.Quiet) (n : Nat) : ({ F with fuse := (n : Int) } : FileD).right = true := by
  obtain ⟨h1, h2, h3, h4, h5⟩ := FileD.right_spec.1 hq.right
  exact FileD.right_spec.2 ⟨h1, by dsimp only; omega, h3, fun k => absurd (hq.off.symm.trans k) (by decide), h5⟩
theorem FileD.Quiet.dark {F : FileD} (hq : F.Quiet) : ({ F with fuse := -1, off := true } : FileD).right = true := by
  obtain ⟨h1, h2, h3, h4, h5⟩ := FileD.right_spec.1 hq.right
  exact FileD.right_spec.2 ⟨h1, by simp, h3, fun _ => rfl, h5⟩
theorem FileD.Quiet.bad {F : FileD} (hq : F.Quiet) {m : Int} (hm : -1 ≤ m) : ({ F with fault := m } : FileD).right = true := by
  obtain ⟨h1, h2, h3, h4, h5⟩ := FileD.right_spec.1 hq.right
  exact FileD.right_spec.2 ⟨h1, h2, hm, h4, h5⟩
theorem DeedD.go_fuse (X : DeedD) (F : FileD) (u : Int) : X.go { F with fuse := u } = { X.go F with fuse := u } := by
  unfold DeedD.go; split <;> rfl
theorem DeedD.go_fault (X : DeedD) (F : FileD) (u : Int) : X.go { F with fault := u } = { X.go F with fault := u } := by
  unfold DeedD.go; split <;> rfl
theorem FileD.does_lit {F : FileD} {X : DeedD} (hq : F.Quiet) (hx : X.asks) (n : Nat) : ({ F with fuse := (n : Int) } : FileD).does X =
    if 524288 - (F.many : Int) < X.more then ({ F with fuse := (n : Int) }, 8) else if n = 0 then ({ F with fuse := -1, off := true }, 10) else ({ X.go F with fuse := (n : Int) - 1 }, 0) := by
  rw [FileD.does_op hx]
  have hr := hq.lit n
  obtain ⟨h1, h2, h3, h4⟩ := hq
  by_cases hm : 524288 - (F.many : Int) < X.more
  · rw [if_pos hm, FileD.op_of hr (asked_full h4 hm)]; rfl
  · rw [if_neg hm]
    by_cases hn : n = 0
    · subst hn
      rw [if_pos rfl, FileD.op_of hr (asked_dark (F := { F with fuse := ((0 : Nat) : Int) }) h4 hm (show F.fault < 0 by omega) rfl)]
      rfl
    · rw [if_neg hn, FileD.op_of hr (asked_on (F := { F with fuse := (n : Int) }) h4 hm (show F.fault ≠ 0 by omega) (show (n : Int) ≠ 0 by omega)), if_pos rfl]
      dsimp only
      rw [if_neg (show ¬ 0 < F.fault by omega), if_pos (show 0 < (n : Int) by omega), ← DeedD.go_fuse]
theorem FileD.does_dark {F : FileD} {X : DeedD} (hq : F.Quiet) (hx : X.asks) : ({ F with fuse := -1, off := true } : FileD).does X = ({ F with fuse := -1, off := true }, 10) := by
  rw [FileD.does_op hx]
  unfold FileD.op FileD.asked
  rw [if_pos hq.dark]
  simp
theorem FileD.does_bad {F : FileD} {X : DeedD} (hq : F.Quiet) (hx : X.asks) {m : Int} (hm1 : -1 ≤ m) : ({ F with fault := m } : FileD).does X =
    if 524288 - (F.many : Int) < X.more then ({ F with fault := m }, 8) else if m = 0 then (F, 9) else ({ X.go F with fault := if 0 < m then m - 1 else -1 }, 0) := by
  rw [FileD.does_op hx]
  have hr := hq.bad hm1
  obtain ⟨h1, h2, h3, h4⟩ := hq
  by_cases hm : 524288 - (F.many : Int) < X.more
  · rw [if_pos hm, FileD.op_of hr (asked_full h4 hm)]; rfl
  · rw [if_neg hm]
    by_cases hn : m = 0
    · subst hn
      rw [if_pos rfl, FileD.op_of hr (asked_fault (F := { F with fault := 0 }) h4 hm rfl)]
      cases F; simp_all
    · rw [if_neg hn, FileD.op_of hr (asked_on (F := { F with fault := m }) h4 hm hn (by dsimp only; omega)), if_pos rfl]
      dsimp only
      rw [if_neg (show ¬ 0 < F.fuse by omega), show (if 0 < m then m - 1 else m) = (if 0 < m then m - 1 else -1) by split <;> omega]
      exact congrArg (fun z => (z, (0 : Int))) (X.go_fault F _)
theorem FileD.read_all {F : FileD} (h : F.right = true) : F.read 0 (F.many : Int) = (F.all, 0) := by
  unfold FileD.read
  rw [if_pos h, if_neg (by omega), if_neg (by omega)]
  have : (F.many : Int).toNat = F.all.length := by rw [FileD.all_length]; rfl
  rw [this]
  simp
end Go.Dav
namespace Go.Proofs.Ytmjmjjakhmeogaa
set_option linter.unusedVariables false
set_option linter.unusedSimpArgs false
open Go.RowKit Go.Dav
attribute [local go_sem] Gives ite_val ite_val_true

def TryReadIs (B : Nat) (x : List UInt8) (v : Value) (W : World) : Prop := ∃ a n c, v = .tuple #[.slice a n c, .int .i64 0] ∧ BytesS W (fun b => B ≤ b) a n c x
theorem Try_readIs_later {B : Nat} {x : List UInt8} : ∀ v W W', TryReadIs B x v W → Below W.heap.size W W' → TryReadIs B x v W' := fun _ _ _ ⟨a, n, c, h1, h2⟩ hb => ⟨a, n, c, h1, h2.ext hb⟩
def TryRowS (B : Nat) (x : List UInt8) (v : Value) (W : World) : Prop := ∃ a n c, v = .slice a n c ∧ BytesS W (fun b => B ≤ b) a n c x
theorem Try_rowS_later {B : Nat} {x : List UInt8} : ∀ v W W', TryRowS B x v W → Below W.heap.size W W' → TryRowS B x v W' := fun _ _ _ ⟨a, n, c, h1, h2⟩ hb => ⟨a, n, c, h1, h2.ext hb⟩

set_option maxRecDepth 100000 in
set_option maxHeartbeats 4000000 in
/-- All that a file has, in a row of its own. -/
theorem Try_content (F : FileD) (fa la : Option Addr) (fl fc ll lc : Nat) (w : World) (S : Nat → Prop) (hF : FileS w S fa fl fc la ll lc F) (hS : ∀ b, S b → b < w.heap.size) (hr : F.right = true) :
    Calls Try.prog 30 #[.agg #[.slice fa fl fc, .slice la ll lc, .int .i64 F.fuse, .int .i64 F.fault, .bool F.off]] w fun e w' => ∃ a n c, e = .returned (.slice a n c) ∧ BytesS w' (fun b => w.heap.size ≤ b) a n c F.all ∧ Below w.heap.size w w' := by
  have hW : Below w.heap.size w (w.alloc (.cells [.slice fa fl fc, .slice la ll lc, .int .i64 F.fuse, .int .i64 F.fault, .bool F.off].toArray 25)) := (by repeat (first | (with_reducible exact Below.refl _ _) | (with_reducible exact Below.refl _ _) | (with_reducible refine Below.setCell ?_ (by first | omega | (simp; done) | (simp; omega)) _) | (with_reducible refine Below.alloc ?_ (by first | omega | (simp; done) | (simp; omega)) _) | (with_reducible refine Below.drew ?_) | (with_reducible refine below_drewN ?_ _)))
  have HF := Lib.hid (hF.ext hW)
  have HB1 := Lib.hid (Blk.new w [.slice fa fl fc, .slice la ll lc, .int .i64 F.fuse, .int .i64 F.fault, .bool F.off] 25)
  have HS := Lib.hid hS
  have HR := Lib.hid hr
  have q1 := HB1.out.cells
  have l1 := HB1.out.lt
  clear hF hS hr hW
  go_enter Try.func30, Try.ntmps30
  go_wp2_with fail
  refine' wp_region_seq [.inl _, .inl _, .inl _, .inr (TryReadIs w.heap.size F.all), .inr (TryReadIs w.heap.size F.all), .inr (TryRowS w.heap.size F.all), .inl _, .inr (TryRowS w.heap.size F.all), .inl _] (by kernel_rfl) (by kernel_rfl) ?main1
  case main1 =>
    refine wpParts_det (by rfl) (fun W hE hN => ?_) ?_
    · have hc := fun b o h => hE.cell (p := ⟨b, o, none⟩) h
      go_simp; refine ⟨Below.refl _ _, ?_⟩; rfl
    simp only [Act.put, List.setIfInBounds_toArray, List.set_cons_zero, List.set_cons_succ]
    refine wpParts_det (by rfl) (fun W hE hN => ?_) ?_
    · have hc := fun b o h => hE.cell (p := ⟨b, o, none⟩) h
      go_simp; refine ⟨Below.refl _ _, ?_⟩; rfl
    simp only [Act.put, List.setIfInBounds_toArray, List.set_cons_zero, List.set_cons_succ]
    refine wpParts_det (by rfl) (fun W hE hN => ?_) ?_
    · go_simp; refine ⟨Below.refl _ _, ?_⟩; have hA := Try_Len F fa la fl fc ll lc W (HF.out.ext hE).at_; rw [if_pos HR.out] at hA; refine hA.mono ?_; rintro e w' ⟨rfl, hb⟩; refine ⟨?_, hb⟩; rfl
    simp only [Act.put, List.setIfInBounds_toArray, List.set_cons_zero, List.set_cons_succ]
    refine wpParts_any rfl (Try_readIs_later) (by rfl) (fun W hE hN => ?_) (fun u3 => ?_)
    · go_simp; refine ⟨Below.refl _ _, ?_⟩; have hA := Try_Read F fa la fl fc ll lc 0 (F.many : Int) W _ (HF.out.ext hE) (fun b h => by have := HS.out b h; have := hE.size; simp at this; omega) (by unfold I64'; omega) (by have := (FileD.right_spec.1 HR.out).2.2.2.2; unfold I64'; omega); rw [FileD.read_all HR.out] at hA; refine hA.mono ?_; rintro e w' ⟨ra, rl, rc, rfl, hR, hb⟩; exact ⟨_, rfl, hb, ra, rl, rc, rfl, hR.mono fun b h => by have := hE.size; simp at this; omega⟩
    simp only [Act.put, List.setIfInBounds_toArray, List.set_cons_zero, List.set_cons_succ]
    refine wpParts_any rfl (Try_readIs_later) (by rfl) (fun W hE hN => ?_) (fun u4 => ?_)
    · simp [near, Oper.looksAt, Op.operands] at hN; go_simp; exact Below.refl _ _
    simp only [Act.put, List.setIfInBounds_toArray, List.set_cons_zero, List.set_cons_succ]
    refine wpParts_any rfl (Try_rowS_later) (by rfl) (fun W hE hN => ?_) (fun u5 => ?_)
    · simp [near, Oper.looksAt, Op.operands] at hN; obtain ⟨ra, rl, rc, rfl, hR⟩ := hN; go_simp; exact ⟨Below.refl _ _, ra, rl, rc, rfl, hR⟩
    simp only [Act.put, List.setIfInBounds_toArray, List.set_cons_zero, List.set_cons_succ]
    refine wpParts_det (by rfl) (fun W hE hN => ?_) ?_
    · simp [near, Oper.looksAt, Op.operands] at hN; obtain ⟨ra, rl, rc, rfl, hR⟩ := hN; go_simp; refine ⟨Below.refl _ _, ?_⟩; rfl
    simp only [Act.put, List.setIfInBounds_toArray, List.set_cons_zero, List.set_cons_succ]
    refine wpParts_any rfl (Try_rowS_later) (by rfl) (fun W hE hN => ?_) (fun u7 => ?_)
    · simp [near, Oper.looksAt, Op.operands] at hN; go_simp; exact Below.refl _ _
    simp only [Act.put, List.setIfInBounds_toArray, List.set_cons_zero, List.set_cons_succ]
    refine wpParts_det (by rfl) (fun W hE hN => ?_) ?_
    · go_simp; refine ⟨Below.refl _ _, ?_⟩; rfl
    simp only [Act.put, List.setIfInBounds_toArray, List.set_cons_zero, List.set_cons_succ]
    refine wpParts_end fun W2 hE2 hG2 => ?_
    have hcW2 := fun b o h => hE2.cell (p := ⟨b, o, none⟩) h
    have hfW2 := fun b o h => hE2.frozen (p := ⟨b, o, none⟩) h
    obtain ⟨⟨ra, rl, rc, rfl, hR⟩, _⟩ := hG2
    have bel2 : Below w.heap.size w W2 := (by repeat (first | (with_reducible exact Below.refl _ _) | (with_reducible exact Below.refl _ _) | (with_reducible refine Below.setCell ?_ (by first | omega | (simp; done) | (simp; omega)) _) | (with_reducible refine Below.alloc ?_ (by first | omega | (simp; done) | (simp; omega)) _) | (with_reducible refine Below.drew ?_) | (with_reducible refine below_drewN ?_ _) | (with_reducible refine Below.trans ?_ (hE2.mono (by first | omega | (simp; done) | (simp; omega))))))
    have HR2 := Lib.hid hR
    clear hR hE2 q1 l1
    go_wp2
    go_ret
    exact ⟨ra, rl, rc, rfl, HR2.out, bel2⟩
end Go.Proofs.Ytmjmjjakhmeogaa
