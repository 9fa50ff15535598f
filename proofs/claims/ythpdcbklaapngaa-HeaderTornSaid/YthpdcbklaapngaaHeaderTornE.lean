/-
  Layer 12: numbers laid, the highest byte first: the program's lay, the reference's high, walked.
  Layer 12: the reference's high, walked.
  Layer 12: headers: may one be? Both ways, walked.
  Layer 12: the block of a header that may be, walked.
  Layer 12: the reference's block of a header, walked: the same bytes.
  Layer 12: the number that some bytes are, the highest first, walked.
  Layer 12: the header whose block this is: the program's Says, walked.
  Layer 12: the reference's Says, walked.
  Layer 12: what is appended for a header: the reference's Laid, walked.
  Layer 12: Put, walked.
  Layer 12: Find, its parts: what is looked for, in plain; the look at one block.
-/
import Derived.Test.YthpdcbklaapngaaHeaderTornB
import Derived.Test.YthpdcbklaapngaaHeaderTornC
import Derived.Deep.OwnRows
import Derived.Laws.Rows
import Derived.Laws.Tables
import Derived.RegionTactic
import Derived.Laws.Cover3
import Derived.Stop.BytesEq
namespace Go.Dav
set_option linter.unusedVariables false
set_option linter.unusedSimpArgs false
open Go Go.RowKit

/-- A number in so many bytes, the highest first. -/
def highOf (x n : Nat) : List UInt8 := (List.range n).map fun i => UInt8.ofNat (x / 2 ^ (8 * (n - 1 - i)))
theorem highOf_len (x n : Nat) : (highOf x n).length = n := by simp [highOf]
theorem highOf_get {x n j : Nat} (h : j < n) : (highOf x n)[j]? = some (UInt8.ofNat (x / 2 ^ (8 * (n - 1 - j)))) := by simp [highOf, h]
theorem highOf_take {x n j : Nat} (h : j < n) : (highOf x n).take (j + 1) = (highOf x n).take j ++ [UInt8.ofNat (x / 2 ^ (8 * (n - 1 - j)))] := by
  rw [List.take_add_one, highOf_get h]; rfl
theorem u8s_byte (x e : Nat) : u8s [UInt8.ofNat (x / 2 ^ e)] = [.int .u8 ((x : Int) / 2 ^ e % 256)] := by
  simp [u8s]
theorem wpList_append_firm {P : Program} {W : World} {ops : Array Oper} {rest : List Oper} {o : Oper} {a : Act} {Q : Exit → Act → World → Prop} (hgd : o.guard = none) (s x : Operand) (t : TypeId) (ho : o.op = .call { callee := .builtin .append, args := #[s, x], argTypes := #[t, t] }) {e : Nat} (E : Elem1 P t e 1) (S : Nat → Prop) (n : Nat) (hn : n ≤ W.heap.size) (v : Value) (l : List UInt8) (hs : a.eval s = v) (hv : FirmOf e S n v l W)
    (T : Nat → Prop) (ax : Option Addr) (m c : Nat) (y : List UInt8) (hx : a.eval x = .slice ax m c) (hy : CellsS W T ax m (u8s y)) (hax : ax ≠ none) (hm0 : 0 < m) (hm : l.length + m ≤ 140737488355328)
    (h : ∀ v' w', w'.ownsRow n e 1 v' (l ++ y).length (u8s (l ++ y)) → Grew n e W w' → wpList P ops Q rest (a.put o.dst v') w') : wpList P ops Q (o :: rest) a W := by
  refine wpList_plain hgd fun K hK => ?_
  obtain ⟨v', w', hr, _, h2, h3⟩ := firm_append (P := P) E o.type S n hn v l hv T ax m c y hy hax hm0 hm
  unfold Oper.wp execOp
  simp only [ho, resolve, invoke, builtin, Sem.run_bind, Sem.run_pure, Result.andThen_ok, List.map_toArray, List.map_cons, List.map_nil, hs, hx, hr]
  exact hK _ _ (h v' w' h2 h3)
end Go.Dav
namespace Go.Proofs.Ythpdcbklaapngaa
set_option linter.unusedVariables false
set_option linter.unusedSimpArgs false
open Go.RowKit Go.Dav
attribute [local go_sem] Gives ite_val ite_val_true

set_option maxRecDepth 8000 in
set_option maxHeartbeats 4000000 in
theorem Try_lay (S : Nat → Prop) (base p x width : Nat) (v : Value) (lo : List UInt8) (w : World) (hp : Blk w p [.int .u64 (x : Int)] 28) (hv : FirmOf 5 S base v lo w) (hb : base ≤ w.heap.size) (hlo : lo.length ≤ 1000) (hw : width ≤ 8) (hx : x < 18446744073709551616) :
    Calls Try.prog 26 #[v, .int .i64 (width : Int), .slice (some ⟨p, 0, none⟩) 1 1] w fun e w' => ∃ v', e = .returned v' ∧ FirmOf 5 S base v' (lo ++ highOf x width) w' ∧ (0 < width → w'.ownsRow base 5 1 v' (lo.length + width) (u8s (lo ++ highOf x width))) ∧ Grew base 5 w w' := by
  have qp := hp.cells
  have lp := hp.lt
  have HV := Lib.hid hv
  have HB := Lib.hid hb
  have HLO := Lib.hid hlo
  have HX := Lib.hid hx
  have hw' : (width : Int) ≤ 8 := by omega
  clear hp hv hb hlo hx
  go_enter Try.func26, Try.ntmps26
  go_wp2_with fail
  go_loopg [0, 12] 1 (fun g vx ix wr => (ix = .int .i64 0 ∧ g = 1 ∧ vx = v ∧ w = wr) ∨ (ix = .int .i64 1 ∧ g = 0 ∧ FirmOf 5 S base vx (lo ++ highOf x width) wr ∧ (0 < width → wr.ownsRow base 5 1 vx (lo.length + width) (u8s (lo ++ highOf x width))) ∧ Grew base 5 w wr))
  case atStart => exact .inl ⟨rfl, rfl, rfl, rfl⟩
  case round =>
    rcases hrel with ⟨rfl, rfl, rfl, rfl⟩ | ⟨rfl, rfl, h1, h2, h3⟩
    · go_wp2_with fail
      go_loopg [0, 9] width (fun g vx bx w2 => ∃ j : Nat, j ≤ width ∧ g = width - j ∧ bx = .int .i64 ((8 * (width - j) : Nat) : Int) ∧ FirmOf 5 S base vx (lo ++ (highOf x width).take j) w2 ∧ (0 < j → w2.ownsRow base 5 1 vx (lo.length + j) (u8s (lo ++ (highOf x width).take j))) ∧ Grew base 5 w w2)
      case atStart => exact ⟨0, Nat.zero_le _, rfl, by simp, by simpa using HV.out, fun h => absurd h (by omega), Grew.refl _ _ _⟩
      case round =>
        obtain ⟨j, hj, rfl, rfl, f1, f2, f3⟩ := hrel
        have F1 := Lib.hid f1
        have F2 := Lib.hid f2
        have F3 := Lib.hid f3
        clear f1 f2 f3 qp lp
        by_cases hjw : j < width
        · obtain ⟨e, he⟩ : ∃ e, 8 * (width - 1 - j) = e := ⟨_, rfl⟩
          have he2 : 8 * (width - j) = e + 8 := by omega
          rw [he2]
          have hel : e ≤ 56 := by omega
          have hmin : min e 64 = e := by omega
          have HE := Lib.hid he
          clear he he2
          have s3 := F3.out.size
          have HBx := Lib.hid (show base ≤ (wr.alloc (.cells #[.int .u8 ((x : Int) / 2 ^ e % 256)] 5)).heap.size by have := HB.out; simp; omega)
          have HFx := Lib.hid (F1.out.ext ((Below.refl _ wr).alloc (Nat.le_refl _) (.cells #[.int .u8 ((x : Int) / 2 ^ e % 256)] 5)))
          have HCx := Lib.hid (show CellsS (wr.alloc (.cells #[.int .u8 ((x : Int) / 2 ^ e % 256)] 5)) (fun b => b = wr.heap.size) (some ⟨wr.heap.size, 0, none⟩) 1 (u8s [UInt8.ofNat (x / 2 ^ e)]) by rw [u8s_byte]; exact cells_one rfl (by simp) (Blk.new wr [.int .u8 ((x : Int) / 2 ^ e % 256)] 5 |>.cell 0 rfl))
          have HLx := Lib.hid (show (lo ++ (highOf x width).take j).length + 1 ≤ 140737488355328 by have := HLO.out; have := highOf_len x width; simp; omega)
          clear s3
          go_wp2_with (at_builtin; refine wpList_append_firm rfl (.tmp 22) (.tmp 28) 24 rfl Try_elemU8 S base HBx.out _ (lo ++ (highOf x width).take j) rfl HFx.out (fun b => b = wr.heap.size) (some ⟨wr.heap.size, 0, none⟩) 1 1 [UInt8.ofNat (x / 2 ^ e)] rfl HCx.out (fun h => by cases h) (by omega) HLx.out ?_; intro v' w' hown' hgrow)
          go_wp2_with fail
          have e1 : lo ++ (highOf x width).take j ++ [UInt8.ofNat (x / 2 ^ e)] = lo ++ (highOf x width).take (j + 1) := by rw [highOf_take hjw, HE.out, List.append_assoc]
          rw [e1] at hown'
          have hln : (lo ++ (highOf x width).take (j + 1)).length = lo.length + (j + 1) := by have := highOf_len x width; simp; omega
          go_roundg (width - (j + 1))
          case measure => omega
          case rel =>
            have hh := hown'
            rw [hln] at hh
            exact ⟨j + 1, by omega, rfl, by rw [show 8 * (width - (j + 1)) = e by have := HE.out; omega], .inr hown', fun _ => hh, F3.out.trans ((Grew.of_below ((Below.refl _ wr).alloc (Nat.le_refl _) _)).trans hgrow)⟩
        · obtain rfl : j = width := by omega
          have hz : 8 * (j - j) = 0 := by omega
          rw [hz]
          clear hjw
          go_wp2_with fail
          go_roundg 0
          case measure => omega
          case rel =>
            have hle : (highOf x j).take j = highOf x j := List.take_of_length_le (by rw [highOf_len]; omega)
            have h1 := F1.out
            have h2 := F2.out
            rw [hle] at h1 h2
            exact .inr ⟨by go_num, rfl, h1, h2, F3.out⟩
    · have H1 := Lib.hid h1
      have H2 := Lib.hid h2
      have H3 := Lib.hid h3
      clear h1 h2 h3
      go_wp2
      go_ret
      exact ⟨_, rfl, H1.out, H2.out, H3.out⟩
end Go.Proofs.Ythpdcbklaapngaa

namespace Go.Dav
set_option linter.unusedVariables false
set_option linter.unusedSimpArgs false
open Go Go.RowKit
theorem u8s_setB (l : List UInt8) (i : Nat) (x : UInt8) : (u8s l).set i (.int .u8 (x.toNat : Int)) = u8s (l.set i x) := by simp [u8s, List.map_set]
theorem high_part {x n j m : Nat} (h : n = j + 1 + m) : (List.replicate (n - j) (0 : UInt8) ++ (highOf x n).drop (n - j)).set m (UInt8.ofNat (x / 256 ^ j)) = List.replicate (n - (j + 1)) 0 ++ (highOf x n).drop (n - (j + 1)) := by
  have e1 : n - j = m + 1 := by omega
  have e2 : n - (j + 1) = m := by omega
  rw [e1, e2]
  have e3 : (highOf x n).drop m = UInt8.ofNat (x / 256 ^ j) :: (highOf x n).drop (m + 1) := by
    rw [List.drop_eq_getElem_cons (by rw [highOf_len]; omega)]
    congr 1
    have h1 := highOf_get (x := x) (show m < n by omega)
    rw [List.getElem?_eq_getElem (by rw [highOf_len]; omega)] at h1
    have h2 := Option.some.inj h1
    rw [h2, show n - 1 - m = j by omega, Nat.pow_mul]
  rw [e3, List.replicate_succ', List.append_assoc, List.set_append_right _ _ (by simp)]
  simp
end Go.Dav
namespace Go.Proofs.Ythpdcbklaapngaa
set_option linter.unusedVariables false
set_option linter.unusedSimpArgs false
open Go.RowKit Go.Dav
attribute [local go_sem] Gives ite_val ite_val_true

theorem Try_makeN (n : Nat) (hn : n ≤ 1048576) (W : World) : (Instr.makeSlice 24 (.int .i64 (n : Int)) (.int .i64 (n : Int))).run Try.prog W = .ok (.slice (some ⟨W.heap.size, 0, none⟩) n n) (W.alloc (.cells (u8s (List.replicate n 0)).toArray 5)) := by
  have hinfo : (Try.prog.info? 5).map (fun i => (i.zero, i.size, i.bytes)) = some (some (.int .u8 0), 1, 1) := by kernel_rfl
  have h := run_make_row' (P := Try.prog) 24 5 (.int .u8 0) 1 Try.underlying24 hinfo rfl .i64 .i64 n (by omega) (by omega) W
  rw [h, u8s_zeros, ← toList_madeCells_one]
end Go.Proofs.Ythpdcbklaapngaa

namespace Go.Dav
set_option linter.unusedVariables false
set_option linter.unusedSimpArgs false
open Go Go.RowKit
structure HeadD where
  gen : Nat
  at_ : Int
structure HeadD.Fits (h : HeadD) : Prop where
  gen : h.gen < 18446744073709551616
  at_ : I64' h.at_
def HeadD.right (h : HeadD) : Bool := decide (1 ≤ h.gen) && (decide (0 ≤ h.at_) && decide (h.at_ < 524288))
def HeadD.err (h : HeadD) : Int := if h.right = true then 0 else 220
theorem HeadD.right_spec {h : HeadD} : h.right = true ↔ 1 ≤ h.gen ∧ 0 ≤ h.at_ ∧ h.at_ < 524288 := by simp [HeadD.right]
end Go.Dav
namespace Go.Proofs.Ythpdcbklaapngaa
set_option linter.unusedVariables false
set_option linter.unusedSimpArgs false
open Go.RowKit Go.Dav
attribute [local go_sem] Gives ite_val ite_val_true

set_option maxRecDepth 8000 in
theorem Try_hCheck (h : HeadD) (w : World) : Calls Try.prog 8 #[.agg #[.int .u64 (h.gen : Int), .int .i64 h.at_]] w fun e w' => e = .returned (.int .i64 h.err) ∧ Below w.heap.size w w' := by
  obtain ⟨g, a⟩ := h
  dsimp only
  by_cases h1 : g = 0
  · have HV := Lib.hid (show (HeadD.mk g a).err = 220 by simp [HeadD.err, HeadD.right, h1])
    subst h1
    go_enter Try.func8, Try.ntmps8
    go_wp2
    go_ret
    exact ⟨by rw [HV.out]; rfl, (by repeat (first | (with_reducible exact Below.refl _ _) | (with_reducible exact Below.refl _ _) | (with_reducible refine Below.setCell ?_ (by first | omega | (simp; done) | (simp; omega)) _) | (with_reducible refine Below.alloc ?_ (by first | omega | (simp; done) | (simp; omega)) _) | (with_reducible refine Below.drew ?_) | (with_reducible refine below_drewN ?_ _)))⟩
  · have h1' : ((g : Int) == 0) = false := by simp [h1]
    by_cases h2 : a < 0
    · have HV := Lib.hid (show (HeadD.mk g a).err = 220 by simp [HeadD.err, HeadD.right]; omega)
      clear h1
      go_enter Try.func8, Try.ntmps8
      go_wp2
      go_ret
      exact ⟨by rw [HV.out]; rfl, (by repeat (first | (with_reducible exact Below.refl _ _) | (with_reducible exact Below.refl _ _) | (with_reducible refine Below.setCell ?_ (by first | omega | (simp; done) | (simp; omega)) _) | (with_reducible refine Below.alloc ?_ (by first | omega | (simp; done) | (simp; omega)) _) | (with_reducible refine Below.drew ?_) | (with_reducible refine below_drewN ?_ _)))⟩
    · by_cases h3 : 524288 ≤ a
      · have HV := Lib.hid (show (HeadD.mk g a).err = 220 by simp [HeadD.err, HeadD.right]; omega)
        clear h1
        go_enter Try.func8, Try.ntmps8
        go_wp2
        go_ret
        exact ⟨by rw [HV.out]; rfl, (by repeat (first | (with_reducible exact Below.refl _ _) | (with_reducible exact Below.refl _ _) | (with_reducible refine Below.setCell ?_ (by first | omega | (simp; done) | (simp; omega)) _) | (with_reducible refine Below.alloc ?_ (by first | omega | (simp; done) | (simp; omega)) _) | (with_reducible refine Below.drew ?_) | (with_reducible refine below_drewN ?_ _)))⟩
      · have HV := Lib.hid (show (HeadD.mk g a).err = 0 by simp [HeadD.err, HeadD.right]; omega)
        clear h1
        go_enter Try.func8, Try.ntmps8
        go_wp2
        go_ret
        exact ⟨by rw [HV.out]; rfl, (by repeat (first | (with_reducible exact Below.refl _ _) | (with_reducible exact Below.refl _ _) | (with_reducible refine Below.setCell ?_ (by first | omega | (simp; done) | (simp; omega)) _) | (with_reducible refine Below.alloc ?_ (by first | omega | (simp; done) | (simp; omega)) _) | (with_reducible refine Below.drew ?_) | (with_reducible refine below_drewN ?_ _)))⟩
theorem Try_size64 : (Try.prog.info? 50).map (·.size) = some 64 := by kernel_rfl
theorem Try_size64_of {l : List UInt8} (h : l.length = 64) : (Try.prog.info? 50).map (·.size) = some (u8s l).toArray.size := by rw [Try_size64]; simp [u8s_len, h]
theorem u8s_all (l : List UInt8) : (u8s l).toArray.all (·.oneCell') = true := by
  rw [Array.all_eq_true_iff_forall_mem]
  intro v hv
  exact u8s_one l v (by simpa using hv)
theorem blk_row {W : World} {g : Nat} {cs ds : List Value} {t : TypeId} (h : Blk W g cs t) : Blk (W.setRow g ds.toArray) g ds t := by
  unfold Blk at *
  exact setRow_heap W g _ _ t _ h
theorem only_row (W : World) (g : Nat) (cs : Array Value) : Only g W (W.setRow g cs) := ⟨rfl, rfl, rfl, by simp [World.setRow], fun k hk hne => setRow_other W g k cs hne⟩
set_option maxRecDepth 8000 in
set_option maxHeartbeats 4000000 in
theorem Try_BlockNo (h : HeadD) (w : World) (hr : h.right = false) : Calls Try.prog 15 #[.agg #[.int .u64 (h.gen : Int), .int .i64 h.at_]] w fun e w' => e = .returned (.agg (u8s (List.replicate 64 0)).toArray) ∧ Below w.heap.size w w' := by
  have HE := Lib.hid (show h.err = 220 by unfold HeadD.err; rw [if_neg (by rw [hr]; decide)])
  obtain ⟨W0, hW0⟩ : ∃ W0, (w.alloc (.cells #[.int .u64 (h.gen : Int), .int .i64 h.at_] 30)).alloc (.cells #[.int .u8 0, .int .u8 0, .int .u8 0, .int .u8 0, .int .u8 0, .int .u8 0, .int .u8 0, .int .u8 0, .int .u8 0, .int .u8 0, .int .u8 0, .int .u8 0, .int .u8 0, .int .u8 0, .int .u8 0, .int .u8 0, .int .u8 0, .int .u8 0, .int .u8 0, .int .u8 0, .int .u8 0, .int .u8 0, .int .u8 0, .int .u8 0, .int .u8 0, .int .u8 0, .int .u8 0, .int .u8 0, .int .u8 0, .int .u8 0, .int .u8 0, .int .u8 0, .int .u8 0, .int .u8 0, .int .u8 0, .int .u8 0, .int .u8 0, .int .u8 0, .int .u8 0, .int .u8 0, .int .u8 0, .int .u8 0, .int .u8 0, .int .u8 0, .int .u8 0, .int .u8 0, .int .u8 0, .int .u8 0, .int .u8 0, .int .u8 0, .int .u8 0, .int .u8 0, .int .u8 0, .int .u8 0, .int .u8 0, .int .u8 0, .int .u8 0, .int .u8 0, .int .u8 0, .int .u8 0, .int .u8 0, .int .u8 0, .int .u8 0, .int .u8 0] 50) = W0 := ⟨_, rfl⟩
  have hb2 : Blk W0 (w.heap.size + 1) (u8s (List.replicate 64 0)) 50 := by rw [← hW0]; exact Blk.new' _ _ _ (by simp)
  have bel0 : Below w.heap.size w W0 := by rw [← hW0]; exact (by repeat (first | (with_reducible exact Below.refl _ _) | (with_reducible exact Below.refl _ _) | (with_reducible refine Below.setCell ?_ (by first | omega | (simp; done) | (simp; omega)) _) | (with_reducible refine Below.alloc ?_ (by first | omega | (simp; done) | (simp; omega)) _) | (with_reducible refine Below.drew ?_) | (with_reducible refine below_drewN ?_ _)))
  have hb1 : Blk W0 w.heap.size [.int .u64 (h.gen : Int), .int .i64 h.at_] 30 := by rw [← hW0]; exact (Blk.new w _ _).alloc _
  have HW0 := Lib.hid hW0
  have HB2 := Lib.hid hb2
  have HB1 := Lib.hid hb1
  have BEL0 := Lib.hid bel0
  clear hr hW0 hb2 bel0 hb1
  go_enter Try.func15, Try.ntmps15
  go_wp2_with fail
  rw [HW0.out]
  refine (Try_hCheck h W0).mono ?_; rintro e w1 ⟨rfl, hb⟩
  rw [HE.out]
  have HB21 := Lib.hid (HB2.out.ext hb)
  have BEL1 := Lib.hid (BEL0.out.trans (hb.mono BEL0.out.size))
  have l21 := (HB2.out.ext hb).lt
  clear hb
  go_wp2_with (first | (refine wpList_load_row rfl 50 (.tmp 2) rfl (w.heap.size + 1) rfl 50 (u8s (List.replicate 64 0)).toArray (0, 0) _ HB21.out Try.underlying50 rfl (Try_size64_of rfl) ?_) | (refine wpList_store_row rfl 50 (.tmp 2) (.tmp 7) rfl (w.heap.size + 1) (u8s (List.replicate 64 0)).toArray rfl rfl 50 (u8s (List.replicate 64 0)).toArray HB21.out (Try_size64_of rfl) rfl (u8s_all _) ?_))
  refine bodyPost_ret (results_cell_row rfl _ _ (w.heap.size + 1) 50 (u8s (List.replicate 64 0)).toArray (0, 0) _ rfl (blk_row HB21.out) Try.underlying50 rfl (Try_size64_of rfl)) rfl ⟨rfl, ?_⟩
  exact below_only BEL1.out (only_row _ _ _) BEL1.out.size (by omega)
end Go.Proofs.Ythpdcbklaapngaa

namespace Go.Dav
set_option linter.unusedVariables false
set_option linter.unusedSimpArgs false
open Go Go.RowKit
/-- What stands ahead of the sum. -/
def headOf (g a : Nat) : List UInt8 := [1] ++ highOf g 8 ++ highOf a 4
def bodyOf (g a : Nat) : List UInt8 := headOf g a ++ List.replicate 46 0
def blockOf (g a : Nat) : List UInt8 := crcLay (bodyOf g a) ++ [165]
theorem headOf_len (g a : Nat) : (headOf g a).length = 13 := by simp [headOf, highOf_len]
theorem bodyOf_len (g a : Nat) : (bodyOf g a).length = 59 := by simp [bodyOf, headOf_len]
theorem crcLay_len (l : List UInt8) : (crcLay l).length = l.length + 4 := by simp [crcLay, crcFour]
theorem blockOf_len (g a : Nat) : (blockOf g a).length = 64 := by simp [blockOf, crcLay_len, bodyOf_len]
/-- A slice over a new block. -/
def Sl (B : Nat) (cs : List Value) (t : TypeId) (v : Value) (W : World) : Prop := ∃ p, v = .slice (some ⟨p, 0, none⟩) cs.length cs.length ∧ B ≤ p ∧ Blk W p cs t
theorem Sl.later {B : Nat} {cs : List Value} {t : TypeId} : ∀ v W W', Sl B cs t v W → Below W.heap.size W W' → Sl B cs t v W' := fun _ _ _ ⟨p, h1, h2, h3⟩ hb => ⟨p, h1, h2, h3.ext hb⟩
theorem Sl.new {B : Nat} {W : World} (cs : List Value) (t : TypeId) (h : B ≤ W.heap.size) : Sl B cs t (.slice (some ⟨W.heap.size, 0, none⟩) cs.length cs.length) (W.alloc (.cells cs.toArray t)) := ⟨_, rfl, h, Blk.new _ _ _⟩
def OwnIs (B : Nat) (e : TypeId) (l : List UInt8) (v : Value) (W : World) : Prop := W.ownsRow B e 1 v l.length (u8s l)
theorem OwnIs.later {B : Nat} {e : TypeId} {l : List UInt8} : ∀ v W W', OwnIs B e l v W → Below W.heap.size W W' → OwnIs B e l v W' := fun _ _ _ h hb => ownsRow_ext h hb
theorem ownsRow_less {W : World} {B B' e n : Nat} {v : Value} {xs : List Value} (h : W.ownsRow B e 1 v n xs) (hb : B' ≤ B) : W.ownsRow B' e 1 v n xs := by
  refine ⟨h.1, ?_⟩
  rcases h.2 with k | ⟨g, cap, cur, k1, k2, k3⟩
  · exact .inl k
  · exact .inr ⟨g, cap, cur, k1, Nat.le_trans hb k2, k3⟩
theorem firm_of_blk {W : World} {e p B : Nat} {l : List UInt8} (h : Blk W p (u8s l) e) : FirmOf e (fun b => b = p) B (.slice (some ⟨p, 0, none⟩) l.length l.length) l W :=
  .inl ⟨_, rfl, ⟨u8s_len l, fun k v hk => ⟨p, 0, rfl, h.lt, rfl, by rw [Nat.zero_add]; exact h.cell k hk⟩⟩, fun e => by cases e⟩
theorem own_bytes {W : World} {B e n : Nat} {v : Value} {l : List UInt8} (h : W.ownsRow B e 1 v n (u8s l)) (hn : n ≤ 140737488355328) : ∃ a c, v = .slice a n c ∧ BytesAt W a n c l := by
  obtain ⟨a, c, h1, h2, h3, h4, h5⟩ := own_cells h
  exact ⟨a, c, h1, (BytesS.of_cells h5 h2 h3 hn h4).at_⟩
/-- A full slice. -/
def Full (B : Nat) (l : List UInt8) (v : Value) (W : World) : Prop := ∃ p, v = .slice (some ⟨p, 0, none⟩) l.length l.length ∧ CellsS W (fun b => B ≤ b) (some ⟨p, 0, none⟩) l.length (u8s l)
theorem Full.later {B : Nat} {l : List UInt8} : ∀ v W W', Full B l v W → Below W.heap.size W W' → Full B l v W' := fun _ _ _ ⟨p, h1, h2⟩ hb => ⟨p, h1, h2.ext hb⟩
def RowOf (B : Nat) (l : List UInt8) (v : Value) (W : World) : Prop := ∃ a c, v = .slice a l.length c ∧ CellsS W (fun _ => True) a l.length (u8s l)
theorem RowOf.later {B : Nat} {l : List UInt8} : ∀ v W W', RowOf B l v W → Below W.heap.size W W' → RowOf B l v W' := fun _ _ _ ⟨a, c, h1, h2⟩ hb => ⟨a, c, h1, h2.ext hb⟩
end Go.Dav
namespace Go.Proofs.Ythpdcbklaapngaa
set_option linter.unusedVariables false
set_option linter.unusedSimpArgs false
open Go.RowKit Go.Dav
attribute [local go_sem] Gives ite_val ite_val_true

theorem Try_append165 (B g a p6 p5 : Nat) (W : World) (ty : TypeId) (hc6 : CellsS W (fun b => B ≤ b) (some ⟨p6, 0, none⟩) (crcLay (bodyOf g a)).length (u8s (crcLay (bodyOf g a)))) (hk5 : Blk W p5 [.int .u8 165] 5) :
    ∃ v' w', (Builtin.append_ #[24, 24] ty #[.slice (some ⟨p6, 0, none⟩) (crcLay (bodyOf g a)).length (crcLay (bodyOf g a)).length, .slice (some ⟨p5, 0, none⟩) 1 1]).run Try.prog W = .ok v' w' ∧ Below W.heap.size W w' ∧ RowOf B (blockOf g a) v' w' := by
  have hl : (crcLay (bodyOf g a)).length = 63 := by rw [crcLay_len, bodyOf_len]
  obtain ⟨a', c', w', hr, h2, h3, h4, h5, h6⟩ := run_append_fullS (P := Try.prog) (W := W) Try_elemU8 ty (fun b => B ≤ b) (some ⟨p6, 0, none⟩) (crcLay (bodyOf g a)).length (u8s (crcLay (bodyOf g a))) hc6 (fun b => b = p5) (some ⟨p5, 0, none⟩) 1 1 [.int .u8 165] (cells_one rfl hk5.lt (hk5.cell 0 rfl)) (fun u hu => by simp at hu; subst hu; rfl) (fun h => by cases h) (by rw [hl]; unfold maxLen; omega) (by rw [hl]; omega)
  have e : u8s (blockOf g a) = u8s (crcLay (bodyOf g a)) ++ [.int .u8 165] := by unfold blockOf; rw [u8s_append]; rfl
  have e2 : (blockOf g a).length = (crcLay (bodyOf g a)).length + 1 := by rw [blockOf_len, hl]
  refine ⟨_, w', hr, h6, a', c', by rw [e2], ?_⟩
  rw [e2, e]
  exact h2.mono fun b _ => trivial

set_option maxRecDepth 100000 in
set_option maxHeartbeats 8000000 in
theorem Try_BlockYes (g a : Nat) (w : World) (hg : g < 18446744073709551616) (ha : a < 524288) (hr : (HeadD.mk g (a : Int)).right = true) : Calls Try.prog 15 #[.agg #[.int .u64 (g : Int), .int .i64 (a : Int)]] w fun e w' => e = .returned (.agg (u8s (blockOf g a)).toArray) ∧ Below w.heap.size w w' := by
  have HE := Lib.hid (show (HeadD.mk g (a : Int)).err = 0 by unfold HeadD.err; rw [if_pos hr])
  obtain ⟨W0, hW0⟩ : ∃ W0, (w.alloc (.cells #[.int .u64 (g : Int), .int .i64 (a : Int)] 30)).alloc (.cells #[.int .u8 0, .int .u8 0, .int .u8 0, .int .u8 0, .int .u8 0, .int .u8 0, .int .u8 0, .int .u8 0, .int .u8 0, .int .u8 0, .int .u8 0, .int .u8 0, .int .u8 0, .int .u8 0, .int .u8 0, .int .u8 0, .int .u8 0, .int .u8 0, .int .u8 0, .int .u8 0, .int .u8 0, .int .u8 0, .int .u8 0, .int .u8 0, .int .u8 0, .int .u8 0, .int .u8 0, .int .u8 0, .int .u8 0, .int .u8 0, .int .u8 0, .int .u8 0, .int .u8 0, .int .u8 0, .int .u8 0, .int .u8 0, .int .u8 0, .int .u8 0, .int .u8 0, .int .u8 0, .int .u8 0, .int .u8 0, .int .u8 0, .int .u8 0, .int .u8 0, .int .u8 0, .int .u8 0, .int .u8 0, .int .u8 0, .int .u8 0, .int .u8 0, .int .u8 0, .int .u8 0, .int .u8 0, .int .u8 0, .int .u8 0, .int .u8 0, .int .u8 0, .int .u8 0, .int .u8 0, .int .u8 0, .int .u8 0, .int .u8 0, .int .u8 0] 50) = W0 := ⟨_, rfl⟩
  have hb2 : Blk W0 (w.heap.size + 1) (u8s (List.replicate 64 0)) 50 := by rw [← hW0]; exact Blk.new' _ _ _ (by simp)
  have bel0 : Below w.heap.size w W0 := by rw [← hW0]; exact (by repeat (first | (with_reducible exact Below.refl _ _) | (with_reducible exact Below.refl _ _) | (with_reducible refine Below.setCell ?_ (by first | omega | (simp; done) | (simp; omega)) _) | (with_reducible refine Below.alloc ?_ (by first | omega | (simp; done) | (simp; omega)) _) | (with_reducible refine Below.drew ?_) | (with_reducible refine below_drewN ?_ _)))
  have hb1 : Blk W0 w.heap.size [.int .u64 (g : Int), .int .i64 (a : Int)] 30 := by rw [← hW0]; exact (Blk.new w _ _).alloc _
  have HW0 := Lib.hid hW0
  have HB2 := Lib.hid hb2
  have HB1 := Lib.hid hb1
  have BEL0 := Lib.hid bel0
  have HG := Lib.hid hg
  have HA := Lib.hid ha
  have hac : (a : Int) % 18446744073709551616 = (a : Int) := by omega
  have HWR := Lib.hid (show IntKind.u64.wrap (a : Int) = (a : Int) by rw [IntKind.wrap_u64]; omega)
  clear hr hW0 hb2 bel0 hb1 hg ha
  go_enter Try.func15, Try.ntmps15
  go_wp2_with fail
  rw [HW0.out]
  refine (Try_hCheck ⟨g, a⟩ W0).mono ?_; rintro e w1 ⟨rfl, hb⟩
  rw [HE.out]
  have HB21 := Lib.hid (HB2.out.ext hb)
  have HB11 := Lib.hid (HB1.out.ext hb)
  have BEL1 := Lib.hid (BEL0.out.trans (hb.mono BEL0.out.size))
  have l21 := (HB2.out.ext hb).lt
  have q1 := (HB1.out.ext hb).cells
  have l1 := (HB1.out.ext hb).lt
  clear hb
  go_wp2_with fail
  refine' wp_region_seq [.inr (Sl w1.heap.size [.int .u8 1] 5), .inl _, .inl _, .inr (Sl w1.heap.size [.int .u64 (g : Int)] 28), .inr (OwnIs w1.heap.size 5 ([1] ++ highOf g 8)), .inl _, .inl _, .inl _, .inr (Sl w1.heap.size [.int .u64 (a : Int)] 28)] (by kernel_rfl) (by kernel_rfl) ?main1
  case main1 =>
    refine wpParts_any rfl (Sl.later) (by rfl) (fun W hE hN => ?_) (fun u0 => ?_)
    · go_simp; exact ⟨(Below.refl _ _).alloc (Nat.le_refl _) _, Sl.new _ _ hE.size⟩
    simp only [Act.put, List.setIfInBounds_toArray, List.set_cons_zero, List.set_cons_succ]
    refine wpParts_det (by rfl) (fun W hE hN => ?_) ?_
    · go_simp; refine ⟨Below.refl _ _, ?_⟩; rfl
    simp only [Act.put, List.setIfInBounds_toArray, List.set_cons_zero, List.set_cons_succ]
    refine wpParts_det (by rfl) (fun W hE hN => ?_) ?_
    · have hc := fun b o h => hE.cell (p := ⟨b, o, none⟩) h
      go_simp; refine ⟨Below.refl _ _, ?_⟩; rfl
    simp only [Act.put, List.setIfInBounds_toArray, List.set_cons_zero, List.set_cons_succ]
    refine wpParts_any rfl (Sl.later) (by rfl) (fun W hE hN => ?_) (fun u3 => ?_)
    · go_simp; exact ⟨(Below.refl _ _).alloc (Nat.le_refl _) _, Sl.new _ _ hE.size⟩
    simp only [Act.put, List.setIfInBounds_toArray, List.set_cons_zero, List.set_cons_succ]
    refine wpParts_any rfl (OwnIs.later) (by rfl) (fun W hE hN => ?_) (fun u4 => ?_)
    · simp [near, Oper.looksAt, Op.operands, Call.operands] at hN; obtain ⟨⟨p2, rfl, hp2, hk2⟩, ⟨p1, rfl, hp1, hk1⟩⟩ := hN; go_simp; refine ⟨Below.refl _ _, ?_⟩; refine (Try_lay (fun b => b = p1) W.heap.size p2 g 8 _ [1] W hk2 (firm_of_blk (l := [1]) hk1) (Nat.le_refl _) (by simp) (by omega) HG.out).mono ?_; rintro e w' ⟨v', rfl, _, ho, hgr⟩; exact ⟨_, rfl, hgr.below (Nat.le_refl _), ownsRow_less (ho (by omega)) hE.size⟩
    simp only [Act.put, List.setIfInBounds_toArray, List.set_cons_zero, List.set_cons_succ]
    refine wpParts_det (by rfl) (fun W hE hN => ?_) ?_
    · go_simp; refine ⟨Below.refl _ _, ?_⟩; rfl
    simp only [Act.put, List.setIfInBounds_toArray, List.set_cons_zero, List.set_cons_succ]
    refine wpParts_det (by rfl) (fun W hE hN => ?_) ?_
    · have hc := fun b o h => hE.cell (p := ⟨b, o, none⟩) h
      go_simp; refine ⟨Below.refl _ _, ?_⟩; rfl
    simp only [Act.put, List.setIfInBounds_toArray, List.set_cons_zero, List.set_cons_succ]
    refine wpParts_det (by rfl) (fun W hE hN => ?_) ?_
    · go_simp; refine ⟨Below.refl _ _, ?_⟩; rfl
    simp only [Act.put, List.setIfInBounds_toArray, List.set_cons_zero, List.set_cons_succ]
    refine wpParts_any rfl (Sl.later) (by rfl) (fun W hE hN => ?_) (fun u8 => ?_)
    · go_simp; rw [HWR.out]; exact ⟨(Below.refl _ _).alloc (Nat.le_refl _) _, Sl.new _ _ hE.size⟩
    simp only [Act.put, List.setIfInBounds_toArray, List.set_cons_zero, List.set_cons_succ]
    refine wpParts_end fun W2 hE2 hG2 => ?_
    have hcW2 := fun b o h => hE2.cell (p := ⟨b, o, none⟩) h
    have hfW2 := fun b o h => hE2.frozen (p := ⟨b, o, none⟩) h
    obtain ⟨⟨p4, rfl, hp4, hk4⟩, ho, _⟩ := hG2
    have s2 := hE2.size
    have HK4 := Lib.hid hk4
    have HO := Lib.hid ho
    have HB22 := Lib.hid (HB21.out.ext hE2)
    have BEL2 := Lib.hid (BEL1.out.trans (hE2.mono BEL1.out.size))
    have HE2 := Lib.hid s2
    clear hk4 ho hE2 hcW2 hfW2 q1 l1 l21 HB1 HB11 hac s2
    go_wp2_with fail
    refine (Try_lay (fun _ => False) w1.heap.size p4 a 4 _ ([1] ++ highOf g 8) W2 HK4.out (.inr HO.out) HE2.out (by simp [highOf_len]) (by omega) (by have := HA.out; omega)).mono ?_
    rintro e w3 ⟨v3, rfl, _, ho3, hgr⟩
    have e13 : ([1] ++ highOf g 8).length + 4 = 13 := by simp [highOf_len]
    have hown3 : w3.ownsRow w1.heap.size 5 1 v3 13 (u8s (headOf g a)) := (congrArg (fun m => w3.ownsRow w1.heap.size 5 1 v3 m (u8s (headOf g a))) e13).mp (ho3 (by omega))
    have HO3 := Lib.hid hown3
    have HB23 := Lib.hid (hgr.blk HB22.out (by decide))
    have BEL3 := Lib.hid (BEL2.out.trans ((hgr.below HE2.out).mono (by have := BEL1.out.size; omega)))
    have S3 := Lib.hid (show w1.heap.size ≤ w3.heap.size by have := hgr.size; have := HE2.out; omega)
    clear hown3 ho3 hgr e13 HK4 HO HB22 BEL2
    go_wp2_with fail
    go_loopg [3] 46 (fun m vx wr => ∃ k : Nat, k ≤ 46 ∧ m = 46 - k ∧ wr.ownsRow w1.heap.size 5 1 vx (13 + k) (u8s (headOf g a ++ List.replicate k 0)) ∧ Blk wr (w.heap.size + 1) (u8s (List.replicate 64 0)) 50 ∧ Below w.heap.size w wr ∧ w1.heap.size ≤ wr.heap.size)
    case atStart => exact ⟨0, by omega, rfl, by simpa using HO3.out, HB23.out, BEL3.out, S3.out⟩
    case round =>
      obtain ⟨k, hk, rfl, ho, hb2, hbl, hs⟩ := hrel
      have HOR := Lib.hid ho
      obtain ⟨ra, rc, rfl, hrb⟩ := own_bytes ho (by omega)
      have HRB := Lib.hid hrb.at_
      have HBR := Lib.hid hb2
      have HBL := Lib.hid hbl
      have HS := Lib.hid hs
      clear ho hb2 hbl hs hrb HO3 HB23 BEL3 S3
      by_cases hk4 : k < 46
      · have hk4' : (13 : Int) + (k : Int) < 59 := by omega
        have HOx := Lib.hid (ownsRow_ext HOR.out ((Below.refl _ wr).alloc (Nat.le_refl _) (.cells #[.int .u8 0] 5)))
        have HCx := Lib.hid (cells_one (S := fun b => b = wr.heap.size) (g := wr.heap.size) (v := .int .u8 0) rfl (by simp) (Blk.new wr [.int .u8 0] 5 |>.cell 0 rfl))
        have HSx := Lib.hid (show w1.heap.size ≤ (wr.alloc (.cells #[.int .u8 0] 5)).heap.size by have := HS.out; simp; omega)
        go_wp2_with (at_builtin; refine wpList_append_rowS rfl (.tmp 21) (.tmp 22) 24 rfl Try_elemU8 w1.heap.size _ (13 + k) (u8s (headOf g a ++ List.replicate k 0)) rfl HOx.out (fun b => b = wr.heap.size) (some ⟨wr.heap.size, 0, none⟩) 1 1 [.int .u8 0] rfl HCx.out (fun u hu => by simp at hu; subst hu; rfl) (fun h => by cases h) (by unfold maxLen; omega) (by omega) HSx.out ?_; intro v' w' hown' hgrow)
        go_wp2_with fail
        have e1 : u8s (headOf g a ++ List.replicate (k + 1) 0) = u8s (headOf g a ++ List.replicate k 0) ++ [.int .u8 0] := by rw [List.replicate_succ', ← List.append_assoc, u8s_append]; rfl
        have hgw := Grew.of_own HOx.out hgrow
        go_roundg (46 - (k + 1))
        case measure => omega
        case rel =>
          refine ⟨k + 1, by omega, rfl, by rw [e1]; exact hown', hgw.blk (HBR.out.alloc _) (by decide), ?_, Nat.le_trans HSx.out hgw.size⟩
          exact below_own (HBL.out.alloc HBL.out.size _) (by have := HBL.out.size; simp; omega) HOx.out (by have := BEL1.out.size; omega) hgrow
      · obtain rfl : k = 46 := by omega
        clear hk4
        have lb := HBR.out.lt
        have hbody : headOf g a ++ List.replicate 46 0 = bodyOf g a := rfl
        rw [hbody] at HRB
        go_wp2_with fail
        refine' wp_region_seq [.inl _, .inl _, .inr (Full w1.heap.size (crcLay (bodyOf g a))), .inr (Sl w1.heap.size [.int .u8 165] 5), .inr (RowOf w1.heap.size (blockOf g a))] (by kernel_rfl) (by kernel_rfl) ?main2
        case main2 =>
          refine wpParts_det (by rfl) (fun W hE hN => ?_) ?_
          · go_simp; refine ⟨Below.refl _ _, ?_⟩; rfl
          simp only [Act.put, List.setIfInBounds_toArray, List.set_cons_zero, List.set_cons_succ]
          refine wpParts_det (by rfl) (fun W hE hN => ?_) ?_
          · go_simp; refine ⟨Below.refl _ _, ?_⟩; rfl
          simp only [Act.put, List.setIfInBounds_toArray, List.set_cons_zero, List.set_cons_succ]
          refine wpParts_any rfl (Full.later) (by rfl) (fun W hE hN => ?_) (fun u2 => ?_)
          · go_simp; refine ⟨Below.refl _ _, ?_⟩; refine (Try_crcLay ra 59 rc (bodyOf g a) W (HRB.out.ext hE) (by omega)).mono ?_; rintro e w' ⟨p6, rfl, hc, hb⟩; exact ⟨_, rfl, hb, p6, by rw [crcLay_len, bodyOf_len], by rw [crcLay_len, bodyOf_len]; exact hc.mono fun b h => Nat.le_trans (Nat.le_trans HS.out hE.size) h⟩
          simp only [Act.put, List.setIfInBounds_toArray, List.set_cons_zero, List.set_cons_succ]
          refine wpParts_any rfl (Sl.later) (by rfl) (fun W hE hN => ?_) (fun u3 => ?_)
          · go_simp; exact ⟨(Below.refl _ _).alloc (Nat.le_refl _) _, Sl.new _ _ (Nat.le_trans HS.out hE.size)⟩
          simp only [Act.put, List.setIfInBounds_toArray, List.set_cons_zero, List.set_cons_succ]
          refine wpParts_any rfl (RowOf.later) (by rfl) (fun W hE hN => ?_) (fun u4 => ?_)
          · simp [near, Oper.looksAt, Op.operands, Call.operands] at hN; obtain ⟨⟨p5, rfl, hp5, hk5⟩, ⟨p6, rfl, hc6⟩⟩ := hN; obtain ⟨v', w', hr, h6, h7⟩ := Try_append165 w1.heap.size g a p6 p5 W 24 hc6 hk5; exact gives_append rfl rfl rfl hr h6 h7
          simp only [Act.put, List.setIfInBounds_toArray, List.set_cons_zero, List.set_cons_succ]
          refine wpParts_end fun W4 hE4 hG4 => ?_
          have hcW4 := fun b o h => hE4.cell (p := ⟨b, o, none⟩) h
          have hfW4 := fun b o h => hE4.frozen (p := ⟨b, o, none⟩) h
          obtain ⟨⟨a5, c5, rfl, hc5⟩, _⟩ := hG4
          have HB24 := Lib.hid (HBR.out.ext hE4)
          have BEL4 := Lib.hid (HBL.out.trans (hE4.mono HBL.out.size))
          have HC5 := Lib.hid hc5
          have hlen : (u8s (blockOf g a)).length = Nat.min 64 64 := by rw [u8s_len, blockOf_len]; rfl
          have hpos : 0 < (u8s (blockOf g a)).length → (some (⟨w.heap.size + 1, 0, none⟩ : Addr)) = some ⟨w.heap.size + 1, 0, none⟩ ∧ ∃ ad, a5 = some ad ∧ ∀ j v, (u8s (blockOf g a))[j]? = some v → W4.cell? (ad.add j) = some v := by
            intro h0
            refine ⟨rfl, ?_⟩
            obtain ⟨b, o, rfl, _⟩ := hc5.at_ 0 _ (List.getElem?_eq_getElem h0)
            exact ⟨_, rfl, hc5.from_⟩
          have hspl : splice (u8s (List.replicate 64 0)) 0 (u8s (blockOf g a)) = u8s (blockOf g a) := by
            unfold splice
            rw [List.take_zero, List.nil_append, hlen, List.drop_of_length_le (by rw [u8s_len]; simp), List.append_nil]
          have HPOS := Lib.hid hpos
          have HLEN := Lib.hid hlen
          simp only [blockOf_len]
          clear hE4 hc5 hcW4 hfW4 lb hpos hlen
          refine wpList_copy_splice rfl (.tmp 24) (.tmp 28) 24 24 rfl 5 Try.underlying24 (by kernel_rfl) (some ⟨w.heap.size + 1, 0, none⟩) a5 64 64 64 c5 rfl rfl (w.heap.size + 1) 0 (u8s (List.replicate 64 0)) 50 HB24.out (u8s (blockOf g a)) HLEN.out HPOS.out (by rw [u8s_len, u8s_len, blockOf_len]; simp) (u8s_one _) w.heap.size w BEL4.out (by omega) ?_
          intro w5 hcell hb5
          rw [hspl] at hcell
          have HBX : Hid (Blk w5 (w.heap.size + 1) (u8s (blockOf g a)) 50) := hcell
          have HB5 := Lib.hid hb5
          clear hb5 hcell hspl
          go_wp2_with (first | (refine wpList_load_row rfl 50 (.tmp 2) rfl (w.heap.size + 1) rfl 50 (u8s (blockOf g a)).toArray (0, 0) _ HBX.out Try.underlying50 rfl (Try_size64_of (blockOf_len g a)) ?_) | (refine wpList_store_row rfl 50 (.tmp 2) (.tmp 30) rfl (w.heap.size + 1) (u8s (blockOf g a)).toArray rfl rfl 50 (u8s (blockOf g a)).toArray HBX.out (Try_size64_of (blockOf_len g a)) rfl (u8s_all _) ?_))
          refine bodyPost_ret (results_cell_row rfl _ _ (w.heap.size + 1) 50 (u8s (blockOf g a)).toArray (0, 0) _ rfl (blk_row HBX.out) Try.underlying50 rfl (Try_size64_of (blockOf_len g a))) rfl ⟨rfl, ?_⟩
          exact below_only HB5.out (only_row _ _ _) HB5.out.size (by omega)
end Go.Proofs.Ythpdcbklaapngaa

namespace Go.Dav
set_option linter.unusedVariables false
set_option linter.unusedSimpArgs false
open Go Go.RowKit
theorem wpList_run {P : Program} {ops : Array Oper} {rest : List Oper} {o : Oper} {a : Act} {w w' : World} {v : Value} {Q : Exit → Act → World → Prop} (hgd : o.guard = none) (hr : (execOp a.eval o).run P w = .ok (.value v) w') (h : wpList P ops Q rest (a.put o.dst v) w') : wpList P ops Q (o :: rest) a w := by
  refine wpList_plain hgd fun K hK => ?_
  unfold Oper.wp
  rw [hr]
  exact hK _ _ h
theorem run_load_cells {P : Program} (w : World) (ad : Addr) (ty : TypeId) (cs : List Value) (d : TypeDesc) (hc : ∀ j v, cs[j]? = some v → w.cell? (ad.add j) = some v)
    (hu : P.underlying ty = some d) (hd : (match d with | .struct _ | .array _ _ => true | _ => false) = true) (hi : (P.info? ty).map (·.size) = some cs.length) :
    (loadVar ty ad).run P w = .ok (.agg cs.toArray) w := by
  have hl : (loadCells ad cs.length).run P w = .ok cs.toArray w := run_loadCells_list (P := P) w ad cs hc
  cases hq : P.info? ty with
  | none => simp [hq] at hi
  | some i =>
    have hs : i.size = cs.length := by simpa [hq] using hi
    have hagg : (isAgg ty).run P w = .ok true w := by
      unfold isAgg
      rw [Sem.run_bind, run_underlying hu w]
      cases d <;> simp_all
    simp [loadVar, Sem.run_bind, hagg, sizeOf, typeInfo, hq, hs, hl]
theorem exec_load_cells {P : Program} {o : Oper} {a : Act} (w : World) (ad : Addr) (ty : TypeId) (x : Operand) (ho : o.op = .load ty x) (hx : a.eval x = .pointer (some ad)) (cs : List Value) (d : TypeDesc) (hc : ∀ j v, cs[j]? = some v → w.cell? (ad.add j) = some v)
    (hu : P.underlying ty = some d) (hd : (match d with | .struct _ | .array _ _ => true | _ => false) = true) (hi : (P.info? ty).map (·.size) = some cs.length) :
    (execOp a.eval o).run P w = .ok (.value (.agg cs.toArray)) w := by
  unfold execOp
  simp only [ho, hx, Instr.loadAt, Instr.sureAddr, Sem.run_bind, Sem.run_pure, Result.andThen_ok, run_load_cells w ad ty cs d hc hu hd hi]
theorem firm_bytes {e : Nat} {S : Nat → Prop} {n : Nat} {v : Value} {l : List UInt8} {W : World} (h : FirmOf e S n v l W) (hm : l.length ≤ 140737488355328) : ∃ a c, v = .slice a l.length c ∧ BytesAt W a l.length c l := by
  rcases h with ⟨a, h1, h2, h3⟩ | h
  · exact ⟨a, _, h1, (BytesS.of_cells h2 (Nat.le_refl _) (by unfold maxLen; omega) hm h3).at_⟩
  · obtain ⟨a, c, h1, h2, h3, h4, h5⟩ := own_cells h
    exact ⟨a, c, h1, (BytesS.of_cells h5 h2 h3 hm h4).at_⟩
theorem cells_of_blk {W : World} {p t : Nat} {l : List UInt8} (h : Blk W p (u8s l) t) : CellsS W (fun b => b = p) (some ⟨p, 0, none⟩) l.length (u8s l) :=
  ⟨u8s_len l, fun k v hk => ⟨p, 0, rfl, h.lt, rfl, by rw [Nat.zero_add]; exact h.cell k hk⟩⟩
end Go.Dav
namespace Go.Proofs.Ythpdcbklaapngaa
set_option linter.unusedVariables false
set_option linter.unusedSimpArgs false
open Go.RowKit Go.Dav
attribute [local go_sem] Gives ite_val ite_val_true

theorem Try_row64 {W : World} {B g a : Nat} {v : Value} (h : W.ownsRow B 5 1 v (crcLay (bodyOf g a) ++ [165]).length (u8s (crcLay (bodyOf g a) ++ [165]))) : ∃ ad c, v = .slice (some ad) 64 c ∧ ∀ j u, (u8s (blockOf g a))[j]? = some u → W.cell? (ad.add j) = some u := by
  obtain ⟨a', c, h1, _, _, _, h5⟩ := own_cells h
  have hl : (crcLay (bodyOf g a) ++ [165]).length = 64 := blockOf_len g a
  rw [hl] at h1 h5
  obtain ⟨b, o, e, _⟩ := h5.at_ 0 _ (List.getElem?_eq_getElem (by rw [u8s_len, hl]; omega))
  subst e
  exact ⟨_, c, h1, h5.from_⟩
theorem Try_infoU8b : ∃ i, Try.prog.info? 5 = some i ∧ i.zero = some (.int .u8 0) ∧ i.size = 1 ∧ i.bytes = 1 := info_parts (by kernel_rfl)
end Go.Proofs.Ythpdcbklaapngaa

namespace Go.Dav
set_option linter.unusedVariables false
set_option linter.unusedSimpArgs false
open Go Go.RowKit
def numOf (l : List UInt8) : Nat := l.foldl (fun x c => x * 256 + c.toNat) 0
theorem numOf_snoc (l : List UInt8) (c : UInt8) : numOf (l ++ [c]) = numOf l * 256 + c.toNat := by simp [numOf]
theorem numFrom_lt : ∀ (l : List UInt8) (x : Nat), l.foldl (fun x c => x * 256 + c.toNat) x < (x + 1) * 256 ^ l.length
  | [], x => by simp
  | c :: l, x => by
    have h := numFrom_lt l (x * 256 + c.toNat)
    have hc := c.toNat_lt
    rw [List.foldl_cons, List.length_cons, Nat.pow_succ]
    refine Nat.lt_of_lt_of_le h ?_
    rw [Nat.mul_comm (256 ^ l.length) 256, ← Nat.mul_assoc]
    exact Nat.mul_le_mul_right _ (by omega)
theorem numOf_lt (l : List UInt8) : numOf l < 256 ^ l.length := by
  have := numFrom_lt l 0
  simpa [numOf] using this
theorem bits_join8 {x c : Nat} (hx : x < 72057594037927936) (hc : c < 256) : bits .or .u64 ((x : Int) * 256) (c : Int) = ((x * 256 + c : Nat) : Int) := by
  rw [bits_join .u64 64 (by decide) (fun n h0 h1 => by rw [IntKind.wrap_u64]; omega) 8 ((x : Int) * 256) (c : Int) (by omega) (by omega) (by omega) (by omega) (by omega) (by omega)]
  omega
end Go.Dav
namespace Go.Proofs.Ythpdcbklaapngaa
set_option linter.unusedVariables false
set_option linter.unusedSimpArgs false
open Go.RowKit Go.Dav
attribute [local go_sem] Gives ite_val ite_val_true

set_option maxRecDepth 8000 in
set_option maxHeartbeats 4000000 in
theorem Try_number (a : Option Addr) (n c : Nat) (l : List UInt8) (w : World) (hl : BytesAt w a n c l) (hn : n ≤ 8) :
    Calls Try.prog 28 #[.slice a n c] w fun e w' => e = .returned (.int .u64 (numOf l : Int)) ∧ Below w.heap.size w w' := by
  have HL := Lib.hid hl
  have hn' : (n : Int) ≤ 8 := by omega
  clear hl
  go_enter Try.func28, Try.ntmps28
  go_wp2_with fail
  go_loopg [2, 7] n (fun g xx ix wr => ∃ k : Nat, k ≤ n ∧ g = n - k ∧ ix = .int .i64 k ∧ xx = .int .u64 (numOf (l.take k) : Int) ∧ w = wr)
  case atStart => exact ⟨0, Nat.zero_le _, rfl, rfl, rfl, rfl⟩
  case round =>
    obtain ⟨k, hk, rfl, rfl, rfl, rfl⟩ := hrel
    by_cases hkn : k < n
    · obtain ⟨y, hy⟩ : ∃ y, l[k]? = some y := ⟨_, List.getElem?_eq_getElem (by have := HL.out.hlen; omega)⟩
      obtain ⟨b, o, rfl, hb, hc⟩ := HL.out.hat k y hy
      have hkn' : (k : Int) < (n : Int) := by omega
      have hlt := numOf_lt (l.take k)
      rw [List.length_take, Nat.min_eq_left (by have := HL.out.hlen; omega)] at hlt
      have hp : 256 ^ k ≤ 256 ^ 7 := Nat.pow_le_pow_right (by omega) (by omega)
      obtain ⟨x, hx⟩ : ∃ x, numOf (l.take k) = x := ⟨_, rfl⟩
      rw [hx] at hlt ⊢
      have hxl : x < 72057594037927936 := Nat.lt_of_lt_of_le hlt hp
      have h1 : (x : Int) * 256 % 18446744073709551616 = (x : Int) * 256 := by omega
      have hyl := y.toNat_lt
      have h2 := bits_join8 hxl hyl
      have h3 : (y.toNat : Int) % 18446744073709551616 = (y.toNat : Int) := by omega
      obtain ⟨z, hz⟩ : ∃ z, x * 256 + y.toNat = z := ⟨_, rfl⟩
      rw [hz] at h2
      have HZ := Lib.hid hz
      have HX := Lib.hid hx
      have HY := Lib.hid hy
      clear hy hlt hp hxl hyl hz hx hk
      go_wp2_with fail
      go_roundg (n - (k + 1))
      case measure => omega
      case rel => exact ⟨k + 1, by omega, rfl, by go_num, by rw [List.take_add_one, HY.out, Option.toList_some, numOf_snoc, HX.out, HZ.out], rfl⟩
    · obtain rfl : k = n := by omega
      have hkn' : ¬ (k : Int) < (k : Int) := by omega
      have HE := Lib.hid (show l.take k = l from List.take_of_length_le (by have := HL.out.hlen; omega))
      clear hkn
      go_wp2
      go_ret
      exact ⟨by rw [HE.out]; rfl, Below.refl _ _⟩
end Go.Proofs.Ythpdcbklaapngaa

namespace Go.Dav
set_option linter.unusedVariables false
set_option linter.unusedSimpArgs false
open Go Go.RowKit
theorem bytes_part {W : World} {p t o n c : Nat} {l : List UInt8} (h : Blk W p (u8s l) t) (h1 : o + n ≤ l.length) (h2 : n ≤ c) (h3 : c ≤ 1000) : BytesAt W (some ⟨p, o, none⟩) n c ((l.drop o).take n) := by
  refine ⟨by rw [List.length_take, List.length_drop]; omega, h2, by unfold maxLen; omega, by omega, fun k x hk => ?_, fun e => by cases e⟩
  rw [List.getElem?_take] at hk
  split at hk
  · rw [List.getElem?_drop] at hk
    exact ⟨p, o, rfl, h.lt, h.cell (o + k) (u8s_get hk)⟩
  · cases hk
def genOf (l : List UInt8) : Nat := numOf ((l.drop 1).take 8)
def atOf (l : List UInt8) : Nat := numOf ((l.drop 9).take 4)
/-- Is this the block of a header? -/
def isOf (l : List UInt8) : Bool := (HeadD.mk (genOf l) (atOf l : Int)).right && decide (blockOf (genOf l) (atOf l) = l)
theorem genOf_lt (l : List UInt8) : genOf l < 18446744073709551616 := by
  have h := numOf_lt ((l.drop 1).take 8)
  have h2 : 256 ^ ((l.drop 1).take 8).length ≤ 256 ^ 8 := Nat.pow_le_pow_right (by omega) (by rw [List.length_take]; omega)
  exact Nat.lt_of_lt_of_le h h2
theorem atOf_lt (l : List UInt8) : atOf l < 4294967296 := by
  have h := numOf_lt ((l.drop 9).take 4)
  have h2 : 256 ^ ((l.drop 9).take 4).length ≤ 256 ^ 4 := Nat.pow_le_pow_right (by omega) (by rw [List.length_take]; omega)
  exact Nat.lt_of_lt_of_le h h2
theorem blockOf_first (g a : Nat) : (blockOf g a)[0]? = some 1 := by simp [blockOf, crcLay, bodyOf, headOf]
theorem isOf_first {l : List UInt8} (h : isOf l = true) : l[0]? = some 1 := by
  unfold isOf at h
  simp at h
  rw [← h.2]
  exact blockOf_first _ _
/-- What Block answers. -/
def blkOf (h : HeadD) : List UInt8 := if h.right = true then blockOf h.gen h.at_.toNat else List.replicate 64 0
theorem blkOf_len (h : HeadD) : (blkOf h).length = 64 := by unfold blkOf; split <;> simp [blockOf_len]
theorem isOf_blk {l : List UInt8} (h0 : l[0]? = some 1) : isOf l = (blkOf ⟨genOf l, atOf l⟩ == l) := by
  unfold isOf blkOf
  cases hr : (HeadD.mk (genOf l) (atOf l : Int)).right with
  | true =>
    rw [if_pos rfl, Bool.true_and]
    rw [Bool.eq_iff_iff]; simp
  | false =>
    rw [if_neg (by simp), Bool.false_and]
    symm
    rw [beq_eq_false_iff_ne]
    intro e
    rw [← e] at h0
    simp at h0
/-- What Says answers. -/
def saysOf (l : List UInt8) : Value := .tuple #[.agg #[.int .u64 ((if isOf l = true then genOf l else 0 : Nat) : Int), .int .i64 ((if isOf l = true then atOf l else 0 : Nat) : Int)], .bool (isOf l)]
theorem exec_neq_bytes {P : Program} {o : Oper} {a : Act} (w : World) (t e rt : TypeId) (n : Nat) (x y : Operand) (ho : o.op = .binOp .neq t x y rt) (ht : P.underlying t = some (.array n e)) (he : P.underlying e = some (.int .u8)) (hsz : ∀ w, (sizeOf e).run P w = .ok 1 w) (hm : P.eqGuardType P.depth t = false)
    (xs ys : List UInt8) (hx : a.eval x = .agg (u8s xs).toArray) (hy : a.eval y = .agg (u8s ys).toArray) (hlx : xs.length = n) (hly : ys.length = n) :
    (execOp a.eval o).run P w = .ok (.value (.bool (!(xs == ys)))) w := by
  have h1 := run_equalIn_bytes (P := P) w 9998 t e n ht he hsz xs ys hlx hly
  have h2 : (Op.equalIn 10000 t (.agg (u8s xs).toArray) (.agg (u8s ys).toArray)).run P w = .ok (xs == ys) w := h1
  unfold execOp
  simp [ho, hx, hy, run_eqGuard_agg _ _ _ _ _ _ _ hm, run_neq_struct, h2]
end Go.Dav
namespace Go.Proofs.Ythpdcbklaapngaa
set_option linter.unusedVariables false
set_option linter.unusedSimpArgs false
open Go.RowKit Go.Dav
attribute [local go_sem] Gives ite_val ite_val_true

theorem Try_Block (h : HeadD) (hf : h.Fits) (w : World) : Calls Try.prog 15 #[.agg #[.int .u64 (h.gen : Int), .int .i64 h.at_]] w fun e w' => e = .returned (.agg (u8s (blkOf h)).toArray) ∧ Below w.heap.size w w' := by
  cases hr : h.right with
  | false =>
    unfold blkOf
    rw [if_neg (by rw [hr]; decide)]
    exact Try_BlockNo h w hr
  | true =>
    unfold blkOf
    rw [if_pos hr]
    obtain ⟨g, a⟩ := h
    have hs := HeadD.right_spec.1 hr
    obtain ⟨m, rfl⟩ := Int.eq_ofNat_of_zero_le hs.2.1
    exact Try_BlockYes g m w hf.gen (by have := hs.2.2; dsimp only at this; omega) hr
theorem Try_enter28 (args : Array Value) (W : World) : (callFunc 28 args).run Try.prog W = .ok (Next.enter 28 args) W := by kernel_rfl
theorem Try_sizeU8 : ∀ w, (sizeOf 5).run Try.prog w = .ok 1 w := fun w => by kernel_rfl
theorem Try_guard64 : Try.prog.eqGuardType Try.prog.depth 50 = false := by kernel_rfl

set_option maxRecDepth 100000 in
set_option maxHeartbeats 8000000 in
theorem Try_Says (l : List UInt8) (hl : l.length = 64) (w : World) : Calls Try.prog 16 #[.agg (u8s l).toArray] w fun e w' => e = .returned (saysOf l) ∧ Below w.heap.size w w' := by
  have hen := Try_enter28
  have HL := Lib.hid hl
  obtain ⟨W0, hW0⟩ : ∃ W0, (w.alloc (.cells (u8s l).toArray 50)).alloc (.cells #[.int .u64 0, .int .i64 0] 30) = W0 := ⟨_, rfl⟩
  have hb1 : Blk W0 w.heap.size (u8s l) 50 := by rw [← hW0]; exact (Blk.new w _ _).alloc _
  have hb2 : Blk W0 (w.heap.size + 1) [.int .u64 0, .int .i64 0] 30 := by rw [← hW0]; exact Blk.new' _ _ _ (by simp)
  have bel0 : Below w.heap.size w W0 := by rw [← hW0]; exact (by repeat (first | (with_reducible exact Below.refl _ _) | (with_reducible exact Below.refl _ _) | (with_reducible refine Below.setCell ?_ (by first | omega | (simp; done) | (simp; omega)) _) | (with_reducible refine Below.alloc ?_ (by first | omega | (simp; done) | (simp; omega)) _) | (with_reducible refine Below.drew ?_) | (with_reducible refine below_drewN ?_ _)))
  have HW0 := Lib.hid hW0
  have HB1 := Lib.hid hb1
  have HB2 := Lib.hid hb2
  have BEL0 := Lib.hid bel0
  obtain ⟨g, hg⟩ : ∃ g, genOf l = g := ⟨_, rfl⟩
  obtain ⟨a, ha⟩ : ∃ a, atOf l = a := ⟨_, rfl⟩
  have hal := atOf_lt l
  have hgl := genOf_lt l
  rw [ha] at hal
  rw [hg] at hgl
  have HWA := Lib.hid (show IntKind.i64.wrap (a : Int) = (a : Int) by rw [IntKind.wrap_i64]; omega)
  have HG := Lib.hid hg
  have HA := Lib.hid ha
  have HAL := Lib.hid hal
  have HGL := Lib.hid hgl
  have l0 := hb1.lt
  clear hl hW0 hb1 hb2 bel0 hg ha hal hgl
  go_enter Try.func16, Try.ntmps16
  go_wp2_with fail
  rw [HW0.out]
  refine' wp_region_seq [.inl _, .inl _, .inl _, .inl _, .inl _, .inl _, .inl _, .inl _, .inr (NewBlk W0.heap.size [.int .u64 0, .int .i64 0] 30)] (by kernel_rfl) (by kernel_rfl) ?main1
  case main1 =>
    refine wpParts_det (by rfl) (fun W hE hN => ?_) ?_
    · go_simp; refine ⟨Below.refl _ _, ?_⟩; rfl
    simp only [Act.put, List.setIfInBounds_toArray, List.set_cons_zero, List.set_cons_succ]
    refine wpParts_det (by rfl) (fun W hE hN => ?_) ?_
    · go_simp; refine ⟨Below.refl _ _, ?_⟩; rfl
    simp only [Act.put, List.setIfInBounds_toArray, List.set_cons_zero, List.set_cons_succ]
    refine wpParts_det (by rfl) (fun W hE hN => ?_) ?_
    · go_simp; refine ⟨Below.refl _ _, ?_⟩; refine (Try_number (some ⟨w.heap.size, 1, none⟩) 8 63 ((l.drop 1).take 8) W (bytes_part (HB1.out.ext hE) (by rw [HL.out]; omega) (by omega) (by omega)) (by omega)).mono ?_; rintro e w' ⟨rfl, hb⟩; refine ⟨?_, hb⟩; exact congrArg (fun z : Nat => Ending.returned (Value.int .u64 (z : Int))) HG.out
    simp only [Act.put, List.setIfInBounds_toArray, List.set_cons_zero, List.set_cons_succ]
    refine wpParts_det (by rfl) (fun W hE hN => ?_) ?_
    · go_simp; refine ⟨Below.refl _ _, ?_⟩; rfl
    simp only [Act.put, List.setIfInBounds_toArray, List.set_cons_zero, List.set_cons_succ]
    refine wpParts_det (by rfl) (fun W hE hN => ?_) ?_
    · go_simp; refine ⟨Below.refl _ _, ?_⟩; rfl
    simp only [Act.put, List.setIfInBounds_toArray, List.set_cons_zero, List.set_cons_succ]
    refine wpParts_det (by rfl) (fun W hE hN => ?_) ?_
    · go_simp; refine ⟨Below.refl _ _, ?_⟩; refine (Try_number (some ⟨w.heap.size, 9, none⟩) 4 55 ((l.drop 9).take 4) W (bytes_part (HB1.out.ext hE) (by rw [HL.out]; omega) (by omega) (by omega)) (by omega)).mono ?_; rintro e w' ⟨rfl, hb⟩; refine ⟨?_, hb⟩; exact congrArg (fun z : Nat => Ending.returned (Value.int .u64 (z : Int))) HA.out
    simp only [Act.put, List.setIfInBounds_toArray, List.set_cons_zero, List.set_cons_succ]
    refine wpParts_det (by rfl) (fun W hE hN => ?_) ?_
    · go_simp; refine ⟨Below.refl _ _, ?_⟩; rfl
    simp only [Act.put, List.setIfInBounds_toArray, List.set_cons_zero, List.set_cons_succ]
    refine wpParts_det (by rfl) (fun W hE hN => ?_) ?_
    · go_simp; refine ⟨Below.refl _ _, ?_⟩; rfl
    simp only [Act.put, List.setIfInBounds_toArray, List.set_cons_zero, List.set_cons_succ]
    refine wpParts_any rfl (NewBlk.later) (by rfl) (fun W hE hN => ?_) (fun u8 => ?_)
    · go_simp; exact newBlk_alloc (cs := [.int .u64 0, .int .i64 0]) hE.size
    simp only [Act.put, List.setIfInBounds_toArray, List.set_cons_zero, List.set_cons_succ]
    refine wpParts_end fun W1 hE1 hG1 => ?_
    have hcW1 := fun b o h => hE1.cell (p := ⟨b, o, none⟩) h
    have hfW1 := fun b o h => hE1.frozen (p := ⟨b, o, none⟩) h
    obtain ⟨⟨p5, rfl, hp5, hk5⟩, _⟩ := hG1
    have q5 := hk5.cells
    have m5 := hk5.marks
    have l5 := hk5.lt
    have HK5 := Lib.hid hk5
    have HB11 := Lib.hid (HB1.out.ext hE1)
    have HB21 := Lib.hid (HB2.out.ext hE1)
    have BEL1 := Lib.hid (BEL0.out.trans (hE1.mono BEL0.out.size))
    have HP5 := Lib.hid (show w.heap.size ≠ p5 ∧ w.heap.size + 1 ≠ p5 ∧ w.heap.size ≤ p5 by have := HB1.out.lt; have := HB2.out.lt; omega)
    have hne1 : w.heap.size ≠ p5 := HP5.out.1
    have hwa := HWA.out
    clear hk5 hE1 hcW1 hfW1 HB1 HB2 BEL0 l0
    go_wp2_with fail
    rw [hwa]
    clear hwa
    obtain ⟨V, hV⟩ : ∃ V, (W1.setCell ⟨p5, 0, none⟩ (.int .u64 (g : Int))).setCell ⟨p5, 1, none⟩ (.int .i64 (a : Int)) = V := ⟨_, rfl⟩
    have o5 : Only p5 W1 V := by rw [← hV]; exact ((Only.refl _ _).set _ _).set _ _
    have HV5 := Lib.hid (show Blk V p5 [.int .u64 (g : Int), .int .i64 (a : Int)] 30 by rw [← hV]; exact (HK5.out.set 0 _).set 1 _)
    have HV1 := Lib.hid (HB11.out.only o5 HP5.out.1)
    have HV2 := Lib.hid (HB21.out.only o5 HP5.out.2.1)
    have BELV := Lib.hid (below_only BEL1.out o5 BEL1.out.size HP5.out.2.2)
    rw [hV]
    clear o5 hV q5 m5 l5 HK5 HB11 HB21 BEL1
    have q5 := HV5.out.cells
    have l5 := HV5.out.lt
    have l1 := HV1.out.lt
    obtain ⟨b0, hb0⟩ : ∃ b0, l[0]? = some b0 := ⟨_, List.getElem?_eq_getElem (by rw [HL.out]; omega)⟩
    have c0 : V.cell? ⟨w.heap.size, 0, none⟩ = some (.int .u8 (b0.toNat : Int)) := HV1.out.cell 0 (u8s_get hb0)
    by_cases h1 : b0 = 1
    · subst h1
      have hh : (HeadD.mk g (a : Int)).Fits := ⟨HGL.out, by have := HAL.out; unfold I64'; dsimp only; omega⟩
      have HH := Lib.hid hh
      clear hh
      have heq := isOf_blk hb0
      rw [HG.out, HA.out] at heq
      cases hv : isOf l with
      | true =>
        rw [hv] at heq
        have HEQ := Lib.hid heq.symm
        have HVV := Lib.hid hv
        clear heq hv
        refine' wp_region_seq [.inl _, .inl _, .inl _, .inl _, .inl _, .inl _, .inl _, .inl _, .inl _] (by kernel_rfl) (by kernel_rfl) ?main2
        case main2 =>
          refine wpParts_det (by rfl) (fun W hE hN => ?_) ?_
          · go_simp; refine ⟨Below.refl _ _, ?_⟩; rfl
          simp only [Act.put, List.setIfInBounds_toArray, List.set_cons_zero, List.set_cons_succ]
          refine wpParts_det (by rfl) (fun W hE hN => ?_) ?_
          · have hc := fun b o h => hE.cell (p := ⟨b, o, none⟩) h
            go_simp; refine ⟨Below.refl _ _, ?_⟩; rfl
          simp only [Act.put, List.setIfInBounds_toArray, List.set_cons_zero, List.set_cons_succ]
          refine wpParts_det (by rfl) (fun W hE hN => ?_) ?_
          · go_simp; refine ⟨Below.refl _ _, ?_⟩; rfl
          simp only [Act.put, List.setIfInBounds_toArray, List.set_cons_zero, List.set_cons_succ]
          refine wpParts_det (by rfl) (fun W hE hN => ?_) ?_
          · go_simp; refine ⟨Below.refl _ _, ?_⟩; rfl
          simp only [Act.put, List.setIfInBounds_toArray, List.set_cons_zero, List.set_cons_succ]
          refine wpParts_det (by rfl) (fun W hE hN => ?_) ?_
          · have hc := fun b o h => hE.cell (p := ⟨b, o, none⟩) h
            go_simp; refine ⟨Below.refl _ _, ?_⟩; rfl
          simp only [Act.put, List.setIfInBounds_toArray, List.set_cons_zero, List.set_cons_succ]
          refine wpParts_det (by rfl) (fun W hE hN => ?_) ?_
          · go_simp; refine ⟨Below.refl _ _, ?_⟩; refine (Try_Block ⟨g, a⟩ HH.out W).mono ?_; rintro e w' ⟨rfl, hb⟩; refine ⟨?_, hb⟩; rfl
          simp only [Act.put, List.setIfInBounds_toArray, List.set_cons_zero, List.set_cons_succ]
          refine wpParts_det (by rfl) (fun W hE hN => ?_) ?_
          · unfold Gives; rw [exec_load_cells W ⟨w.heap.size, 0, none⟩ 50 _ rfl rfl (u8s l) _ ((cells_of_blk (HV1.out.ext hE)).from_) Try.underlying50 rfl (by rw [Try_size64, u8s_len, HL.out])]; dsimp only; refine ⟨Below.refl _ _, ?_⟩; rfl
          simp only [Act.put, List.setIfInBounds_toArray, List.set_cons_zero, List.set_cons_succ]
          refine wpParts_det (by rfl) (fun W hE hN => ?_) ?_
          · unfold Gives; rw [exec_neq_bytes W 50 5 _ 64 _ _ rfl Try.underlying50 Try.underlying5 Try_sizeU8 Try_guard64 (blkOf ⟨g, a⟩) l rfl rfl (blkOf_len _) HL.out, HEQ.out]; dsimp only; refine ⟨Below.refl _ _, ?_⟩; rfl
          simp only [Act.put, List.setIfInBounds_toArray, List.set_cons_zero, List.set_cons_succ]
          refine wpParts_det (by rfl) (fun W hE hN => ?_) ?_
          · go_simp; refine ⟨Below.refl _ _, ?_⟩; rfl
          simp only [Act.put, List.setIfInBounds_toArray, List.set_cons_zero, List.set_cons_succ]
          refine wpParts_end fun W2 hE2 hG2 => ?_
          have hcW2 := fun b o h => hE2.cell (p := ⟨b, o, none⟩) h
          have hfW2 := fun b o h => hE2.frozen (p := ⟨b, o, none⟩) h
          have q52 := (HV5.out.ext hE2).cells
          have l52 := (HV5.out.ext hE2).lt
          have HV22 := Lib.hid (HV2.out.ext hE2)
          have m22 := HV22.out.marks
          have q22 := HV22.out.cells
          have l22 := HV22.out.lt
          have BEL2 := Lib.hid (BELV.out.trans (hE2.mono BELV.out.size))
          clear hE2 hG2 hcW2 hfW2 q5 l5 l1 c0
          go_wp2_with fail
          have c2 := ((HV22.out.set 0 (.int .u64 (g : Int))).set 1 (.int .i64 (a : Int))).cells
          refine bodyPost_ret (v := .tuple #[.agg #[.int .u64 (g : Int), .int .i64 (a : Int)], .bool true]) (by simp [results, Try.results16, go_sem, c2]) rfl ⟨by simp [saysOf, HVV.out, HG.out, HA.out], (by repeat (first | (with_reducible exact Below.refl _ _) | (with_reducible exact Below.refl _ _) | (with_reducible refine Below.setCell ?_ (by first | omega | (simp; done) | (simp; omega)) _) | (with_reducible refine Below.alloc ?_ (by first | omega | (simp; done) | (simp; omega)) _) | (with_reducible refine Below.drew ?_) | (with_reducible refine below_drewN ?_ _) | (with_reducible refine Below.trans ?_ (BEL2.out.mono (by first | omega | (simp; done) | (simp; omega))))))⟩
      | false =>
        rw [hv] at heq
        have HEQ := Lib.hid heq.symm
        have HVV := Lib.hid hv
        clear heq hv
        refine' wp_region_seq [.inl _, .inl _, .inl _, .inl _, .inl _, .inl _, .inl _, .inl _, .inl _] (by kernel_rfl) (by kernel_rfl) ?main3
        case main3 =>
          refine wpParts_det (by rfl) (fun W hE hN => ?_) ?_
          · go_simp; refine ⟨Below.refl _ _, ?_⟩; rfl
          simp only [Act.put, List.setIfInBounds_toArray, List.set_cons_zero, List.set_cons_succ]
          refine wpParts_det (by rfl) (fun W hE hN => ?_) ?_
          · have hc := fun b o h => hE.cell (p := ⟨b, o, none⟩) h
            go_simp; refine ⟨Below.refl _ _, ?_⟩; rfl
          simp only [Act.put, List.setIfInBounds_toArray, List.set_cons_zero, List.set_cons_succ]
          refine wpParts_det (by rfl) (fun W hE hN => ?_) ?_
          · go_simp; refine ⟨Below.refl _ _, ?_⟩; rfl
          simp only [Act.put, List.setIfInBounds_toArray, List.set_cons_zero, List.set_cons_succ]
          refine wpParts_det (by rfl) (fun W hE hN => ?_) ?_
          · go_simp; refine ⟨Below.refl _ _, ?_⟩; rfl
          simp only [Act.put, List.setIfInBounds_toArray, List.set_cons_zero, List.set_cons_succ]
          refine wpParts_det (by rfl) (fun W hE hN => ?_) ?_
          · have hc := fun b o h => hE.cell (p := ⟨b, o, none⟩) h
            go_simp; refine ⟨Below.refl _ _, ?_⟩; rfl
          simp only [Act.put, List.setIfInBounds_toArray, List.set_cons_zero, List.set_cons_succ]
          refine wpParts_det (by rfl) (fun W hE hN => ?_) ?_
          · go_simp; refine ⟨Below.refl _ _, ?_⟩; refine (Try_Block ⟨g, a⟩ HH.out W).mono ?_; rintro e w' ⟨rfl, hb⟩; refine ⟨?_, hb⟩; rfl
          simp only [Act.put, List.setIfInBounds_toArray, List.set_cons_zero, List.set_cons_succ]
          refine wpParts_det (by rfl) (fun W hE hN => ?_) ?_
          · unfold Gives; rw [exec_load_cells W ⟨w.heap.size, 0, none⟩ 50 _ rfl rfl (u8s l) _ ((cells_of_blk (HV1.out.ext hE)).from_) Try.underlying50 rfl (by rw [Try_size64, u8s_len, HL.out])]; dsimp only; refine ⟨Below.refl _ _, ?_⟩; rfl
          simp only [Act.put, List.setIfInBounds_toArray, List.set_cons_zero, List.set_cons_succ]
          refine wpParts_det (by rfl) (fun W hE hN => ?_) ?_
          · unfold Gives; rw [exec_neq_bytes W 50 5 _ 64 _ _ rfl Try.underlying50 Try.underlying5 Try_sizeU8 Try_guard64 (blkOf ⟨g, a⟩) l rfl rfl (blkOf_len _) HL.out, HEQ.out]; dsimp only; refine ⟨Below.refl _ _, ?_⟩; rfl
          simp only [Act.put, List.setIfInBounds_toArray, List.set_cons_zero, List.set_cons_succ]
          refine wpParts_det (by rfl) (fun W hE hN => ?_) ?_
          · go_simp; refine ⟨Below.refl _ _, ?_⟩; rfl
          simp only [Act.put, List.setIfInBounds_toArray, List.set_cons_zero, List.set_cons_succ]
          refine wpParts_end fun W2 hE2 hG2 => ?_
          have hcW2 := fun b o h => hE2.cell (p := ⟨b, o, none⟩) h
          have hfW2 := fun b o h => hE2.frozen (p := ⟨b, o, none⟩) h
          have q52 := (HV5.out.ext hE2).cells
          have l52 := (HV5.out.ext hE2).lt
          have HV22 := Lib.hid (HV2.out.ext hE2)
          have m22 := HV22.out.marks
          have q22 := HV22.out.cells
          have l22 := HV22.out.lt
          have BEL2 := Lib.hid (BELV.out.trans (hE2.mono BELV.out.size))
          clear hE2 hG2 hcW2 hfW2 q5 l5 l1 c0
          go_wp2_with fail
          have c2 := ((HV22.out.set 0 (.int .u64 0)).set 1 (.int .i64 0)).cells
          refine bodyPost_ret (v := .tuple #[.agg #[.int .u64 0, .int .i64 0], .bool false]) (by simp [results, Try.results16, go_sem, c2]) rfl ⟨by simp [saysOf, HVV.out], (by repeat (first | (with_reducible exact Below.refl _ _) | (with_reducible exact Below.refl _ _) | (with_reducible refine Below.setCell ?_ (by first | omega | (simp; done) | (simp; omega)) _) | (with_reducible refine Below.alloc ?_ (by first | omega | (simp; done) | (simp; omega)) _) | (with_reducible refine Below.drew ?_) | (with_reducible refine below_drewN ?_ _) | (with_reducible refine Below.trans ?_ (BEL2.out.mono (by first | omega | (simp; done) | (simp; omega))))))⟩
    · have hne : ((b0.toNat : Int) != 1) = true := by
        simp
        intro h
        exact h1 (by rw [← UInt8.toNat_inj]; exact_mod_cast h)
      have hv : isOf l = false := by
        cases hv : isOf l with
        | false => rfl
        | true => have h := isOf_first hv; rw [hb0] at h; exact absurd (Option.some.inj h) h1
      have HVV := Lib.hid hv
      clear h1 hv
      refine' wp_region_seq [.inl _, .inl _, .inl _, .inl _, .inl undef, .inl undef, .inl undef, .inl undef, .inl _] (by kernel_rfl) (by kernel_rfl) ?main4
      case main4 =>
        refine wpParts_det (by rfl) (fun W hE hN => ?_) ?_
        · go_simp; refine ⟨Below.refl _ _, ?_⟩; rfl
        simp only [Act.put, List.setIfInBounds_toArray, List.set_cons_zero, List.set_cons_succ]
        refine wpParts_det (by rfl) (fun W hE hN => ?_) ?_
        · have hc := fun b o h => hE.cell (p := ⟨b, o, none⟩) h
          go_simp; refine ⟨Below.refl _ _, ?_⟩; rfl
        simp only [Act.put, List.setIfInBounds_toArray, List.set_cons_zero, List.set_cons_succ]
        refine wpParts_det (by rfl) (fun W hE hN => ?_) ?_
        · go_simp; refine ⟨Below.refl _ _, ?_⟩; rfl
        simp only [Act.put, List.setIfInBounds_toArray, List.set_cons_zero, List.set_cons_succ]
        refine wpParts_det (by rfl) (fun W hE hN => ?_) ?_
        · go_simp; refine ⟨Below.refl _ _, ?_⟩; rfl
        simp only [Act.put, List.setIfInBounds_toArray, List.set_cons_zero, List.set_cons_succ]
        refine wpParts_skip ?_ ?_
        · rfl
        simp only [Act.put, List.setIfInBounds_toArray, List.set_cons_zero, List.set_cons_succ]
        refine wpParts_skip ?_ ?_
        · rfl
        simp only [Act.put, List.setIfInBounds_toArray, List.set_cons_zero, List.set_cons_succ]
        refine wpParts_skip ?_ ?_
        · rfl
        simp only [Act.put, List.setIfInBounds_toArray, List.set_cons_zero, List.set_cons_succ]
        refine wpParts_skip ?_ ?_
        · rfl
        simp only [Act.put, List.setIfInBounds_toArray, List.set_cons_zero, List.set_cons_succ]
        refine wpParts_det (by rfl) (fun W hE hN => ?_) ?_
        · go_simp; refine ⟨Below.refl _ _, ?_⟩; rfl
        simp only [Act.put, List.setIfInBounds_toArray, List.set_cons_zero, List.set_cons_succ]
        refine wpParts_end fun W2 hE2 hG2 => ?_
        have hcW2 := fun b o h => hE2.cell (p := ⟨b, o, none⟩) h
        have hfW2 := fun b o h => hE2.frozen (p := ⟨b, o, none⟩) h
        have q52 := (HV5.out.ext hE2).cells
        have l52 := (HV5.out.ext hE2).lt
        have HV22 := Lib.hid (HV2.out.ext hE2)
        have m22 := HV22.out.marks
        have q22 := HV22.out.cells
        have l22 := HV22.out.lt
        have BEL2 := Lib.hid (BELV.out.trans (hE2.mono BELV.out.size))
        clear hE2 hG2 hcW2 hfW2 q5 l5 l1 c0
        go_wp2_with fail
        have c2 := ((HV22.out.set 0 (.int .u64 0)).set 1 (.int .i64 0)).cells
        refine bodyPost_ret (v := .tuple #[.agg #[.int .u64 0, .int .i64 0], .bool false]) (by simp [results, Try.results16, go_sem, c2]) rfl ⟨by simp [saysOf, HVV.out], (by repeat (first | (with_reducible exact Below.refl _ _) | (with_reducible exact Below.refl _ _) | (with_reducible refine Below.setCell ?_ (by first | omega | (simp; done) | (simp; omega)) _) | (with_reducible refine Below.alloc ?_ (by first | omega | (simp; done) | (simp; omega)) _) | (with_reducible refine Below.drew ?_) | (with_reducible refine below_drewN ?_ _) | (with_reducible refine Below.trans ?_ (BEL2.out.mono (by first | omega | (simp; done) | (simp; omega))))))⟩
end Go.Proofs.Ythpdcbklaapngaa

namespace Go.Dav
set_option linter.unusedVariables false
set_option linter.unusedSimpArgs false
open Go Go.RowKit
theorem blockOf_last (g a : Nat) : (blockOf g a)[63]? = some 165 := by
  have h : (crcLay (bodyOf g a)).length = 63 := by rw [crcLay_len, bodyOf_len]
  unfold blockOf
  rw [List.getElem?_append_right (by omega), h]; rfl
theorem numOf_next {l : List UInt8} {o k : Nat} {y : UInt8} (h : l[o + k]? = some y) : numOf ((l.drop o).take (k + 1)) = numOf ((l.drop o).take k) * 256 + y.toNat := by
  rw [List.take_add_one, List.getElem?_drop, h, Option.toList_some, numOf_snoc]
end Go.Dav
namespace Go.Proofs.Ythpdcbklaapngaa
set_option linter.unusedVariables false
set_option linter.unusedSimpArgs false
open Go.RowKit Go.Dav
attribute [local go_sem] Gives ite_val ite_val_true

/-- The world in the loops: h stands in block p4. -/
def TrySaysRel (w : World) (l : List UInt8) (p4 g a : Nat) (wr : World) : Prop :=
  Blk wr p4 [.int .u64 (g : Int), .int .i64 (a : Int)] 30 ∧ Blk wr w.heap.size (u8s l) 50 ∧ Blk wr (w.heap.size + 1) [.int .u64 0, .int .i64 0] 30 ∧ Below w.heap.size w wr

end Go.Proofs.Ythpdcbklaapngaa

namespace Go.Dav
set_option linter.unusedVariables false
set_option linter.unusedSimpArgs false
open Go Go.RowKit
def padOf (n : Nat) : Nat := (64 - n % 64) % 64
def laidOf (n g a : Nat) : List UInt8 := List.replicate (padOf n) 0 ++ blockOf g a
end Go.Dav
namespace Go.Proofs.Ythpdcbklaapngaa
set_option linter.unusedVariables false
set_option linter.unusedSimpArgs false
open Go.RowKit Go.Dav
attribute [local go_sem] Gives ite_val ite_val_true

end Go.Proofs.Ythpdcbklaapngaa

namespace Go.Dav
set_option linter.unusedVariables false
set_option linter.unusedSimpArgs false
open Go Go.RowKit
def FileD.put (F : FileD) (h : HeadD) : FileD × Int :=
  if F.right = true then (if h.right = true then F.append (laidOf F.many h.gen h.at_.toNat) else (F, 220)) else (F, 200)
/-- A file; a file and an error. -/
def FileV (w : World) (S : Nat → Prop) (F : FileD) (v : Value) (W : World) : Prop :=
  ∃ fa fl fc la ll lc, v = .agg #[.slice fa fl fc, .slice la ll lc, .int .i64 F.fuse, .int .i64 F.fault, .bool F.off] ∧ FileS W (Or S w) fa fl fc la ll lc F
def FileTup (w : World) (S : Nat → Prop) (F : FileD) (err : Int) (v : Value) (W : World) : Prop :=
  ∃ fa fl fc la ll lc, v = .tuple #[.agg #[.slice fa fl fc, .slice la ll lc, .int .i64 F.fuse, .int .i64 F.fault, .bool F.off], .int .i64 err] ∧ FileS W (Or S w) fa fl fc la ll lc F
theorem FileV.later {w : World} {S : Nat → Prop} {F : FileD} : ∀ v W W', FileV w S F v W → Below W.heap.size W W' → FileV w S F v W' :=
  fun _ _ _ ⟨fa, fl, fc, la, ll, lc, h1, h2⟩ hb => ⟨fa, fl, fc, la, ll, lc, h1, h2.ext hb⟩
theorem FileTup.later {w : World} {S : Nat → Prop} {F : FileD} {err : Int} : ∀ v W W', FileTup w S F err v W → Below W.heap.size W W' → FileTup w S F err v W' :=
  fun _ _ _ ⟨fa, fl, fc, la, ll, lc, h1, h2⟩ hb => ⟨fa, fl, fc, la, ll, lc, h1, h2.ext hb⟩
/-- Bytes, wherever. -/
def AnyRow (x : List UInt8) (v : Value) (W : World) : Prop := ∃ a n c, v = .slice a n c ∧ BytesS W (fun _ => True) a n c x
theorem AnyRow.later {x : List UInt8} : ∀ v W W', AnyRow x v W → Below W.heap.size W W' → AnyRow x v W' := fun _ _ _ ⟨a, n, c, h1, h2⟩ hb => ⟨a, n, c, h1, h2.ext hb⟩
/-- A slice of zeros, in a block of its own. -/
def ZeroSl (B k : Nat) (t : TypeId) (v : Value) (W : World) : Prop := ∃ p, v = .slice (some ⟨p, 0, none⟩) k k ∧ B ≤ p ∧ Blk W p (u8s (List.replicate k 0)) t
theorem ZeroSl.later {B k : Nat} {t : TypeId} : ∀ v W W', ZeroSl B k t v W → Below W.heap.size W W' → ZeroSl B k t v W' := fun _ _ _ ⟨p, h1, h2, h3⟩ hb => ⟨p, h1, h2, h3.ext hb⟩
theorem padOf_lt (n : Nat) : padOf n < 64 := by unfold padOf; omega
theorem laidOf_len (n g a : Nat) : (laidOf n g a).length = padOf n + 64 := by unfold laidOf; rw [List.length_append, List.length_replicate, blockOf_len]
end Go.Dav
namespace Go.Proofs.Ythpdcbklaapngaa
set_option linter.unusedVariables false
set_option linter.unusedSimpArgs false
open Go.RowKit Go.Dav
attribute [local go_sem] Gives ite_val ite_val_true

theorem Try_appendLaid (n g a p6 p5 : Nat) (W : World) (ty : TypeId) (hc6 : Blk W p6 (u8s (List.replicate (padOf n) 0)) 5) (hk5 : Blk W p5 (u8s (blockOf g a)) 50) :
    ∃ v' w', (Builtin.append_ #[24, 24] ty #[.slice (some ⟨p6, 0, none⟩) (padOf n) (padOf n), .slice (some ⟨p5, 0, none⟩) 64 64]).run Try.prog W = .ok v' w' ∧ Below W.heap.size W w' ∧ AnyRow (laidOf n g a) v' w' := by
  have hp := padOf_lt n
  have h6 := cells_of_blk hc6
  rw [List.length_replicate] at h6
  have h5 := cells_of_blk hk5
  rw [blockOf_len] at h5
  obtain ⟨a', c', w', hr, h2, k1, k2, k3, hb⟩ := run_append_fullS (P := Try.prog) (W := W) Try_elemU8 ty (fun b => b = p6) (some ⟨p6, 0, none⟩) (padOf n) (u8s (List.replicate (padOf n) 0)) h6 (fun b => b = p5) (some ⟨p5, 0, none⟩) 64 64 (u8s (blockOf g a)) h5 (u8s_one _) (fun h => by cases h) (by unfold maxLen; omega) (by omega)
  have e : u8s (laidOf n g a) = u8s (List.replicate (padOf n) 0) ++ u8s (blockOf g a) := by unfold laidOf; rw [u8s_append]
  rw [← e] at h2
  exact ⟨_, w', hr, hb, a', _, c', rfl, BytesS.of_cells (h2.mono fun _ _ => trivial) k1 k2 (by omega) k3⟩

set_option maxRecDepth 100000 in
set_option maxHeartbeats 8000000 in
theorem Try_Put (F : FileD) (h : HeadD) (fa la : Option Addr) (fl fc ll lc : Nat) (w : World) (S : Nat → Prop) (hh : h.Fits) (hF : FileS w S fa fl fc la ll lc F) (hS : ∀ b, S b → b < w.heap.size) :
    Calls Try.prog 10 #[.agg #[.slice fa fl fc, .slice la ll lc, .int .i64 F.fuse, .int .i64 F.fault, .bool F.off], .agg #[.int .u64 (h.gen : Int), .int .i64 h.at_]] w (GivesFile w S (F.put h).1 (F.put h).2) := by
  have hW : Below w.heap.size w (((w.alloc (.cells [.slice fa fl fc, .slice la ll lc, .int .i64 F.fuse, .int .i64 F.fault, .bool F.off].toArray 27)).alloc (.cells #[.int .u64 (h.gen : Int), .int .i64 h.at_] 30)).alloc (.cells #[.slice none 0 0, .slice none 0 0, .int .i64 0, .int .i64 0, .bool false] 27)) := (by repeat (first | (with_reducible exact Below.refl _ _) | (with_reducible exact Below.refl _ _) | (with_reducible refine Below.setCell ?_ (by first | omega | (simp; done) | (simp; omega)) _) | (with_reducible refine Below.alloc ?_ (by first | omega | (simp; done) | (simp; omega)) _) | (with_reducible refine Below.drew ?_) | (with_reducible refine below_drewN ?_ _)))
  have hq := (Blk.new' (w.alloc (.cells [.slice fa fl fc, .slice la ll lc, .int .i64 F.fuse, .int .i64 F.fault, .bool F.off].toArray 27)) [.int .u64 (h.gen : Int), .int .i64 h.at_] 30 (p := w.heap.size + 1) (by simp)).alloc (o := (.cells #[.slice none 0 0, .slice none 0 0, .int .i64 0, .int .i64 0, .bool false] 27))
  have hf0 := ((Blk.new w [.slice fa fl fc, .slice la ll lc, .int .i64 F.fuse, .int .i64 F.fault, .bool F.off] 27).alloc (.cells #[.int .u64 (h.gen : Int), .int .i64 h.at_] 30)).alloc (o := (.cells #[.slice none 0 0, .slice none 0 0, .int .i64 0, .int .i64 0, .bool false] 27))
  have B0 := Blk.new' ((w.alloc (.cells [.slice fa fl fc, .slice la ll lc, .int .i64 F.fuse, .int .i64 F.fault, .bool F.off].toArray 27)).alloc (.cells #[.int .u64 (h.gen : Int), .int .i64 h.at_] 30)) [.slice none 0 0, .slice none 0 0, .int .i64 0, .int .i64 0, .bool false] 27 (p := w.heap.size + 1 + 1) (by simp)
  have HSS := Lib.hid hS
  have HF := Lib.hid (hF.ext hW)
  have HQ := Lib.hid hq
  have HFF := Lib.hid hf0
  have HB0 := Lib.hid B0
  have HH := Lib.hid hh
  clear hF hW hq hf0 B0 hS hh
  cases hr : F.right with
  | false =>
    have HV := Lib.hid (show F.put h = (F, 200) by unfold FileD.put; rw [if_neg (by rw [hr]; decide)])
    have herr : F.err = 200 := by unfold FileD.err; rw [if_neg (by rw [hr]; decide)]
    go_enter Try.func10, Try.ntmps10
    go_wp2_with fail
    refine (Try_Check F fa la fl fc ll lc _ HF.out.at_).mono ?_; rintro e w1 ⟨rfl, hb1⟩
    have hs1 := hb1.size
    simp only [World.size_alloc] at hs1
    rw [herr]
    have B1 := HB0.out.ext hb1
    have bel : Below w.heap.size w w1 := (by repeat (first | (with_reducible exact Below.refl _ _) | (with_reducible exact Below.refl _ _) | (with_reducible refine Below.setCell ?_ (by first | omega | (simp; done) | (simp; omega)) _) | (with_reducible refine Below.alloc ?_ (by first | omega | (simp; done) | (simp; omega)) _) | (with_reducible refine Below.drew ?_) | (with_reducible refine below_drewN ?_ _) | (with_reducible refine Below.trans ?_ (hb1.mono (by first | omega | (simp; done) | (simp; omega))))))
    have HR := Lib.hid ((HF.out.ext hb1).mono (T := Or S w1) fun b h => Or.inl h)
    have q0 := (HFF.out.ext hb1).cells
    have l0 := (HFF.out.ext hb1).lt
    have hr2 := ((((B1.set 0 (.slice fa fl fc)).set 1 (.slice la ll lc)).set 2 (.int .i64 (F).fuse)).set 3 (.int .i64 (F).fault)).set 4 (.bool (F).off)
    have c2 := hr2.cells
    have m2 := B1.marks
    have q2 := B1.cells
    have lB := B1.lt
    simp only [List.set_cons_zero, List.set_cons_succ] at c2
    go_wp2
    rw [HV.out]
    refine bodyPost_ret (v := .tuple #[.agg #[.slice fa fl fc, .slice la ll lc, .int .i64 (F).fuse, .int .i64 (F).fault, .bool (F).off], .int .i64 (200)]) (by simp [results, Try.results10, go_sem, c2]) rfl ⟨fa, fl, fc, la, ll, lc, rfl, ?_, ?_⟩
    · refine ((HR.out).same (Only.size (p := w.heap.size + 1 + 1) (by repeat (first | (with_reducible exact Only.refl _ _) | (with_reducible refine Only.set ?_ _ _) | (with_reducible refine Only.alloc ?_ _) | (with_reducible refine Only.drew ?_)))) (fun b h hlt => Only.block (p := w.heap.size + 1 + 1) (by repeat (first | (with_reducible exact Only.refl _ _) | (with_reducible refine Only.set ?_ _ _) | (with_reducible refine Only.alloc ?_ _) | (with_reducible refine Only.drew ?_))) b hlt ?_)).mono (T := Or S w) (fun b h => ?_)
      · rcases h with h | h
        · have := HSS.out b h; omega
        · (try simp at h); omega
      · rcases h with h | h
        · exact .inl h
        · exact .inr (by (try simp at h); omega)
    · exact (by repeat (first | (with_reducible exact Below.refl _ _) | (with_reducible exact Below.refl _ _) | (with_reducible refine Below.setCell ?_ (by first | omega | (simp; done) | (simp; omega)) _) | (with_reducible refine Below.alloc ?_ (by first | omega | (simp; done) | (simp; omega)) _) | (with_reducible refine Below.drew ?_) | (with_reducible refine below_drewN ?_ _) | (with_reducible refine Below.trans ?_ (bel.mono (by first | omega | (simp; done) | (simp; omega))))))
  | true =>
    have herr : F.err = 0 := by unfold FileD.err; rw [if_pos hr]
    go_enter Try.func10, Try.ntmps10
    go_wp2_with fail
    refine (Try_Check F fa la fl fc ll lc _ HF.out.at_).mono ?_; rintro e w1 ⟨rfl, hb1⟩
    have hs1 := hb1.size
    simp only [World.size_alloc] at hs1
    rw [herr]
    have HQ1 := Lib.hid (HQ.out.ext hb1)
    have HFF1 := Lib.hid (HFF.out.ext hb1)
    have HB1 := Lib.hid (HB0.out.ext hb1)
    have HF1 := Lib.hid (HF.out.ext hb1)
    have BEL1 := Lib.hid (show Below w.heap.size w w1 from (by repeat (first | (with_reducible exact Below.refl _ _) | (with_reducible exact Below.refl _ _) | (with_reducible refine Below.setCell ?_ (by first | omega | (simp; done) | (simp; omega)) _) | (with_reducible refine Below.alloc ?_ (by first | omega | (simp; done) | (simp; omega)) _) | (with_reducible refine Below.drew ?_) | (with_reducible refine below_drewN ?_ _) | (with_reducible refine Below.trans ?_ (hb1.mono (by first | omega | (simp; done) | (simp; omega)))))))
    have q1 := HQ1.out.cells
    have l1 := HQ1.out.lt
    clear hb1 HQ HFF HB0 HF
    go_wp2_with fail
    refine (Try_hCheck h w1).mono ?_; rintro e w2 ⟨rfl, hb2⟩
    have hs2 := hb2.size
    have HFF2 := Lib.hid (HFF1.out.ext hb2)
    have HQ2 := Lib.hid (HQ1.out.ext hb2)
    have HB2 := Lib.hid (HB1.out.ext hb2)
    have HF2 := Lib.hid (HF1.out.ext hb2)
    have BEL2 := Lib.hid (BEL1.out.trans (hb2.mono BEL1.out.size))
    clear hb2 HQ1 HFF1 HB1 HF1 BEL1 q1 l1
    have q0 := HFF2.out.cells
    have l0 := HFF2.out.lt
    cases hhr : h.right with
    | false =>
      have hherr : h.err = 220 := by unfold HeadD.err; rw [if_neg (by rw [hhr]; decide)]
      have HV := Lib.hid (show F.put h = (F, 220) by unfold FileD.put; rw [if_pos hr, if_neg (by rw [hhr]; decide)])
      rw [hherr]
      have B1 := HB2.out
      have bel := BEL2.out
      have HR := Lib.hid (HF2.out.mono (T := Or S w2) fun b h => Or.inl h)
      clear hhr hr
      have hr2 := ((((B1.set 0 (.slice fa fl fc)).set 1 (.slice la ll lc)).set 2 (.int .i64 (F).fuse)).set 3 (.int .i64 (F).fault)).set 4 (.bool (F).off)
      have c2 := hr2.cells
      have m2 := B1.marks
      have q2 := B1.cells
      have lB := B1.lt
      simp only [List.set_cons_zero, List.set_cons_succ] at c2
      go_wp2
      rw [HV.out]
      refine bodyPost_ret (v := .tuple #[.agg #[.slice fa fl fc, .slice la ll lc, .int .i64 (F).fuse, .int .i64 (F).fault, .bool (F).off], .int .i64 (220)]) (by simp [results, Try.results10, go_sem, c2]) rfl ⟨fa, fl, fc, la, ll, lc, rfl, ?_, ?_⟩
      · refine ((HR.out).same (Only.size (p := w.heap.size + 1 + 1) (by repeat (first | (with_reducible exact Only.refl _ _) | (with_reducible refine Only.set ?_ _ _) | (with_reducible refine Only.alloc ?_ _) | (with_reducible refine Only.drew ?_)))) (fun b h hlt => Only.block (p := w.heap.size + 1 + 1) (by repeat (first | (with_reducible exact Only.refl _ _) | (with_reducible refine Only.set ?_ _ _) | (with_reducible refine Only.alloc ?_ _) | (with_reducible refine Only.drew ?_))) b hlt ?_)).mono (T := Or S w) (fun b h => ?_)
        · rcases h with h | h
          · have := HSS.out b h; omega
          · (try simp at h); omega
        · rcases h with h | h
          · exact .inl h
          · exact .inr (by (try simp at h); omega)
      · exact (by repeat (first | (with_reducible exact Below.refl _ _) | (with_reducible exact Below.refl _ _) | (with_reducible refine Below.setCell ?_ (by first | omega | (simp; done) | (simp; omega)) _) | (with_reducible refine Below.alloc ?_ (by first | omega | (simp; done) | (simp; omega)) _) | (with_reducible refine Below.drew ?_) | (with_reducible refine below_drewN ?_ _) | (with_reducible refine Below.trans ?_ (bel.mono (by first | omega | (simp; done) | (simp; omega))))))
    | true =>
      have hherr : h.err = 0 := by unfold HeadD.err; rw [if_pos hhr]
      obtain ⟨m, hm⟩ : ∃ m, F.many = m := ⟨_, rfl⟩
      have hmx := (FileD.right_spec.1 hr).2.2.2.2
      rw [hm] at hmx
      obtain ⟨g, a0⟩ := h
      have hs := HeadD.right_spec.1 hhr
      obtain ⟨a, rfl⟩ := Int.eq_ofNat_of_zero_le hs.2.1
      have HV0 := Lib.hid (show F.put ⟨g, (a : Int)⟩ = F.append (laidOf m g a) by unfold FileD.put; rw [if_pos hr, if_pos hhr, hm]; rfl)
      have HBK := Lib.hid (show blkOf ⟨g, (a : Int)⟩ = blockOf g a by unfold blkOf; rw [if_pos hhr]; rfl)
      rw [hherr]
      dsimp only
      go_wp2_with fail
      have hL := Try_Len F fa la fl fc ll lc w2 HF2.out.at_
      rw [if_pos hr, hm] at hL
      have HL := Lib.hid hL
      clear hL hhr hr herr hherr hs hm
      refine HL.out.mono ?_; rintro e w3 ⟨rfl, hb3⟩
      have hs3 := hb3.size
      have HFF3 := Lib.hid (HFF2.out.ext hb3)
      have HQ3 := Lib.hid (HQ2.out.ext hb3)
      have HB3 := Lib.hid (HB2.out.ext hb3)
      have HF3 := Lib.hid (HF2.out.ext hb3)
      have BEL3 := Lib.hid (BEL2.out.trans (hb3.mono BEL2.out.size))
      clear hb3 HQ2 HFF2 HB2 HF2 BEL2 q0 l0 HL
      have q1 := HQ3.out.cells
      have l1 := HQ3.out.lt
      have htm : (m : Int).tmod 64 = ((m % 64 : Nat) : Int) := by rw [Int.tmod_eq_emod_of_nonneg (by omega)]; omega
      go_wp2_with fail
      have hA := Try_Block ⟨g, (a : Int)⟩ HH.out w3
      rw [HBK.out] at hA
      refine hA.mono ?_; rintro e w4 ⟨rfl, hb4⟩
      clear hA
      have hs4 := hb4.size
      have HFF4 := Lib.hid (HFF3.out.ext hb4)
      have HB4 := Lib.hid (HB3.out.ext hb4)
      have HF4 := Lib.hid (HF3.out.ext hb4)
      have BEL4 := Lib.hid (BEL3.out.trans (hb4.mono BEL3.out.size))
      clear hb4 HQ3 HFF3 HB3 HF3 BEL3 q1 l1
      have HBz := Lib.hid (show Blk (w4.alloc (.cells #[.int .u8 0, .int .u8 0, .int .u8 0, .int .u8 0, .int .u8 0, .int .u8 0, .int .u8 0, .int .u8 0, .int .u8 0, .int .u8 0, .int .u8 0, .int .u8 0, .int .u8 0, .int .u8 0, .int .u8 0, .int .u8 0, .int .u8 0, .int .u8 0, .int .u8 0, .int .u8 0, .int .u8 0, .int .u8 0, .int .u8 0, .int .u8 0, .int .u8 0, .int .u8 0, .int .u8 0, .int .u8 0, .int .u8 0, .int .u8 0, .int .u8 0, .int .u8 0, .int .u8 0, .int .u8 0, .int .u8 0, .int .u8 0, .int .u8 0, .int .u8 0, .int .u8 0, .int .u8 0, .int .u8 0, .int .u8 0, .int .u8 0, .int .u8 0, .int .u8 0, .int .u8 0, .int .u8 0, .int .u8 0, .int .u8 0, .int .u8 0, .int .u8 0, .int .u8 0, .int .u8 0, .int .u8 0, .int .u8 0, .int .u8 0, .int .u8 0, .int .u8 0, .int .u8 0, .int .u8 0, .int .u8 0, .int .u8 0, .int .u8 0, .int .u8 0] 50)) w4.heap.size (u8s (List.replicate 64 0)) 50 from Blk.new w4 _ _)
      go_wp2_with (first | (refine wpList_store_row rfl 50 (.tmp 8) (.tmp 23) rfl w4.heap.size (u8s (blockOf g a)).toArray rfl rfl 50 (u8s (List.replicate 64 0)).toArray HBz.out (Try_size64_of (blockOf_len g a)) (by simp [u8s_len, blockOf_len]) (u8s_all _) ?_))
      obtain ⟨V, hV⟩ : ∃ V, (w4.alloc (.cells #[.int .u8 0, .int .u8 0, .int .u8 0, .int .u8 0, .int .u8 0, .int .u8 0, .int .u8 0, .int .u8 0, .int .u8 0, .int .u8 0, .int .u8 0, .int .u8 0, .int .u8 0, .int .u8 0, .int .u8 0, .int .u8 0, .int .u8 0, .int .u8 0, .int .u8 0, .int .u8 0, .int .u8 0, .int .u8 0, .int .u8 0, .int .u8 0, .int .u8 0, .int .u8 0, .int .u8 0, .int .u8 0, .int .u8 0, .int .u8 0, .int .u8 0, .int .u8 0, .int .u8 0, .int .u8 0, .int .u8 0, .int .u8 0, .int .u8 0, .int .u8 0, .int .u8 0, .int .u8 0, .int .u8 0, .int .u8 0, .int .u8 0, .int .u8 0, .int .u8 0, .int .u8 0, .int .u8 0, .int .u8 0, .int .u8 0, .int .u8 0, .int .u8 0, .int .u8 0, .int .u8 0, .int .u8 0, .int .u8 0, .int .u8 0, .int .u8 0, .int .u8 0, .int .u8 0, .int .u8 0, .int .u8 0, .int .u8 0, .int .u8 0, .int .u8 0] 50)).setRow w4.heap.size (u8s (blockOf g a)).toArray = V := ⟨_, rfl⟩
      have hb4V : Below w4.heap.size w4 V := by rw [← hV]; exact below_only ((Below.refl _ w4).alloc (Nat.le_refl _) _) (only_row _ _ _) (by simp) (Nat.le_refl _)
      have hVk : Blk V w4.heap.size (u8s (blockOf g a)) 50 := by rw [← hV]; exact blk_row (ds := u8s (blockOf g a)) HBz.out
      rw [hV]
      have HFF5 := Lib.hid (HFF4.out.ext hb4V)
      have HB5 := Lib.hid (HB4.out.ext hb4V)
      have HF5 := Lib.hid (HF4.out.ext hb4V)
      have BEL5 := Lib.hid (BEL4.out.trans (hb4V.mono BEL4.out.size))
      have HVK := Lib.hid hVk
      have hsV := hb4V.size
      have hsV' : w.heap.size ≤ V.heap.size := by omega
      clear hV hb4V hVk HBz HFF4 HB4 HF4 BEL4
      have q1 := HFF5.out.cells
      have l1 := HFF5.out.lt
      have lB := HB5.out.lt
      have hw1 : IntKind.i64.wrap (64 - (m : Int) % 64) = 64 - (m : Int) % 64 := IntWalk.i64_in _ (by omega)
      have htm2 : (64 - (m : Int) % 64).tmod 64 = (padOf m : Int) := by rw [Int.tmod_eq_emod_of_nonneg (by omega)]; unfold padOf; omega
      have hmk := Try_makeN (padOf m) (by have := padOf_lt m; omega)
      obtain ⟨F7, e7, hV⟩ : ∃ F7 e7, F.append (laidOf m g a) = (F7, e7) := ⟨_, _, rfl⟩
      have HV := Lib.hid (HV0.out.trans hV)
      have HAP := Lib.hid hV
      clear HV0 hV
      refine' wp_region_seq [.inl _, .inl _, .inl _, .inl _, .inr (ZeroSl V.heap.size (padOf m) 5), .inl _, .inr (AnyRow (laidOf m g a)), .inr (FileTup V S F7 e7), .inr (FileV V S F7), .inl _] (by kernel_rfl) (by kernel_rfl) ?main1
      case main1 =>
        refine wpParts_det (by rfl) (fun W hE hN => ?_) ?_
        · have hc := fun b o h => hE.cell (p := ⟨b, o, none⟩) h
          go_simp; refine ⟨Below.refl _ _, ?_⟩; rfl
        simp only [Act.put, List.setIfInBounds_toArray, List.set_cons_zero, List.set_cons_succ]
        refine wpParts_det (by rfl) (fun W hE hN => ?_) ?_
        · go_simp; refine ⟨Below.refl _ _, ?_⟩; rfl
        simp only [Act.put, List.setIfInBounds_toArray, List.set_cons_zero, List.set_cons_succ]
        refine wpParts_det (by rfl) (fun W hE hN => ?_) ?_
        · go_simp; refine ⟨Below.refl _ _, ?_⟩; rfl
        simp only [Act.put, List.setIfInBounds_toArray, List.set_cons_zero, List.set_cons_succ]
        refine wpParts_det (by rfl) (fun W hE hN => ?_) ?_
        · go_simp; refine ⟨Below.refl _ _, ?_⟩; rfl
        simp only [Act.put, List.setIfInBounds_toArray, List.set_cons_zero, List.set_cons_succ]
        refine wpParts_any rfl (ZeroSl.later) (by rfl) (fun W hE hN => ?_) (fun u4 => ?_)
        · go_simp; exact ⟨(Below.refl _ _).alloc (Nat.le_refl _) _, _, rfl, hE.size, Blk.new _ _ _⟩
        simp only [Act.put, List.setIfInBounds_toArray, List.set_cons_zero, List.set_cons_succ]
        refine wpParts_det (by rfl) (fun W hE hN => ?_) ?_
        · go_simp; refine ⟨Below.refl _ _, ?_⟩; rfl
        simp only [Act.put, List.setIfInBounds_toArray, List.set_cons_zero, List.set_cons_succ]
        refine wpParts_any rfl (AnyRow.later) (by rfl) (fun W hE hN => ?_) (fun u6 => ?_)
        · simp [near, Oper.looksAt, Op.operands, Call.operands] at hN; obtain ⟨p6, rfl, hp6, hk6⟩ := hN; obtain ⟨v', w', hr, hb, hR⟩ := Try_appendLaid m g a p6 w4.heap.size W 24 hk6 (HVK.out.ext hE); exact gives_append rfl rfl rfl hr hb hR
        simp only [Act.put, List.setIfInBounds_toArray, List.set_cons_zero, List.set_cons_succ]
        refine wpParts_any rfl (FileTup.later) (by rfl) (fun W hE hN => ?_) (fun u7 => ?_)
        · simp [near, Oper.looksAt, Op.operands, Call.operands] at hN; obtain ⟨ba, bl, bc, rfl, hB⟩ := hN; go_simp; refine ⟨Below.refl _ _, ?_⟩; have hA := Try_Append F fa la ba fl fc ll lc bl bc (laidOf m g a) W S (fun _ => True) (HF5.out.ext hE) (fun b h => by have := HSS.out b h; have := hE.size; omega) hB; rw [HAP.out] at hA; refine hA.mono ?_; rintro e w' ⟨ga, gl, gc, ma, ml, mc, rfl, hR, hb⟩; exact ⟨_, rfl, hb, ga, gl, gc, ma, ml, mc, rfl, hR.mono fun b h => h.imp id fun h => Nat.le_trans hE.size h⟩
        simp only [Act.put, List.setIfInBounds_toArray, List.set_cons_zero, List.set_cons_succ]
        refine wpParts_any rfl (FileV.later) (by rfl) (fun W hE hN => ?_) (fun u8 => ?_)
        · simp [near, Oper.looksAt, Op.operands] at hN; obtain ⟨ga, gl, gc, ma, ml, mc, rfl, hR⟩ := hN; go_simp; exact ⟨Below.refl _ _, ga, gl, gc, ma, ml, mc, rfl, hR⟩
        simp only [Act.put, List.setIfInBounds_toArray, List.set_cons_zero, List.set_cons_succ]
        refine wpParts_det (by rfl) (fun W hE hN => ?_) ?_
        · simp [near, Oper.looksAt, Op.operands] at hN; obtain ⟨ga, gl, gc, ma, ml, mc, rfl, hR⟩ := hN; go_simp; refine ⟨Below.refl _ _, ?_⟩; rfl
        simp only [Act.put, List.setIfInBounds_toArray, List.set_cons_zero, List.set_cons_succ]
        refine wpParts_end fun W6 hE6 hG6 => ?_
        have hcW6 := fun b o h => hE6.cell (p := ⟨b, o, none⟩) h
        have hfW6 := fun b o h => hE6.frozen (p := ⟨b, o, none⟩) h
        obtain ⟨⟨ga, gl, gc, ma, ml, mc, rfl, hR⟩, _⟩ := hG6
        have B1 := HB5.out.ext hE6
        have bel := BEL5.out.trans (hE6.mono hsV')
        have hs6 := hE6.size
        have HR := Lib.hid hR
        clear hR hE6 hcW6 hfW6 q1 l1 lB hmk htm2 hw1 htm HF5 HFF5 HVK
        have hr2 := ((((B1.set 0 (.slice ga gl gc)).set 1 (.slice ma ml mc)).set 2 (.int .i64 (F7).fuse)).set 3 (.int .i64 (F7).fault)).set 4 (.bool (F7).off)
        have c2 := hr2.cells
        have m2 := B1.marks
        have q2 := B1.cells
        have lB := B1.lt
        simp only [List.set_cons_zero, List.set_cons_succ] at c2
        go_wp2
        rw [HV.out]
        refine bodyPost_ret (v := .tuple #[.agg #[.slice ga gl gc, .slice ma ml mc, .int .i64 (F7).fuse, .int .i64 (F7).fault, .bool (F7).off], .int .i64 (e7)]) (by simp [results, Try.results10, go_sem, c2]) rfl ⟨ga, gl, gc, ma, ml, mc, rfl, ?_, ?_⟩
        · refine ((HR.out).same (Only.size (p := w.heap.size + 1 + 1) (by repeat (first | (with_reducible exact Only.refl _ _) | (with_reducible refine Only.set ?_ _ _) | (with_reducible refine Only.alloc ?_ _) | (with_reducible refine Only.drew ?_)))) (fun b h hlt => Only.block (p := w.heap.size + 1 + 1) (by repeat (first | (with_reducible exact Only.refl _ _) | (with_reducible refine Only.set ?_ _ _) | (with_reducible refine Only.alloc ?_ _) | (with_reducible refine Only.drew ?_))) b hlt ?_)).mono (T := Or S w) (fun b h => ?_)
          · rcases h with h | h
            · have := HSS.out b h; omega
            · (try simp at h); omega
          · rcases h with h | h
            · exact .inl h
            · exact .inr (by (try simp at h); omega)
        · exact (by repeat (first | (with_reducible exact Below.refl _ _) | (with_reducible exact Below.refl _ _) | (with_reducible refine Below.setCell ?_ (by first | omega | (simp; done) | (simp; omega)) _) | (with_reducible refine Below.alloc ?_ (by first | omega | (simp; done) | (simp; omega)) _) | (with_reducible refine Below.drew ?_) | (with_reducible refine below_drewN ?_ _) | (with_reducible refine Below.trans ?_ (bel.mono (by first | omega | (simp; done) | (simp; omega))))))
end Go.Proofs.Ythpdcbklaapngaa

namespace Go.Dav
set_option linter.unusedVariables false
set_option linter.unusedSimpArgs false
open Go Go.RowKit
/-- Only the blocks that p names are written; new ones may have come. -/
structure OnlyS (p : Nat → Prop) (w w' : World) : Prop where
  os : w'.os = w.os
  tape : w'.tape = w.tape
  output : w'.output = w.output
  size : w.heap.size ≤ w'.heap.size
  block : ∀ k, k < w.heap.size → ¬ p k → w'.heap[k]? = w.heap[k]?
theorem OnlyS.refl (p : Nat → Prop) (w : World) : OnlyS p w w := ⟨rfl, rfl, rfl, Nat.le_refl _, fun _ _ _ => rfl⟩
theorem OnlyS.set {p : Nat → Prop} {w w' : World} (h : OnlyS p w w') (q i : Nat) (v : Value) (hq : p q) : OnlyS p w (w'.setCell ⟨q, i, none⟩ v) :=
  ⟨h.os, h.tape, h.output, by simpa using h.size, fun k hk hne => (Below.heap_setCell w' ⟨q, i, none⟩ v k (fun e => hne (by cases e; exact hq))).trans (h.block k hk hne)⟩
theorem OnlyS.ext {p : Nat → Prop} {w w' w'' : World} (h : OnlyS p w w') (hb : Below w'.heap.size w' w'') : OnlyS p w w'' :=
  ⟨hb.os.trans h.os, hb.tape.trans h.tape, hb.output.trans h.output, Nat.le_trans h.size hb.size, fun k hk hne => (hb.block k (Nat.lt_of_lt_of_le hk h.size)).trans (h.block k hk hne)⟩
theorem OnlyS.of_below {p : Nat → Prop} {w w' : World} (h : Below w.heap.size w w') : OnlyS p w w' := (OnlyS.refl p w).ext h
theorem OnlyS.below {p : Nat → Prop} {w w' : World} {n : Nat} (h : OnlyS p w w') (hn : n ≤ w.heap.size) (hp : ∀ k, p k → n ≤ k) : Below n w w' :=
  ⟨h.os, h.tape, h.output, h.size, fun k hk => h.block k (by omega) fun hpk => by have := hp k hpk; omega⟩
theorem Blk.onlyS {p : Nat → Prop} {W W' : World} {q : Nat} {cs : List Value} {t : TypeId} (h : Blk W q cs t) (k : OnlyS p W W') (hne : ¬ p q) : Blk W' q cs t := (k.block q h.lt hne).trans h

def sayG (l : List UInt8) : Nat := if isOf l = true then genOf l else 0
def sayA (l : List UInt8) : Nat := if isOf l = true then atOf l else 0
theorem saysOf_eq (l : List UInt8) : saysOf l = .tuple #[.agg #[.int .u64 (sayG l : Int), .int .i64 (sayA l : Int)], .bool (isOf l)] := rfl
theorem sayG_no {l : List UInt8} (h : isOf l = false) : sayG l = 0 := by unfold sayG; rw [h]; rfl
theorem sayA_no {l : List UInt8} (h : isOf l = false) : sayA l = 0 := by unfold sayA; rw [h]; rfl
def placeIf (b : Bool) (x y : Nat) : Nat := if b = true then x else y
/-- Block i of these bytes. -/
def blockAt (l : List UInt8) (i : Nat) : List UInt8 := (l.drop (i * 64)).take 64
/-- The last block of a header among the first n. -/
def lastIs (l : List UInt8) : Nat → Option Nat
  | 0 => none
  | n + 1 => if isOf (blockAt l n) = true then some n else lastIs l n
theorem lastIs_some {l : List UInt8} {n i : Nat} (h1 : i < n) (h2 : isOf (blockAt l i) = true) (h3 : ∀ j, i < j → j < n → isOf (blockAt l j) = false) : lastIs l n = some i := by
  induction n with
  | zero => omega
  | succ n ih =>
    unfold lastIs
    by_cases e : i = n
    · subst e; rw [if_pos h2]
    · rw [if_neg (by rw [h3 n (by omega) (by omega)]; decide)]
      exact ih (by omega) fun j hj hk => h3 j hj (by omega)
theorem lastIs_none {l : List UInt8} {n : Nat} (h : ∀ j, j < n → isOf (blockAt l j) = false) : lastIs l n = none := by
  induction n with
  | zero => rfl
  | succ n ih =>
    unfold lastIs
    rw [if_neg (by rw [h n (by omega)]; decide)]
    exact ih fun j hj => h j (by omega)
/-- What Find answers, of some bytes. -/
def findG (l : List UInt8) : Nat := match lastIs l (l.length / 64) with | some i => genOf (blockAt l i) | none => 0
def findA (l : List UInt8) : Nat := match lastIs l (l.length / 64) with | some i => atOf (blockAt l i) | none => 0
def findP (l : List UInt8) : Nat := match lastIs l (l.length / 64) with | some i => i * 64 | none => 0
def findF (l : List UInt8) : Bool := (lastIs l (l.length / 64)).isSome
def findOf (l : List UInt8) : Value := .tuple #[.agg #[.int .u64 (findG l : Int), .int .i64 (findA l : Int)], .int .i64 (findP l : Int), .bool (findF l)]
theorem find_some {l : List UInt8} {i : Nat} (h : lastIs l (l.length / 64) = some i) : findOf l = .tuple #[.agg #[.int .u64 (genOf (blockAt l i) : Int), .int .i64 (atOf (blockAt l i) : Int)], .int .i64 ((i * 64 : Nat) : Int), .bool true] := by
  simp [findOf, findG, findA, findP, findF, h]
theorem find_none {l : List UInt8} (h : lastIs l (l.length / 64) = none) : findOf l = .tuple #[.agg #[.int .u64 0, .int .i64 0], .int .i64 0, .bool false] := by
  simp [findOf, findG, findA, findP, findF, h]
theorem blockAt_len {l : List UInt8} {i : Nat} (h : i * 64 + 64 ≤ l.length) : (blockAt l i).length = 64 := by
  unfold blockAt; rw [List.length_take, List.length_drop]; omega
end Go.Dav
namespace Go.Proofs.Ythpdcbklaapngaa
set_option linter.unusedVariables false
set_option linter.unusedSimpArgs false
open Go.RowKit Go.Dav
attribute [local go_sem] Gives ite_val ite_val_true

theorem Try_enter24 (args : Array Value) (W : World) : (callFunc 24 args).run Try.prog W = .ok (Next.enter 24 args) W := by kernel_rfl
/-- h, found, place: what they hold. -/
structure TryLooked (ph pf pp : Nat) (g a : Nat) (f : Bool) (z : Nat) (w : World) : Prop where
  h : Blk w ph [.int .u64 (g : Int), .int .i64 (a : Int)] 30
  f : Blk w pf [.bool f] 4
  p : Blk w pp [.int .i64 (z : Int)] 3

set_option maxRecDepth 100000 in
set_option maxHeartbeats 8000000 in
theorem Try_look (l : List UInt8) (hl : l.length = 64) (at_ ph pf pp g a z : Nat) (f : Bool) (n1 : ph ≠ pf) (n2 : ph ≠ pp) (n3 : pf ≠ pp) (w : World) (hx : TryLooked ph pf pp g a f z w) :
    Calls Try.prog 24 #[.int .i64 (at_ : Int), .agg (u8s l).toArray, .pointer (some ⟨ph, 0, none⟩), .pointer (some ⟨pf, 0, none⟩), .pointer (some ⟨pp, 0, none⟩)] w fun e w' =>
      e = .returned (.bool (isOf l)) ∧ TryLooked ph pf pp (sayG l) (sayA l) (isOf l) (placeIf (isOf l) at_ z) w' ∧ OnlyS (fun k => k = ph ∨ k = pf ∨ k = pp) w w' := by
  have hb1 : Below w.heap.size w (w.alloc (.cells (u8s l).toArray 50)) := (by repeat (first | (with_reducible exact Below.refl _ _) | (with_reducible exact Below.refl _ _) | (with_reducible refine Below.setCell ?_ (by first | omega | (simp; done) | (simp; omega)) _) | (with_reducible refine Below.alloc ?_ (by first | omega | (simp; done) | (simp; omega)) _) | (with_reducible refine Below.drew ?_) | (with_reducible refine below_drewN ?_ _)))
  have hkb := Blk.new w (u8s l) 50
  have HKB := Lib.hid hkb
  have HX := Lib.hid hx
  have HL := Lib.hid hl
  have H1 := Lib.hid (hx.h.ext hb1)
  have H2 := Lib.hid (hx.f.ext hb1)
  have H3 := Lib.hid (hx.p.ext hb1)
  have HB1 := Lib.hid hb1
  clear hx hb1 hkb hl
  go_enter Try.func24, Try.ntmps24
  go_wp2_with (first | (refine wpList_load_row rfl 50 (.tmp 6) rfl w.heap.size rfl 50 (u8s l).toArray (0, 0) _ HKB.out Try.underlying50 rfl (Try_size64_of HL.out) ?_))
  refine (Try_Says l HL.out _).mono ?_; rintro e w2 ⟨rfl, hb2⟩
  have b1 := H1.out.ext hb2
  have b2 := H2.out.ext hb2
  have b3 := H3.out.ext hb2
  have q1 := b1.cells
  have q2 := b2.cells
  have q3 := b3.cells
  have m1 := b1.marks
  have m2 := b2.marks
  have m3 := b3.marks
  have l1 := b1.lt
  have l2 := b2.lt
  have l3 := b3.lt
  have on2 := OnlyS.of_below (p := fun k => k = ph ∨ k = pf ∨ k = pp) (HB1.out.trans (hb2.mono HB1.out.size))
  have HON := Lib.hid on2
  have B1 := Lib.hid b1
  have B2 := Lib.hid b2
  have B3 := Lib.hid b3
  rw [saysOf_eq]
  have n1' := Ne.symm n1
  have n2' := Ne.symm n2
  have n3' := Ne.symm n3
  clear hb2 b1 b2 b3 on2 H1 H2 H3 HB1
  cases hv : isOf l with
  | true =>
    have HV := Lib.hid hv
    clear hv
    go_wp2
    go_ret
    try rw [HV.out]
    refine ⟨rfl, ⟨?_, ?_, ?_⟩, ?_⟩
    · exact (((B1.out.set 0 _).set 1 _).other n1 _ _).other n2 _ _
    · exact (((B2.out.other n1' _ _).other n1' _ _).set 0 _).other n3 _ _
    · exact (((B3.out.other n2' _ _).other n2' _ _).other n3' _ _).set 0 _
    · exact (((HON.out.set ph 0 _ (.inl rfl)).set ph 1 _ (.inl rfl)).set pf 0 _ (.inr (.inl rfl))).set pp 0 _ (.inr (.inr rfl))
  | false =>
    have HV := Lib.hid hv
    clear hv
    go_wp2
    go_ret
    try rw [HV.out]
    refine ⟨rfl, ⟨?_, ?_, ?_⟩, ?_⟩
    · exact ((B1.out.set 0 _).set 1 _).other n1 _ _
    · exact (((B2.out.other n1' _ _).other n1' _ _).set 0 _)
    · exact (((B3.out.other n2' _ _).other n2' _ _).other n3' _ _)
    · exact (((HON.out.set ph 0 _ (.inl rfl)).set ph 1 _ (.inl rfl)).set pf 0 _ (.inr (.inl rfl)))
end Go.Proofs.Ythpdcbklaapngaa
