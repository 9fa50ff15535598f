/-
  Layer 12: numbers laid, the highest byte first: the program's lay, the reference's high, walked.
-/
import Derived.Test.YtmjmjjakhmeogaaCrcC
import Derived.Test.YtmjmjjakhmeogaaFirm
namespace Go.Dav
set_option linter.unusedVariables false
set_option linter.unusedSimpArgs false
open Go Go.RowKit

/-- A number in so many bytes, the highest first. -/
def highOf (x n : Nat) : List UInt8 := (List.range n).map fun i => UInt8.ofNat (x / 2 ^ (8 * (n - 1 - i)))
theorem highOf_len (x n : Nat) : (highOf x n).length = n := by simp [highOf]
theorem highOf_get {x n j : Nat} (h : j < n) : (highOf x n)[j]? = some (UInt8.ofNat (x / 2 ^ (8 * (n - 1 - j)))) := by simp [highOf, h]
theorem highOf_take {x n j : Nat} (h : j < n) : (highOf x n).take (j + 1) = (highOf x n).take j ++ [UInt8.ofNat (x / 2 ^ (8 * (n - 1 - j)))] := by
  rw [List.take_add_one, highOf_get h]; rfl
theorem u8s_byte (x e : Nat) : u8s [UInt8.ofNat (x / 2 ^ e)] = [.int .u8 ((x : Int) / 2 ^ e % 256)] := by
  simp [u8s]
theorem wpList_append_firm {P : Program} {W : World} {ops : Array Oper} {rest : List Oper} {o : Oper} {a : Act} {Q : Exit → Act → World → Prop} (hgd : o.guard = none) (s x : Operand) (t : TypeId) (ho : o.op = .call { callee := .builtin .append, args := #[s, x], argTypes := #[t, t] }) {e : Nat} (E : Elem1 P t e 1) (S : Nat → Prop) (n : Nat) (hn : n ≤ W.heap.size) (v : Value) (l : List UInt8) (hs : a.eval s = v) (hv : FirmOf e S n v l W)
    (T : Nat → Prop) (ax : Option Addr) (m c : Nat) (y : List UInt8) (hx : a.eval x = .slice ax m c) (hy : CellsS W T ax m (u8s y)) (hax : ax ≠ none) (hm0 : 0 < m) (hm : l.length + m ≤ 140737488355328)
    (h : ∀ v' w', w'.ownsRow n e 1 v' (l ++ y).length (u8s (l ++ y)) → Grew n e W w' → wpList P ops Q rest (a.put o.dst v') w') : wpList P ops Q (o :: rest) a W := by
  refine wpList_plain hgd fun K hK => ?_
  obtain ⟨v', w', hr, _, h2, h3⟩ := firm_append (P := P) E o.type S n hn v l hv T ax m c y hy hax hm0 hm
  unfold Oper.wp execOp
  simp only [ho, resolve, invoke, builtin, Sem.run_bind, Sem.run_pure, Result.andThen_ok, List.map_toArray, List.map_cons, List.map_nil, hs, hx, hr]
  exact hK _ _ (h v' w' h2 h3)
end Go.Dav
namespace Go.Proofs.Ytmjmjjakhmeogaa
set_option linter.unusedVariables false
set_option linter.unusedSimpArgs false
open Go.RowKit Go.Dav
attribute [local go_sem] Gives ite_val ite_val_true

set_option maxRecDepth 8000 in
set_option maxHeartbeats 4000000 in
theorem Try_lay (S : Nat → Prop) (base p x width : Nat) (v : Value) (lo : List UInt8) (w : World) (hp : Blk w p [.int .u64 (x : Int)] 54) (hv : FirmOf 5 S base v lo w) (hb : base ≤ w.heap.size) (hlo : lo.length ≤ 1000) (hw : width ≤ 8) (hx : x < 18446744073709551616) :
    Calls Try.prog 68 #[v, .int .i64 (width : Int), .slice (some ⟨p, 0, none⟩) 1 1] w fun e w' => ∃ v', e = .returned v' ∧ FirmOf 5 S base v' (lo ++ highOf x width) w' ∧ (0 < width → w'.ownsRow base 5 1 v' (lo.length + width) (u8s (lo ++ highOf x width))) ∧ Grew base 5 w w' := by
  have qp := hp.cells
  have lp := hp.lt
  have HV := Lib.hid hv
  have HB := Lib.hid hb
  have HLO := Lib.hid hlo
  have HX := Lib.hid hx
  have hw' : (width : Int) ≤ 8 := by omega
  clear hp hv hb hlo hx
  go_enter Try.func68, Try.ntmps68
  go_wp2_with fail
  go_loopg [0, 12] 1 (fun g vx ix wr => (ix = .int .i64 0 ∧ g = 1 ∧ vx = v ∧ w = wr) ∨ (ix = .int .i64 1 ∧ g = 0 ∧ FirmOf 5 S base vx (lo ++ highOf x width) wr ∧ (0 < width → wr.ownsRow base 5 1 vx (lo.length + width) (u8s (lo ++ highOf x width))) ∧ Grew base 5 w wr))
  case atStart => exact .inl ⟨rfl, rfl, rfl, rfl⟩
  case round =>
    rcases hrel with ⟨rfl, rfl, rfl, rfl⟩ | ⟨rfl, rfl, h1, h2, h3⟩
    · go_wp2_with fail
      go_loopg [0, 9] width (fun g vx bx w2 => ∃ j : Nat, j ≤ width ∧ g = width - j ∧ bx = .int .i64 ((8 * (width - j) : Nat) : Int) ∧ FirmOf 5 S base vx (lo ++ (highOf x width).take j) w2 ∧ (0 < j → w2.ownsRow base 5 1 vx (lo.length + j) (u8s (lo ++ (highOf x width).take j))) ∧ Grew base 5 w w2)
      case atStart => exact ⟨0, Nat.zero_le _, rfl, by simp, by simpa using HV.out, fun h => absurd h (by omega), Grew.refl _ _ _⟩
      case round =>
        obtain ⟨j, hj, rfl, rfl, f1, f2, f3⟩ := hrel
        have F1 := Lib.hid f1
        have F2 := Lib.hid f2
        have F3 := Lib.hid f3
        clear f1 f2 f3 qp lp
        by_cases hjw : j < width
        · obtain ⟨e, he⟩ : ∃ e, 8 * (width - 1 - j) = e := ⟨_, rfl⟩
          have he2 : 8 * (width - j) = e + 8 := by omega
          rw [he2]
          have hel : e ≤ 56 := by omega
          have hmin : min e 64 = e := by omega
          have HE := Lib.hid he
          clear he he2
          have s3 := F3.out.size
          have HBx := Lib.hid (show base ≤ (wr.alloc (.cells #[.int .u8 ((x : Int) / 2 ^ e % 256)] 5)).heap.size by have := HB.out; simp; omega)
          have HFx := Lib.hid (F1.out.ext ((Below.refl _ wr).alloc (Nat.le_refl _) (.cells #[.int .u8 ((x : Int) / 2 ^ e % 256)] 5)))
          have HCx := Lib.hid (show CellsS (wr.alloc (.cells #[.int .u8 ((x : Int) / 2 ^ e % 256)] 5)) (fun b => b = wr.heap.size) (some ⟨wr.heap.size, 0, none⟩) 1 (u8s [UInt8.ofNat (x / 2 ^ e)]) by rw [u8s_byte]; exact cells_one rfl (by simp) (Blk.new wr [.int .u8 ((x : Int) / 2 ^ e % 256)] 5 |>.cell 0 rfl))
          have HLx := Lib.hid (show (lo ++ (highOf x width).take j).length + 1 ≤ 140737488355328 by have := HLO.out; have := highOf_len x width; simp; omega)
          clear s3
          go_wp2_with (at_builtin; refine wpList_append_firm rfl (.tmp 22) (.tmp 28) 22 rfl Try_elemU8 S base HBx.out _ (lo ++ (highOf x width).take j) rfl HFx.out (fun b => b = wr.heap.size) (some ⟨wr.heap.size, 0, none⟩) 1 1 [UInt8.ofNat (x / 2 ^ e)] rfl HCx.out (fun h => by cases h) (by omega) HLx.out ?_; intro v' w' hown' hgrow)
          go_wp2_with fail
          have e1 : lo ++ (highOf x width).take j ++ [UInt8.ofNat (x / 2 ^ e)] = lo ++ (highOf x width).take (j + 1) := by rw [highOf_take hjw, HE.out, List.append_assoc]
          rw [e1] at hown'
          have hln : (lo ++ (highOf x width).take (j + 1)).length = lo.length + (j + 1) := by have := highOf_len x width; simp; omega
          go_roundg (width - (j + 1))
          case measure => omega
          case rel =>
            have hh := hown'
            rw [hln] at hh
            exact ⟨j + 1, by omega, rfl, by rw [show 8 * (width - (j + 1)) = e by have := HE.out; omega], .inr hown', fun _ => hh, F3.out.trans ((Grew.of_below ((Below.refl _ wr).alloc (Nat.le_refl _) _)).trans hgrow)⟩
        · obtain rfl : j = width := by omega
          have hz : 8 * (j - j) = 0 := by omega
          rw [hz]
          clear hjw
          go_wp2_with fail
          go_roundg 0
          case measure => omega
          case rel =>
            have hle : (highOf x j).take j = highOf x j := List.take_of_length_le (by rw [highOf_len]; omega)
            have h1 := F1.out
            have h2 := F2.out
            rw [hle] at h1 h2
            exact .inr ⟨by go_num, rfl, h1, h2, F3.out⟩
    · have H1 := Lib.hid h1
      have H2 := Lib.hid h2
      have H3 := Lib.hid h3
      clear h1 h2 h3
      go_wp2
      go_ret
      exact ⟨_, rfl, H1.out, H2.out, H3.out⟩
end Go.Proofs.Ytmjmjjakhmeogaa
