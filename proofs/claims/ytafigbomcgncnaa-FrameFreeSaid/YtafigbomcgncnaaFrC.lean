/-
  Layer 11: what a record appends: in plain, and the program's marked and piece, walked.
-/
import Derived.Test.YtafigbomcgncnaaFrB
import Derived.Test.YtafigbomcgncnaaFilU
import Derived.Deep.OwnRows
namespace Go.Dav
set_option linter.unusedVariables false
set_option linter.unusedSimpArgs false
open Go Go.RowKit
/-- Do these bytes end within a block whose mark is not 0? -/
def isMarked (l : List UInt8) : Bool := decide (l.length % 64 ≠ 0) && (l[l.length - l.length % 64]? != some 0)
def padFor (l : List UInt8) : List UInt8 := if isMarked l = true then List.replicate (64 - l.length % 64) 0 else []
/-- What is appended, and where its first byte stands. -/
def pieceOf (l cs : List UInt8) : List UInt8 := layOn l.length (padFor l) cs
def placeOf (l cs : List UInt8) : Nat := match cs with | [] => 0 | c :: _ => l.length + (layOn l.length (padFor l) [c]).length - 1
theorem padFor_len (l : List UInt8) : (padFor l).length ≤ 64 := by unfold padFor; split <;> simp <;> omega
theorem layOn_take {n : Nat} {b0 cs : List UInt8} {k : Nat} {c : UInt8} (h : cs[k]? = some c) : layOn n b0 (cs.take (k + 1)) = putByte n (layOn n b0 (cs.take k)) c := by
  rw [List.take_add_one, h, Option.toList_some, layOn_snoc]
theorem read_one {F : FileD} (hr : F.right = true) {i : Nat} {x : UInt8} (h : F.all[i]? = some x) : F.read (i : Int) 1 = ([x], 0) := by
  have hi := (List.getElem?_eq_some_iff.1 h).1
  have hl := F.all_length
  unfold FileD.read
  rw [if_pos hr, if_neg (by omega), if_neg (by omega)]
  have e : (F.all.drop (i : Int).toNat).take (1 : Int).toNat = [x] := by
    rw [Int.toNat_natCast, show (1 : Int).toNat = 0 + 1 from rfl, List.take_add_one, List.getElem?_drop, Nat.add_zero, h]; simp
  rw [e]
end Go.Dav
namespace Go.Proofs.Ytafigbomcgncnaa
set_option linter.unusedVariables false
set_option linter.unusedSimpArgs false
open Go.RowKit Go.Dav
attribute [local go_sem] Gives ite_val ite_val_true

set_option maxRecDepth 100000 in
set_option maxHeartbeats 8000000 in
theorem Try_marked (F : FileD) (fa la : Option Addr) (fl fc ll lc : Nat) (w : World) (S : Nat → Prop) (hF : FileS w S fa fl fc la ll lc F) (hS : ∀ b, S b → b < w.heap.size) (hr : F.right = true) :
    Calls Try.prog 47 #[.agg #[.slice fa fl fc, .slice la ll lc, .int .i64 F.fuse, .int .i64 F.fault, .bool F.off], .int .i64 (F.many : Int)] w fun e w' => e = .returned (.bool (isMarked F.all)) ∧ Below w.heap.size w w' := by
  obtain ⟨m, hm⟩ : ∃ m, F.many = m := ⟨_, rfl⟩
  have hmx := (FileD.right_spec.1 hr).2.2.2.2
  have hal := F.all_length
  rw [hm] at hmx hal ⊢
  have hW : Below w.heap.size w (w.alloc (.cells [.slice fa fl fc, .slice la ll lc, .int .i64 F.fuse, .int .i64 F.fault, .bool F.off].toArray 25)) := (by repeat (first | (with_reducible exact Below.refl _ _) | (with_reducible exact Below.refl _ _) | (with_reducible refine Below.setCell ?_ (by first | omega | (simp; done) | (simp; omega)) _) | (with_reducible refine Below.alloc ?_ (by first | omega | (simp; done) | (simp; omega)) _) | (with_reducible refine Below.drew ?_) | (with_reducible refine below_drewN ?_ _)))
  have HB := Lib.hid (Blk.new w [.slice fa fl fc, .slice la ll lc, .int .i64 F.fuse, .int .i64 F.fault, .bool F.off] 25)
  have hF2 := hF.ext hW
  have HW := Lib.hid hW
  have htm : (m : Int).tmod 64 = ((m % 64 : Nat) : Int) := by rw [Int.tmod_eq_emod_of_nonneg (by omega)]; omega
  by_cases h0 : m % 64 = 0
  · have h0' : (m : Int) % 64 = 0 := by omega
    have HV := Lib.hid (show isMarked F.all = false by unfold isMarked; rw [hal]; simp [h0])
    clear hF2 hW h0
    go_enter Try.func47, Try.ntmps47
    go_wp2
    go_ret
    exact ⟨by rw [HV.out]; rfl, HW.out⟩
  · have h0' : ¬ (m : Int) % 64 = 0 := by omega
    have h0'' : ((m : Int) % 64 == 0) = false := by simp; omega
    obtain ⟨x, hx⟩ : ∃ x, F.all[m - m % 64]? = some x := ⟨_, List.getElem?_eq_getElem (by omega)⟩
    have HRD := Lib.hid (read_one hr hx)
    have HV := Lib.hid (show isMarked F.all = (x != 0) by unfold isMarked; rw [hal, hx, decide_eq_true h0, Bool.true_and]; rfl)
    obtain ⟨i, hi⟩ : ∃ i, m - m % 64 = i := ⟨_, rfl⟩
    have hwi : IntKind.i64.wrap ((m : Int) - (m : Int) % 64) = (i : Int) := by rw [IntWalk.i64_in _ (by omega)]; omega
    have HI := Lib.hid hi
    have hA := Try_Read F fa la fl fc ll lc (i : Int) 1 _ S hF2 (fun b h => by have := hS b h; simp; omega) (by unfold I64'; omega) (by unfold I64'; omega)
    rw [← hi, read_one hr hx, hi] at hA
    have HA := Lib.hid hA
    have q := HB.out.cells
    have l := HB.out.lt
    clear hF2 hW hA hx hi
    go_enter Try.func47, Try.ntmps47
    go_wp2_with fail
    refine HA.out.mono ?_; rintro e w2 ⟨ra, rl, rc, rfl, hR, hb⟩
    have hrl : rl = 1 := hR.at_.hlen.symm
    subst hrl
    obtain ⟨b0, o0, rfl, hlt, hcell⟩ := hR.at_.hat 0 x rfl
    rw [Nat.add_zero] at hcell
    have BEL := Lib.hid (HW.out.trans (hb.mono HW.out.size))
    clear hR hb HA q l
    by_cases hx0 : x = 0
    · subst hx0
      have hc0 : w2.cell? ⟨b0, o0, none⟩ = some (.int .u8 0) := hcell
      clear hcell
      go_wp2
      go_ret
      exact ⟨by rw [HV.out]; rfl, BEL.out⟩
    · have hne : ((x.toNat : Int) != 0) = true := by
        simp
        intro h
        exact hx0 (by rw [← UInt8.toNat_inj]; exact_mod_cast h)
      have HX := Lib.hid (show (x != 0) = true by simp [hx0])
      clear hx0
      go_wp2
      go_ret
      exact ⟨by rw [HV.out, HX.out]; rfl, BEL.out⟩

theorem Try_makeZ (n : Nat) (hn : n ≤ 1048576) (W : World) : (Instr.makeSlice 22 (.int .i64 (n : Int)) (.int .i64 (n : Int))).run Try.prog W = .ok (.slice (some ⟨W.heap.size, 0, none⟩) n n) (W.alloc (.cells (u8s (List.replicate n 0)).toArray 5)) := by
  have hinfo : (Try.prog.info? 5).map (fun i => (i.zero, i.size, i.bytes)) = some (some (.int .u8 0), 1, 1) := by kernel_rfl
  have h := run_make_row' (P := Try.prog) 22 5 (.int .u8 0) 1 Try.underlying22 hinfo rfl .i64 .i64 n (by omega) (by omega) W
  rw [h, u8s_zeros, ← toList_madeCells_one]
theorem Try_enter48 (args : Array Value) (W : World) : (callFunc 48 args).run Try.prog W = .ok (Next.enter 48 args) W := by kernel_rfl

def TryPieceRel (w : World) (p n base : Nat) (l cs : List UInt8) (at_ : Value) (k : Nat) (wr : World) : Prop :=
  ∃ v, at_ = .int .i64 ((if k = 0 then 0 else placeOf l cs : Nat) : Int) ∧ Blk wr p [v, .int .i64 (n : Int)] 82 ∧ wr.ownsRow base 5 1 v (layOn n (padFor l) (cs.take k)).length (u8s (layOn n (padFor l) (cs.take k))) ∧ Below w.heap.size w wr ∧ base ≤ wr.heap.size

set_option maxRecDepth 100000 in
set_option maxHeartbeats 8000000 in
theorem Try_piece (F : FileD) (fa la ca : Option Addr) (fl fc ll lc cl cc : Nat) (cs : List UInt8) (w : World) (S T : Nat → Prop) (hF : FileS w S fa fl fc la ll lc F) (hS : ∀ b, S b → b < w.heap.size) (hr : F.right = true) (hc : BytesS w T ca cl cc cs) (hT : ∀ b, T b → b < w.heap.size) (hcl : cl ≤ 8192) :
    Calls Try.prog 35 #[.agg #[.slice fa fl fc, .slice la ll lc, .int .i64 F.fuse, .int .i64 F.fault, .bool F.off], .slice ca cl cc] w fun e w' => ∃ v, e = .returned (.tuple #[v, .int .i64 (placeOf F.all cs : Int)]) ∧ w'.ownsRow w.heap.size 5 1 v (pieceOf F.all cs).length (u8s (pieceOf F.all cs)) ∧ Below w.heap.size w w' := by
  obtain ⟨m, hm⟩ : ∃ m, F.many = m := ⟨_, rfl⟩
  have hmx := (FileD.right_spec.1 hr).2.2.2.2
  have hal := F.all_length
  have hL := Try_Len F fa la fl fc ll lc
  rw [hm] at hmx hal
  have hW : Below w.heap.size w (w.alloc (.cells [.slice fa fl fc, .slice la ll lc, .int .i64 F.fuse, .int .i64 F.fault, .bool F.off].toArray 25)) := (by repeat (first | (with_reducible exact Below.refl _ _) | (with_reducible exact Below.refl _ _) | (with_reducible refine Below.setCell ?_ (by first | omega | (simp; done) | (simp; omega)) _) | (with_reducible refine Below.alloc ?_ (by first | omega | (simp; done) | (simp; omega)) _) | (with_reducible refine Below.drew ?_) | (with_reducible refine below_drewN ?_ _)))
  have HB := Lib.hid (Blk.new w [.slice fa fl fc, .slice la ll lc, .int .i64 F.fuse, .int .i64 F.fault, .bool F.off] 25)
  have HF := Lib.hid (hF.ext hW)
  have HC := Lib.hid (hc.ext hW)
  have HC0 := Lib.hid hc
  have HW := Lib.hid hW
  have HS := Lib.hid hS
  have HR := Lib.hid hr
  have HM := Lib.hid hm
  have HAL := Lib.hid hal
  have hA := Try_Len F fa la fl fc ll lc _ HF.out.at_
  rw [if_pos hr, hm] at hA
  have HA := Lib.hid hA
  have q := HB.out.cells
  have l := HB.out.lt
  have htm : (m : Int).tmod 64 = ((m % 64 : Nat) : Int) := by rw [Int.tmod_eq_emod_of_nonneg (by omega)]; omega
  clear hF hW hS hr hc hA hL hm hal
  go_enter Try.func35, Try.ntmps35
  go_wp2_with fail
  refine HA.out.mono ?_; rintro e w2 ⟨rfl, hb2⟩
  have HB2 := Lib.hid (HB.out.ext hb2)
  have HF2 := Lib.hid (HF.out.ext hb2)
  have HC2 := Lib.hid (HC.out.ext hb2)
  have BEL2 := Lib.hid (HW.out.trans (hb2.mono HW.out.size))
  clear hb2 q l HB HF HC HW HA
  have q := HB2.out.cells
  have l := HB2.out.lt
  go_wp2_with fail
  obtain ⟨WP, hWP⟩ : ∃ WP, w2.alloc (.cells #[.slice none 0 0, .int .i64 (m : Int)] 82) = WP := ⟨_, rfl⟩
  have hbP : Below w2.heap.size w2 WP := by rw [← hWP]; exact (by repeat (first | (with_reducible exact Below.refl _ _) | (with_reducible exact Below.refl _ _) | (with_reducible refine Below.setCell ?_ (by first | omega | (simp; done) | (simp; omega)) _) | (with_reducible refine Below.alloc ?_ (by first | omega | (simp; done) | (simp; omega)) _) | (with_reducible refine Below.drew ?_) | (with_reducible refine below_drewN ?_ _)))
  have HPP := Lib.hid (show Blk WP w2.heap.size [.slice none 0 0, .int .i64 (m : Int)] 82 by rw [← hWP]; exact Blk.new _ _ _)
  rw [hWP]
  have hA := Try_marked F fa la fl fc ll lc WP S (HF2.out.ext hbP) (fun b h => by have := HS.out b h; have := BEL2.out.size; have := hbP.size; omega) HR.out
  rw [HM.out] at hA
  refine hA.mono ?_; rintro e w3 ⟨rfl, hb3⟩
  have hb := hbP.trans (hb3.mono hbP.size)
  have HC3 := Lib.hid (HC2.out.ext hb)
  have HP3 := Lib.hid (HPP.out.ext hb3)
  have BEL3 := Lib.hid (BEL2.out.trans (hb.mono BEL2.out.size))
  have hs2 := BEL2.out.size
  have hs3 : w2.heap.size < w3.heap.size := HP3.out.lt
  have hen := Try_enter48
  have HCN := Lib.hid HC3.out.at_.hnil
  have hcl0 := HC3.out.at_.hlen
  have hccap := HC3.out.at_.hcap
  have HCL := Lib.hid hcl0
  clear hb hbP hb3 hWP hA q l HB2 HF2 HC2 HPP BEL2 hcl0
  cases hk : isMarked F.all with
  | true =>
    have hpd : m % 64 ≠ 0 := by unfold isMarked at hk; rw [HAL.out] at hk; intro h; rw [h] at hk; simp at hk
    obtain ⟨pd, hpd2⟩ : ∃ pd, 64 - m % 64 = pd := ⟨_, rfl⟩
    have HPF := Lib.hid (show padFor F.all = List.replicate pd 0 by unfold padFor; rw [hk, if_pos rfl, HAL.out, hpd2])
    obtain ⟨W4, hW4⟩ : ∃ W4, w3.alloc (.cells (u8s (List.replicate pd 0)).toArray 5) = W4 := ⟨_, rfl⟩
    have hmk : (Instr.makeSlice 22 (.int .i64 (pd : Int)) (.int .i64 (pd : Int))).run Try.prog w3 = .ok (.slice (some ⟨w3.heap.size, 0, none⟩) pd pd) W4 := by rw [Try_makeZ pd (by omega) w3, hW4]
    have hb4 : Below w3.heap.size w3 W4 := by rw [← hW4]; exact (by repeat (first | (with_reducible exact Below.refl _ _) | (with_reducible exact Below.refl _ _) | (with_reducible refine Below.setCell ?_ (by first | omega | (simp; done) | (simp; omega)) _) | (with_reducible refine Below.alloc ?_ (by first | omega | (simp; done) | (simp; omega)) _) | (with_reducible refine Below.drew ?_) | (with_reducible refine below_drewN ?_ _)))
    have hk4 : Blk W4 w3.heap.size (u8s (List.replicate pd 0)) 5 := by rw [← hW4]; exact Blk.new _ _ _
    have hp4 := HP3.out.ext hb4
    have hw1 : IntKind.i64.wrap (64 - (m : Int) % 64) = (pd : Int) := by rw [IntWalk.i64_in _ (by omega)]; omega
    have HP4 := Lib.hid hp4
    have HK4 := Lib.hid hk4
    have HB4 := Lib.hid (BEL3.out.trans (hb4.mono BEL3.out.size))
    have HC4 := Lib.hid (HC3.out.ext hb4)
    have q := hp4.cells
    have mk := hp4.marks
    have l := hp4.lt
    clear hp4 hk4 hb4 hW4 hk hpd
    go_wp2_with fail
    clear hmk hw1
    obtain ⟨W5, hW5⟩ : ∃ W5, W4.setCell ⟨w2.heap.size, 0, none⟩ (.slice (some ⟨w3.heap.size, 0, none⟩) pd pd) = W5 := ⟨_, rfl⟩
    have o5 : Only w2.heap.size W4 W5 := by rw [← hW5]; exact (by repeat (first | (with_reducible exact Only.refl _ _) | (with_reducible refine Only.set ?_ _ _) | (with_reducible refine Only.alloc ?_ _) | (with_reducible refine Only.drew ?_)))
    have HPx := Lib.hid (show Blk W5 w2.heap.size [.slice (some ⟨w3.heap.size, 0, none⟩) pd pd, .int .i64 (m : Int)] 82 by rw [← hW5]; exact HP4.out.set 0 _)
    have HOx := Lib.hid (show W5.ownsRow w.heap.size 5 1 (.slice (some ⟨w3.heap.size, 0, none⟩) pd pd) (padFor F.all).length (u8s (padFor F.all)) by
      rw [HPF.out, List.length_replicate]
      refine ⟨by simp [u8s], .inr ⟨_, _, _, rfl, by omega, HK4.out.only o5 (by omega), Nat.le_refl _, by unfold maxLen; omega, by simp [u8s], ?_⟩⟩
      simp [u8s])
    have BELx := Lib.hid (below_only HB4.out o5 HB4.out.size (by omega))
    have HCx := Lib.hid (HC4.out.same o5.size (fun b h hlt => o5.block b hlt (by
      intro e
      have := hT b h
      omega)))
    have hsx : w.heap.size ≤ W5.heap.size := BELx.out.size
    first | rw [hW5] | skip
    clear hW5 o5 HP4 HK4 HB4 HC4 q mk l hpd2 HPF HP3 HC3 BEL3
    go_loopw [33, 8] (fun ix atv wr => ∃ k : Nat, k ≤ cl ∧ ix = .int .i64 (k : Int) ∧ TryPieceRel w w2.heap.size m w.heap.size F.all cs atv k wr) (fun ix _ _ => cl - (intOf ix).toNat)
    case atStart => exact ⟨0, Nat.zero_le _, by go_num, _, by go_num, HPx.out, HOx.out, BELx.out, hsx⟩
    case round =>
      obtain ⟨k, hk, rfl, v, rfl, hp, ho, hbl, hsz⟩ := hrel
      have hlay := layOn_len m (padFor F.all) (cs.take k)
      have hpf := padFor_len F.all
      have htk : (cs.take k).length ≤ 8192 := by rw [List.length_take, HCL.out]; omega
      have HP := Lib.hid hp
      have HO := Lib.hid ho
      have HBL := Lib.hid hbl
      have q := hp.cells
      have l := hp.lt
      have hclI : (cl : Int) ≤ 8192 := by omega
      obtain ⟨b, hb⟩ : ∃ b, layOn m (padFor F.all) (cs.take k) = b := ⟨_, rfl⟩
      rw [hb] at HO hlay
      have HBB := Lib.hid hb
      obtain ⟨av, hav⟩ : ∃ av : Nat, (if k = 0 then 0 else placeOf F.all cs : Nat) = av := ⟨_, rfl⟩
      rw [hav]
      have HAV := Lib.hid hav
      clear hp ho hbl hb hav
      by_cases hlt : k < cl
      · obtain ⟨c, hc⟩ : ∃ c, cs[k]? = some c := ⟨_, List.getElem?_eq_getElem (by rw [HCL.out]; exact hlt)⟩
        obtain ⟨b0, o0, rfl, hlb, hcell0⟩ := (HC0.out.ext HBL.out).at_.hat k c hc
        have hkl : (k : Int) < (cl : Int) := by omega
        have HNX := Lib.hid (layOn_take (n := m) (b0 := padFor F.all) hc)
        have HLT := Lib.hid hlt
        have HCC := Lib.hid hc
        clear hc hlt hk
        go_wp2_with fail
        refine (Try_wput w2.heap.size m w.heap.size w.heap.size v b c wr HP.out HO.out hsz (Nat.le_refl _) (by omega) (by omega) (by omega)).mono ?_
        rintro e w5 ⟨rfl, v', hp5, ho5, hb5⟩
        obtain ⟨ra5, rc5, rfl, _⟩ := own_cells ho5
        have hpl := putByte_len m b c
        obtain ⟨b5, hb5'⟩ : ∃ b5, putByte m b c = b5 := ⟨_, rfl⟩
        rw [hb5'] at hp5 ho5 hpl
        have HP5 := Lib.hid hp5
        have HO5 := Lib.hid ho5
        have HBL5 := Lib.hid (HBL.out.trans hb5)
        have HB5 := Lib.hid hb5'
        have q5 := hp5.cells
        have l5 := hp5.lt
        have HSZ5 := Lib.hid (Nat.le_trans hsz hb5.size)
        clear hp5 ho5 hb5 q l hcell0
        clear hb5'
        by_cases h0 : k = 0
        · subst h0
          have HPL := Lib.hid (show placeOf F.all cs = m + b5.length - 1 by
            have h := HCC.out
            cases cs with
            | nil => cases h
            | cons c' cs' =>
              have e : c' = c := Option.some.inj h
              subst e
              show F.all.length + (layOn F.all.length (padFor F.all) [c']).length - 1 = _
              rw [HAL.out, ← HB5.out, ← HBB.out]
              rfl)
          have k1 : IntKind.i64.wrap ((m : Int) + (b5.length : Int)) = (m : Int) + (b5.length : Int) := IntWalk.i64_in _ (by omega)
          have hb1 : 1 ≤ b5.length := by rw [← HB5.out]; unfold putByte; simp
          have k2 : IntKind.i64.wrap ((m : Int) + (b5.length : Int) - 1) = ((m + b5.length - 1 : Nat) : Int) := by rw [IntWalk.i64_in _ (by omega)]; omega
          have k3 : (m : Int) + (b5.length : Int) - 1 = ((m + b5.length - 1 : Nat) : Int) := by omega
          clear hb1
          go_wp2_with fail
          go_roundw
          case rel => exact ⟨0 + 1, HLT.out, by go_num, _, by simp only [HPL.out, k3, if_neg (Nat.succ_ne_zero 0)], HP5.out, by rw [HNX.out, HBB.out, HB5.out]; exact HO5.out, HBL5.out, HSZ5.out⟩
          case measure => have := HLT.out; simp [intOf]; omega
        · have h0' : ((k : Int) == 0) = false := by simp; omega
          clear h0
          go_wp2_with fail
          go_roundw
          case rel => exact ⟨k + 1, HLT.out, by go_num, _, by have h := HAV.out; rw [if_neg (by have := h0'; simp at this; omega)] at h; rw [if_neg (by omega), h], HP5.out, by rw [HNX.out, HBB.out, HB5.out]; exact HO5.out, HBL5.out, HSZ5.out⟩
          case measure => have := HLT.out; simp [intOf]; omega
      · obtain rfl : k = cl := by omega
        have HPLZ := Lib.hid (show av = placeOf F.all cs by
          rw [← HAV.out]
          split
          · have : cs = [] := List.length_eq_zero_iff.1 (by rw [HCL.out]; assumption)
            rw [this]; rfl
          · rfl)
        rw [HPLZ.out]
        have HFIN := Lib.hid (show b = pieceOf F.all cs by rw [← HBB.out, List.take_of_length_le (by rw [HCL.out]; omega)]; unfold pieceOf; rw [HAL.out])
        obtain ⟨ra5, rc5, rfl, _⟩ := own_cells HO.out
        have q := HP.out.cells
        clear hlt hk
        go_wp2
        refine bodyPost_ret (v := .tuple #[.slice ra5 b.length rc5, .int .i64 (placeOf F.all cs : Int)]) (by simp [results, Try.results35, go_sem]) rfl ⟨_, rfl, by rw [← HFIN.out]; exact HO.out, HBL.out⟩
  | false =>
    have HPF := Lib.hid (show padFor F.all = [] by unfold padFor; rw [hk]; rfl)
    have HPx := Lib.hid HP3.out
    have HOx := Lib.hid (show w3.ownsRow w.heap.size 5 1 (.slice none 0 0) (padFor F.all).length (u8s (padFor F.all)) by rw [HPF.out]; exact World.ownsRow_nil _ _ _ _)
    have BELx := Lib.hid BEL3.out
    have HCx := Lib.hid HC3.out
    have hsx : w.heap.size ≤ w3.heap.size := BELx.out.size
    clear hk HPF HP3 HC3 BEL3
    go_wp2_with fail
    go_loopw [33, 8] (fun ix atv wr => ∃ k : Nat, k ≤ cl ∧ ix = .int .i64 (k : Int) ∧ TryPieceRel w w2.heap.size m w.heap.size F.all cs atv k wr) (fun ix _ _ => cl - (intOf ix).toNat)
    case atStart => exact ⟨0, Nat.zero_le _, by go_num, _, by go_num, HPx.out, HOx.out, BELx.out, hsx⟩
    case round =>
      obtain ⟨k, hk, rfl, v, rfl, hp, ho, hbl, hsz⟩ := hrel
      have hlay := layOn_len m (padFor F.all) (cs.take k)
      have hpf := padFor_len F.all
      have htk : (cs.take k).length ≤ 8192 := by rw [List.length_take, HCL.out]; omega
      have HP := Lib.hid hp
      have HO := Lib.hid ho
      have HBL := Lib.hid hbl
      have q := hp.cells
      have l := hp.lt
      have hclI : (cl : Int) ≤ 8192 := by omega
      obtain ⟨b, hb⟩ : ∃ b, layOn m (padFor F.all) (cs.take k) = b := ⟨_, rfl⟩
      rw [hb] at HO hlay
      have HBB := Lib.hid hb
      obtain ⟨av, hav⟩ : ∃ av : Nat, (if k = 0 then 0 else placeOf F.all cs : Nat) = av := ⟨_, rfl⟩
      rw [hav]
      have HAV := Lib.hid hav
      clear hp ho hbl hb hav
      by_cases hlt : k < cl
      · obtain ⟨c, hc⟩ : ∃ c, cs[k]? = some c := ⟨_, List.getElem?_eq_getElem (by rw [HCL.out]; exact hlt)⟩
        obtain ⟨b0, o0, rfl, hlb, hcell0⟩ := (HC0.out.ext HBL.out).at_.hat k c hc
        have hkl : (k : Int) < (cl : Int) := by omega
        have HNX := Lib.hid (layOn_take (n := m) (b0 := padFor F.all) hc)
        have HLT := Lib.hid hlt
        have HCC := Lib.hid hc
        clear hc hlt hk
        go_wp2_with fail
        refine (Try_wput w2.heap.size m w.heap.size w.heap.size v b c wr HP.out HO.out hsz (Nat.le_refl _) (by omega) (by omega) (by omega)).mono ?_
        rintro e w5 ⟨rfl, v', hp5, ho5, hb5⟩
        obtain ⟨ra5, rc5, rfl, _⟩ := own_cells ho5
        have hpl := putByte_len m b c
        obtain ⟨b5, hb5'⟩ : ∃ b5, putByte m b c = b5 := ⟨_, rfl⟩
        rw [hb5'] at hp5 ho5 hpl
        have HP5 := Lib.hid hp5
        have HO5 := Lib.hid ho5
        have HBL5 := Lib.hid (HBL.out.trans hb5)
        have HB5 := Lib.hid hb5'
        have q5 := hp5.cells
        have l5 := hp5.lt
        have HSZ5 := Lib.hid (Nat.le_trans hsz hb5.size)
        clear hp5 ho5 hb5 q l hcell0
        clear hb5'
        by_cases h0 : k = 0
        · subst h0
          have HPL := Lib.hid (show placeOf F.all cs = m + b5.length - 1 by
            have h := HCC.out
            cases cs with
            | nil => cases h
            | cons c' cs' =>
              have e : c' = c := Option.some.inj h
              subst e
              show F.all.length + (layOn F.all.length (padFor F.all) [c']).length - 1 = _
              rw [HAL.out, ← HB5.out, ← HBB.out]
              rfl)
          have k1 : IntKind.i64.wrap ((m : Int) + (b5.length : Int)) = (m : Int) + (b5.length : Int) := IntWalk.i64_in _ (by omega)
          have hb1 : 1 ≤ b5.length := by rw [← HB5.out]; unfold putByte; simp
          have k2 : IntKind.i64.wrap ((m : Int) + (b5.length : Int) - 1) = ((m + b5.length - 1 : Nat) : Int) := by rw [IntWalk.i64_in _ (by omega)]; omega
          have k3 : (m : Int) + (b5.length : Int) - 1 = ((m + b5.length - 1 : Nat) : Int) := by omega
          clear hb1
          go_wp2_with fail
          go_roundw
          case rel => exact ⟨0 + 1, HLT.out, by go_num, _, by simp only [HPL.out, k3, if_neg (Nat.succ_ne_zero 0)], HP5.out, by rw [HNX.out, HBB.out, HB5.out]; exact HO5.out, HBL5.out, HSZ5.out⟩
          case measure => have := HLT.out; simp [intOf]; omega
        · have h0' : ((k : Int) == 0) = false := by simp; omega
          clear h0
          go_wp2_with fail
          go_roundw
          case rel => exact ⟨k + 1, HLT.out, by go_num, _, by have h := HAV.out; rw [if_neg (by have := h0'; simp at this; omega)] at h; rw [if_neg (by omega), h], HP5.out, by rw [HNX.out, HBB.out, HB5.out]; exact HO5.out, HBL5.out, HSZ5.out⟩
          case measure => have := HLT.out; simp [intOf]; omega
      · obtain rfl : k = cl := by omega
        have HPLZ := Lib.hid (show av = placeOf F.all cs by
          rw [← HAV.out]
          split
          · have : cs = [] := List.length_eq_zero_iff.1 (by rw [HCL.out]; assumption)
            rw [this]; rfl
          · rfl)
        rw [HPLZ.out]
        have HFIN := Lib.hid (show b = pieceOf F.all cs by rw [← HBB.out, List.take_of_length_le (by rw [HCL.out]; omega)]; unfold pieceOf; rw [HAL.out])
        obtain ⟨ra5, rc5, rfl, _⟩ := own_cells HO.out
        have q := HP.out.cells
        clear hlt hk
        go_wp2
        refine bodyPost_ret (v := .tuple #[.slice ra5 b.length rc5, .int .i64 (placeOf F.all cs : Int)]) (by simp [results, Try.results35, go_sem]) rfl ⟨_, rfl, by rw [← HFIN.out]; exact HO.out, HBL.out⟩
end Go.Proofs.Ytafigbomcgncnaa
