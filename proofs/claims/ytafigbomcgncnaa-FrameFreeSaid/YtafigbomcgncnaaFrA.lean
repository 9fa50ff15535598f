/-
  Layer 11: a record as it goes out: in plain, and the program's out, walked.
-/
import Derived.Test.YtafigbomcgncnaaCrcC
import Derived.Test.YtafigbomcgncnaaFirm
import Derived.Test.YtafigbomcgncnaaFilI
namespace Go.Dav
set_option linter.unusedVariables false
set_option linter.unusedSimpArgs false
open Go Go.RowKit
def sizeOf2 (n : Nat) : List UInt8 := [UInt8.ofNat (n / 256), UInt8.ofNat n]
/-- A record as it goes out. -/
def outOf (p : List UInt8) : List UInt8 := sizeOf2 p.length ++ crcFour (crcSum (sizeOf2 p.length ++ p)) ++ p
theorem outOf_len (p : List UInt8) : (outOf p).length = 6 + p.length := by simp [outOf, sizeOf2, crcFour]; omega
theorem u8s_two (n : Nat) : u8s (sizeOf2 n) = [.int .u8 ((n : Int) / 256 % 256), .int .u8 ((n : Int) % 256)] := by simp [u8s, sizeOf2]
end Go.Dav
namespace Go.Proofs.Ytafigbomcgncnaa
set_option linter.unusedVariables false
set_option linter.unusedSimpArgs false
open Go.RowKit Go.Dav
attribute [local go_sem] Gives ite_val ite_val_true

theorem Try_make2 (n : Nat) (hn : n ≤ 1048576) (W : World) : (Instr.makeSlice 22 (.int .i64 2) (.int .i64 (6 + (n : Int)))).run Try.prog W = .ok (.slice (some ⟨W.heap.size, 0, none⟩) 2 (6 + n)) (W.alloc (.cells (List.replicate (6 + n) (Value.int .u8 0)).toArray 5)) := by
  have hinfo : (Try.prog.info? 5).map (fun i => (i.zero, i.size, i.bytes)) = some (some (.int .u8 0), 1, 1) := by kernel_rfl
  obtain ⟨i, hi, hz, hs, hb⟩ := info_parts hinfo
  have h := run_make (P := Try.prog) (w := W) 22 5 i (.int .u8 0) Try.underlying22 hi hz .i64 .i64 2 (6 + (n : Int)) (by omega) (by omega) (by rw [hb]; omega) (by omega)
  rw [hs] at h
  simp only [show (2 : Int).toNat = 2 by rfl, show (6 + (n : Int)).toNat = 6 + n by omega, Nat.mul_one] at h
  rw [h]
  have e : madeCells (Value.int .u8 0).cells (6 + n) = (List.replicate (6 + n) (Value.int .u8 0)).toArray := by
    rw [← toList_madeCells_one]; rfl
  rw [e]

set_option maxRecDepth 100000 in
set_option maxHeartbeats 8000000 in
theorem Try_out (a : Option Addr) (n c : Nat) (l : List UInt8) (w : World) (S : Nat → Prop) (hl : BytesS w S a n c l) (hn : n ≤ 1048576) :
    Calls Try.prog 31 #[.slice a n c] w fun e w' => ∃ v, e = .returned v ∧ w'.ownsRow w.heap.size 5 1 v (6 + n) (u8s (outOf l)) ∧ Below w.heap.size w w' := by
  have HL := Lib.hid hl
  have hn' : (n : Int) ≤ 1048576 := by omega
  have hwn : IntKind.i64.wrap (6 + (n : Int)) = 6 + (n : Int) := IntWalk.i64_in _ (by omega)
  obtain ⟨W0, hW0⟩ : ∃ W0, w.alloc (.cells (List.replicate (6 + n) (Value.int .u8 0)).toArray 5) = W0 := ⟨_, rfl⟩
  have hb0 : Blk W0 w.heap.size (List.replicate (6 + n) (Value.int .u8 0)) 5 := by rw [← hW0]; exact Blk.new w _ _
  have hmk : (Instr.makeSlice 22 (.int .i64 2) (.int .i64 (6 + (n : Int)))).run Try.prog w = .ok (.slice (some ⟨w.heap.size, 0, none⟩) 2 (6 + n)) W0 := by rw [Try_make2 n hn w, hW0]
  have c0 : W0.cell? ⟨w.heap.size, 0, none⟩ = some (.int .u8 0) := hb0.cell 0 (by rw [List.getElem?_replicate, if_pos (by omega)])
  have c1 : W0.cell? ⟨w.heap.size, 1, none⟩ = some (.int .u8 0) := hb0.cell 1 (by rw [List.getElem?_replicate, if_pos (by omega)])
  have m0 := hb0.marks
  have l0 := hb0.lt
  have BEL0 := Lib.hid (show Below w.heap.size w W0 by rw [← hW0]; exact (by repeat (first | (with_reducible exact Below.refl _ _) | (with_reducible exact Below.refl _ _) | (with_reducible refine Below.setCell ?_ (by first | omega | (simp; done) | (simp; omega)) _) | (with_reducible refine Below.alloc ?_ (by first | omega | (simp; done) | (simp; omega)) _) | (with_reducible refine Below.drew ?_) | (with_reducible refine below_drewN ?_ _))))
  have HB0 := Lib.hid hb0
  have HLN := Lib.hid hl.at_.hlen
  clear hl hb0 hW0
  go_enter Try.func31, Try.ntmps31
  go_wp2_with fail
  obtain ⟨W1, hW1⟩ : ∃ W1, (W0.setCell ⟨w.heap.size, 0, none⟩ (.int .u8 ((n : Int) / 256 % 256))).setCell ⟨w.heap.size, 1, none⟩ (.int .u8 ((n : Int) % 256)) = W1 := ⟨_, rfl⟩
  have o1 : Only w.heap.size W0 W1 := by rw [← hW1]; exact (by repeat (first | (with_reducible exact Only.refl _ _) | (with_reducible refine Only.set ?_ _ _) | (with_reducible refine Only.alloc ?_ _) | (with_reducible refine Only.drew ?_)))
  have hb1 : Blk W1 w.heap.size (((List.replicate (6 + n) (Value.int .u8 0)).set 0 (.int .u8 ((n : Int) / 256 % 256))).set 1 (.int .u8 ((n : Int) % 256))) 5 := by rw [← hW1]; exact (HB0.out.set 0 _).set 1 _
  have hown : W1.ownsRow w.heap.size 5 1 (.slice (some ⟨w.heap.size, 0, none⟩) 2 (6 + n)) 2 (u8s (sizeOf2 n)) := by
    refine ⟨by simp [u8s, sizeOf2], .inr ⟨_, _, _, rfl, Nat.le_refl _, hb1, by omega, by unfold maxLen; omega, by simp, ?_⟩⟩
    rw [u8s_two, show 6 + n = (4 + n) + 1 + 1 by omega]
    simp [List.replicate_succ]
  have bel1 := below_only BEL0.out o1 BEL0.out.size (Nat.le_refl _)
  have HO1 := Lib.hid hown
  have BEL1 := Lib.hid bel1
  have HL1 := Lib.hid (HL.out.ext bel1)
  rw [hW1]
  clear hW1 o1 hb1 hown bel1 c0 c1 m0 l0 HB0 BEL0 hmk
  obtain ⟨_, _, e2, hby⟩ := own_bytes HO1.out (by omega)
  cases e2
  have hA := Try_crcSum (some ⟨w.heap.size, 0, none⟩) 2 (6 + n) (sizeOf2 n) W1 hby.at_
  obtain ⟨s0, hs0⟩ : ∃ s0, crcOf 4294967295 (sizeOf2 n) = s0 := ⟨_, rfl⟩
  have hs0l : s0 < 4294967296 := by rw [← hs0]; exact crcOf_lt (by omega) _
  rw [hs0] at hA
  refine hA.mono ?_; rintro e w2 ⟨rfl, hb2⟩
  have HO2 := Lib.hid (ownsRow_ext HO1.out hb2)
  have HL2 := Lib.hid (HL1.out.ext hb2)
  have BEL2 := Lib.hid (BEL1.out.trans (hb2.mono BEL1.out.size))
  have HS0 := Lib.hid hs0
  have HS0L := Lib.hid hs0l
  clear hA hs0 hs0l hb2 hby HO1 HL1 BEL1
  go_wp2_with fail
  obtain ⟨s, hs⟩ : ∃ s, crcSum (sizeOf2 n ++ l) = s := ⟨_, rfl⟩
  have hB : Calls Try.prog 45 #[.int .u32 ((4294967295 - s0 : Nat) : Int), .slice a n c] w2 fun e w' => e = .returned (.int .u32 (s : Int)) ∧ Below w2.heap.size w2 w' := by
    have h := Try_crcMore (4294967295 - s0) a n c l (by omega) w2 HL2.out.at_
    have e1 : 4294967295 - (4294967295 - s0) = s0 := by have := HS0L.out; omega
    rw [e1] at h
    rw [← hs]
    unfold crcSum
    rw [crcOf_append, HS0.out]
    exact h
  have HB := Lib.hid hB
  have HSL := Lib.hid (show s < 4294967296 by rw [← hs]; exact crcSum_lt _)
  have HSS := Lib.hid hs
  clear hB hs
  first
    | (refine HB.out.mono ?_; rintro e w3 ⟨rfl, hb3⟩)
    | (trace_state; sorry)
  have HO3 := Lib.hid (ownsRow_ext HO2.out hb3)
  have HL3 := Lib.hid (HL2.out.ext hb3)
  have BEL3 := Lib.hid (BEL2.out.trans (hb3.mono BEL2.out.size))
  clear hb3 HO2 HL2 BEL2 HB
  go_wp2_with fail
  go_loopg [4, 25] 4 (fun g vx ix wr => ∃ k : Nat, k ≤ 4 ∧ g = 4 - k ∧ ix = .int .i64 k ∧ wr.ownsRow w.heap.size 5 1 vx (2 + k) (u8s (sizeOf2 n ++ (crcFour s).take k)) ∧ Below w.heap.size w wr)
  case atStart => exact ⟨0, by omega, rfl, rfl, by simpa using HO3.out, BEL3.out⟩
  case round =>
    obtain ⟨k, hk, rfl, rfl, ho, hbl⟩ := hrel
    obtain ⟨ra, rc, rfl, _⟩ := own_bytes ho (by omega)
    have HO := Lib.hid ho
    have HBL := Lib.hid hbl
    have hsl := HSL.out
    have HSL2 := Lib.hid hsl
    clear ho hbl hsl
    by_cases hk4 : k < 4
    · have h4 : k = 0 ∨ k = 1 ∨ k = 2 ∨ k = 3 := by omega
      rcases h4 with rfl | rfl | rfl | rfl
      ·
        have HOx := Lib.hid (ownsRow_ext HO.out ((Below.refl _ wr).alloc (Nat.le_refl _) (.cells #[.int .u8 ((s : Int) % 256)] 5)))
        have HCx := Lib.hid (cells_one (S := fun b => b = wr.heap.size) (g := wr.heap.size) (v := .int .u8 ((s : Int) % 256)) rfl (by simp) (Blk.new wr [.int .u8 ((s : Int) % 256)] 5 |>.cell 0 rfl))
        have hsx : w.heap.size ≤ (wr.alloc (.cells #[.int .u8 ((s : Int) % 256)] 5)).heap.size := by have := HBL.out.size; simp; omega
        go_wp2_with (at_builtin; refine wpList_append_rowS rfl (.tmp 28) (.tmp 34) 22 rfl Try_elemU8 w.heap.size _ (2 + 0) (u8s (sizeOf2 n ++ (crcFour s).take 0)) rfl HOx.out (fun b => b = wr.heap.size) (some ⟨wr.heap.size, 0, none⟩) 1 1 [.int .u8 ((s : Int) % 256)] rfl HCx.out (fun u hu => by simp at hu; subst hu; rfl) (fun h => by cases h) (by unfold maxLen; omega) (by omega) hsx ?_; intro v' w' hown' hgrow)
        go_wp2_with fail
        go_roundg (4 - (0 + 1))
        case measure => omega
        case rel =>
          refine ⟨0 + 1, by omega, rfl, by go_num, ?_, below_own (HBL.out.alloc HBL.out.size _) (by have := HBL.out.size; simp; omega) HOx.out (Nat.le_refl _) hgrow⟩
          have e : u8s (sizeOf2 n ++ (crcFour s).take (0 + 1)) = u8s (sizeOf2 n ++ (crcFour s).take 0) ++ [.int .u8 ((s : Int) % 256)] := by simp [u8s, crcFour]
          rw [e]
          exact hown'
      ·
        have HOx := Lib.hid (ownsRow_ext HO.out ((Below.refl _ wr).alloc (Nat.le_refl _) (.cells #[.int .u8 ((s : Int) / 256 % 256)] 5)))
        have HCx := Lib.hid (cells_one (S := fun b => b = wr.heap.size) (g := wr.heap.size) (v := .int .u8 ((s : Int) / 256 % 256)) rfl (by simp) (Blk.new wr [.int .u8 ((s : Int) / 256 % 256)] 5 |>.cell 0 rfl))
        have hsx : w.heap.size ≤ (wr.alloc (.cells #[.int .u8 ((s : Int) / 256 % 256)] 5)).heap.size := by have := HBL.out.size; simp; omega
        go_wp2_with (at_builtin; refine wpList_append_rowS rfl (.tmp 28) (.tmp 34) 22 rfl Try_elemU8 w.heap.size _ (2 + 1) (u8s (sizeOf2 n ++ (crcFour s).take 1)) rfl HOx.out (fun b => b = wr.heap.size) (some ⟨wr.heap.size, 0, none⟩) 1 1 [.int .u8 ((s : Int) / 256 % 256)] rfl HCx.out (fun u hu => by simp at hu; subst hu; rfl) (fun h => by cases h) (by unfold maxLen; omega) (by omega) hsx ?_; intro v' w' hown' hgrow)
        go_wp2_with fail
        go_roundg (4 - (1 + 1))
        case measure => omega
        case rel =>
          refine ⟨1 + 1, by omega, rfl, by go_num, ?_, below_own (HBL.out.alloc HBL.out.size _) (by have := HBL.out.size; simp; omega) HOx.out (Nat.le_refl _) hgrow⟩
          have e : u8s (sizeOf2 n ++ (crcFour s).take (1 + 1)) = u8s (sizeOf2 n ++ (crcFour s).take 1) ++ [.int .u8 ((s : Int) / 256 % 256)] := by simp [u8s, crcFour]
          rw [e]
          exact hown'
      ·
        have HOx := Lib.hid (ownsRow_ext HO.out ((Below.refl _ wr).alloc (Nat.le_refl _) (.cells #[.int .u8 ((s : Int) / 65536 % 256)] 5)))
        have HCx := Lib.hid (cells_one (S := fun b => b = wr.heap.size) (g := wr.heap.size) (v := .int .u8 ((s : Int) / 65536 % 256)) rfl (by simp) (Blk.new wr [.int .u8 ((s : Int) / 65536 % 256)] 5 |>.cell 0 rfl))
        have hsx : w.heap.size ≤ (wr.alloc (.cells #[.int .u8 ((s : Int) / 65536 % 256)] 5)).heap.size := by have := HBL.out.size; simp; omega
        go_wp2_with (at_builtin; refine wpList_append_rowS rfl (.tmp 28) (.tmp 34) 22 rfl Try_elemU8 w.heap.size _ (2 + 2) (u8s (sizeOf2 n ++ (crcFour s).take 2)) rfl HOx.out (fun b => b = wr.heap.size) (some ⟨wr.heap.size, 0, none⟩) 1 1 [.int .u8 ((s : Int) / 65536 % 256)] rfl HCx.out (fun u hu => by simp at hu; subst hu; rfl) (fun h => by cases h) (by unfold maxLen; omega) (by omega) hsx ?_; intro v' w' hown' hgrow)
        go_wp2_with fail
        go_roundg (4 - (2 + 1))
        case measure => omega
        case rel =>
          refine ⟨2 + 1, by omega, rfl, by go_num, ?_, below_own (HBL.out.alloc HBL.out.size _) (by have := HBL.out.size; simp; omega) HOx.out (Nat.le_refl _) hgrow⟩
          have e : u8s (sizeOf2 n ++ (crcFour s).take (2 + 1)) = u8s (sizeOf2 n ++ (crcFour s).take 2) ++ [.int .u8 ((s : Int) / 65536 % 256)] := by simp [u8s, crcFour]
          rw [e]
          exact hown'
      ·
        have HOx := Lib.hid (ownsRow_ext HO.out ((Below.refl _ wr).alloc (Nat.le_refl _) (.cells #[.int .u8 ((s : Int) / 16777216 % 256)] 5)))
        have HCx := Lib.hid (cells_one (S := fun b => b = wr.heap.size) (g := wr.heap.size) (v := .int .u8 ((s : Int) / 16777216 % 256)) rfl (by simp) (Blk.new wr [.int .u8 ((s : Int) / 16777216 % 256)] 5 |>.cell 0 rfl))
        have hsx : w.heap.size ≤ (wr.alloc (.cells #[.int .u8 ((s : Int) / 16777216 % 256)] 5)).heap.size := by have := HBL.out.size; simp; omega
        go_wp2_with (at_builtin; refine wpList_append_rowS rfl (.tmp 28) (.tmp 34) 22 rfl Try_elemU8 w.heap.size _ (2 + 3) (u8s (sizeOf2 n ++ (crcFour s).take 3)) rfl HOx.out (fun b => b = wr.heap.size) (some ⟨wr.heap.size, 0, none⟩) 1 1 [.int .u8 ((s : Int) / 16777216 % 256)] rfl HCx.out (fun u hu => by simp at hu; subst hu; rfl) (fun h => by cases h) (by unfold maxLen; omega) (by omega) hsx ?_; intro v' w' hown' hgrow)
        go_wp2_with fail
        go_roundg (4 - (3 + 1))
        case measure => omega
        case rel =>
          refine ⟨3 + 1, by omega, rfl, by go_num, ?_, below_own (HBL.out.alloc HBL.out.size _) (by have := HBL.out.size; simp; omega) HOx.out (Nat.le_refl _) hgrow⟩
          have e : u8s (sizeOf2 n ++ (crcFour s).take (3 + 1)) = u8s (sizeOf2 n ++ (crcFour s).take 3) ++ [.int .u8 ((s : Int) / 16777216 % 256)] := by simp [u8s, crcFour]
          rw [e]
          exact hown'
    · obtain rfl : k = 4 := by omega
      clear hk4
      have HLr := Lib.hid (HL.out.ext HBL.out)
      have HNIL := Lib.hid HL.out.at_.hnil
      have hsz := HBL.out.size
      go_wp2_with (at_builtin; refine wpList_append_rowS rfl (.tmp 37) (.tmp 38) 22 rfl Try_elemU8 w.heap.size _ (2 + 4) (u8s (sizeOf2 n ++ (crcFour s).take 4)) rfl HO.out S a n c (u8s l) rfl HLr.out.cells (u8s_one l) HNIL.out (by unfold maxLen; omega) (by omega) hsz ?_; intro v' w' hown' hgrow; have HO5 := Lib.hid hown'; have BEL5 := Lib.hid (below_own HBL.out hsz HO.out (Nat.le_refl _) hgrow); clear hown' hgrow)
      go_ret
      refine ⟨_, rfl, ?_, BEL5.out⟩
      have h := HO5.out
      have e : u8s (outOf l) = u8s (sizeOf2 n ++ (crcFour s).take 4) ++ u8s l := by
        unfold outOf
        rw [HLN.out, HSS.out, u8s_append]; rfl
      rw [e, show 6 + n = 2 + 4 + n by omega]
      exact h
end Go.Proofs.Ytafigbomcgncnaa
