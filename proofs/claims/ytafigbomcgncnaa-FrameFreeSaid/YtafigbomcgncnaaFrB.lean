/-
  Layer 11: a byte that is laid behind a mark: in plain, and the program's put, walked.
-/
import Derived.Test.YtafigbomcgncnaaFrA
import Derived.Deep.AppendLies
import Derived.Deep.RegionLaw
import Derived.Deep.QuietTactic
import Derived.BigQuiet
import Derived.Deep.DeepCutAuto
namespace Go.Dav
set_option linter.unusedVariables false
set_option linter.unusedSimpArgs false
open Go Go.RowKit
def padByte (n : Nat) (b : List UInt8) : List UInt8 := if (n + b.length) % 64 = 0 then b ++ [0] else b
def putByte (n : Nat) (b : List UInt8) (c : UInt8) : List UInt8 := padByte n b ++ [c]
def layOn (n : Nat) (b0 cs : List UInt8) : List UInt8 := cs.foldl (putByte n) b0
theorem layOn_snoc (n : Nat) (b0 cs : List UInt8) (c : UInt8) : layOn n b0 (cs ++ [c]) = putByte n (layOn n b0 cs) c := by simp [layOn]
theorem padByte_len (n : Nat) (b : List UInt8) : (padByte n b).length ≤ b.length + 1 := by unfold padByte; split <;> simp
theorem putByte_len (n : Nat) (b : List UInt8) (c : UInt8) : (putByte n b c).length ≤ b.length + 2 := by
  unfold putByte; have := padByte_len n b; simp; omega
theorem layOn_len (n : Nat) (b0 : List UInt8) : ∀ cs, (layOn n b0 cs).length ≤ b0.length + 2 * cs.length := by
  intro cs
  induction cs generalizing b0 with
  | nil => simp [layOn]
  | cons c cs ih =>
    have h := ih (putByte n b0 c)
    have h2 := putByte_len n b0 c
    show (layOn n (putByte n b0 c) cs).length ≤ _
    simp; omega
theorem u8s_snoc (l : List UInt8) (c : UInt8) : u8s (l ++ [c]) = u8s l ++ [.int .u8 (c.toNat : Int)] := by simp [u8s]
end Go.Dav
namespace Go.Proofs.Ytafigbomcgncnaa
set_option linter.unusedVariables false
set_option linter.unusedSimpArgs false
open Go.RowKit Go.Dav
attribute [local go_sem] Gives ite_val ite_val_true

set_option maxRecDepth 100000 in
set_option maxHeartbeats 8000000 in
theorem Try_wput (p n base B : Nat) (v : Value) (b : List UInt8) (c : UInt8) (w : World) (hp : Blk w p [v, .int .i64 (n : Int)] 82) (hv : w.ownsRow base 5 1 v b.length (u8s b)) (hbase : base ≤ w.heap.size) (hB1 : B ≤ base) (hB2 : B ≤ p) (hn : n ≤ 1048576) (hb : b.length ≤ 1048576) :
    Calls Try.prog 48 #[.pointer (some ⟨p, 0, none⟩), .int .u8 (c.toNat : Int)] w fun e w' => e = .returned (.tuple #[]) ∧ ∃ v', Blk w' p [v', .int .i64 (n : Int)] 82 ∧ w'.ownsRow base 5 1 v' (putByte n b c).length (u8s (putByte n b c)) ∧ Below B w w' := by
  have HP := Lib.hid hp
  have HO := Lib.hid hv
  have q := hp.cells
  have m := hp.marks
  have l := hp.lt
  obtain ⟨ra, rc, rfl, _⟩ := own_bytes hv (by omega)
  have k1 : IntKind.i64.wrap ((n : Int) + (b.length : Int)) = (n : Int) + (b.length : Int) := IntWalk.i64_in _ (by omega)
  have k2 : ((n : Int) + (b.length : Int)).tmod 64 = (((n + b.length) % 64 : Nat) : Int) := by rw [Int.tmod_eq_emod_of_nonneg (by omega)]; omega
  obtain ⟨i0, hi, hz0, hz1, hz2⟩ := info_parts Try_infoU8
  have HI := Lib.hid (And.intro hi (And.intro hz0 (And.intro hz1 hz2)))
  clear hp hv hi hz0 hz1 hz2
  have HBASE := Lib.hid hbase
  by_cases hm : (n + b.length) % 64 = 0
  · have k3 : ((n : Int) + (b.length : Int)) % 64 = 0 := by omega
    have HPD := Lib.hid (show padByte n b = b ++ [0] by unfold padByte; rw [if_pos hm])
    clear hm
    go_enter Try.func48, Try.ntmps48
    go_wp2_with fail
    go_quiet (fail)
    have hbd : Below w.heap.size w (w.drewN nq) := below_drewN (Below.refl _ _) _
    obtain ⟨W1, hW1⟩ : ∃ W1, w.drewN nq = W1 := ⟨_, rfl⟩
    rw [hW1] at hbd ⊢
    have HP1 := Lib.hid (HP.out.ext hbd)
    have HO1 := Lib.hid (ownsRow_ext HO.out hbd)
    have BEL1 := Lib.hid (hbd.mono (show B ≤ w.heap.size by omega))
    have HSZ1 := Lib.hid hbd.size
    clear hbd hW1 HP HO
    clear q m l
    have q := HP1.out.cells
    have l := HP1.out.lt
    have HOa := Lib.hid (ownsRow_ext HO1.out ((Below.refl _ W1).alloc (Nat.le_refl _) (.cells #[.int .u8 0] 5)))
    have HCa := Lib.hid (cells_one (S := fun x => x = W1.heap.size) (g := W1.heap.size) (v := .int .u8 0) rfl (by simp) (Blk.new W1 [.int .u8 0] 5 |>.cell 0 rfl))
    have HSa := Lib.hid (show base ≤ (W1.alloc (.cells #[.int .u8 0] 5)).heap.size by have := HBASE.out; have := HSZ1.out; simp; omega)
    go_upto_region 2 with (first | (at_builtin; refine wpList_append_rowS rfl (.tmp 23) (.tmp 24) 22 rfl Try_elemU8 base _ b.length (u8s b) rfl HOa.out (fun x => x = W1.heap.size) (some ⟨W1.heap.size, 0, none⟩) 1 1 [.int .u8 0] rfl HCa.out (fun u hu => by simp at hu; subst hu; rfl) (fun h => by cases h) (by unfold maxLen; omega) (by omega) HSa.out ?_; intro v2 w2 hown2 hgrow2; clear HSa; obtain ⟨ra2, rc2, rfl, _⟩ := own_cells hown2; have g2 := Grew.of_own HOa.out hgrow2; have hp2 := g2.blk (HP1.out.alloc _) (by decide); have q2 := hp2.cells; have m2 := hp2.marks; have l2 := hp2.lt; have HO2 := Lib.hid hown2; have HP2 := Lib.hid hp2; have HB2 := Lib.hid ((BEL1.out.alloc (by have := BEL1.out.size; omega) (.cells #[.int .u8 0] 5)).trans (below_own (Below.refl B _) (by have := BEL1.out.size; have := HBASE.out; simp; omega) HOa.out hB1 hgrow2)); have HS2 := Lib.hid g2.size; clear hown2 hgrow2 g2 hp2) | (fail))
    obtain ⟨W3, hW3⟩ : ∃ W3, w2.setCell ⟨p, 0, none⟩ (.slice ra2 (b.length + 1) rc2) = W3 := ⟨_, rfl⟩
    have HP3 := Lib.hid (show Blk W3 p [.slice ra2 (b.length + 1) rc2, .int .i64 (n : Int)] 82 by rw [← hW3]; exact HP2.out.set 0 _)
    have HO3 := Lib.hid (show W3.ownsRow base 5 1 (.slice ra2 (b.length + 1) rc2) (b ++ [0]).length (u8s (b ++ [0])) by
      have h := ownsRow_set_other (i := 0) (u := .slice ra2 (b.length + 1) rc2) HO2.out HP2.out (by decide)
      rw [hW3] at h
      rw [List.length_append, u8s_append]; exact h)
    have BEL3 := Lib.hid (show Below B w W3 by rw [← hW3]; exact HB2.out.setCell hB2 _)
    have HSZ3 := Lib.hid (show w.heap.size ≤ W3.heap.size by have h1 := HB2.out.size; rw [← hW3]; simpa using h1)
    have hbl : (b ++ [0]).length = b.length + 1 := by simp
    rw [hW3]
    clear hW3 HP1 HO1 BEL1 HSZ1 HO2 HP2 HB2 HS2 q2 m2 l2 q l HCa HOa
    rw [← hbl] at HP3 HO3 ⊢
    obtain ⟨b', hb'⟩ : ∃ b', b ++ [0] = b' := ⟨_, rfl⟩
    rw [hb'] at HO3 HP3 HPD hbl
    rw [hb']
    have hbm : b'.length ≤ 1048577 := by omega
    clear hb' hbl
    have HSZ1 := Lib.hid HSZ3.out
    have q := HP3.out.cells
    have l := HP3.out.lt
    have HOb := Lib.hid (ownsRow_ext HO3.out ((Below.refl _ W3).alloc (Nat.le_refl _) (.cells #[.int .u8 (c.toNat : Int)] 5)))
    have HCb := Lib.hid (cells_one (S := fun x => x = W3.heap.size) (g := W3.heap.size) (v := .int .u8 (c.toNat : Int)) rfl (by simp) (Blk.new W3 [.int .u8 (c.toNat : Int)] 5 |>.cell 0 rfl))
    have HSb := Lib.hid (show base ≤ (W3.alloc (.cells #[.int .u8 (c.toNat : Int)] 5)).heap.size by have := HBASE.out; have := HSZ1.out; simp; omega)
    go_wp2_with (at_builtin; refine wpList_append_rowS rfl (.tmp 34) (.tmp 36) 22 rfl Try_elemU8 base _ b'.length (u8s b') rfl HOb.out (fun x => x = W3.heap.size) (some ⟨W3.heap.size, 0, none⟩) 1 1 [.int .u8 (c.toNat : Int)] rfl HCb.out (fun u hu => by simp at hu; subst hu; rfl) (fun h => by cases h) (by unfold maxLen; omega) (by omega) HSb.out ?_; intro v4 w4 hown4 hgrow4; clear HSb; obtain ⟨ra4, rc4, rfl, _⟩ := own_cells hown4; have g4 := Grew.of_own HOb.out hgrow4; have hp4 := g4.blk (HP3.out.alloc _) (by decide); have q4 := hp4.cells; have m4 := hp4.marks; have l4 := hp4.lt; have HO4 := Lib.hid hown4; have HP4 := Lib.hid hp4; have HB4 := Lib.hid ((BEL3.out.alloc (by have := HSZ3.out; omega) (.cells #[.int .u8 (c.toNat : Int)] 5)).trans (below_own (Below.refl B _) (by have := HSZ3.out; have := HBASE.out; simp; omega) HOb.out hB1 hgrow4)); clear hown4 hgrow4 g4 hp4)
    go_end0
    refine ⟨rfl, _, HP4.out.set 0 _, ?_, HB4.out.setCell hB2 _⟩
    have h := ownsRow_set_other (i := 0) (u := .slice ra4 (b'.length + 1) rc4) HO4.out HP4.out (by decide)
    unfold putByte
    rw [HPD.out, List.length_append, u8s_snoc]
    exact h
  · have k3 : (((((n + b.length) % 64 : Nat) : Int)) == 0) = false := by simp; omega
    have k3' : ¬ ((n : Int) + (b.length : Int)) % 64 = 0 := by omega
    have HPD := Lib.hid (show padByte n b = b by unfold padByte; rw [if_neg hm])
    clear hm
    go_enter Try.func48, Try.ntmps48
    go_wp2_with fail
    go_quiet (fail)
    have hbd : Below w.heap.size w (w.drewN nq) := below_drewN (Below.refl _ _) _
    obtain ⟨W1, hW1⟩ : ∃ W1, w.drewN nq = W1 := ⟨_, rfl⟩
    rw [hW1] at hbd ⊢
    have HP1 := Lib.hid (HP.out.ext hbd)
    have HO1 := Lib.hid (ownsRow_ext HO.out hbd)
    have BEL1 := Lib.hid (hbd.mono (show B ≤ w.heap.size by omega))
    have HSZ1 := Lib.hid hbd.size
    clear hbd hW1 HP HO
    clear q m l
    have q := HP1.out.cells
    have l := HP1.out.lt
    have hbm : b.length ≤ 1048577 := by omega
    have HSZ1 := Lib.hid HSZ1.out
    have q := HP1.out.cells
    have l := HP1.out.lt
    have HOb := Lib.hid (ownsRow_ext HO1.out ((Below.refl _ W1).alloc (Nat.le_refl _) (.cells #[.int .u8 (c.toNat : Int)] 5)))
    have HCb := Lib.hid (cells_one (S := fun x => x = W1.heap.size) (g := W1.heap.size) (v := .int .u8 (c.toNat : Int)) rfl (by simp) (Blk.new W1 [.int .u8 (c.toNat : Int)] 5 |>.cell 0 rfl))
    have HSb := Lib.hid (show base ≤ (W1.alloc (.cells #[.int .u8 (c.toNat : Int)] 5)).heap.size by have := HBASE.out; have := HSZ1.out; simp; omega)
    go_wp2_with (at_builtin; refine wpList_append_rowS rfl (.tmp 34) (.tmp 36) 22 rfl Try_elemU8 base _ b.length (u8s b) rfl HOb.out (fun x => x = W1.heap.size) (some ⟨W1.heap.size, 0, none⟩) 1 1 [.int .u8 (c.toNat : Int)] rfl HCb.out (fun u hu => by simp at hu; subst hu; rfl) (fun h => by cases h) (by unfold maxLen; omega) (by omega) HSb.out ?_; intro v4 w4 hown4 hgrow4; clear HSb; obtain ⟨ra4, rc4, rfl, _⟩ := own_cells hown4; have g4 := Grew.of_own HOb.out hgrow4; have hp4 := g4.blk (HP1.out.alloc _) (by decide); have q4 := hp4.cells; have m4 := hp4.marks; have l4 := hp4.lt; have HO4 := Lib.hid hown4; have HP4 := Lib.hid hp4; have HB4 := Lib.hid ((BEL1.out.alloc (by have := HSZ1.out; omega) (.cells #[.int .u8 (c.toNat : Int)] 5)).trans (below_own (Below.refl B _) (by have := HSZ1.out; have := HBASE.out; simp; omega) HOb.out hB1 hgrow4)); clear hown4 hgrow4 g4 hp4)
    go_end0
    refine ⟨rfl, _, HP4.out.set 0 _, ?_, HB4.out.setCell hB2 _⟩
    have h := ownsRow_set_other (i := 0) (u := .slice ra4 (b.length + 1) rc4) HO4.out HP4.out (by decide)
    unfold putByte
    rw [HPD.out, List.length_append, u8s_snoc]
    exact h
end Go.Proofs.Ytafigbomcgncnaa
