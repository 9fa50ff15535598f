/-
  Layer 11, the reference: Bytes.
-/
import Derived.Test.YtafigbomcgncnaaFrG
namespace Go.Proofs.Ytafigbomcgncnaa
set_option linter.unusedVariables false
set_option linter.unusedSimpArgs false
open Go.RowKit Go.Dav Go.Shelf
attribute [local go_sem] Gives ite_val ite_val_true Oper.semAt_some

def TryBytesRel11 (w : World) (F : FileD) (cs : List Value) (ix v : Value) (wr : World) : Prop :=
  ∃ k : Nat, k ≤ F.loose.length ∧ ix = .int .i64 k ∧ wr.ownsRow (w.heap.size + 1) 5 1 v (allTo F k).length (u8s (allTo F k)) ∧ Below (w.heap.size + 1) (w.alloc (.cells cs.toArray 25)) wr

set_option maxRecDepth 8000 in
set_option maxHeartbeats 4000000 in
theorem Try_refBytesOwn (F : FileD) (fa la : Option Addr) (fl fc ll lc : Nat) (w : World) (hF : FileAt w fa fl fc la ll lc F) (hm : F.many ≤ 140737488355328) :
    Calls Try.prog 13 #[.agg #[.slice fa fl fc, .slice la ll lc, .int .i64 F.fuse, .int .i64 F.fault, .bool F.off]] w (GivesOwn 5 w F.all) := by
  have e1 := hF.loose.hlen
  have e2 := hF.firm.hlen
  have b1 := hF.loose.hfew
  have hW : Below w.heap.size w (w.alloc (.cells [.slice fa fl fc, .slice la ll lc, .int .i64 F.fuse, .int .i64 F.fault, .bool F.off].toArray 25)) := (by repeat (first | (with_reducible exact Below.refl _ _) | (with_reducible exact Below.refl _ _) | (with_reducible refine Below.setCell ?_ (by first | omega | (simp; done) | (simp; omega)) _) | (with_reducible refine Below.alloc ?_ (by first | omega | (simp; done) | (simp; omega)) _) | (with_reducible refine Below.drew ?_) | (with_reducible refine below_drewN ?_ _)))
  have HF := Lib.hid (hF.ext hW)
  have hfn := hF.firm.hnil
  have HC := Lib.hid (hF.ext hW).firm.s.cells
  have H1 := Lib.hid e1
  have H2 := Lib.hid e2
  have HN := Lib.hid hfn
  have h0 : (allTo F 0).length = fl := by rw [allTo_len, sumTo_zero, e2]; rfl
  have h00 := allTo_le F 0
  have HM := Lib.hid hm
  have hfl : fl ≤ 140737488355328 := by omega
  have H00 := Lib.hid h0
  clear hF hfn e1 e2 hm h0 h00
  go_enter Try.func13, Try.ntmps13
  go_wp2_with (at_builtin; refine wpList_append_rowS rfl (.tmp 5) (.tmp 7) 22 rfl Try_elemU8 (w.heap.size + 1) _ 0 [] rfl (World.ownsRow_nil _ _ _ _) (fun b => b < (w.alloc (.cells [.slice fa fl fc, .slice la ll lc, .int .i64 F.fuse, .int .i64 F.fault, .bool F.off].toArray 25)).heap.size) fa fl fc (u8s F.firm) rfl HC.out (u8s_one _) HN.out (by unfold maxLen; omega) (by omega) (by simp) ?_; intro v1 w1 hown1 hgrow1)
  have bel1 : Below (w.heap.size + 1) (w.alloc (.cells [.slice fa fl fc, .slice la ll lc, .int .i64 F.fuse, .int .i64 F.fault, .bool F.off].toArray 25)) w1 := (Below.refl _ _).grown hgrow1 (by simp) (fun k hk => by cases hk)
  rw [Nat.zero_add, List.nil_append] at hown1
  go_wp2_with fail
  go_loopw [4, 3] (fun ix v wr => TryBytesRel11 w F [.slice fa fl fc, .slice la ll lc, .int .i64 F.fuse, .int .i64 F.fault, .bool F.off] ix v wr) (fun ix _ _ => ll - (intOf ix).toNat)
  case atStart =>
    refine ⟨0, Nat.zero_le _, rfl, ?_, bel1⟩
    rw [H00.out]
    have e : allTo F 0 = F.firm := by simp [allTo]
    rw [e]
    exact hown1
  case round =>
    obtain ⟨k, hk, rfl, hown, hbel⟩ := hrel
    have hk2 : k ≤ ll := by have := H1.out; omega
    have hbs := hbel.size
    simp only [World.size_alloc] at hbs
    have HAL := Lib.hid (allTo_le F k)
    have HOW := Lib.hid hown
    have hB := (Blk.new w [_, _, _, _, _] 25).below hbel (Nat.lt_succ_self _)
    have c1 := hB.cells
    have l1 := hB.lt
    clear hown hown1 hgrow1
    by_cases hlt : k < F.loose.length
    · obtain ⟨p, hp⟩ : ∃ p, F.loose[k]? = some p := ⟨_, List.getElem?_eq_getElem hlt⟩
      have hF2 := HF.out.ext (hbel.mono (by simp))
      obtain ⟨b, o, pa, pl, pc, rfl, hb, hc, hP⟩ := hF2.loose.hat k p hp
      have hpl := hP.hlen
      have hnil := hP.hnil
      have hpc := hP.s.cells
      have HS := Lib.hid (allTo_succ hp)
      have HAL2 := Lib.hid (allTo_le F (k + 1))
      have hkl : (k : Int) < (ll : Int) := by have := H1.out; omega
      have HLT := Lib.hid hlt
      have HP := Lib.hid hpl
      have HPC := Lib.hid hpc
      have HPN := Lib.hid hnil
      have hlen : (allTo F (k + 1)).length = (allTo F k).length + pl := by rw [HS.out, List.length_append, HP.out]
      have HLE := Lib.hid hlen
      clear hp hlt hP hpl hk hF2 hpc hnil hlen
      go_wp2_with (at_builtin; refine wpList_append_rowS rfl (.tmp 16) (.tmp 21) 22 rfl Try_elemU8 (w.heap.size + 1) _ (allTo F k).length (u8s (allTo F k)) rfl HOW.out (fun b => b < wr.heap.size) pa pl pc (u8s p) rfl HPC.out (u8s_one _) HPN.out (by have := HM.out; have := HAL2.out; have := HLE.out; unfold maxLen; omega) (by have := HM.out; have := HAL2.out; have := HLE.out; omega) (by omega) ?_; intro v1 w1 hown1 hgrow1)
      have bel1 : Below (w.heap.size + 1) (w.alloc (.cells #[.slice fa fl fc, .slice (some ⟨b, o, none⟩) ll lc, .int .i64 F.fuse, .int .i64 F.fault, .bool F.off] 25)) w1 := hbel.grown hgrow1 (by omega) (fun k hk => (HOW.out.lt k hk).1)
      rw [← u8s_append, ← HS.out, ← HLE.out] at hown1
      go_roundw
      case rel => exact ⟨k + 1, HLT.out, by go_num, hown1, bel1⟩
      case measure => simp [intOf]; omega
    · have hkl : k = F.loose.length := by omega
      have hk3 : ¬ ((k : Int) < (ll : Int)) := by have := H1.out; omega
      have hall : allTo F k = F.all := by rw [hkl, allTo_all]
      have hown := HOW.out
      rw [hall] at hown
      have hown2 := hown.mono (base' := w.heap.size) (by omega)
      clear hkl hk hlt hown hall
      go_wp2
      go_ret
      exact ⟨_, rfl, hown2, ((Below.refl _ w).alloc (Nat.le_refl _) _).trans (hbel.mono (by omega))⟩
theorem Try_refBytes (F : FileD) (fa la : Option Addr) (fl fc ll lc : Nat) (w : World) (hF : FileAt w fa fl fc la ll lc F) (hm : F.many ≤ 140737488355328) :
    Calls Try.prog 13 #[.agg #[.slice fa fl fc, .slice la ll lc, .int .i64 F.fuse, .int .i64 F.fault, .bool F.off]] w (GivesBytes w F.all) :=
  (Try_refBytesOwn F fa la fl fc ll lc w hF hm).mono fun e w' ⟨v, he, ho, hb⟩ => by
    obtain ⟨a', c', rfl, hB'⟩ := own_bytes ho (by rw [F.all_length]; omega)
    exact ⟨a', _, c', he, hB', hb⟩
end Go.Proofs.Ytafigbomcgncnaa
