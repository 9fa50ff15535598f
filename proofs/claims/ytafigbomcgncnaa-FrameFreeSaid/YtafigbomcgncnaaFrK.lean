/-
  Layer 11, the reference: Past for every place; Lay.
-/
import Derived.Test.YtafigbomcgncnaaFrJ
namespace Go.Dav
set_option linter.unusedVariables false
set_option linter.unusedSimpArgs false
open Go Go.RowKit
theorem pastAll_in {l : List UInt8} {k : Nat} {x0 : UInt8} (h1 : k < l.length) (h2 : k % 64 ≠ 0) (hx : l[k - k % 64]? = some x0) : pastAll l (k : Int) = if x0 = 0 then pasts l k else [] := by
  unfold pastAll
  rw [if_neg (by omega), Int.toNat_natCast]
  unfold restAt
  rw [if_pos (by omega), hx]
  by_cases h : x0 = 0
  · rw [if_pos h, h, if_pos rfl]
  · rw [if_neg h, if_neg (fun e => h (Option.some.inj e))]
theorem pastAll_no {l : List UInt8} {at_ : Int} (h : at_ < 0 ∨ (l.length : Int) ≤ at_ ∨ at_ % 64 = 0) : pastAll l at_ = [] := by unfold pastAll; rw [if_pos h]
end Go.Dav
namespace Go.Proofs.Ytafigbomcgncnaa
set_option linter.unusedVariables false
set_option linter.unusedSimpArgs false
open Go.RowKit Go.Dav Go.Shelf
attribute [local go_sem] Gives ite_val ite_val_true Oper.semAt_some

theorem Try_refPast (a : Option Addr) (n c : Nat) (l : List UInt8) (at_ : Int) (w : World) (hl : BytesAt w a n c l) (ha : I64' at_) (hn : n ≤ 1048576) :
    Calls Try.prog 33 #[.slice a n c, .int .i64 at_] w (PastTo w 5 3 (pastAll l at_)) := by
  have hln := hl.hlen
  by_cases h : at_ < 0 ∨ (n : Int) ≤ at_ ∨ at_ % 64 = 0
  · rw [pastAll_no (by rw [hln]; exact h)]
    exact Try_refPast_no a n c l at_ w hl ha h
  · obtain ⟨k, rfl⟩ : ∃ k : Nat, at_ = (k : Int) := ⟨at_.toNat, by omega⟩
    obtain ⟨x0, hx⟩ : ∃ x, l[k - k % 64]? = some x := ⟨_, List.getElem?_eq_getElem (by omega)⟩
    obtain ⟨b, o, rfl, _⟩ := hl.hat _ _ hx
    rw [pastAll_in (by omega) (by omega) hx]
    exact Try_refPast_in b o n c l k w hl hn (by omega) (by omega) x0 hx

set_option maxRecDepth 100000 in
set_option maxHeartbeats 8000000 in
theorem Try_refLay (aa ba : Option Addr) (an ac bn bc : Nat) (l cs : List UInt8) (w : World) (hl : BytesAt w aa an ac l) (hc : BytesAt w ba bn bc cs) (han : an ≤ 1048576) (hbn : bn ≤ 8192) (h1 : 1 ≤ bn) :
    Calls Try.prog 19 #[.slice aa an ac, .slice ba bn bc] w fun e w' => ∃ v, e = .returned (.tuple #[v, .int .i64 (placeOf l cs : Int)]) ∧ w'.ownsRow w.heap.size 5 1 v (pieceOf l cs).length (u8s (pieceOf l cs)) ∧ Below w.heap.size w w' := by
  have HL := Lib.hid hl
  have HC := Lib.hid hc
  have HLL := Lib.hid hl.hlen
  have HCL := Lib.hid hc.hlen
  have H1 := Lib.hid h1
  have htm : (an : Int).tmod 64 = ((an % 64 : Nat) : Int) := by rw [Int.tmod_eq_emod_of_nonneg (by omega)]; omega
  clear hl hc h1
  by_cases h0 : an % 64 = 0
  · have h0' : (an : Int) % 64 = 0 := by omega
    have HPF := Lib.hid (show padFor l = [] by unfold padFor isMarked; rw [HLL.out]; simp [h0])
    have HOx := Lib.hid (show w.ownsRow w.heap.size 5 1 (.slice none 0 0) (padFor l).length (u8s (padFor l)) by rw [HPF.out]; exact World.ownsRow_nil _ _ _ _)
    have BELx := Lib.hid (Below.refl w.heap.size w)
    clear h0
    go_enter Try.func19, Try.ntmps19
    go_wp2_with fail
    clear htm h0'
    go_loopg [6, 8, 9] bn (fun g vx atv ix wr => ∃ k : Nat, k ≤ bn ∧ g = bn - k ∧ ix = .int .i64 (k : Int) ∧ atv = .int .i64 (if k = 0 then -1 else (placeOf l cs : Int)) ∧ wr.ownsRow w.heap.size 5 1 vx (layOn an (padFor l) (cs.take k)).length (u8s (layOn an (padFor l) (cs.take k))) ∧ Below w.heap.size w wr)
    case atStart => exact ⟨0, Nat.zero_le _, by omega, by go_num, rfl, by first | exact HOx.out | (have h := HOx.out; rw [HPF.out] at h ⊢; exact h), BELx.out⟩
    case round =>
      obtain ⟨k, hk, rfl, rfl, rfl, ho, hbl⟩ := hrel
      have hlay := layOn_len an (padFor l) (cs.take k)
      have hpf := padFor_len l
      have htk : (cs.take k).length ≤ 8192 := by rw [List.length_take, HCL.out]; omega
      have HO := Lib.hid ho
      have HBL := Lib.hid hbl
      obtain ⟨ra, rc, rfl, _⟩ := own_cells ho
      obtain ⟨b, hb⟩ : ∃ b, layOn an (padFor l) (cs.take k) = b := ⟨_, rfl⟩
      rw [hb] at HO hlay
      have HBB := Lib.hid hb
      rw [hb]
      have hbl2 : b.length ≤ 20000 := by omega
      obtain ⟨av, hav⟩ : ∃ av : Int, (if k = 0 then -1 else (placeOf l cs : Int)) = av := ⟨_, rfl⟩
      rw [hav]
      have HAV := Lib.hid hav
      clear ho hbl hb hav hlay hpf htk
      by_cases hlt : k < bn
      · obtain ⟨c, hc⟩ : ∃ c, cs[k]? = some c := ⟨_, List.getElem?_eq_getElem (by rw [HCL.out]; exact hlt)⟩
        obtain ⟨bb, oo, rfl, hlb, hcell0⟩ := HC.out.hat k c hc
        have hcell := (HBL.out.cell (p := ⟨bb, oo + k, none⟩) hlb).trans hcell0
        have hkl : (k : Int) < (bn : Int) := by omega
        have HNX := Lib.hid (layOn_take (n := an) (b0 := padFor l) hc)
        have HLT := Lib.hid hlt
        have HCC := Lib.hid hc
        have k1 : IntKind.i64.wrap ((an : Int) + (b.length : Int)) = (an : Int) + (b.length : Int) := IntWalk.i64_in _ (by omega)
        have k2 : ((an : Int) + (b.length : Int)).tmod 64 = ((an : Int) + (b.length : Int)) % 64 := Int.tmod_eq_emod_of_nonneg (by omega)
        clear hc hlt hcell0 hlb
        have HCF := Lib.hid (show ∀ W', Below w.heap.size w W' → W'.cell? ⟨bb, oo + k, none⟩ = some (.int .u8 (c.toNat : Int)) from fun W' hW' => by
          obtain ⟨b', o', e5, hb', hb''⟩ := HC.out.hat k c HCC.out
          cases e5; exact (hW'.cell (p := ⟨bb, oo + k, none⟩) hb').trans hb'')
        by_cases h0k : k = 0
        · have HPL := Lib.hid (show ∀ b', padByte an b = b' → (placeOf l cs : Int) = (an : Int) + (b'.length : Int) from fun b' hb' => by
            subst h0k
            have h := HCC.out
            cases cs with
            | nil => cases h
            | cons c' cs' =>
              show ((l.length + (putByte l.length (padFor l) c').length - 1 : Nat) : Int) = _
              have h2 : padFor l = b := HBB.out
              rw [HLL.out, h2]
              unfold putByte
              rw [hb', List.length_append]
              simp only [List.length_singleton]; omega)
          have h0k' : ((k : Int) == 0) = true := by rw [h0k]; rfl
          clear h0k
          by_cases hm : (an + b.length) % 64 = 0
          · have k3 : ((an : Int) + (b.length : Int)) % 64 = 0 := by omega
            have HPD := Lib.hid (show padByte an b = b ++ [0] by unfold padByte; rw [if_pos hm])
            have hbl3 : (b ++ [0]).length = b.length + 1 := by simp
            have HCX := Lib.hid (cells_one (S := fun b => b = wr.heap.size) (g := wr.heap.size) (v := .int .u8 0) rfl (by simp) (Blk.new wr [.int .u8 0] 5 |>.cell 0 rfl))
            clear hm hcell
            go_wp2_with (first | (at_builtin; refine wpList_append_rowS rfl (.tmp 46) (.tmp 47) 22 rfl Try_elemU8 w.heap.size _ b.length (u8s b) rfl (HO.out.alloc _) (fun b => b = wr.heap.size) (some ⟨wr.heap.size, 0, none⟩) 1 1 [.int .u8 0] rfl HCX.out (fun u hu => by simp at hu; subst hu; rfl) (fun h => by cases h) (by unfold maxLen; omega) (by omega) (by have := HBL.out.size; simp; omega) ?_; intro v2 w2 hown2 hgrow2; have bel2 := Lib.hid (below_own (HBL.out.alloc HBL.out.size _) (by have := HBL.out.size; simp; omega) (HO.out.alloc _) (Nat.le_refl _) hgrow2); have hs2 := bel2.out.size; obtain ⟨r2, c2, rfl, hz2⟩ := own_cells hown2; obtain ⟨m1, hm1⟩ : ∃ m1, b.length + 1 = m1 := ⟨_, rfl⟩; rw [hm1] at hown2 ⊢; have HM1 := Lib.hid hm1; have HO2 := Lib.hid hown2; have hcell2 := HCF.out w2 bel2.out; have j1 : IntKind.i64.wrap ((an : Int) + (m1 : Int)) = (an : Int) + (m1 : Int) := IntWalk.i64_in _ (by omega); have HCY := Lib.hid (cells_one (S := fun b => b = w2.heap.size) (g := w2.heap.size) (v := .int .u8 (c.toNat : Int)) rfl (by simp) (Blk.new w2 [.int .u8 (c.toNat : Int)] 5 |>.cell 0 rfl)); have hmb : m1 ≤ 20001 := (by omega); clear HCX hown2 hgrow2 hz2 hm1) | (at_builtin; refine wpList_append_rowS rfl (.tmp 55) (.tmp 60) 22 rfl Try_elemU8 w.heap.size _ m1 (u8s b ++ [.int .u8 0]) rfl (HO2.out.alloc _) (fun b => b = w2.heap.size) (some ⟨w2.heap.size, 0, none⟩) 1 1 [.int .u8 (c.toNat : Int)] rfl HCY.out (fun u hu => by simp at hu; subst hu; rfl) (fun h => by cases h) (by unfold maxLen; omega) (by omega) (by simp; omega) ?_; intro v4 w4 hown4 hgrow4; have bel4 := Lib.hid (below_own (bel2.out.alloc bel2.out.size _) (by simp; omega) (HO2.out.alloc _) (Nat.le_refl _) hgrow4); have HO4 := Lib.hid hown4; clear HCY hown4 hgrow4))
            go_roundg (bn - (k + 1))
            case measure => have := HLT.out; omega
            case rel =>
              refine ⟨k + 1, HLT.out, rfl, by go_num, ?_, ?_, bel4.out⟩
              · rw [if_neg (Nat.succ_ne_zero _)]; rw [HPL.out _ HPD.out, hbl3, HM1.out]
              · have h := HO4.out
                rw [HNX.out, HBB.out]
                unfold putByte
                rw [HPD.out, List.length_append, hbl3, HM1.out, u8s_append, u8s_append]
                exact h
          · have k3 : (((an : Int) + (b.length : Int)) % 64 == 0) = false := by rw [beq_eq_false_iff_ne]; omega
            have HPD := Lib.hid (show padByte an b = b by unfold padByte; rw [if_neg hm])
            have HCY := Lib.hid (cells_one (S := fun b => b = wr.heap.size) (g := wr.heap.size) (v := .int .u8 (c.toNat : Int)) rfl (by simp) (Blk.new wr [.int .u8 (c.toNat : Int)] 5 |>.cell 0 rfl))
            clear hm
            go_wp2_with (at_builtin; refine wpList_append_rowS rfl (.tmp 55) (.tmp 60) 22 rfl Try_elemU8 w.heap.size _ b.length (u8s b) rfl (HO.out.alloc _) (fun b => b = wr.heap.size) (some ⟨wr.heap.size, 0, none⟩) 1 1 [.int .u8 (c.toNat : Int)] rfl HCY.out (fun u hu => by simp at hu; subst hu; rfl) (fun h => by cases h) (by unfold maxLen; omega) (by omega) (by have := HBL.out.size; simp; omega) ?_; intro v4 w4 hown4 hgrow4; have bel4 := Lib.hid (below_own (HBL.out.alloc HBL.out.size _) (by have := HBL.out.size; simp; omega) (HO.out.alloc _) (Nat.le_refl _) hgrow4); have HO4 := Lib.hid hown4; clear HCY hown4 hgrow4)
            go_roundg (bn - (k + 1))
            case measure => have := HLT.out; omega
            case rel =>
              refine ⟨k + 1, HLT.out, rfl, by go_num, ?_, ?_, bel4.out⟩
              · rw [if_neg (Nat.succ_ne_zero _)]; rw [HPL.out _ HPD.out]
              · have h := HO4.out
                rw [HNX.out, HBB.out]
                unfold putByte
                rw [HPD.out, List.length_append, u8s_append]
                exact h
        · have h0k' : ((k : Int) == 0) = false := by rw [beq_eq_false_iff_ne]; omega
          have HAV2 := Lib.hid (show av = (placeOf l cs : Int) by rw [← HAV.out, if_neg h0k])
          clear h0k
          by_cases hm : (an + b.length) % 64 = 0
          · have k3 : ((an : Int) + (b.length : Int)) % 64 = 0 := by omega
            have HPD := Lib.hid (show padByte an b = b ++ [0] by unfold padByte; rw [if_pos hm])
            have hbl3 : (b ++ [0]).length = b.length + 1 := by simp
            have HCX := Lib.hid (cells_one (S := fun b => b = wr.heap.size) (g := wr.heap.size) (v := .int .u8 0) rfl (by simp) (Blk.new wr [.int .u8 0] 5 |>.cell 0 rfl))
            clear hm hcell
            go_wp2_with (first | (at_builtin; refine wpList_append_rowS rfl (.tmp 46) (.tmp 47) 22 rfl Try_elemU8 w.heap.size _ b.length (u8s b) rfl (HO.out.alloc _) (fun b => b = wr.heap.size) (some ⟨wr.heap.size, 0, none⟩) 1 1 [.int .u8 0] rfl HCX.out (fun u hu => by simp at hu; subst hu; rfl) (fun h => by cases h) (by unfold maxLen; omega) (by omega) (by have := HBL.out.size; simp; omega) ?_; intro v2 w2 hown2 hgrow2; have bel2 := Lib.hid (below_own (HBL.out.alloc HBL.out.size _) (by have := HBL.out.size; simp; omega) (HO.out.alloc _) (Nat.le_refl _) hgrow2); have hs2 := bel2.out.size; obtain ⟨r2, c2, rfl, hz2⟩ := own_cells hown2; obtain ⟨m1, hm1⟩ : ∃ m1, b.length + 1 = m1 := ⟨_, rfl⟩; rw [hm1] at hown2 ⊢; have HM1 := Lib.hid hm1; have HO2 := Lib.hid hown2; have hcell2 := HCF.out w2 bel2.out; have j1 : IntKind.i64.wrap ((an : Int) + (m1 : Int)) = (an : Int) + (m1 : Int) := IntWalk.i64_in _ (by omega); have HCY := Lib.hid (cells_one (S := fun b => b = w2.heap.size) (g := w2.heap.size) (v := .int .u8 (c.toNat : Int)) rfl (by simp) (Blk.new w2 [.int .u8 (c.toNat : Int)] 5 |>.cell 0 rfl)); have hmb : m1 ≤ 20001 := (by omega); clear HCX hown2 hgrow2 hz2 hm1) | (at_builtin; refine wpList_append_rowS rfl (.tmp 55) (.tmp 60) 22 rfl Try_elemU8 w.heap.size _ m1 (u8s b ++ [.int .u8 0]) rfl (HO2.out.alloc _) (fun b => b = w2.heap.size) (some ⟨w2.heap.size, 0, none⟩) 1 1 [.int .u8 (c.toNat : Int)] rfl HCY.out (fun u hu => by simp at hu; subst hu; rfl) (fun h => by cases h) (by unfold maxLen; omega) (by omega) (by simp; omega) ?_; intro v4 w4 hown4 hgrow4; have bel4 := Lib.hid (below_own (bel2.out.alloc bel2.out.size _) (by simp; omega) (HO2.out.alloc _) (Nat.le_refl _) hgrow4); have HO4 := Lib.hid hown4; clear HCY hown4 hgrow4))
            go_roundg (bn - (k + 1))
            case measure => have := HLT.out; omega
            case rel =>
              refine ⟨k + 1, HLT.out, rfl, by go_num, ?_, ?_, bel4.out⟩
              · rw [if_neg (Nat.succ_ne_zero _)]; rw [HAV2.out]
              · have h := HO4.out
                rw [HNX.out, HBB.out]
                unfold putByte
                rw [HPD.out, List.length_append, hbl3, HM1.out, u8s_append, u8s_append]
                exact h
          · have k3 : (((an : Int) + (b.length : Int)) % 64 == 0) = false := by rw [beq_eq_false_iff_ne]; omega
            have HPD := Lib.hid (show padByte an b = b by unfold padByte; rw [if_neg hm])
            have HCY := Lib.hid (cells_one (S := fun b => b = wr.heap.size) (g := wr.heap.size) (v := .int .u8 (c.toNat : Int)) rfl (by simp) (Blk.new wr [.int .u8 (c.toNat : Int)] 5 |>.cell 0 rfl))
            clear hm
            go_wp2_with (at_builtin; refine wpList_append_rowS rfl (.tmp 55) (.tmp 60) 22 rfl Try_elemU8 w.heap.size _ b.length (u8s b) rfl (HO.out.alloc _) (fun b => b = wr.heap.size) (some ⟨wr.heap.size, 0, none⟩) 1 1 [.int .u8 (c.toNat : Int)] rfl HCY.out (fun u hu => by simp at hu; subst hu; rfl) (fun h => by cases h) (by unfold maxLen; omega) (by omega) (by have := HBL.out.size; simp; omega) ?_; intro v4 w4 hown4 hgrow4; have bel4 := Lib.hid (below_own (HBL.out.alloc HBL.out.size _) (by have := HBL.out.size; simp; omega) (HO.out.alloc _) (Nat.le_refl _) hgrow4); have HO4 := Lib.hid hown4; clear HCY hown4 hgrow4)
            go_roundg (bn - (k + 1))
            case measure => have := HLT.out; omega
            case rel =>
              refine ⟨k + 1, HLT.out, rfl, by go_num, ?_, ?_, bel4.out⟩
              · rw [if_neg (Nat.succ_ne_zero _)]; rw [HAV2.out]
              · have h := HO4.out
                rw [HNX.out, HBB.out]
                unfold putByte
                rw [HPD.out, List.length_append, u8s_append]
                exact h
      · obtain rfl : k = bn := by omega
        have hkl : ¬ ((k : Int) < (k : Int)) := by omega
        have HPLZ := Lib.hid (show av = (placeOf l cs : Int) by rw [← HAV.out, if_neg (by have := H1.out; omega)])
        have HFIN := Lib.hid (show b = pieceOf l cs by rw [← HBB.out, List.take_of_length_le (by rw [HCL.out]; omega)]; unfold pieceOf; rw [HLL.out])
        clear hlt hk
        go_wp2_with fail
        refine bodyPost_ret (v := .tuple #[.slice ra b.length rc, .int .i64 av]) (by simp [results, Try.results19, go_sem]) rfl ⟨_, by rw [HPLZ.out], by rw [← HFIN.out]; exact HO.out, HBL.out⟩
  · have h0' : ((an : Int) % 64 != 0) = true := by simp; omega
    obtain ⟨fr, hfr⟩ : ∃ fr, an - an % 64 = fr := ⟨_, rfl⟩
    obtain ⟨x, hx⟩ : ∃ x, l[fr]? = some x := ⟨_, List.getElem?_eq_getElem (by have := HLL.out; omega)⟩
    obtain ⟨b, o, rfl, _, hc0⟩ := HL.out.hat fr x hx
    have e1 : IntKind.i64.wrap ((an : Int) - (an : Int) % 64) = (fr : Int) := by
      rw [show (an : Int) - (an : Int) % 64 = (fr : Int) by omega]; exact IntWalk.i64_in _ (by omega)
    have e2 : (an : Int) - (an : Int) % 64 = (fr : Int) := by omega
    have e4 : fr < an := by omega
    have HV := Lib.hid (show isMarked l = (x != 0) by unfold isMarked; rw [HLL.out, hfr, hx, decide_eq_true h0, Bool.true_and]; rfl)
    clear hx hfr
    by_cases hx0 : x = 0
    · subst hx0
      have hc0' : w.cell? ⟨b, o + fr, none⟩ = some (.int .u8 0) := hc0
      have HPF := Lib.hid (show padFor l = [] by unfold padFor; rw [HV.out]; rfl)
      have HOx := Lib.hid (show w.ownsRow w.heap.size 5 1 (.slice none 0 0) (padFor l).length (u8s (padFor l)) by rw [HPF.out]; exact World.ownsRow_nil _ _ _ _)
      have BELx := Lib.hid (Below.refl w.heap.size w)
      clear hc0 h0
      go_enter Try.func19, Try.ntmps19
      go_wp2_with fail
      clear htm h0' hc0' e1 e2 e4
      go_loopg [6, 8, 9] bn (fun g vx atv ix wr => ∃ k : Nat, k ≤ bn ∧ g = bn - k ∧ ix = .int .i64 (k : Int) ∧ atv = .int .i64 (if k = 0 then -1 else (placeOf l cs : Int)) ∧ wr.ownsRow w.heap.size 5 1 vx (layOn an (padFor l) (cs.take k)).length (u8s (layOn an (padFor l) (cs.take k))) ∧ Below w.heap.size w wr)
      case atStart => exact ⟨0, Nat.zero_le _, by omega, by go_num, rfl, by first | exact HOx.out | (have h := HOx.out; rw [HPF.out] at h ⊢; exact h), BELx.out⟩
      case round =>
        obtain ⟨k, hk, rfl, rfl, rfl, ho, hbl⟩ := hrel
        have hlay := layOn_len an (padFor l) (cs.take k)
        have hpf := padFor_len l
        have htk : (cs.take k).length ≤ 8192 := by rw [List.length_take, HCL.out]; omega
        have HO := Lib.hid ho
        have HBL := Lib.hid hbl
        obtain ⟨ra, rc, rfl, _⟩ := own_cells ho
        obtain ⟨b, hb⟩ : ∃ b, layOn an (padFor l) (cs.take k) = b := ⟨_, rfl⟩
        rw [hb] at HO hlay
        have HBB := Lib.hid hb
        rw [hb]
        have hbl2 : b.length ≤ 20000 := by omega
        obtain ⟨av, hav⟩ : ∃ av : Int, (if k = 0 then -1 else (placeOf l cs : Int)) = av := ⟨_, rfl⟩
        rw [hav]
        have HAV := Lib.hid hav
        clear ho hbl hb hav hlay hpf htk
        by_cases hlt : k < bn
        · obtain ⟨c, hc⟩ : ∃ c, cs[k]? = some c := ⟨_, List.getElem?_eq_getElem (by rw [HCL.out]; exact hlt)⟩
          obtain ⟨bb, oo, rfl, hlb, hcell0⟩ := HC.out.hat k c hc
          have hcell := (HBL.out.cell (p := ⟨bb, oo + k, none⟩) hlb).trans hcell0
          have hkl : (k : Int) < (bn : Int) := by omega
          have HNX := Lib.hid (layOn_take (n := an) (b0 := padFor l) hc)
          have HLT := Lib.hid hlt
          have HCC := Lib.hid hc
          have k1 : IntKind.i64.wrap ((an : Int) + (b.length : Int)) = (an : Int) + (b.length : Int) := IntWalk.i64_in _ (by omega)
          have k2 : ((an : Int) + (b.length : Int)).tmod 64 = ((an : Int) + (b.length : Int)) % 64 := Int.tmod_eq_emod_of_nonneg (by omega)
          clear hc hlt hcell0 hlb
          have HCF := Lib.hid (show ∀ W', Below w.heap.size w W' → W'.cell? ⟨bb, oo + k, none⟩ = some (.int .u8 (c.toNat : Int)) from fun W' hW' => by
            obtain ⟨b', o', e5, hb', hb''⟩ := HC.out.hat k c HCC.out
            cases e5; exact (hW'.cell (p := ⟨bb, oo + k, none⟩) hb').trans hb'')
          by_cases h0k : k = 0
          · have HPL := Lib.hid (show ∀ b', padByte an b = b' → (placeOf l cs : Int) = (an : Int) + (b'.length : Int) from fun b' hb' => by
              subst h0k
              have h := HCC.out
              cases cs with
              | nil => cases h
              | cons c' cs' =>
                show ((l.length + (putByte l.length (padFor l) c').length - 1 : Nat) : Int) = _
                have h2 : padFor l = b := HBB.out
                rw [HLL.out, h2]
                unfold putByte
                rw [hb', List.length_append]
                simp only [List.length_singleton]; omega)
            have h0k' : ((k : Int) == 0) = true := by rw [h0k]; rfl
            clear h0k
            by_cases hm : (an + b.length) % 64 = 0
            · have k3 : ((an : Int) + (b.length : Int)) % 64 = 0 := by omega
              have HPD := Lib.hid (show padByte an b = b ++ [0] by unfold padByte; rw [if_pos hm])
              have hbl3 : (b ++ [0]).length = b.length + 1 := by simp
              have HCX := Lib.hid (cells_one (S := fun b => b = wr.heap.size) (g := wr.heap.size) (v := .int .u8 0) rfl (by simp) (Blk.new wr [.int .u8 0] 5 |>.cell 0 rfl))
              clear hm hcell
              go_wp2_with (first | (at_builtin; refine wpList_append_rowS rfl (.tmp 46) (.tmp 47) 22 rfl Try_elemU8 w.heap.size _ b.length (u8s b) rfl (HO.out.alloc _) (fun b => b = wr.heap.size) (some ⟨wr.heap.size, 0, none⟩) 1 1 [.int .u8 0] rfl HCX.out (fun u hu => by simp at hu; subst hu; rfl) (fun h => by cases h) (by unfold maxLen; omega) (by omega) (by have := HBL.out.size; simp; omega) ?_; intro v2 w2 hown2 hgrow2; have bel2 := Lib.hid (below_own (HBL.out.alloc HBL.out.size _) (by have := HBL.out.size; simp; omega) (HO.out.alloc _) (Nat.le_refl _) hgrow2); have hs2 := bel2.out.size; obtain ⟨r2, c2, rfl, hz2⟩ := own_cells hown2; obtain ⟨m1, hm1⟩ : ∃ m1, b.length + 1 = m1 := ⟨_, rfl⟩; rw [hm1] at hown2 ⊢; have HM1 := Lib.hid hm1; have HO2 := Lib.hid hown2; have hcell2 := HCF.out w2 bel2.out; have j1 : IntKind.i64.wrap ((an : Int) + (m1 : Int)) = (an : Int) + (m1 : Int) := IntWalk.i64_in _ (by omega); have HCY := Lib.hid (cells_one (S := fun b => b = w2.heap.size) (g := w2.heap.size) (v := .int .u8 (c.toNat : Int)) rfl (by simp) (Blk.new w2 [.int .u8 (c.toNat : Int)] 5 |>.cell 0 rfl)); have hmb : m1 ≤ 20001 := (by omega); clear HCX hown2 hgrow2 hz2 hm1) | (at_builtin; refine wpList_append_rowS rfl (.tmp 55) (.tmp 60) 22 rfl Try_elemU8 w.heap.size _ m1 (u8s b ++ [.int .u8 0]) rfl (HO2.out.alloc _) (fun b => b = w2.heap.size) (some ⟨w2.heap.size, 0, none⟩) 1 1 [.int .u8 (c.toNat : Int)] rfl HCY.out (fun u hu => by simp at hu; subst hu; rfl) (fun h => by cases h) (by unfold maxLen; omega) (by omega) (by simp; omega) ?_; intro v4 w4 hown4 hgrow4; have bel4 := Lib.hid (below_own (bel2.out.alloc bel2.out.size _) (by simp; omega) (HO2.out.alloc _) (Nat.le_refl _) hgrow4); have HO4 := Lib.hid hown4; clear HCY hown4 hgrow4))
              go_roundg (bn - (k + 1))
              case measure => have := HLT.out; omega
              case rel =>
                refine ⟨k + 1, HLT.out, rfl, by go_num, ?_, ?_, bel4.out⟩
                · rw [if_neg (Nat.succ_ne_zero _)]; rw [HPL.out _ HPD.out, hbl3, HM1.out]
                · have h := HO4.out
                  rw [HNX.out, HBB.out]
                  unfold putByte
                  rw [HPD.out, List.length_append, hbl3, HM1.out, u8s_append, u8s_append]
                  exact h
            · have k3 : (((an : Int) + (b.length : Int)) % 64 == 0) = false := by rw [beq_eq_false_iff_ne]; omega
              have HPD := Lib.hid (show padByte an b = b by unfold padByte; rw [if_neg hm])
              have HCY := Lib.hid (cells_one (S := fun b => b = wr.heap.size) (g := wr.heap.size) (v := .int .u8 (c.toNat : Int)) rfl (by simp) (Blk.new wr [.int .u8 (c.toNat : Int)] 5 |>.cell 0 rfl))
              clear hm
              go_wp2_with (at_builtin; refine wpList_append_rowS rfl (.tmp 55) (.tmp 60) 22 rfl Try_elemU8 w.heap.size _ b.length (u8s b) rfl (HO.out.alloc _) (fun b => b = wr.heap.size) (some ⟨wr.heap.size, 0, none⟩) 1 1 [.int .u8 (c.toNat : Int)] rfl HCY.out (fun u hu => by simp at hu; subst hu; rfl) (fun h => by cases h) (by unfold maxLen; omega) (by omega) (by have := HBL.out.size; simp; omega) ?_; intro v4 w4 hown4 hgrow4; have bel4 := Lib.hid (below_own (HBL.out.alloc HBL.out.size _) (by have := HBL.out.size; simp; omega) (HO.out.alloc _) (Nat.le_refl _) hgrow4); have HO4 := Lib.hid hown4; clear HCY hown4 hgrow4)
              go_roundg (bn - (k + 1))
              case measure => have := HLT.out; omega
              case rel =>
                refine ⟨k + 1, HLT.out, rfl, by go_num, ?_, ?_, bel4.out⟩
                · rw [if_neg (Nat.succ_ne_zero _)]; rw [HPL.out _ HPD.out]
                · have h := HO4.out
                  rw [HNX.out, HBB.out]
                  unfold putByte
                  rw [HPD.out, List.length_append, u8s_append]
                  exact h
          · have h0k' : ((k : Int) == 0) = false := by rw [beq_eq_false_iff_ne]; omega
            have HAV2 := Lib.hid (show av = (placeOf l cs : Int) by rw [← HAV.out, if_neg h0k])
            clear h0k
            by_cases hm : (an + b.length) % 64 = 0
            · have k3 : ((an : Int) + (b.length : Int)) % 64 = 0 := by omega
              have HPD := Lib.hid (show padByte an b = b ++ [0] by unfold padByte; rw [if_pos hm])
              have hbl3 : (b ++ [0]).length = b.length + 1 := by simp
              have HCX := Lib.hid (cells_one (S := fun b => b = wr.heap.size) (g := wr.heap.size) (v := .int .u8 0) rfl (by simp) (Blk.new wr [.int .u8 0] 5 |>.cell 0 rfl))
              clear hm hcell
              go_wp2_with (first | (at_builtin; refine wpList_append_rowS rfl (.tmp 46) (.tmp 47) 22 rfl Try_elemU8 w.heap.size _ b.length (u8s b) rfl (HO.out.alloc _) (fun b => b = wr.heap.size) (some ⟨wr.heap.size, 0, none⟩) 1 1 [.int .u8 0] rfl HCX.out (fun u hu => by simp at hu; subst hu; rfl) (fun h => by cases h) (by unfold maxLen; omega) (by omega) (by have := HBL.out.size; simp; omega) ?_; intro v2 w2 hown2 hgrow2; have bel2 := Lib.hid (below_own (HBL.out.alloc HBL.out.size _) (by have := HBL.out.size; simp; omega) (HO.out.alloc _) (Nat.le_refl _) hgrow2); have hs2 := bel2.out.size; obtain ⟨r2, c2, rfl, hz2⟩ := own_cells hown2; obtain ⟨m1, hm1⟩ : ∃ m1, b.length + 1 = m1 := ⟨_, rfl⟩; rw [hm1] at hown2 ⊢; have HM1 := Lib.hid hm1; have HO2 := Lib.hid hown2; have hcell2 := HCF.out w2 bel2.out; have j1 : IntKind.i64.wrap ((an : Int) + (m1 : Int)) = (an : Int) + (m1 : Int) := IntWalk.i64_in _ (by omega); have HCY := Lib.hid (cells_one (S := fun b => b = w2.heap.size) (g := w2.heap.size) (v := .int .u8 (c.toNat : Int)) rfl (by simp) (Blk.new w2 [.int .u8 (c.toNat : Int)] 5 |>.cell 0 rfl)); have hmb : m1 ≤ 20001 := (by omega); clear HCX hown2 hgrow2 hz2 hm1) | (at_builtin; refine wpList_append_rowS rfl (.tmp 55) (.tmp 60) 22 rfl Try_elemU8 w.heap.size _ m1 (u8s b ++ [.int .u8 0]) rfl (HO2.out.alloc _) (fun b => b = w2.heap.size) (some ⟨w2.heap.size, 0, none⟩) 1 1 [.int .u8 (c.toNat : Int)] rfl HCY.out (fun u hu => by simp at hu; subst hu; rfl) (fun h => by cases h) (by unfold maxLen; omega) (by omega) (by simp; omega) ?_; intro v4 w4 hown4 hgrow4; have bel4 := Lib.hid (below_own (bel2.out.alloc bel2.out.size _) (by simp; omega) (HO2.out.alloc _) (Nat.le_refl _) hgrow4); have HO4 := Lib.hid hown4; clear HCY hown4 hgrow4))
              go_roundg (bn - (k + 1))
              case measure => have := HLT.out; omega
              case rel =>
                refine ⟨k + 1, HLT.out, rfl, by go_num, ?_, ?_, bel4.out⟩
                · rw [if_neg (Nat.succ_ne_zero _)]; rw [HAV2.out]
                · have h := HO4.out
                  rw [HNX.out, HBB.out]
                  unfold putByte
                  rw [HPD.out, List.length_append, hbl3, HM1.out, u8s_append, u8s_append]
                  exact h
            · have k3 : (((an : Int) + (b.length : Int)) % 64 == 0) = false := by rw [beq_eq_false_iff_ne]; omega
              have HPD := Lib.hid (show padByte an b = b by unfold padByte; rw [if_neg hm])
              have HCY := Lib.hid (cells_one (S := fun b => b = wr.heap.size) (g := wr.heap.size) (v := .int .u8 (c.toNat : Int)) rfl (by simp) (Blk.new wr [.int .u8 (c.toNat : Int)] 5 |>.cell 0 rfl))
              clear hm
              go_wp2_with (at_builtin; refine wpList_append_rowS rfl (.tmp 55) (.tmp 60) 22 rfl Try_elemU8 w.heap.size _ b.length (u8s b) rfl (HO.out.alloc _) (fun b => b = wr.heap.size) (some ⟨wr.heap.size, 0, none⟩) 1 1 [.int .u8 (c.toNat : Int)] rfl HCY.out (fun u hu => by simp at hu; subst hu; rfl) (fun h => by cases h) (by unfold maxLen; omega) (by omega) (by have := HBL.out.size; simp; omega) ?_; intro v4 w4 hown4 hgrow4; have bel4 := Lib.hid (below_own (HBL.out.alloc HBL.out.size _) (by have := HBL.out.size; simp; omega) (HO.out.alloc _) (Nat.le_refl _) hgrow4); have HO4 := Lib.hid hown4; clear HCY hown4 hgrow4)
              go_roundg (bn - (k + 1))
              case measure => have := HLT.out; omega
              case rel =>
                refine ⟨k + 1, HLT.out, rfl, by go_num, ?_, ?_, bel4.out⟩
                · rw [if_neg (Nat.succ_ne_zero _)]; rw [HAV2.out]
                · have h := HO4.out
                  rw [HNX.out, HBB.out]
                  unfold putByte
                  rw [HPD.out, List.length_append, u8s_append]
                  exact h
        · obtain rfl : k = bn := by omega
          have hkl : ¬ ((k : Int) < (k : Int)) := by omega
          have HPLZ := Lib.hid (show av = (placeOf l cs : Int) by rw [← HAV.out, if_neg (by have := H1.out; omega)])
          have HFIN := Lib.hid (show b = pieceOf l cs by rw [← HBB.out, List.take_of_length_le (by rw [HCL.out]; omega)]; unfold pieceOf; rw [HLL.out])
          clear hlt hk
          go_wp2_with fail
          refine bodyPost_ret (v := .tuple #[.slice ra b.length rc, .int .i64 av]) (by simp [results, Try.results19, go_sem]) rfl ⟨_, by rw [HPLZ.out], by rw [← HFIN.out]; exact HO.out, HBL.out⟩
    · have hz : ((x.toNat : Int) != 0) = true := by
        rw [bne_iff_ne]; intro e; exact hx0 (UInt8.toNat_inj.1 (by exact_mod_cast e))
      have HPF := Lib.hid (show padFor l = List.replicate (64 - an % 64) 0 by unfold padFor; rw [HV.out, HLL.out, show (x != 0) = true by simpa using hx0]; rfl)
      clear hx0
      go_enter Try.func19, Try.ntmps19
      go_wp2_with fail
      clear htm h0' hc0 e1 e2 e4 hz
      go_loopg [6] (64 - an % 64) (fun g vx wr => ∃ k : Nat, k ≤ 64 - an % 64 ∧ g = 64 - an % 64 - k ∧ wr.ownsRow w.heap.size 5 1 vx k (u8s (List.replicate k 0)) ∧ Below w.heap.size w wr)
      case atStart => exact ⟨0, by omega, rfl, World.ownsRow_nil _ _ _ _, Below.refl _ _⟩
      case round =>
        obtain ⟨k, hk, rfl, ho, hbl⟩ := hrel
        have HO := Lib.hid ho
        have HBL := Lib.hid hbl
        obtain ⟨ra, rc, rfl, _⟩ := own_cells ho
        have e5 : IntKind.i64.wrap ((an : Int) + (k : Int)) = (an : Int) + (k : Int) := IntWalk.i64_in _ (by omega)
        have t2 : ((an : Int) + (k : Int)).tmod 64 = ((an : Int) + (k : Int)) % 64 := Int.tmod_eq_emod_of_nonneg (by omega)
        clear ho hbl
        by_cases hlt : k < 64 - an % 64
        · have d4 : (((an : Int) + (k : Int)) % 64 != 0) = true := by rw [bne_iff_ne]; omega
          have HCX := Lib.hid (cells_one (S := fun b => b = wr.heap.size) (g := wr.heap.size) (v := .int .u8 0) rfl (by simp) (Blk.new wr [.int .u8 0] 5 |>.cell 0 rfl))
          go_wp2_with (at_builtin; refine wpList_append_rowS rfl (.tmp 31) (.tmp 32) 22 rfl Try_elemU8 w.heap.size _ k (u8s (List.replicate k 0)) rfl (HO.out.alloc _) (fun b => b = wr.heap.size) (some ⟨wr.heap.size, 0, none⟩) 1 1 [.int .u8 0] rfl HCX.out (fun u hu => by simp at hu; subst hu; rfl) (fun h => by cases h) (by unfold maxLen; omega) (by omega) (by have := HBL.out.size; simp; omega) ?_; intro v2 w2 hown2 hgrow2; have bel2 := Lib.hid (below_own (HBL.out.alloc HBL.out.size _) (by have := HBL.out.size; simp; omega) (HO.out.alloc _) (Nat.le_refl _) hgrow2); have HO2 := Lib.hid hown2; clear HCX hown2 hgrow2)
          go_roundg (64 - an % 64 - (k + 1))
          case measure => omega
          case rel => exact ⟨k + 1, by omega, rfl, by have h := HO2.out; rw [List.replicate_succ', u8s_append]; exact h, bel2.out⟩
        · obtain rfl : k = 64 - an % 64 := by omega
          have d4 : ((an : Int) + ((64 - an % 64 : Nat) : Int)) % 64 = 0 := by omega
          have HOx := Lib.hid (show wr.ownsRow w.heap.size 5 1 (.slice ra (64 - an % 64) rc) (padFor l).length (u8s (padFor l)) by rw [HPF.out, List.length_replicate]; exact HO.out)
          have BELx := HBL
          clear hlt
          go_wp2_with fail
          clear d4 e5 t2
          go_loopg [6, 8, 9] bn (fun g vx atv ix wr => ∃ k : Nat, k ≤ bn ∧ g = bn - k ∧ ix = .int .i64 (k : Int) ∧ atv = .int .i64 (if k = 0 then -1 else (placeOf l cs : Int)) ∧ wr.ownsRow w.heap.size 5 1 vx (layOn an (padFor l) (cs.take k)).length (u8s (layOn an (padFor l) (cs.take k))) ∧ Below w.heap.size w wr)
          case atStart => exact ⟨0, Nat.zero_le _, by omega, by go_num, rfl, by first | exact HOx.out | (have h := HOx.out; rw [HPF.out] at h ⊢; exact h), BELx.out⟩
          case round =>
            obtain ⟨k, hk, rfl, rfl, rfl, ho, hbl⟩ := hrel
            have hlay := layOn_len an (padFor l) (cs.take k)
            have hpf := padFor_len l
            have htk : (cs.take k).length ≤ 8192 := by rw [List.length_take, HCL.out]; omega
            have HO := Lib.hid ho
            have HBL := Lib.hid hbl
            obtain ⟨ra, rc, rfl, _⟩ := own_cells ho
            obtain ⟨b, hb⟩ : ∃ b, layOn an (padFor l) (cs.take k) = b := ⟨_, rfl⟩
            rw [hb] at HO hlay
            have HBB := Lib.hid hb
            rw [hb]
            have hbl2 : b.length ≤ 20000 := by omega
            obtain ⟨av, hav⟩ : ∃ av : Int, (if k = 0 then -1 else (placeOf l cs : Int)) = av := ⟨_, rfl⟩
            rw [hav]
            have HAV := Lib.hid hav
            clear ho hbl hb hav hlay hpf htk
            by_cases hlt : k < bn
            · obtain ⟨c, hc⟩ : ∃ c, cs[k]? = some c := ⟨_, List.getElem?_eq_getElem (by rw [HCL.out]; exact hlt)⟩
              obtain ⟨bb, oo, rfl, hlb, hcell0⟩ := HC.out.hat k c hc
              have hcell := (HBL.out.cell (p := ⟨bb, oo + k, none⟩) hlb).trans hcell0
              have hkl : (k : Int) < (bn : Int) := by omega
              have HNX := Lib.hid (layOn_take (n := an) (b0 := padFor l) hc)
              have HLT := Lib.hid hlt
              have HCC := Lib.hid hc
              have k1 : IntKind.i64.wrap ((an : Int) + (b.length : Int)) = (an : Int) + (b.length : Int) := IntWalk.i64_in _ (by omega)
              have k2 : ((an : Int) + (b.length : Int)).tmod 64 = ((an : Int) + (b.length : Int)) % 64 := Int.tmod_eq_emod_of_nonneg (by omega)
              clear hc hlt hcell0 hlb
              have HCF := Lib.hid (show ∀ W', Below w.heap.size w W' → W'.cell? ⟨bb, oo + k, none⟩ = some (.int .u8 (c.toNat : Int)) from fun W' hW' => by
                obtain ⟨b', o', e5, hb', hb''⟩ := HC.out.hat k c HCC.out
                cases e5; exact (hW'.cell (p := ⟨bb, oo + k, none⟩) hb').trans hb'')
              by_cases h0k : k = 0
              · have HPL := Lib.hid (show ∀ b', padByte an b = b' → (placeOf l cs : Int) = (an : Int) + (b'.length : Int) from fun b' hb' => by
                  subst h0k
                  have h := HCC.out
                  cases cs with
                  | nil => cases h
                  | cons c' cs' =>
                    show ((l.length + (putByte l.length (padFor l) c').length - 1 : Nat) : Int) = _
                    have h2 : padFor l = b := HBB.out
                    rw [HLL.out, h2]
                    unfold putByte
                    rw [hb', List.length_append]
                    simp only [List.length_singleton]; omega)
                have h0k' : ((k : Int) == 0) = true := by rw [h0k]; rfl
                clear h0k
                by_cases hm : (an + b.length) % 64 = 0
                · have k3 : ((an : Int) + (b.length : Int)) % 64 = 0 := by omega
                  have HPD := Lib.hid (show padByte an b = b ++ [0] by unfold padByte; rw [if_pos hm])
                  have hbl3 : (b ++ [0]).length = b.length + 1 := by simp
                  have HCX := Lib.hid (cells_one (S := fun b => b = wr.heap.size) (g := wr.heap.size) (v := .int .u8 0) rfl (by simp) (Blk.new wr [.int .u8 0] 5 |>.cell 0 rfl))
                  clear hm hcell
                  go_wp2_with (first | (at_builtin; refine wpList_append_rowS rfl (.tmp 46) (.tmp 47) 22 rfl Try_elemU8 w.heap.size _ b.length (u8s b) rfl (HO.out.alloc _) (fun b => b = wr.heap.size) (some ⟨wr.heap.size, 0, none⟩) 1 1 [.int .u8 0] rfl HCX.out (fun u hu => by simp at hu; subst hu; rfl) (fun h => by cases h) (by unfold maxLen; omega) (by omega) (by have := HBL.out.size; simp; omega) ?_; intro v2 w2 hown2 hgrow2; have bel2 := Lib.hid (below_own (HBL.out.alloc HBL.out.size _) (by have := HBL.out.size; simp; omega) (HO.out.alloc _) (Nat.le_refl _) hgrow2); have hs2 := bel2.out.size; obtain ⟨r2, c2, rfl, hz2⟩ := own_cells hown2; obtain ⟨m1, hm1⟩ : ∃ m1, b.length + 1 = m1 := ⟨_, rfl⟩; rw [hm1] at hown2 ⊢; have HM1 := Lib.hid hm1; have HO2 := Lib.hid hown2; have hcell2 := HCF.out w2 bel2.out; have j1 : IntKind.i64.wrap ((an : Int) + (m1 : Int)) = (an : Int) + (m1 : Int) := IntWalk.i64_in _ (by omega); have HCY := Lib.hid (cells_one (S := fun b => b = w2.heap.size) (g := w2.heap.size) (v := .int .u8 (c.toNat : Int)) rfl (by simp) (Blk.new w2 [.int .u8 (c.toNat : Int)] 5 |>.cell 0 rfl)); have hmb : m1 ≤ 20001 := (by omega); clear HCX hown2 hgrow2 hz2 hm1) | (at_builtin; refine wpList_append_rowS rfl (.tmp 55) (.tmp 60) 22 rfl Try_elemU8 w.heap.size _ m1 (u8s b ++ [.int .u8 0]) rfl (HO2.out.alloc _) (fun b => b = w2.heap.size) (some ⟨w2.heap.size, 0, none⟩) 1 1 [.int .u8 (c.toNat : Int)] rfl HCY.out (fun u hu => by simp at hu; subst hu; rfl) (fun h => by cases h) (by unfold maxLen; omega) (by omega) (by simp; omega) ?_; intro v4 w4 hown4 hgrow4; have bel4 := Lib.hid (below_own (bel2.out.alloc bel2.out.size _) (by simp; omega) (HO2.out.alloc _) (Nat.le_refl _) hgrow4); have HO4 := Lib.hid hown4; clear HCY hown4 hgrow4))
                  go_roundg (bn - (k + 1))
                  case measure => have := HLT.out; omega
                  case rel =>
                    refine ⟨k + 1, HLT.out, rfl, by go_num, ?_, ?_, bel4.out⟩
                    · rw [if_neg (Nat.succ_ne_zero _)]; rw [HPL.out _ HPD.out, hbl3, HM1.out]
                    · have h := HO4.out
                      rw [HNX.out, HBB.out]
                      unfold putByte
                      rw [HPD.out, List.length_append, hbl3, HM1.out, u8s_append, u8s_append]
                      exact h
                · have k3 : (((an : Int) + (b.length : Int)) % 64 == 0) = false := by rw [beq_eq_false_iff_ne]; omega
                  have HPD := Lib.hid (show padByte an b = b by unfold padByte; rw [if_neg hm])
                  have HCY := Lib.hid (cells_one (S := fun b => b = wr.heap.size) (g := wr.heap.size) (v := .int .u8 (c.toNat : Int)) rfl (by simp) (Blk.new wr [.int .u8 (c.toNat : Int)] 5 |>.cell 0 rfl))
                  clear hm
                  go_wp2_with (at_builtin; refine wpList_append_rowS rfl (.tmp 55) (.tmp 60) 22 rfl Try_elemU8 w.heap.size _ b.length (u8s b) rfl (HO.out.alloc _) (fun b => b = wr.heap.size) (some ⟨wr.heap.size, 0, none⟩) 1 1 [.int .u8 (c.toNat : Int)] rfl HCY.out (fun u hu => by simp at hu; subst hu; rfl) (fun h => by cases h) (by unfold maxLen; omega) (by omega) (by have := HBL.out.size; simp; omega) ?_; intro v4 w4 hown4 hgrow4; have bel4 := Lib.hid (below_own (HBL.out.alloc HBL.out.size _) (by have := HBL.out.size; simp; omega) (HO.out.alloc _) (Nat.le_refl _) hgrow4); have HO4 := Lib.hid hown4; clear HCY hown4 hgrow4)
                  go_roundg (bn - (k + 1))
                  case measure => have := HLT.out; omega
                  case rel =>
                    refine ⟨k + 1, HLT.out, rfl, by go_num, ?_, ?_, bel4.out⟩
                    · rw [if_neg (Nat.succ_ne_zero _)]; rw [HPL.out _ HPD.out]
                    · have h := HO4.out
                      rw [HNX.out, HBB.out]
                      unfold putByte
                      rw [HPD.out, List.length_append, u8s_append]
                      exact h
              · have h0k' : ((k : Int) == 0) = false := by rw [beq_eq_false_iff_ne]; omega
                have HAV2 := Lib.hid (show av = (placeOf l cs : Int) by rw [← HAV.out, if_neg h0k])
                clear h0k
                by_cases hm : (an + b.length) % 64 = 0
                · have k3 : ((an : Int) + (b.length : Int)) % 64 = 0 := by omega
                  have HPD := Lib.hid (show padByte an b = b ++ [0] by unfold padByte; rw [if_pos hm])
                  have hbl3 : (b ++ [0]).length = b.length + 1 := by simp
                  have HCX := Lib.hid (cells_one (S := fun b => b = wr.heap.size) (g := wr.heap.size) (v := .int .u8 0) rfl (by simp) (Blk.new wr [.int .u8 0] 5 |>.cell 0 rfl))
                  clear hm hcell
                  go_wp2_with (first | (at_builtin; refine wpList_append_rowS rfl (.tmp 46) (.tmp 47) 22 rfl Try_elemU8 w.heap.size _ b.length (u8s b) rfl (HO.out.alloc _) (fun b => b = wr.heap.size) (some ⟨wr.heap.size, 0, none⟩) 1 1 [.int .u8 0] rfl HCX.out (fun u hu => by simp at hu; subst hu; rfl) (fun h => by cases h) (by unfold maxLen; omega) (by omega) (by have := HBL.out.size; simp; omega) ?_; intro v2 w2 hown2 hgrow2; have bel2 := Lib.hid (below_own (HBL.out.alloc HBL.out.size _) (by have := HBL.out.size; simp; omega) (HO.out.alloc _) (Nat.le_refl _) hgrow2); have hs2 := bel2.out.size; obtain ⟨r2, c2, rfl, hz2⟩ := own_cells hown2; obtain ⟨m1, hm1⟩ : ∃ m1, b.length + 1 = m1 := ⟨_, rfl⟩; rw [hm1] at hown2 ⊢; have HM1 := Lib.hid hm1; have HO2 := Lib.hid hown2; have hcell2 := HCF.out w2 bel2.out; have j1 : IntKind.i64.wrap ((an : Int) + (m1 : Int)) = (an : Int) + (m1 : Int) := IntWalk.i64_in _ (by omega); have HCY := Lib.hid (cells_one (S := fun b => b = w2.heap.size) (g := w2.heap.size) (v := .int .u8 (c.toNat : Int)) rfl (by simp) (Blk.new w2 [.int .u8 (c.toNat : Int)] 5 |>.cell 0 rfl)); have hmb : m1 ≤ 20001 := (by omega); clear HCX hown2 hgrow2 hz2 hm1) | (at_builtin; refine wpList_append_rowS rfl (.tmp 55) (.tmp 60) 22 rfl Try_elemU8 w.heap.size _ m1 (u8s b ++ [.int .u8 0]) rfl (HO2.out.alloc _) (fun b => b = w2.heap.size) (some ⟨w2.heap.size, 0, none⟩) 1 1 [.int .u8 (c.toNat : Int)] rfl HCY.out (fun u hu => by simp at hu; subst hu; rfl) (fun h => by cases h) (by unfold maxLen; omega) (by omega) (by simp; omega) ?_; intro v4 w4 hown4 hgrow4; have bel4 := Lib.hid (below_own (bel2.out.alloc bel2.out.size _) (by simp; omega) (HO2.out.alloc _) (Nat.le_refl _) hgrow4); have HO4 := Lib.hid hown4; clear HCY hown4 hgrow4))
                  go_roundg (bn - (k + 1))
                  case measure => have := HLT.out; omega
                  case rel =>
                    refine ⟨k + 1, HLT.out, rfl, by go_num, ?_, ?_, bel4.out⟩
                    · rw [if_neg (Nat.succ_ne_zero _)]; rw [HAV2.out]
                    · have h := HO4.out
                      rw [HNX.out, HBB.out]
                      unfold putByte
                      rw [HPD.out, List.length_append, hbl3, HM1.out, u8s_append, u8s_append]
                      exact h
                · have k3 : (((an : Int) + (b.length : Int)) % 64 == 0) = false := by rw [beq_eq_false_iff_ne]; omega
                  have HPD := Lib.hid (show padByte an b = b by unfold padByte; rw [if_neg hm])
                  have HCY := Lib.hid (cells_one (S := fun b => b = wr.heap.size) (g := wr.heap.size) (v := .int .u8 (c.toNat : Int)) rfl (by simp) (Blk.new wr [.int .u8 (c.toNat : Int)] 5 |>.cell 0 rfl))
                  clear hm
                  go_wp2_with (at_builtin; refine wpList_append_rowS rfl (.tmp 55) (.tmp 60) 22 rfl Try_elemU8 w.heap.size _ b.length (u8s b) rfl (HO.out.alloc _) (fun b => b = wr.heap.size) (some ⟨wr.heap.size, 0, none⟩) 1 1 [.int .u8 (c.toNat : Int)] rfl HCY.out (fun u hu => by simp at hu; subst hu; rfl) (fun h => by cases h) (by unfold maxLen; omega) (by omega) (by have := HBL.out.size; simp; omega) ?_; intro v4 w4 hown4 hgrow4; have bel4 := Lib.hid (below_own (HBL.out.alloc HBL.out.size _) (by have := HBL.out.size; simp; omega) (HO.out.alloc _) (Nat.le_refl _) hgrow4); have HO4 := Lib.hid hown4; clear HCY hown4 hgrow4)
                  go_roundg (bn - (k + 1))
                  case measure => have := HLT.out; omega
                  case rel =>
                    refine ⟨k + 1, HLT.out, rfl, by go_num, ?_, ?_, bel4.out⟩
                    · rw [if_neg (Nat.succ_ne_zero _)]; rw [HAV2.out]
                    · have h := HO4.out
                      rw [HNX.out, HBB.out]
                      unfold putByte
                      rw [HPD.out, List.length_append, u8s_append]
                      exact h
            · obtain rfl : k = bn := by omega
              have hkl : ¬ ((k : Int) < (k : Int)) := by omega
              have HPLZ := Lib.hid (show av = (placeOf l cs : Int) by rw [← HAV.out, if_neg (by have := H1.out; omega)])
              have HFIN := Lib.hid (show b = pieceOf l cs by rw [← HBB.out, List.take_of_length_le (by rw [HCL.out]; omega)]; unfold pieceOf; rw [HLL.out])
              clear hlt hk
              go_wp2_with fail
              refine bodyPost_ret (v := .tuple #[.slice ra b.length rc, .int .i64 av]) (by simp [results, Try.results19, go_sem]) rfl ⟨_, by rw [HPLZ.out], by rw [← HFIN.out]; exact HO.out, HBL.out⟩
end Go.Proofs.Ytafigbomcgncnaa
