/-
  Layer 10: Append, walked.
-/
import Derived.Test.YtafigbomcgncnaaFilJ
namespace Go.Proofs.Ytafigbomcgncnaa
set_option linter.unusedVariables false
set_option linter.unusedSimpArgs false
open Go.RowKit Go.Dav
attribute [local go_sem] Gives ite_val ite_val_true

theorem Try_enter40 (args : Array Value) (W : World) : (callFunc 40 args).run Try.prog W = .ok (Next.enter 40 args) W := by kernel_rfl

set_option maxRecDepth 8000 in
set_option maxHeartbeats 4000000 in
theorem Try_append1 (x : List UInt8) (ba : Option Addr) (bl bc q : Nat) (w : World) (S Sb : Nat → Prop) (hS : ∀ b, S b → b < w.heap.size) (hx : BytesS w Sb ba bl bc x) (hq : Blk w q [.slice ba bl bc] 22) : TryDoes w S 40 #[.pointer (some ⟨q, 0, none⟩)] (fun G => { G with loose := G.loose ++ [x] }) := by
  intro W0 p fa la fl fc ll lc F hb hp hpb hF hr
  have hq2 := hq.ext hb
  have cq := hq2.cells
  have cp := hpb.cells
  have mp := hpb.marks
  have lp := hpb.lt
  have lq := hq2.lt
  have HF := Lib.hid hF
  have HX := Lib.hid (hx.ext hb)
  have HB := Lib.hid hb
  have HPB := Lib.hid hpb
  have HSS := Lib.hid hS
  have hlc := hF.loose.hcap
  have hlm := hF.loose.hmax
  have hlf := hF.loose.hfew
  have hi1 : (ll : Int) ≤ (lc : Int) := by omega
  have hi2 : (0 : Int) ≤ (ll : Int) := by omega
  have hln := hF.loose.hnil
  have hlf2 : ll + 1 ≤ 524289 := by
    have h1 := (FileD.right_spec.1 hr).2.2.2.2
    have h2 := hF.loose.hlen
    have h3 := full_len (FileD.right_spec.1 hr).1
    unfold FileD.many at h1
    omega
  have HLN := Lib.hid hln
  obtain ⟨vs, hvs, hpc⟩ := (hF.loose.ext hb).open_
  have HVS := Lib.hid hvs
  have HPC := Lib.hid hpc
  clear hb hF hpb hS hvs hpc hx hq hln
  show Calls Try.prog 40 #[.pointer (some ⟨p, 0, none⟩), .pointer (some ⟨q, 0, none⟩)] W0 _
  go_enter Try.func40, Try.ntmps40
  go_wp2_with fail
  refine' wp_region_seq [.inl _, .inl _, .inl _, .inl _, .inl _, .inl _, .inl _, .inl _, .inl _, .inl _, .inl _, .inl _, .inl _, .inl _, .inl _, .inl _, .inl _, .inl _, .inl _, .inl _, .inr (NewBytes W0.heap.size x), .inr (NewPiece W0.heap.size x), .inr (Pieces (Or S W0) (F.loose ++ [x])), .inl _, .inl _, .inl _] (by kernel_rfl) (by kernel_rfl) ?main1
  case main1 =>
    refine wpParts_det (by rfl) (fun W hE hN => ?_) ?_
    · go_simp; refine ⟨Below.refl _ _, ?_⟩; rfl
    simp only [Act.put, List.setIfInBounds_toArray, List.set_cons_zero, List.set_cons_succ]
    refine wpParts_det (by rfl) (fun W hE hN => ?_) ?_
    · go_simp; refine ⟨Below.refl _ _, ?_⟩; rfl
    simp only [Act.put, List.setIfInBounds_toArray, List.set_cons_zero, List.set_cons_succ]
    refine wpParts_det (by rfl) (fun W hE hN => ?_) ?_
    · go_simp; refine ⟨Below.refl _ _, ?_⟩; rfl
    simp only [Act.put, List.setIfInBounds_toArray, List.set_cons_zero, List.set_cons_succ]
    refine wpParts_det (by rfl) (fun W hE hN => ?_) ?_
    · go_simp; refine ⟨Below.refl _ _, ?_⟩; rfl
    simp only [Act.put, List.setIfInBounds_toArray, List.set_cons_zero, List.set_cons_succ]
    refine wpParts_det (by rfl) (fun W hE hN => ?_) ?_
    · go_simp; refine ⟨Below.refl _ _, ?_⟩; rfl
    simp only [Act.put, List.setIfInBounds_toArray, List.set_cons_zero, List.set_cons_succ]
    refine wpParts_det (by rfl) (fun W hE hN => ?_) ?_
    · have hc := fun b o h => hE.cell (p := ⟨b, o, none⟩) h
      go_simp; refine ⟨Below.refl _ _, ?_⟩; rfl
    simp only [Act.put, List.setIfInBounds_toArray, List.set_cons_zero, List.set_cons_succ]
    refine wpParts_det (by rfl) (fun W hE hN => ?_) ?_
    · go_simp; refine ⟨Below.refl _ _, ?_⟩; rfl
    simp only [Act.put, List.setIfInBounds_toArray, List.set_cons_zero, List.set_cons_succ]
    refine wpParts_det (by rfl) (fun W hE hN => ?_) ?_
    · go_simp; refine ⟨Below.refl _ _, ?_⟩; rfl
    simp only [Act.put, List.setIfInBounds_toArray, List.set_cons_zero, List.set_cons_succ]
    refine wpParts_det (by rfl) (fun W hE hN => ?_) ?_
    · go_simp; refine ⟨Below.refl _ _, ?_⟩; rfl
    simp only [Act.put, List.setIfInBounds_toArray, List.set_cons_zero, List.set_cons_succ]
    refine wpParts_det (by rfl) (fun W hE hN => ?_) ?_
    · go_simp; refine ⟨Below.refl _ _, ?_⟩; rfl
    simp only [Act.put, List.setIfInBounds_toArray, List.set_cons_zero, List.set_cons_succ]
    refine wpParts_det (by rfl) (fun W hE hN => ?_) ?_
    · have hc := fun b o h => hE.cell (p := ⟨b, o, none⟩) h
      go_simp; refine ⟨Below.refl _ _, ?_⟩; rfl
    simp only [Act.put, List.setIfInBounds_toArray, List.set_cons_zero, List.set_cons_succ]
    refine wpParts_det (by rfl) (fun W hE hN => ?_) ?_
    · go_simp; refine ⟨Below.refl _ _, ?_⟩; rfl
    simp only [Act.put, List.setIfInBounds_toArray, List.set_cons_zero, List.set_cons_succ]
    refine wpParts_det (by rfl) (fun W hE hN => ?_) ?_
    · go_simp; refine ⟨Below.refl _ _, ?_⟩; rfl
    simp only [Act.put, List.setIfInBounds_toArray, List.set_cons_zero, List.set_cons_succ]
    refine wpParts_det (by rfl) (fun W hE hN => ?_) ?_
    · go_simp; refine ⟨Below.refl _ _, ?_⟩; rfl
    simp only [Act.put, List.setIfInBounds_toArray, List.set_cons_zero, List.set_cons_succ]
    refine wpParts_det (by rfl) (fun W hE hN => ?_) ?_
    · go_simp; refine ⟨Below.refl _ _, ?_⟩; rfl
    simp only [Act.put, List.setIfInBounds_toArray, List.set_cons_zero, List.set_cons_succ]
    refine wpParts_det (by rfl) (fun W hE hN => ?_) ?_
    · go_simp; refine ⟨Below.refl _ _, ?_⟩; rfl
    simp only [Act.put, List.setIfInBounds_toArray, List.set_cons_zero, List.set_cons_succ]
    refine wpParts_det (by rfl) (fun W hE hN => ?_) ?_
    · have hc := fun b o h => hE.cell (p := ⟨b, o, none⟩) h
      go_simp; refine ⟨Below.refl _ _, ?_⟩; rfl
    simp only [Act.put, List.setIfInBounds_toArray, List.set_cons_zero, List.set_cons_succ]
    refine wpParts_det (by rfl) (fun W hE hN => ?_) ?_
    · go_simp; refine ⟨Below.refl _ _, ?_⟩; rfl
    simp only [Act.put, List.setIfInBounds_toArray, List.set_cons_zero, List.set_cons_succ]
    refine wpParts_det (by rfl) (fun W hE hN => ?_) ?_
    · go_simp; refine ⟨Below.refl _ _, ?_⟩; rfl
    simp only [Act.put, List.setIfInBounds_toArray, List.set_cons_zero, List.set_cons_succ]
    refine wpParts_det (by rfl) (fun W hE hN => ?_) ?_
    · have hc := fun b o h => hE.cell (p := ⟨b, o, none⟩) h
      go_simp; refine ⟨Below.refl _ _, ?_⟩; rfl
    simp only [Act.put, List.setIfInBounds_toArray, List.set_cons_zero, List.set_cons_succ]
    refine wpParts_any rfl (NewBytes.later) (by rfl) (fun W hE hN => ?_) (fun u20 => ?_)
    · go_simp; refine ⟨Below.refl _ _, ?_⟩; refine (Try_Clone ba bl bc x Sb _ (HX.out.ext hE)).mono ?_; rintro e w' ⟨a, n, c, rfl, h1, h2⟩; exact ⟨_, rfl, h2, a, n, c, rfl, h1.mono fun b h => Nat.le_trans hE.size h⟩
    simp only [Act.put, List.setIfInBounds_toArray, List.set_cons_zero, List.set_cons_succ]
    refine wpParts_any rfl (NewPiece.later) (by rfl) (fun W hE hN => ?_) (fun u21 => ?_)
    · obtain ⟨a, n, c, rfl, hB⟩ := (show NewBytes W0.heap.size x u20 W ∧ True from hN).1; go_simp; exact newPiece_alloc hE.size hB
    simp only [Act.put, List.setIfInBounds_toArray, List.set_cons_zero, List.set_cons_succ]
    refine wpParts_any rfl (Pieces.later) (by rfl) (fun W hE hN => ?_) (fun u22 => ?_)
    · obtain ⟨g, a, n, c, rfl, hg1, hg2, hg3, hB⟩ := (show NewPiece W0.heap.size x u21 W ∧ True from hN).1; obtain ⟨a', c', w', hrun, hcells, hk1, hk2, hk3, hbel⟩ := run_append_fullS (P := Try.prog) (W := W) Try_elemBytes 23 S la ll vs (HVS.out.ext hE) (fun b => W0.heap.size ≤ b) (some ⟨g, 0, none⟩) 1 1 [.slice a n c] (cells_one hg1 hg2 hg3) (by simp [Value.oneCell']) (fun h => by have := HLN.out h; omega) (by unfold maxLen; omega) (by omega); exact gives_append rfl rfl rfl hrun hbel ⟨a', ll + 1, c', rfl, pieces_append (HPC.out.ext hE) hcells hB hbel hE.size hk1 hk2 (by omega) hk3⟩
    simp only [Act.put, List.setIfInBounds_toArray, List.set_cons_zero, List.set_cons_succ]
    refine wpParts_det (by rfl) (fun W hE hN => ?_) ?_
    · go_simp; refine ⟨Below.refl _ _, ?_⟩; rfl
    simp only [Act.put, List.setIfInBounds_toArray, List.set_cons_zero, List.set_cons_succ]
    refine wpParts_det (by rfl) (fun W hE hN => ?_) ?_
    · go_simp; refine ⟨Below.refl _ _, ?_⟩; rfl
    simp only [Act.put, List.setIfInBounds_toArray, List.set_cons_zero, List.set_cons_succ]
    refine wpParts_det (by rfl) (fun W hE hN => ?_) ?_
    · go_simp; refine ⟨Below.refl _ _, ?_⟩; rfl
    simp only [Act.put, List.setIfInBounds_toArray, List.set_cons_zero, List.set_cons_succ]
    refine wpParts_end fun W2 hE2 hG2 => ?_
    have hcW2 := fun b o h => hE2.cell (p := ⟨b, o, none⟩) h
    have hfW2 := fun b o h => hE2.frozen (p := ⟨b, o, none⟩) h
    obtain ⟨ma, ml, mc, rfl, hL⟩ := hG2.1
    have hs2 := hE2.size
    have lp2 : p < W2.heap.size := by omega
    have hpb2 := HPB.out.ext hE2
    have mp2 := hpb2.marks
    have HL := Lib.hid hL
    clear hG2 hL
    go_wp2
    go_end0
    have ho : Only p W0 (W2.setCell ⟨p, 1, none⟩ (.slice ma ml mc)) := ((Only.refl p W0).ext hE2).set 1 _
    have hx := file_through HF.out HSS.out HB.out hp ho
    refine ⟨rfl, fa, fl, fc, ma, ml, mc, hpb2.set 1 _, ⟨hx.firm, ?_, hx.fuse, hx.fault⟩, ho⟩
    refine HL.out.same (by simp) (fun b h hlt => (Only.block ((by repeat (first | (with_reducible exact Only.refl _ _) | (with_reducible refine Only.set ?_ _ _) | (with_reducible refine Only.alloc ?_ _) | (with_reducible refine Only.drew ?_))) : Only p W2 _)) b hlt ?_)
    rcases h with h | h
    · have := HSS.out b h; omega
    · omega


set_option maxRecDepth 8000 in
set_option maxHeartbeats 4000000 in
theorem Try_Append (F : FileD) (fa la ba : Option Addr) (fl fc ll lc bl bc : Nat) (x : List UInt8) (w : World) (S Sb : Nat → Prop) (hF : FileS w S fa fl fc la ll lc F) (hS : ∀ b, S b → b < w.heap.size) (hx : BytesS w Sb ba bl bc x) :
    Calls Try.prog 21 #[.agg #[.slice fa fl fc, .slice la ll lc, .int .i64 F.fuse, .int .i64 F.fault, .bool F.off], .slice ba bl bc] w (GivesFile w S (F.append x).1 (F.append x).2) := by
  have hW : Below w.heap.size w (((w.alloc (.cells [.slice fa fl fc, .slice la ll lc, .int .i64 F.fuse, .int .i64 F.fault, .bool F.off].toArray 25)).alloc (.cells #[.slice ba bl bc] 22)).alloc (.cells #[.slice none 0 0, .slice none 0 0, .int .i64 0, .int .i64 0, .bool false] 25)) := (by repeat (first | (with_reducible exact Below.refl _ _) | (with_reducible exact Below.refl _ _) | (with_reducible refine Below.setCell ?_ (by first | omega | (simp; done) | (simp; omega)) _) | (with_reducible refine Below.alloc ?_ (by first | omega | (simp; done) | (simp; omega)) _) | (with_reducible refine Below.drew ?_) | (with_reducible refine below_drewN ?_ _)))
  have hq := (Blk.new' (w.alloc (.cells [.slice fa fl fc, .slice la ll lc, .int .i64 F.fuse, .int .i64 F.fault, .bool F.off].toArray 25)) [.slice ba bl bc] 22 (p := w.heap.size + 1) (by simp)).alloc (o := (.cells #[.slice none 0 0, .slice none 0 0, .int .i64 0, .int .i64 0, .bool false] 25))
  have hf0 := ((Blk.new w [.slice fa fl fc, .slice la ll lc, .int .i64 F.fuse, .int .i64 F.fault, .bool F.off] 25).alloc (.cells #[.slice ba bl bc] 22)).alloc (o := (.cells #[.slice none 0 0, .slice none 0 0, .int .i64 0, .int .i64 0, .bool false] 25))
  have B0 := Blk.new' ((w.alloc (.cells [.slice fa fl fc, .slice la ll lc, .int .i64 F.fuse, .int .i64 F.fault, .bool F.off].toArray 25)).alloc (.cells #[.slice ba bl bc] 22)) [.slice none 0 0, .slice none 0 0, .int .i64 0, .int .i64 0, .bool false] 25 (p := w.heap.size + 1 + 1) (by simp)
  have hxl := hx.at_.hlen
  have HSS := Lib.hid hS
  have HX := Lib.hid (hx.ext hW)
  have HF := Lib.hid (hF.ext hW)
  have HF0 := Lib.hid hF
  have HQ := Lib.hid hq
  have HFF := Lib.hid hf0
  have HB0 := Lib.hid B0
  clear hF hx hW hq hf0 B0 hS
  cases hr : F.right with
  | false =>
    have herr : F.err = 200 := by unfold FileD.err; rw [if_neg (by rw [hr]; decide)]
    have hop : F.append x = F.op bl fun G => { G with loose := G.loose ++ [x] } := by unfold FileD.append; rw [if_neg (by rw [hr]; simp), hxl]
    have HOP := Lib.hid hop; clear hop
    go_enter Try.func21, Try.ntmps21
    go_wp2_with fail
    refine (Try_Check F fa la fl fc ll lc _ HF.out.at_).mono ?_; rintro e w1 ⟨rfl, hb1⟩
    obtain ⟨hc1, hf1, hs1⟩ := after hb1
    simp only [World.size_alloc] at hs1
    have lt_w1_0_0 : w.heap.size < w1.heap.size := by omega
    have lt_w1_0_1 : w.heap.size < w1.heap.size + 1 := by omega
    have lt_w1_0_2 : w.heap.size < w1.heap.size + 1 + 1 := by omega
    rw [herr]
    have hD := Try_append1 x ba bl bc (w.heap.size + 1) w1 S Sb (fun b h => by have := HSS.out b h; omega) (HX.out.ext hb1) (HQ.out.ext hb1)
    have HC := Lib.hid (Try_operation F fa la fl fc ll lc _ bl _ _ w1 S (HF.out.ext hb1) (fun b h => by have := HSS.out b h; omega) hD Try_enter40)
    clear hD
    go_wp2_with fail
    obtain ⟨F7, e7, hV⟩ : ∃ F7 e7, F.append x = (F7, e7) := ⟨_, _, rfl⟩
    have HC2 := HC.out
    rw [← HOP.out, hV] at HC2
    have HV := Lib.hid hV
    clear hV HC
    refine HC2.mono ?_; rintro e w2 ⟨ga, gl, gc, ma, ml, mc, rfl, hR, hb2⟩
    clear HC2
    have B1 := (HB0.out.ext hb1).ext hb2
    have s2 := hb2.size
    have bel : Below w.heap.size w w2 := (by repeat (first | (with_reducible exact Below.refl _ _) | (with_reducible exact Below.refl _ _) | (with_reducible refine Below.setCell ?_ (by first | omega | (simp; done) | (simp; omega)) _) | (with_reducible refine Below.alloc ?_ (by first | omega | (simp; done) | (simp; omega)) _) | (with_reducible refine Below.drew ?_) | (with_reducible refine below_drewN ?_ _) | (with_reducible refine Below.trans ?_ (hb2.mono (by first | omega | (simp; done) | (simp; omega)))) | (with_reducible refine Below.trans ?_ (hb1.mono (by first | omega | (simp; done) | (simp; omega))))))
    have HR := Lib.hid hR; clear hR
    have hr2 := ((((B1.set 0 (.slice ga gl gc)).set 1 (.slice ma ml mc)).set 2 (.int .i64 (F7).fuse)).set 3 (.int .i64 (F7).fault)).set 4 (.bool (F7).off)
    have c2 := hr2.cells
    have m2 := B1.marks
    have q2 := B1.cells
    have lB := B1.lt
    simp only [List.set_cons_zero, List.set_cons_succ] at c2
    go_wp2
    rw [HV.out]
    refine bodyPost_ret (v := .tuple #[.agg #[.slice ga gl gc, .slice ma ml mc, .int .i64 (F7).fuse, .int .i64 (F7).fault, .bool (F7).off], .int .i64 (e7)]) (by simp [results, Try.results21, go_sem, c2]) rfl ⟨ga, gl, gc, ma, ml, mc, rfl, ?_, ?_⟩
    · refine ((HR.out).same (Only.size (p := w.heap.size + 1 + 1) (by repeat (first | (with_reducible exact Only.refl _ _) | (with_reducible refine Only.set ?_ _ _) | (with_reducible refine Only.alloc ?_ _) | (with_reducible refine Only.drew ?_)))) (fun b h hlt => Only.block (p := w.heap.size + 1 + 1) (by repeat (first | (with_reducible exact Only.refl _ _) | (with_reducible refine Only.set ?_ _ _) | (with_reducible refine Only.alloc ?_ _) | (with_reducible refine Only.drew ?_))) b hlt ?_)).mono (T := Or S w) (fun b h => ?_)
      · rcases h with h | h
        · have := HSS.out b h; omega
        · (try simp at h); omega
      · rcases h with h | h
        · exact .inl h
        · exact .inr (by (try simp at h); omega)
    · exact (by repeat (first | (with_reducible exact Below.refl _ _) | (with_reducible exact Below.refl _ _) | (with_reducible refine Below.setCell ?_ (by first | omega | (simp; done) | (simp; omega)) _) | (with_reducible refine Below.alloc ?_ (by first | omega | (simp; done) | (simp; omega)) _) | (with_reducible refine Below.drew ?_) | (with_reducible refine below_drewN ?_ _) | (with_reducible refine Below.trans ?_ (bel.mono (by first | omega | (simp; done) | (simp; omega))))))
  | true =>
    have herr : F.err = 0 := by unfold FileD.err; rw [if_pos hr]
    go_enter Try.func21, Try.ntmps21
    go_wp2_with fail
    refine (Try_Check F fa la fl fc ll lc _ HF.out.at_).mono ?_; rintro e w1 ⟨rfl, hb1⟩
    obtain ⟨hc1, hf1, hs1⟩ := after hb1
    simp only [World.size_alloc] at hs1
    have lt_w1_0_0 : w.heap.size < w1.heap.size := by omega
    have lt_w1_0_1 : w.heap.size < w1.heap.size + 1 := by omega
    have lt_w1_0_2 : w.heap.size < w1.heap.size + 1 + 1 := by omega
    rw [herr]
    by_cases h0 : bl = 0
    · have HV := Lib.hid (show F.append x = (F, 2) by unfold FileD.append; rw [if_pos ⟨hr, List.length_eq_zero_iff.1 (by omega)⟩])
      have h0' : ((bl : Int) == 0) = true := by simp [h0]
      have B1 := HB0.out.ext hb1
      have bel : Below w.heap.size w w1 := (by repeat (first | (with_reducible exact Below.refl _ _) | (with_reducible exact Below.refl _ _) | (with_reducible refine Below.setCell ?_ (by first | omega | (simp; done) | (simp; omega)) _) | (with_reducible refine Below.alloc ?_ (by first | omega | (simp; done) | (simp; omega)) _) | (with_reducible refine Below.drew ?_) | (with_reducible refine below_drewN ?_ _) | (with_reducible refine Below.trans ?_ (hb1.mono (by first | omega | (simp; done) | (simp; omega))))))
      have HR := Lib.hid ((HF.out.ext hb1).mono (T := Or S w1) fun b h => Or.inl h)
      clear h0
      have hr2 := ((((B1.set 0 (.slice fa fl fc)).set 1 (.slice la ll lc)).set 2 (.int .i64 (F).fuse)).set 3 (.int .i64 (F).fault)).set 4 (.bool (F).off)
      have c2 := hr2.cells
      have m2 := B1.marks
      have q2 := B1.cells
      have lB := B1.lt
      simp only [List.set_cons_zero, List.set_cons_succ] at c2
      go_wp2
      rw [HV.out]
      refine bodyPost_ret (v := .tuple #[.agg #[.slice fa fl fc, .slice la ll lc, .int .i64 (F).fuse, .int .i64 (F).fault, .bool (F).off], .int .i64 (2)]) (by simp [results, Try.results21, go_sem, c2]) rfl ⟨fa, fl, fc, la, ll, lc, rfl, ?_, ?_⟩
      · refine ((HR.out).same (Only.size (p := w.heap.size + 1 + 1) (by repeat (first | (with_reducible exact Only.refl _ _) | (with_reducible refine Only.set ?_ _ _) | (with_reducible refine Only.alloc ?_ _) | (with_reducible refine Only.drew ?_)))) (fun b h hlt => Only.block (p := w.heap.size + 1 + 1) (by repeat (first | (with_reducible exact Only.refl _ _) | (with_reducible refine Only.set ?_ _ _) | (with_reducible refine Only.alloc ?_ _) | (with_reducible refine Only.drew ?_))) b hlt ?_)).mono (T := Or S w) (fun b h => ?_)
        · rcases h with h | h
          · have := HSS.out b h; omega
          · (try simp at h); omega
        · rcases h with h | h
          · exact .inl h
          · exact .inr (by (try simp at h); omega)
      · exact (by repeat (first | (with_reducible exact Below.refl _ _) | (with_reducible exact Below.refl _ _) | (with_reducible refine Below.setCell ?_ (by first | omega | (simp; done) | (simp; omega)) _) | (with_reducible refine Below.alloc ?_ (by first | omega | (simp; done) | (simp; omega)) _) | (with_reducible refine Below.drew ?_) | (with_reducible refine below_drewN ?_ _) | (with_reducible refine Below.trans ?_ (bel.mono (by first | omega | (simp; done) | (simp; omega))))))
    · have hop : F.append x = F.op bl fun G => { G with loose := G.loose ++ [x] } := by unfold FileD.append; rw [if_neg (by rintro ⟨_, h⟩; rw [h] at hxl; simp at hxl; omega), hxl]
      have h0' : ((bl : Int) == 0) = false := by simp; omega
      have HOP := Lib.hid hop; clear hop h0
      have hD := Try_append1 x ba bl bc (w.heap.size + 1) w1 S Sb (fun b h => by have := HSS.out b h; omega) (HX.out.ext hb1) (HQ.out.ext hb1)
      have HC := Lib.hid (Try_operation F fa la fl fc ll lc _ bl _ _ w1 S (HF.out.ext hb1) (fun b h => by have := HSS.out b h; omega) hD Try_enter40)
      clear hD
      go_wp2_with fail
      obtain ⟨F7, e7, hV⟩ : ∃ F7 e7, F.append x = (F7, e7) := ⟨_, _, rfl⟩
      have HC2 := HC.out
      rw [← HOP.out, hV] at HC2
      have HV := Lib.hid hV
      clear hV HC
      refine HC2.mono ?_; rintro e w2 ⟨ga, gl, gc, ma, ml, mc, rfl, hR, hb2⟩
      clear HC2
      have B1 := (HB0.out.ext hb1).ext hb2
      have s2 := hb2.size
      have bel : Below w.heap.size w w2 := (by repeat (first | (with_reducible exact Below.refl _ _) | (with_reducible exact Below.refl _ _) | (with_reducible refine Below.setCell ?_ (by first | omega | (simp; done) | (simp; omega)) _) | (with_reducible refine Below.alloc ?_ (by first | omega | (simp; done) | (simp; omega)) _) | (with_reducible refine Below.drew ?_) | (with_reducible refine below_drewN ?_ _) | (with_reducible refine Below.trans ?_ (hb2.mono (by first | omega | (simp; done) | (simp; omega)))) | (with_reducible refine Below.trans ?_ (hb1.mono (by first | omega | (simp; done) | (simp; omega))))))
      have HR := Lib.hid hR; clear hR
      have hr2 := ((((B1.set 0 (.slice ga gl gc)).set 1 (.slice ma ml mc)).set 2 (.int .i64 (F7).fuse)).set 3 (.int .i64 (F7).fault)).set 4 (.bool (F7).off)
      have c2 := hr2.cells
      have m2 := B1.marks
      have q2 := B1.cells
      have lB := B1.lt
      simp only [List.set_cons_zero, List.set_cons_succ] at c2
      go_wp2
      rw [HV.out]
      refine bodyPost_ret (v := .tuple #[.agg #[.slice ga gl gc, .slice ma ml mc, .int .i64 (F7).fuse, .int .i64 (F7).fault, .bool (F7).off], .int .i64 (e7)]) (by simp [results, Try.results21, go_sem, c2]) rfl ⟨ga, gl, gc, ma, ml, mc, rfl, ?_, ?_⟩
      · refine ((HR.out).same (Only.size (p := w.heap.size + 1 + 1) (by repeat (first | (with_reducible exact Only.refl _ _) | (with_reducible refine Only.set ?_ _ _) | (with_reducible refine Only.alloc ?_ _) | (with_reducible refine Only.drew ?_)))) (fun b h hlt => Only.block (p := w.heap.size + 1 + 1) (by repeat (first | (with_reducible exact Only.refl _ _) | (with_reducible refine Only.set ?_ _ _) | (with_reducible refine Only.alloc ?_ _) | (with_reducible refine Only.drew ?_))) b hlt ?_)).mono (T := Or S w) (fun b h => ?_)
        · rcases h with h | h
          · have := HSS.out b h; omega
          · (try simp at h); omega
        · rcases h with h | h
          · exact .inl h
          · exact .inr (by (try simp at h); omega)
      · exact (by repeat (first | (with_reducible exact Below.refl _ _) | (with_reducible exact Below.refl _ _) | (with_reducible refine Below.setCell ?_ (by first | omega | (simp; done) | (simp; omega)) _) | (with_reducible refine Below.alloc ?_ (by first | omega | (simp; done) | (simp; omega)) _) | (with_reducible refine Below.drew ?_) | (with_reducible refine below_drewN ?_ _) | (with_reducible refine Below.trans ?_ (bel.mono (by first | omega | (simp; done) | (simp; omega))))))
end Go.Proofs.Ytafigbomcgncnaa
