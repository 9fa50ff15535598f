/-
  Layer 10: FileDoes, walked: for every file and every deeds it answers true.
-/
import Derived.Test.YtmjmjjakhmeogaaLawFF
namespace Go.Dav
set_option linter.unusedVariables false
set_option linter.unusedSimpArgs false
open Go Go.RowKit

/-- A deed, and where its slices lie. -/
structure DeedV where
  X : DeedD
  ba : Option Addr
  bl : Nat
  bc : Nat
  ka : Option Addr
  kl : Nat
  kc : Nat
def DeedV.cells (d : DeedV) : List Value := [.int .i64 d.X.kind, .int .i64 d.X.n, .int .i64 d.X.tear, .slice d.ba d.bl d.bc, .slice d.ka d.kl d.kc]
/-- Deeds, laid out one behind the other. -/
def DeedsAt (W : World) (a : Option Addr) (l : List DeedV) : Prop :=
  ∀ k d, l[k]? = some d → ∃ b o, a = some ⟨b, o, none⟩ ∧ b < W.heap.size ∧ (∀ j v, d.cells[j]? = some v → W.cell? ⟨b, o + k * 5 + j, none⟩ = some v) ∧ DeedAt W d.ba d.bl d.bc d.ka d.kl d.kc d.X
theorem DeedsAt.ext {W W' : World} {a : Option Addr} {l : List DeedV} (h : DeedsAt W a l) (hb : Below W.heap.size W W') : DeedsAt W' a l := fun k d hk => by
  obtain ⟨b, o, h1, h2, h3, h4⟩ := h k d hk
  exact ⟨b, o, h1, Nat.lt_of_lt_of_le h2 hb.size, fun j v hj => by rw [hb.cell (p := ⟨b, o + k * 5 + j, none⟩) h2]; exact h3 j v hj, h4.ext hb⟩

/-- A file in new memory, in blocks of other types than e. -/
def NewFile (B : Nat) (e : TypeId) (F : FileD) (v : Value) (W : World) : Prop :=
  ∃ fa fl fc la ll lc, v = .agg #[.slice fa fl fc, .slice la ll lc, .int .i64 F.fuse, .int .i64 F.fault, .bool F.off] ∧ FileS W (Apart B e W) fa fl fc la ll lc F
theorem NewFile.later {B : Nat} {e : TypeId} {F : FileD} : ∀ v W W', NewFile B e F v W → Below W.heap.size W W' → NewFile B e F v W' := fun _ _ _ ⟨fa, fl, fc, la, ll, lc, h1, h2⟩ hb =>
  ⟨fa, fl, fc, la, ll, lc, h1, (h2.ext hb).mono fun b h => h.ext hb⟩
theorem FileIn.of_apart {W : World} {n : Nat} {e : TypeId} {l : List Nat} {fa la : Option Addr} {fl fc ll lc : Nat} {F : FileD} (h : FileS W (Apart n e W) fa fl fc la ll lc F) (hl : ∀ p ∈ l, ∃ cs, Blk W p cs e) : FileIn W l fa fl fc la ll lc F :=
  h.mono fun b hb => ⟨by obtain ⟨_, _, _, _, h2, _⟩ := hb; exact (Array.getElem?_eq_some_iff.1 h2).1, fun hm => by
    obtain ⟨cs, hp⟩ := hl b hm
    exact hb.ne hp rfl⟩
theorem FileIn.below {W W' : World} {n : Nat} {l : List Nat} {fa la : Option Addr} {fl fc ll lc : Nat} {F : FileD} (h : FileS W (fun b => b < n) fa fl fc la ll lc F) (hb : Below n W W') (hn : n ≤ W.heap.size) (hl : ∀ p ∈ l, n ≤ p) : FileIn W' l fa fl fc la ll lc F :=
  (h.same hb.size fun b k _ => hb.block b k).mono fun b k => ⟨by have := hb.size; omega, fun hm => by have := hl b hm; omega⟩
end Go.Dav
namespace Go.Proofs.Ytmjmjjakhmeogaa
set_option linter.unusedVariables false
set_option linter.unusedSimpArgs false
open Go.RowKit Go.Dav
attribute [local go_sem] Gives ite_val ite_val_true

theorem Try_store5 {o : Oper} {dst src : Operand} {a : Act} {W : World} {p : Nat} {x0 x1 x2 x3 x4 : Value} {fa la : Option Addr} {fl fc ll lc : Nat} {u v : Int} {b : Bool} (ho : o.op = .store 25 dst src) (hd : a.eval dst = .pointer (some ⟨p, 0, none⟩)) (hs : a.eval src = .agg #[.slice fa fl fc, .slice la ll lc, .int .i64 u, .int .i64 v, .bool b]) (hb : Blk W p [x0, x1, x2, x3, x4] 25) :
    (execOp a.eval o).run Try.prog W = .ok .skip (((((W.setCell ⟨p, 0, none⟩ (.slice fa fl fc)).setCell ⟨p, 1, none⟩ (.slice la ll lc)).setCell ⟨p, 2, none⟩ (.int .i64 u)).setCell ⟨p, 3, none⟩ (.int .i64 v)).setCell ⟨p, 4, none⟩ (.bool b)) := by
  have q := hb.cells
  have m := hb.marks
  have l := hb.lt
  unfold execOp
  simp only [ho, hd, hs]
  go_simp
theorem Try_wpStore5 {ops : Array Oper} {rest : List Oper} {Q : Exit → Act → World → Prop} {o : Oper} {dst src : Operand} {a : Act} {W : World} {p : Nat} {x0 x1 x2 x3 x4 : Value} {fa la : Option Addr} {fl fc ll lc : Nat} {u v : Int} {b : Bool} (hgd : o.guard = none) (hdst : o.dst = none) (ho : o.op = .store 25 dst src) (hd : a.eval dst = .pointer (some ⟨p, 0, none⟩)) (hs : a.eval src = .agg #[.slice fa fl fc, .slice la ll lc, .int .i64 u, .int .i64 v, .bool b]) (hb : Blk W p [x0, x1, x2, x3, x4] 25)
    (h : wpList Try.prog ops Q rest a (((((W.setCell ⟨p, 0, none⟩ (.slice fa fl fc)).setCell ⟨p, 1, none⟩ (.slice la ll lc)).setCell ⟨p, 2, none⟩ (.int .i64 u)).setCell ⟨p, 3, none⟩ (.int .i64 v)).setCell ⟨p, 4, none⟩ (.bool b))) : wpList Try.prog ops Q (o :: rest) a W := by
  refine wpList_plain hgd fun K hK => ?_
  have hr := Try_store5 ho hd hs hb
  unfold Oper.wp
  rw [hr]
  have e : a.put o.dst undef = a := by rw [hdst]; rfl
  simp only [Oper.upon, e]
  exact hK _ _ h

def TryTwo6 (W : World) (p6 p7 : Nat) (F : FileD) : Prop :=
  ∃ (fa la ga ma : Option Addr) (fl fc ll lc gl gc ml mc : Nat), Blk W p6 [.slice fa fl fc, .slice la ll lc, .int .i64 F.fuse, .int .i64 F.fault, .bool F.off] 25 ∧ Blk W p7 [.slice ga gl gc, .slice ma ml mc, .int .i64 F.fuse, .int .i64 F.fault, .bool F.off] 25 ∧ FileIn W [p6, p7] fa fl fc la ll lc F ∧ FileIn W [p6, p7] ga gl gc ma ml mc F
theorem TryTwo6.ext {W W' : World} {p6 p7 : Nat} {F : FileD} (h : TryTwo6 W p6 p7 F) (hb : Below W.heap.size W W') : TryTwo6 W' p6 p7 F := by
  obtain ⟨fa, la, ga, ma, fl, fc, ll, lc, gl, gc, ml, mc, h1, h2, h3, h4⟩ := h
  exact ⟨fa, la, ga, ma, fl, fc, ll, lc, gl, gc, ml, mc, h1.ext hb, h2.ext hb, h3.ext hb, h4.ext hb⟩
section
variable {W : World} {p6 p7 : Nat} {F : FileD} {fa la ga ma : Option Addr} {fl fc ll lc gl gc ml mc : Nat} {x0 x1 x2 x3 x4 y0 y1 y2 y3 y4 : Value}
theorem Try_second (hb6 : Blk W p6 [x0, x1, x2, x3, x4] 25) (hb7 : Blk W p7 [y0, y1, y2, y3, y4] 25) : ∃ z0 z1 z2 z3 z4, Blk (((((W.setCell ⟨p6, 0, none⟩ (.slice fa fl fc)).setCell ⟨p6, 1, none⟩ (.slice la ll lc)).setCell ⟨p6, 2, none⟩ (.int .i64 F.fuse)).setCell ⟨p6, 3, none⟩ (.int .i64 F.fault)).setCell ⟨p6, 4, none⟩ (.bool F.off)) p7 [z0, z1, z2, z3, z4] 25 := by
  by_cases e : p7 = p6
  · subst e
    exact ⟨_, _, _, _, _, hb6.five _ _ _ _ _⟩
  · exact ⟨y0, y1, y2, y3, y4, hb7.only (Only.five _ _ _ _ _ _ _) e⟩
theorem Try_boxes (hb6 : Blk W p6 [x0, x1, x2, x3, x4] 25) (hb7 : Blk W p7 [y0, y1, y2, y3, y4] 25) (hf : FileIn W [p6, p7] fa fl fc la ll lc F) (hg : FileIn W [p6, p7] ga gl gc ma ml mc F) : TryTwo6 ((((((((((W.setCell ⟨p6, 0, none⟩ (.slice fa fl fc)).setCell ⟨p6, 1, none⟩ (.slice la ll lc)).setCell ⟨p6, 2, none⟩ (.int .i64 F.fuse)).setCell ⟨p6, 3, none⟩ (.int .i64 F.fault)).setCell ⟨p6, 4, none⟩ (.bool F.off)).setCell ⟨p7, 0, none⟩ (.slice ga gl gc)).setCell ⟨p7, 1, none⟩ (.slice ma ml mc)).setCell ⟨p7, 2, none⟩ (.int .i64 F.fuse)).setCell ⟨p7, 3, none⟩ (.int .i64 F.fault)).setCell ⟨p7, 4, none⟩ (.bool F.off)) p6 p7 F := by
  have o1 := Only.five W p6 (.slice fa fl fc) (.slice la ll lc) (.int .i64 F.fuse) (.int .i64 F.fault) (.bool F.off)
  have o2 := Only.five (((((W.setCell ⟨p6, 0, none⟩ (.slice fa fl fc)).setCell ⟨p6, 1, none⟩ (.slice la ll lc)).setCell ⟨p6, 2, none⟩ (.int .i64 F.fuse)).setCell ⟨p6, 3, none⟩ (.int .i64 F.fault)).setCell ⟨p6, 4, none⟩ (.bool F.off)) p7 (.slice ga gl gc) (.slice ma ml mc) (.int .i64 F.fuse) (.int .i64 F.fault) (.bool F.off)
  have f2 := (hf.only o1 (by simp)).only o2 (by simp)
  have g2 := (hg.only o1 (by simp)).only o2 (by simp)
  by_cases e : p6 = p7
  · subst e
    exact ⟨ga, ma, ga, ma, gl, gc, ml, mc, gl, gc, ml, mc, (hb6.five _ _ _ _ _).five _ _ _ _ _, (hb6.five _ _ _ _ _).five _ _ _ _ _, g2, g2⟩
  · exact ⟨fa, la, ga, ma, fl, fc, ll, lc, gl, gc, ml, mc, (hb6.five _ _ _ _ _).only o2 e, (hb7.only o1 (Ne.symm e)).five _ _ _ _ _, f2, g2⟩
end
def TryDoesRel (w : World) (p6 p7 n : Nat) (ix : Value) (wr : World) : Prop :=
  ∃ (k : Nat) (F : FileD), k ≤ n ∧ ix = .int .i64 k ∧ TryTwo6 wr p6 p7 F ∧ Below w.heap.size w wr
theorem FileD.does_loose {F : FileD} (X : DeedD) : (F.does X).1.loose.length ≤ F.loose.length + 1 := by
  have ha : ∀ more, (F.asked more).1.loose = F.loose := fun more => (FileD.asked_same F more).2
  unfold FileD.does
  split
  · unfold FileD.sync FileD.op
    split
    · split
      · simp
      · rw [ha]; omega
    · simp
  · split
    · unfold FileD.light FileD.set; split
      · split <;> simp
      · simp
    · split
      · unfold FileD.refuse FileD.set; split
        · split <;> simp
        · simp
      · split
        · unfold FileD.crash; split <;> simp
        · unfold FileD.append
          split
          · simp
          · unfold FileD.op; split
            · split
              · simp [ha]
              · rw [ha]; omega
            · simp

set_option maxRecDepth 8000 in
set_option maxHeartbeats 16000000 in
theorem Try_FileDoes (F : FileD) (fa la da : Option Addr) (fl fc ll lc dl dc : Nat) (D : List DeedV) (w : World) (hF : FileAt w fa fl fc la ll lc F) (hll : ll * 24 ≤ 140737488355328) (hD : DeedsAt w da D) (hDl : D.length = dl) (hdc : dl ≤ dc) (hdl : dl ≤ 140737488355328) (hdn : da = none → dc = 0) :
    Calls Try.prog 3 #[.agg #[.slice fa fl fc, .slice la ll lc, .int .i64 F.fuse, .int .i64 F.fault, .bool F.off], .slice da dl dc] w fun e w' => e = .returned (.bool true) ∧ Below w.heap.size w w' := by
  obtain ⟨W0, hW0⟩ : ∃ W0, w.alloc (.cells [.slice fa fl fc, .slice la ll lc, .int .i64 F.fuse, .int .i64 F.fault, .bool F.off].toArray 25) = W0 := ⟨_, rfl⟩
  have bel0 : Below w.heap.size w W0 := by rw [← hW0]; exact (by repeat (first | (with_reducible exact Below.refl _ _) | (with_reducible exact Below.refl _ _) | (with_reducible refine Below.setCell ?_ (by first | omega | (simp; done) | (simp; omega)) _) | (with_reducible refine Below.alloc ?_ (by first | omega | (simp; done) | (simp; omega)) _) | (with_reducible refine Below.drew ?_) | (with_reducible refine below_drewN ?_ _)))
  have hs0 : W0.heap.size = w.heap.size + 1 := by rw [← hW0]; simp
  have hb1 : Blk W0 w.heap.size [.slice fa fl fc, .slice la ll lc, .int .i64 F.fuse, .int .i64 F.fault, .bool F.off] 25 := by rw [← hW0]; exact Blk.new w [.slice fa fl fc, .slice la ll lc, .int .i64 F.fuse, .int .i64 F.fault, .bool F.off] 25
  have HW0 := Lib.hid hW0
  have HF := Lib.hid hF
  have HD := Lib.hid hD
  have HDL := Lib.hid hDl
  have HB1 := Lib.hid hb1
  have BEL0 := Lib.hid bel0
  have HS0 := Lib.hid hs0
  have HLL := Lib.hid hll
  have hwk := Try_wakes10 W0
  have HWK := Lib.hid hwk
  clear hF hb1 bel0 hs0 hW0 hwk hll hD hDl
  go_enter Try.func3, Try.ntmps3
  go_wp2_with fail
  rw [HW0.out]
  refine HWK.out.mono ?_; rintro e w1 ⟨rfl, hb⟩
  have hl1 : w.heap.size + 1 ≤ w1.heap.size := by have := hb.size; have := HS0.out; omega
  have hq := HB1.out.ext hb
  have HB11 := Lib.hid hq
  have BEL1 := Lib.hid (BEL0.out.trans (hb.mono (by have := BEL0.out.size; omega)))
  clear hb hq HB1 BEL0 HW0 HWK HS0
  go_wp2_with fail
  refine (Try_New w1).mono ?_; rintro e w2 ⟨rfl, hb⟩
  have hl2 : w.heap.size + 1 ≤ w2.heap.size := Nat.le_trans hl1 hb.size
  have HB12 := Lib.hid ((HB11.out.ext hb).alloc (.cells #[.slice none 0 0, .slice none 0 0, .int .i64 (-1), .int .i64 (-1), .bool false] 25))
  have bel : Below w.heap.size w w2 := BEL1.out.trans (hb.mono (by omega))
  have BEL2 := Lib.hid bel
  clear hb HB11 BEL1 bel
  go_wp2_with fail
  have hA : Calls Try.prog 17 #[.agg #[.slice none 0 0, .slice none 0 0, .int .i64 (-1), .int .i64 (-1), .bool false], .agg #[.slice none 0 0, .slice none 0 0, .int .i64 (-1), .int .i64 (-1), .bool false]] (w2.alloc (.cells #[.slice none 0 0, .slice none 0 0, .int .i64 (-1), .int .i64 (-1), .bool false] 25)) _ := Try_refSame FileD.none FileD.none none none none none 0 0 0 0 0 0 0 0 _ ⟨BytesAt.nil_, LooseAt.nil_, by unfold I64' FileD.none; simp, by unfold I64' FileD.none; simp⟩ ⟨BytesAt.nil_, LooseAt.nil_, by unfold I64' FileD.none; simp, by unfold I64' FileD.none; simp⟩
  rw [FileD.one_self] at hA
  refine hA.mono ?_; rintro e w3 ⟨rfl, hb⟩
  have hl3 : w.heap.size + 1 ≤ w3.heap.size := by have := hb.size; simp at this; omega
  have hq := HB12.out.ext hb
  have q1 := hq.cells
  have lq := hq.lt
  have bel : Below w.heap.size w w3 := (by repeat (first | (with_reducible exact Below.refl _ _) | (with_reducible exact Below.refl _ _) | (with_reducible refine Below.setCell ?_ (by first | omega | (simp; done) | (simp; omega)) _) | (with_reducible refine Below.alloc ?_ (by first | omega | (simp; done) | (simp; omega)) _) | (with_reducible refine Below.drew ?_) | (with_reducible refine below_drewN ?_ _) | (with_reducible refine Below.trans ?_ (hb.mono (by first | omega | (simp; done) | (simp; omega)))) | (with_reducible refine Below.trans ?_ (BEL2.out.mono (by first | omega | (simp; done) | (simp; omega))))))
  have BEL3 := Lib.hid bel
  clear hb hq hA HB12 BEL2 bel
  go_wp2_with fail
  have HF3 := Lib.hid (HF.out.ext BEL3.out)
  refine' wp_region_seq [.inl _, .inl _, .inr (NewFile w3.heap.size 25 F), .inr (NewBlk w3.heap.size [.slice none 0 0, .slice none 0 0, .int .i64 0, .int .i64 0, .bool false] 25), .inr (NewBlk w3.heap.size [.slice none 0 0, .slice none 0 0, .int .i64 0, .int .i64 0, .bool false] 25)] (by kernel_rfl) (by kernel_rfl) ?main1
  case main1 =>
    refine wpParts_det (by rfl) (fun W hE hN => ?_) ?_
    · have hc := fun b o h => hE.cell (p := ⟨b, o, none⟩) h
      go_simp; refine ⟨Below.refl _ _, ?_⟩; rfl
    simp only [Act.put, List.setIfInBounds_toArray, List.set_cons_zero, List.set_cons_succ]
    refine wpParts_det (by rfl) (fun W hE hN => ?_) ?_
    · have hc := fun b o h => hE.cell (p := ⟨b, o, none⟩) h
      go_simp; refine ⟨Below.refl _ _, ?_⟩; rfl
    simp only [Act.put, List.setIfInBounds_toArray, List.set_cons_zero, List.set_cons_succ]
    refine wpParts_any rfl (NewFile.later) (by rfl) (fun W hE hN => ?_) (fun u2 => ?_)
    · go_simp; refine ⟨Below.refl _ _, ?_⟩; refine (Try_own F fa la fl fc ll lc W _ (HF3.out.ext hE).s (fun b h => h) HLL.out).mono ?_; rintro e w' ⟨ga, gl, gc, ma, ml, mc, rfl, hR, hb⟩; exact ⟨_, rfl, hb, ga, gl, gc, ma, ml, mc, rfl, hR.mono fun b h => ⟨Nat.le_trans hE.size h.1, h.2⟩⟩
    simp only [Act.put, List.setIfInBounds_toArray, List.set_cons_zero, List.set_cons_succ]
    refine wpParts_any rfl (NewBlk.later) (by rfl) (fun W hE hN => ?_) (fun u3 => ?_)
    · go_simp; exact newBlk_alloc (cs := [.slice none 0 0, .slice none 0 0, .int .i64 0, .int .i64 0, .bool false]) hE.size
    simp only [Act.put, List.setIfInBounds_toArray, List.set_cons_zero, List.set_cons_succ]
    refine wpParts_any rfl (NewBlk.later) (by rfl) (fun W hE hN => ?_) (fun u4 => ?_)
    · go_simp; exact newBlk_alloc (cs := [.slice none 0 0, .slice none 0 0, .int .i64 0, .int .i64 0, .bool false]) hE.size
    simp only [Act.put, List.setIfInBounds_toArray, List.set_cons_zero, List.set_cons_succ]
    refine wpParts_end fun W4 hE4 hG4 => ?_
    have hcW4 := fun b o h => hE4.cell (p := ⟨b, o, none⟩) h
    have hfW4 := fun b o h => hE4.frozen (p := ⟨b, o, none⟩) h
    obtain ⟨⟨p7, rfl, hp7, hb7⟩, ⟨p6, rfl, hp6, hb6⟩, ⟨ga, gl, gc, ma, ml, mc, rfl, hR⟩, _⟩ := hG4
    have s4 := hE4.size
    have bel4 : Below w.heap.size w W4 := BEL3.out.trans (hE4.mono (by omega))
    have hfi : FileIn W4 [p6, p7] fa fl fc la ll lc F := FileIn.below HF.out.s bel4 (Nat.le_refl _) (by simp; omega)
    have hgi : FileIn W4 [p6, p7] ga gl gc ma ml mc F := FileIn.of_apart hR (by intro p hp; simp at hp; rcases hp with rfl | rfl <;> exact ⟨_, by assumption⟩)
    have hrel := Try_boxes hb6 hb7 hfi hgi
    refine Try_wpStore5 (dst := .tmp 6) (src := .tmp 21) rfl rfl rfl rfl rfl hb6 ?_
    obtain ⟨z0, z1, z2, z3, z4, hz⟩ := Try_second (F := F) (fa := fa) (fl := fl) (fc := fc) (la := la) (ll := ll) (lc := lc) hb6 hb7
    refine Try_wpStore5 (dst := .tmp 7) (src := .tmp 23) rfl rfl rfl rfl rfl hz ?_
    obtain ⟨W5, hW5⟩ : ∃ W5, ((((((((((W4.setCell ⟨p6, 0, none⟩ (.slice fa fl fc)).setCell ⟨p6, 1, none⟩ (.slice la ll lc)).setCell ⟨p6, 2, none⟩ (.int .i64 F.fuse)).setCell ⟨p6, 3, none⟩ (.int .i64 F.fault)).setCell ⟨p6, 4, none⟩ (.bool F.off)).setCell ⟨p7, 0, none⟩ (.slice ga gl gc)).setCell ⟨p7, 1, none⟩ (.slice ma ml mc)).setCell ⟨p7, 2, none⟩ (.int .i64 F.fuse)).setCell ⟨p7, 3, none⟩ (.int .i64 F.fault)).setCell ⟨p7, 4, none⟩ (.bool F.off)) = W5 := ⟨_, rfl⟩
    have bel5 : Below w.heap.size w W5 := by rw [← hW5]; exact (by repeat (first | (with_reducible exact Below.refl _ _) | (with_reducible exact Below.refl _ _) | (with_reducible refine Below.setCell ?_ (by first | omega | (simp; done) | (simp; omega)) _) | (with_reducible refine Below.alloc ?_ (by first | omega | (simp; done) | (simp; omega)) _) | (with_reducible refine Below.drew ?_) | (with_reducible refine below_drewN ?_ _) | (with_reducible refine Below.trans ?_ (bel4.mono (by first | omega | (simp; done) | (simp; omega))))))
    rw [hW5] at hrel ⊢
    have HREL := Lib.hid hrel
    have BEL5 := Lib.hid bel5
    clear hb6 hb7 hfi hgi hrel hz hW5 bel5 bel4 hR hE4 q1 lq BEL3 HF3 s4
    go_wp2_with fail
    refine (Try_few da dl dc W5 hdc hdl).mono ?_; rintro e w6 ⟨rfl, hb⟩
    have HREL6 := Lib.hid (HREL.out.ext hb)
    have BEL6 := Lib.hid (BEL5.out.trans (hb.mono (by have := BEL5.out.size; omega)))
    obtain ⟨n, hn⟩ : ∃ n, min dl 40 = n := ⟨_, rfl⟩
    have hn1 : n ≤ dl := by omega
    have hn2 : (n : Int) ≤ 40 := by omega
    rw [hn]
    have hp6' : w.heap.size ≤ p6 := by omega
    have hp7' : w.heap.size ≤ p7 := by omega
    clear hb HREL BEL5 hn hp6 hp7
    go_wp2_with fail
    go_loopw [27] (fun ix wr => TryDoesRel w p6 p7 n ix wr) (fun ix _ => n - (intOf ix).toNat)
    case atStart => exact ⟨0, F, Nat.zero_le _, rfl, HREL6.out, BEL6.out⟩
    case round =>
      obtain ⟨k, G, hk, rfl, hTW, hbl⟩ := hrel
      have HTW := Lib.hid hTW
      have HBL := Lib.hid hbl
      clear hTW hbl
      by_cases hlt : k < n
      · obtain ⟨d, hd⟩ : ∃ d, D[k]? = some d := ⟨_, List.getElem?_eq_getElem (by have := HDL.out; omega)⟩
        obtain ⟨b, o, rfl, hb, hcs, hX⟩ := HD.out k d hd
        have hd0 := hcs 0 _ rfl
        have hd1 := hcs 1 _ rfl
        have hd2 := hcs 2 _ rfl
        have hd3 := hcs 3 _ rfl
        have hd4 := hcs 4 _ rfl
        rw [Nat.add_zero] at hd0
        have hcw := fun j => HBL.out.cell (p := ⟨b, o + k * 5 + j, none⟩) hb
        have hc0 := (HBL.out.cell (p := ⟨b, o + k * 5, none⟩) hb).trans hd0
        have hc1 := (hcw 1).trans hd1
        have hc2 := (hcw 2).trans hd2
        have hc3 := (hcw 3).trans hd3
        have hc4 := (hcw 4).trans hd4
        have HX := Lib.hid (hX.ext HBL.out)
        have hkl : (k : Int) < (n : Int) := by omega
        have HLT := Lib.hid hlt
        obtain ⟨xa, ya, ua, va, xl, xc, yl, yc, ul, uc, vl, vc, hb6, hb7, hx, hu⟩ := HTW.out
        have q6 := hb6.cells
        have l6 := hb6.lt
        have HB6 := Lib.hid hb6
        have HB7 := Lib.hid hb7
        have HFX := Lib.hid hx
        have HFU := Lib.hid hu
        clear hd hcs hX hd0 hd1 hd2 hd3 hd4 hcw hlt hk hb6 hb7 hx hu HTW hb
        go_wp2_with fail
        obtain ⟨F1, e1, hV⟩ : ∃ F1 e1, G.does d.X = (F1, e1) := ⟨_, _, rfl⟩
        have HV := Lib.hid hV
        have a1 := (Below.refl _ wr).alloc (Nat.le_refl _) (.cells [.int .i64 d.X.kind, .int .i64 d.X.n, .int .i64 d.X.tear, .slice d.ba d.bl d.bc, .slice d.ka d.kl d.kc].toArray 34)
        have b9 := Blk.new wr [.int .i64 d.X.kind, .int .i64 d.X.n, .int .i64 d.X.tear, .slice d.ba d.bl d.bc, .slice d.ka d.kl d.kc] 34
        have l7 := HB7.out.lt
        have hA := Try_does G d.X xa ya d.ba d.ka xl xc yl yc d.bl d.bc d.kl d.kc (wr.alloc (.cells [.int .i64 d.X.kind, .int .i64 d.X.n, .int .i64 d.X.tear, .slice d.ba d.bl d.bc, .slice d.ka d.kl d.kc].toArray 34)) _ (HFX.out.alloc' _) (HX.out.ext a1) (fun b h => h.1)
        rw [hV] at hA
        with_reducible refine hA.mono ?_
        rintro e w7 ⟨na, nl, nc, oa, ol, oc, rfl, hR, hb⟩
        have s7 := hb.size
        simp only [World.size_alloc] at s7
        have bb := a1.trans (hb.mono (by simp))
        have HFN := Lib.hid ((FileIn.of_or hR (by simp; omega)).alloc' (.cells [.slice na nl nc, .slice oa ol oc, .int .i64 F1.fuse, .int .i64 F1.fault, .bool F1.off].toArray 25))
        have a2 := (Below.refl _ w7).alloc (Nat.le_refl _) (.cells [.slice na nl nc, .slice oa ol oc, .int .i64 F1.fuse, .int .i64 F1.fault, .bool F1.off].toArray 25)
        have bb2 := bb.trans (a2.mono (by omega))
        have HFX7 := Lib.hid (HFX.out.ext bb2)
        have HFU7 := Lib.hid (HFU.out.ext bb2)
        have HB67 := Lib.hid (HB6.out.ext bb2)
        have HB77 := Lib.hid (HB7.out.ext bb2)
        have HX7 := Lib.hid (HX.out.ext bb2)
        have HB10 := Lib.hid (Blk.new w7 [.slice na nl nc, .slice oa ol oc, .int .i64 F1.fuse, .int .i64 F1.fault, .bool F1.off] 25)
        have q7 := (HB7.out.ext bb).cells
        have q9 := (b9.ext hb).cells
        have l9 := (b9.ext hb).lt
        have l77 := (HB7.out.ext bb).lt
        have BEL7 := Lib.hid (HBL.out.trans (bb2.mono (by have := HBL.out.size; omega)))
        clear hA hV hR hb bb a1 b9 a2 bb2 HFX HFU HB6 HB7 HX HBL q6
        go_wp2_with fail
        have hA := Try_ought G d.X ua va d.ba d.ka ul uc vl vc d.bl d.bc d.kl d.kc _ (Free [p6, p7] _) HFU7.out HX7.out (fun b h => h.1)
        rw [HV.out] at hA
        with_reducible refine hA.mono ?_
        rintro e w8 ⟨ra, rl, rc, sa, sl, sc, rfl, hR, hb⟩
        have s8 := hb.size
        simp only [World.size_alloc] at s8
        have HFR := Lib.hid ((FileIn.of_or hR (by simp; omega)).alloc' (.cells [.slice ra rl rc, .slice sa sl sc, .int .i64 F1.fuse, .int .i64 F1.fault, .bool F1.off].toArray 25))
        have a2 := (Below.refl _ w8).alloc (Nat.le_refl _) (.cells [.slice ra rl rc, .slice sa sl sc, .int .i64 F1.fuse, .int .i64 F1.fault, .bool F1.off].toArray 25)
        have bb2 := hb.trans (a2.mono (by simp; omega))
        have HFX8 := Lib.hid (HFX7.out.ext bb2)
        have HFU8 := Lib.hid (HFU7.out.ext bb2)
        have HFN8 := Lib.hid (HFN.out.ext bb2)
        have HB68 := Lib.hid (HB67.out.ext bb2)
        have HB78 := Lib.hid (HB77.out.ext bb2)
        have HB108 := Lib.hid (HB10.out.ext bb2)
        have HB12 := Lib.hid (Blk.new w8 [.slice ra rl rc, .slice sa sl sc, .int .i64 F1.fuse, .int .i64 F1.fault, .bool F1.off] 25)
        have q10 := (HB10.out.ext hb).cells
        have l10 := (HB10.out.ext hb).lt
        have BEL8 := Lib.hid (BEL7.out.trans (bb2.mono (by have := BEL7.out.size; omega)))
        clear hA hR hb a2 bb2 HFX7 HFU7 HFN HB67 HB77 HB10 HX7 BEL7 q7 q9
        go_wp2_with fail
        have hA := Try_refSame F1 F1 na oa ra sa nl nc ol oc rl rc sl sc (w8.alloc (.cells [.slice ra rl rc, .slice sa sl sc, .int .i64 F1.fuse, .int .i64 F1.fault, .bool F1.off].toArray 25)) HFN8.out.at_ HFR.out.at_
        rw [FileD.one_self] at hA
        with_reducible refine hA.mono ?_
        rintro e w9 ⟨rfl, hb⟩
        have s9 := hb.size
        simp only [World.size_alloc] at s9
        have HFX9 := Lib.hid (HFX8.out.ext hb)
        have HFU9 := Lib.hid (HFU8.out.ext hb)
        have HFN9 := Lib.hid (HFN8.out.ext hb)
        have HFR9 := Lib.hid (HFR.out.ext hb)
        have HB69 := Lib.hid (HB68.out.ext hb)
        have HB79 := Lib.hid (HB78.out.ext hb)
        have HB109 := Lib.hid (HB108.out.ext hb)
        have HB129 := Lib.hid (HB12.out.ext hb)
        have q6 := HB69.out.cells
        have q7 := HB79.out.cells
        have l6' := HB69.out.lt
        have l7' := HB79.out.lt
        have BEL9 := Lib.hid (BEL8.out.trans (hb.mono (by have := BEL8.out.size; omega)))
        clear hA hb HFX8 HFU8 HFN8 HFR HB68 HB78 HB108 HB12 BEL8 q10
        go_wp2_with fail
        have hA := Try_refSame G G xa ya ua va xl xc yl yc ul uc vl vc w9 HFX9.out.at_ HFU9.out.at_
        rw [FileD.one_self] at hA
        with_reducible refine hA.mono ?_
        rintro e wa ⟨rfl, hb⟩
        have sa' := hb.size
        have HFXa := Lib.hid (HFX9.out.ext hb)
        have HFUa := Lib.hid (HFU9.out.ext hb)
        have HFNa := Lib.hid (HFN9.out.ext hb)
        have HFRa := Lib.hid (HFR9.out.ext hb)
        have HB6a := Lib.hid (HB69.out.ext hb)
        have HB7a := Lib.hid (HB79.out.ext hb)
        have HB10a := Lib.hid (HB109.out.ext hb)
        have HB12a := Lib.hid (HB129.out.ext hb)
        have BELa := Lib.hid (BEL9.out.trans (hb.mono (by have := BEL9.out.size; omega)))
        clear hA hb HFX9 HFU9 HFN9 HFR9 HB69 HB79 HB109 HB129 BEL9 q6 q7 l6 l7 l6' l7'
        by_cases z1 : e1 = 200
        · subst z1
          go_wp2_with fail
          go_roundw
          case rel => exact ⟨k + 1, G, by have := HLT.out; omega, by go_num, ⟨xa, ya, ua, va, xl, xc, yl, yc, ul, uc, vl, vc, HB6a.out, HB7a.out, HFXa.out, HFUa.out⟩, BELa.out⟩
          case measure => simp [intOf]; omega
        · have z1' : (e1 == 200) = false := by simp [z1]
          have z1'' : (e1 != 200) = true := by simp [z1]
          have hGr : G.right = true := by
            cases h : G.right with
            | true => rfl
            | false => have h1 := HV.out; rw [FileD.does_wrong h] at h1; exact absurd (congrArg Prod.snd h1).symm z1
          have HGR := Lib.hid hGr
          clear hGr z1
          by_cases z2 : e1 = 2
          · subst z2
            go_wp2_with fail
            go_roundw
            case rel => exact ⟨k + 1, G, by have := HLT.out; omega, by go_num, ⟨xa, ya, ua, va, xl, xc, yl, yc, ul, uc, vl, vc, HB6a.out, HB7a.out, HFXa.out, HFUa.out⟩, BELa.out⟩
            case measure => simp [intOf]; omega
          · have z2' : (e1 == 2) = false := by simp [z2]
            have z2'' : (e1 != 2) = true := by simp [z2]
            go_wp2_with fail
            have q10 := HB10a.out.cells
            have q12 := HB12a.out.cells
            have l10' := HB10a.out.lt
            have l12' := HB12a.out.lt
            have hlo : rl + rc = rl + rc := rfl
            have hsl : sl * 24 ≤ 140737488355328 := by
              have h1 := HFRa.out.loose.hlen
              have h2 := FileD.does_loose (F := G) d.X
              rw [HV.out] at h2
              have h3 := FileD.right_spec.1 HGR.out
              have h4 := full_len h3.1
              have h5 := h3.2.2.2.2
              unfold FileD.many at h5
              dsimp only at h2
              omega
            have HSL := Lib.hid hsl
            clear hsl hlo
            refine' wp_region_seq [.inl _, .inl _, .inr (NewFile wa.heap.size 25 F1)] (by kernel_rfl) (by kernel_rfl) ?main2
            case main2 =>
              refine wpParts_det (by rfl) (fun W hE hN => ?_) ?_
              · have hc := fun b o h => hE.cell (p := ⟨b, o, none⟩) h
                go_simp; refine ⟨Below.refl _ _, ?_⟩; rfl
              simp only [Act.put, List.setIfInBounds_toArray, List.set_cons_zero, List.set_cons_succ]
              refine wpParts_det (by rfl) (fun W hE hN => ?_) ?_
              · have hc := fun b o h => hE.cell (p := ⟨b, o, none⟩) h
                go_simp; refine ⟨Below.refl _ _, ?_⟩; rfl
              simp only [Act.put, List.setIfInBounds_toArray, List.set_cons_zero, List.set_cons_succ]
              refine wpParts_any rfl (NewFile.later) (by rfl) (fun W hE hN => ?_) (fun u2 => ?_)
              · go_simp; refine ⟨Below.refl _ _, ?_⟩; refine (Try_own F1 ra sa rl rc sl sc W _ (HFRa.out.at_.ext hE).s (fun b h => h) HSL.out).mono ?_; rintro e w' ⟨ta, tl, tc, xa', xl', xc', rfl, hR, hb⟩; exact ⟨_, rfl, hb, ta, tl, tc, xa', xl', xc', rfl, hR.mono fun b h => ⟨Nat.le_trans hE.size h.1, h.2⟩⟩
              simp only [Act.put, List.setIfInBounds_toArray, List.set_cons_zero, List.set_cons_succ]
              refine wpParts_end fun Wb hEb hGb => ?_
              have hcWb := fun b o h => hEb.cell (p := ⟨b, o, none⟩) h
              have hfWb := fun b o h => hEb.frozen (p := ⟨b, o, none⟩) h
              obtain ⟨⟨ta, tl, tc, ea, el, ec, rfl, hR⟩, _⟩ := hGb
              have sb := hEb.size
              have belb : Below w.heap.size w Wb := BELa.out.trans (hEb.mono (by have := BELa.out.size; omega))
              have hb6 := HB6a.out.ext hEb
              have hb7 := HB7a.out.ext hEb
              have hni : FileIn Wb [p6, p7] na nl nc oa ol oc F1 := HFNa.out.ext hEb
              have hti : FileIn Wb [p6, p7] ta tl tc ea el ec F1 := FileIn.of_apart hR (by intro p hp; simp at hp; rcases hp with rfl | rfl <;> exact ⟨_, by assumption⟩)
              have hrel := Try_boxes hb6 hb7 hni hti
              refine Try_wpStore5 (dst := .tmp 6) (src := .tmp 62) rfl rfl rfl rfl rfl hb6 ?_
              obtain ⟨z0, z1, z2, z3, z4, hz⟩ := Try_second (F := F1) (fa := na) (fl := nl) (fc := nc) (la := oa) (ll := ol) (lc := oc) hb6 hb7
              refine Try_wpStore5 (dst := .tmp 7) (src := .tmp 64) rfl rfl rfl rfl rfl hz ?_
              obtain ⟨Wc, hWc⟩ : ∃ Wc, ((((((((((Wb.setCell ⟨p6, 0, none⟩ (.slice na nl nc)).setCell ⟨p6, 1, none⟩ (.slice oa ol oc)).setCell ⟨p6, 2, none⟩ (.int .i64 F1.fuse)).setCell ⟨p6, 3, none⟩ (.int .i64 F1.fault)).setCell ⟨p6, 4, none⟩ (.bool F1.off)).setCell ⟨p7, 0, none⟩ (.slice ta tl tc)).setCell ⟨p7, 1, none⟩ (.slice ea el ec)).setCell ⟨p7, 2, none⟩ (.int .i64 F1.fuse)).setCell ⟨p7, 3, none⟩ (.int .i64 F1.fault)).setCell ⟨p7, 4, none⟩ (.bool F1.off)) = Wc := ⟨_, rfl⟩
              have belc : Below w.heap.size w Wc := by rw [← hWc]; exact (by repeat (first | (with_reducible exact Below.refl _ _) | (with_reducible exact Below.refl _ _) | (with_reducible refine Below.setCell ?_ (by first | omega | (simp; done) | (simp; omega)) _) | (with_reducible refine Below.alloc ?_ (by first | omega | (simp; done) | (simp; omega)) _) | (with_reducible refine Below.drew ?_) | (with_reducible refine below_drewN ?_ _) | (with_reducible refine Below.trans ?_ (belb.mono (by first | omega | (simp; done) | (simp; omega))))))
              rw [hWc] at hrel ⊢
              have HRELc := Lib.hid hrel
              have BELc := Lib.hid belc
              clear hb6 hb7 hni hti hrel hz hWc belc belb hR hEb q10 q12 l10' l12'
              go_wp2_with fail
              go_roundw
              case rel => exact ⟨k + 1, F1, by have := HLT.out; omega, by go_num, HRELc.out, BELc.out⟩
              case measure => simp [intOf]; omega
      · have hkl : ¬ ((k : Int) < (n : Int)) := by omega
        clear hlt
        have bel := HBL.out
        go_wp2
        go_ret
        exact ⟨rfl, bel⟩
end Go.Proofs.Ytmjmjjakhmeogaa
