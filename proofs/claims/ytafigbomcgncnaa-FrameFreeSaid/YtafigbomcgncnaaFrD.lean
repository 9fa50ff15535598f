/-
  Layer 11: Put, walked.
-/
import Derived.Test.YtafigbomcgncnaaFrC
import Derived.Test.YtafigbomcgncnaaFilK
import Derived.Deep.DeepCutAuto
namespace Go.Dav
set_option linter.unusedVariables false
set_option linter.unusedSimpArgs false
open Go Go.RowKit
/-- What Put answers: a file, a place, an error. -/
def FileD.fput (F : FileD) (p : List UInt8) : FileD × Nat × Int :=
  if F.right = true then (if 1 ≤ p.length ∧ p.length ≤ 4096 then ((F.append (pieceOf F.all (outOf p))).1, if (F.append (pieceOf F.all (outOf p))).2 = 0 then placeOf F.all (outOf p) else 0, (F.append (pieceOf F.all (outOf p))).2) else (F, 0, 2)) else (F, 0, 200)
def GivesFile3 (w : World) (S : Nat → Prop) (F : FileD) (pl : Nat) (err : Int) (e : Ending) (w' : World) : Prop :=
  ∃ fa fl fc la ll lc, e = .returned (.tuple #[.agg #[.slice fa fl fc, .slice la ll lc, .int .i64 F.fuse, .int .i64 F.fault, .bool F.off], .int .i64 (pl : Int), .int .i64 err]) ∧ FileS w' (Or S w) fa fl fc la ll lc F ∧ Below w.heap.size w w'
/-- Bytes, wherever. -/
def AnyRow1 (x : List UInt8) (v : Value) (W : World) : Prop := ∃ a n c, v = .slice a n c ∧ BytesS W (fun _ => True) a n c x
theorem AnyRow1.later {x : List UInt8} : ∀ v W W', AnyRow1 x v W → Below W.heap.size W W' → AnyRow1 x v W' := fun _ _ _ ⟨a, n, c, h1, h2⟩ hb => ⟨a, n, c, h1, h2.ext hb⟩
def PieceTup (x : List UInt8) (pl : Nat) (v : Value) (W : World) : Prop := ∃ a n c, v = .tuple #[.slice a n c, .int .i64 (pl : Int)] ∧ BytesS W (fun _ => True) a n c x
theorem PieceTup.later {x : List UInt8} {pl : Nat} : ∀ v W W', PieceTup x pl v W → Below W.heap.size W W' → PieceTup x pl v W' := fun _ _ _ ⟨a, n, c, h1, h2⟩ hb => ⟨a, n, c, h1, h2.ext hb⟩
theorem pieceOf_len {F : FileD} (cs : List UInt8) (hc : cs.length ≤ 8192) : (pieceOf F.all cs).length ≤ 20000 := by
  have h := layOn_len F.all.length (padFor F.all) cs
  have h2 := padFor_len F.all
  unfold pieceOf; omega
end Go.Dav
namespace Go.Proofs.Ytafigbomcgncnaa
set_option linter.unusedVariables false
set_option linter.unusedSimpArgs false
open Go.RowKit Go.Dav
attribute [local go_sem] Gives ite_val ite_val_true

theorem Try_may (n : Nat) (w : World) (hn : n ≤ 140737488355328) : Calls Try.prog 30 #[.int .i64 (n : Int)] w fun e w' => e = .returned (.bool (decide (1 ≤ n) && decide (n ≤ 4096))) ∧ Below w.heap.size w w' := by
  by_cases h1 : 1 ≤ n
  · have h1' : (1 : Int) ≤ (n : Int) := by omega
    by_cases h2 : n ≤ 4096
    · have h2' : (n : Int) ≤ 4096 := by omega
      have HV := Lib.hid (show (decide (1 ≤ n) && decide (n ≤ 4096)) = true by simp [h1, h2])
      clear h1 h2
      go_enter Try.func30, Try.ntmps30
      go_wp2
      go_ret
      exact ⟨by rw [HV.out]; rfl, Below.refl _ _⟩
    · have h2' : ¬ (n : Int) ≤ 4096 := by omega
      have HV := Lib.hid (show (decide (1 ≤ n) && decide (n ≤ 4096)) = false by simp [h2])
      clear h1 h2
      go_enter Try.func30, Try.ntmps30
      go_wp2
      go_ret
      exact ⟨by rw [HV.out]; first | rfl | (simp; omega), Below.refl _ _⟩
  · have h1' : ¬ (1 : Int) ≤ (n : Int) := by omega
    have HV := Lib.hid (show (decide (1 ≤ n) && decide (n ≤ 4096)) = false by simp [h1])
    clear h1
    go_enter Try.func30, Try.ntmps30
    go_wp2
    go_ret
    exact ⟨by rw [HV.out]; first | rfl | (simp; omega), Below.refl _ _⟩

set_option maxRecDepth 100000 in
set_option maxHeartbeats 8000000 in
theorem Try_fPut (F : FileD) (fa la pa : Option Addr) (fl fc ll lc pl pc : Nat) (p : List UInt8) (w : World) (S T : Nat → Prop) (hF : FileS w S fa fl fc la ll lc F) (hS : ∀ b, S b → b < w.heap.size) (hp : BytesS w T pa pl pc p) :
    Calls Try.prog 16 #[.agg #[.slice fa fl fc, .slice la ll lc, .int .i64 F.fuse, .int .i64 F.fault, .bool F.off], .slice pa pl pc] w (GivesFile3 w S (F.fput p).1 (F.fput p).2.1 (F.fput p).2.2) := by
  have hW : Below w.heap.size w ((w.alloc (.cells [.slice fa fl fc, .slice la ll lc, .int .i64 F.fuse, .int .i64 F.fault, .bool F.off].toArray 25)).alloc (.cells #[.slice none 0 0, .slice none 0 0, .int .i64 0, .int .i64 0, .bool false] 25)) := (by repeat (first | (with_reducible exact Below.refl _ _) | (with_reducible exact Below.refl _ _) | (with_reducible refine Below.setCell ?_ (by first | omega | (simp; done) | (simp; omega)) _) | (with_reducible refine Below.alloc ?_ (by first | omega | (simp; done) | (simp; omega)) _) | (with_reducible refine Below.drew ?_) | (with_reducible refine below_drewN ?_ _)))
  have hf0 := (Blk.new w [.slice fa fl fc, .slice la ll lc, .int .i64 F.fuse, .int .i64 F.fault, .bool F.off] 25).alloc (o := (.cells #[.slice none 0 0, .slice none 0 0, .int .i64 0, .int .i64 0, .bool false] 25))
  have B0 := Blk.new' (w.alloc (.cells [.slice fa fl fc, .slice la ll lc, .int .i64 F.fuse, .int .i64 F.fault, .bool F.off].toArray 25)) [.slice none 0 0, .slice none 0 0, .int .i64 0, .int .i64 0, .bool false] 25 (p := w.heap.size + 1) (by simp)
  have HSS := Lib.hid hS
  have HF := Lib.hid (hF.ext hW)
  have HPB := Lib.hid (hp.ext hW)
  have HFF := Lib.hid hf0
  have HB0 := Lib.hid B0
  have hpf := hp.at_.hfew
  have HPN := Lib.hid hp.at_.hlen
  clear hF hp hW hf0 B0 hS
  have hC := Try_Check F fa la fl fc ll lc _ HF.out.at_
  cases hr : F.right with
  | false =>
    have HV := Lib.hid (show F.fput p = (F, 0, 200) by unfold FileD.fput; rw [if_neg (by rw [hr]; decide)])
    have herr : F.err = 200 := by unfold FileD.err; rw [if_neg (by rw [hr]; decide)]
    rw [herr] at hC
    clear hr herr
    go_enter Try.func16, Try.ntmps16
    go_wp2_with fail
    refine hC.mono ?_; rintro e w1 ⟨rfl, hb1⟩
    have hs1 := hb1.size
    simp only [World.size_alloc] at hs1
    have B1 := HB0.out.ext hb1
    have bel : Below w.heap.size w w1 := (by repeat (first | (with_reducible exact Below.refl _ _) | (with_reducible exact Below.refl _ _) | (with_reducible refine Below.setCell ?_ (by first | omega | (simp; done) | (simp; omega)) _) | (with_reducible refine Below.alloc ?_ (by first | omega | (simp; done) | (simp; omega)) _) | (with_reducible refine Below.drew ?_) | (with_reducible refine below_drewN ?_ _) | (with_reducible refine Below.trans ?_ (hb1.mono (by first | omega | (simp; done) | (simp; omega))))))
    have HR := Lib.hid ((HF.out.ext hb1).mono (T := Or S w1) fun b h => Or.inl h)
    have q0 := (HFF.out.ext hb1).cells
    have l0 := (HFF.out.ext hb1).lt
    clear hC hb1
    have hr2 := ((((B1.set 0 (.slice fa fl fc)).set 1 (.slice la ll lc)).set 2 (.int .i64 (F).fuse)).set 3 (.int .i64 (F).fault)).set 4 (.bool (F).off)
    have c2 := hr2.cells
    have m2 := B1.marks
    have q2 := B1.cells
    have lB := B1.lt
    simp only [List.set_cons_zero, List.set_cons_succ] at c2
    go_wp2
    rw [HV.out]
    refine bodyPost_ret (v := .tuple #[.agg #[.slice fa fl fc, .slice la ll lc, .int .i64 (F).fuse, .int .i64 (F).fault, .bool (F).off], .int .i64 ((0 : Nat) : Int), .int .i64 (200)]) (by simp [results, Try.results16, go_sem, c2]) rfl ⟨fa, fl, fc, la, ll, lc, rfl, ?_, ?_⟩
    · refine ((HR.out).same (Only.size (p := w.heap.size + 1) (by repeat (first | (with_reducible exact Only.refl _ _) | (with_reducible refine Only.set ?_ _ _) | (with_reducible refine Only.alloc ?_ _) | (with_reducible refine Only.drew ?_)))) (fun b h hlt => Only.block (p := w.heap.size + 1) (by repeat (first | (with_reducible exact Only.refl _ _) | (with_reducible refine Only.set ?_ _ _) | (with_reducible refine Only.alloc ?_ _) | (with_reducible refine Only.drew ?_))) b hlt ?_)).mono (T := Or S w) (fun b h => ?_)
      · rcases h with h | h
        · have := HSS.out b h; omega
        · (try simp at h); omega
      · rcases h with h | h
        · exact .inl h
        · exact .inr (by (try simp at h); omega)
    · exact (by repeat (first | (with_reducible exact Below.refl _ _) | (with_reducible exact Below.refl _ _) | (with_reducible refine Below.setCell ?_ (by first | omega | (simp; done) | (simp; omega)) _) | (with_reducible refine Below.alloc ?_ (by first | omega | (simp; done) | (simp; omega)) _) | (with_reducible refine Below.drew ?_) | (with_reducible refine below_drewN ?_ _) | (with_reducible refine Below.trans ?_ (bel.mono (by first | omega | (simp; done) | (simp; omega))))))
  | true =>
    have herr : F.err = 0 := by unfold FileD.err; rw [if_pos hr]
    rw [herr] at hC
    clear herr
    go_enter Try.func16, Try.ntmps16
    go_wp2_with fail
    refine hC.mono ?_; rintro e w1 ⟨rfl, hb1⟩
    have hs1 := hb1.size
    simp only [World.size_alloc] at hs1
    have HFF1 := Lib.hid (HFF.out.ext hb1)
    have HB1 := Lib.hid (HB0.out.ext hb1)
    have HF1 := Lib.hid (HF.out.ext hb1)
    have HP1 := Lib.hid (HPB.out.ext hb1)
    have BEL1 := Lib.hid (show Below w.heap.size w w1 from (by repeat (first | (with_reducible exact Below.refl _ _) | (with_reducible exact Below.refl _ _) | (with_reducible refine Below.setCell ?_ (by first | omega | (simp; done) | (simp; omega)) _) | (with_reducible refine Below.alloc ?_ (by first | omega | (simp; done) | (simp; omega)) _) | (with_reducible refine Below.drew ?_) | (with_reducible refine below_drewN ?_ _) | (with_reducible refine Below.trans ?_ (hb1.mono (by first | omega | (simp; done) | (simp; omega)))))))
    clear hC hb1 HFF HB0 HF HPB
    go_wp2_with fail
    refine (Try_may pl w1 hpf).mono ?_; rintro e w2 ⟨rfl, hb2⟩
    have hs2 := hb2.size
    have HFF2 := Lib.hid (HFF1.out.ext hb2)
    have HB2 := Lib.hid (HB1.out.ext hb2)
    have HF2 := Lib.hid (HF1.out.ext hb2)
    have HP2 := Lib.hid (HP1.out.ext hb2)
    have BEL2 := Lib.hid (BEL1.out.trans (hb2.mono BEL1.out.size))
    have q0 := HFF2.out.cells
    have l0 := HFF2.out.lt
    clear hb2 HFF1 HB1 HF1 HP1 BEL1
    by_cases hm : 1 ≤ pl ∧ pl ≤ 4096
    · rw [show (decide (1 ≤ pl) && decide (pl ≤ 4096)) = true by simp [hm]]
      obtain ⟨x, hx⟩ : ∃ x, pieceOf F.all (outOf p) = x := ⟨_, rfl⟩
      obtain ⟨plc, hplc⟩ : ∃ z, placeOf F.all (outOf p) = z := ⟨_, rfl⟩
      obtain ⟨F7, e7, hV⟩ : ∃ F7 e7, F.append x = (F7, e7) := ⟨_, _, rfl⟩
      have hm2 : pl ≤ 4096 := hm.2
      have hol : (outOf p).length = 6 + pl := by rw [outOf_len, HPN.out]
      have HV0 := Lib.hid (show F.fput p = (F7, if e7 = 0 then plc else 0, e7) by unfold FileD.fput; rw [if_pos hr, if_pos (by rw [HPN.out]; exact hm), hx, hplc, hV])
      have HOUT := Lib.hid (fun W T (h : BytesS W T pa pl pc p) => Try_out pa pl pc p W T h (by omega))
      have HPC := Lib.hid (fun W (T : Nat → Prop) ca cl cc (h : FileS W S fa fl fc la ll lc F) (h2 : ∀ b, S b → b < W.heap.size) (h3 : BytesS W T ca cl cc (outOf p)) (h4 : ∀ b, T b → b < W.heap.size) => Try_piece F fa la ca fl fc ll lc cl cc (outOf p) W S T h h2 hr h3 h4 (by rw [← h3.at_.hlen, hol]; omega))
      have HAPP := Lib.hid (fun W (T : Nat → Prop) ba bl bc (h : FileS W S fa fl fc la ll lc F) (h2 : ∀ b, S b → b < W.heap.size) (h3 : BytesS W T ba bl bc x) => Try_Append F fa la ba fl fc ll lc bl bc x W S T h h2 h3)
      have HX := Lib.hid hx
      have HPLC := Lib.hid hplc
      have HAV := Lib.hid hV
      have HOL := Lib.hid hol
      have HXL := Lib.hid (show x.length ≤ 20000 by rw [← hx]; exact pieceOf_len _ (by rw [hol]; omega))
      clear hr hm hx hplc hV hol
      go_wp2_with fail
      refine' wp_region_seq [.inl _, .inl _, .inr (AnyRow1 (outOf p)), .inr (PieceTup x plc), .inr (PieceTup x plc), .inr (AnyRow1 x), .inl _, .inr (AnyRow1 x), .inl _] (by kernel_rfl) (by kernel_rfl) ?main1
      case main1 =>
        refine wpParts_det (by rfl) (fun W hE hN => ?_) ?_
        · have hc := fun b o h => hE.cell (p := ⟨b, o, none⟩) h
          go_simp; refine ⟨Below.refl _ _, ?_⟩; rfl
        simp only [Act.put, List.setIfInBounds_toArray, List.set_cons_zero, List.set_cons_succ]
        refine wpParts_det (by rfl) (fun W hE hN => ?_) ?_
        · go_simp; refine ⟨Below.refl _ _, ?_⟩; rfl
        simp only [Act.put, List.setIfInBounds_toArray, List.set_cons_zero, List.set_cons_succ]
        refine wpParts_any rfl (AnyRow1.later) (by rfl) (fun W hE hN => ?_) (fun u2 => ?_)
        · go_simp; refine ⟨Below.refl _ _, ?_⟩; refine (HOUT.out W T (HP2.out.ext hE)).mono ?_; rintro e w' ⟨v, rfl, ho, hb⟩; obtain ⟨ra, rc, rfl, hB⟩ := own_bytes ho (by omega); exact ⟨_, rfl, hb, ra, _, rc, rfl, hB.mono fun _ _ => trivial⟩
        simp only [Act.put, List.setIfInBounds_toArray, List.set_cons_zero, List.set_cons_succ]
        refine wpParts_any rfl (PieceTup.later) (by rfl) (fun W hE hN => ?_) (fun u3 => ?_)
        · simp [near, Oper.looksAt, Op.operands, Call.operands] at hN; obtain ⟨ca, cl, cc, rfl, hB⟩ := hN; go_simp; refine ⟨Below.refl _ _, ?_⟩; have hA := HPC.out W _ ca cl cc (HF2.out.ext hE) (fun b h => by have := HSS.out b h; have := hE.size; omega) hB.at_.s (fun b h => h); rw [HX.out, HPLC.out] at hA; refine hA.mono ?_; rintro e w' ⟨v, rfl, ho, hb⟩; obtain ⟨ra, rc, rfl, hB2⟩ := own_bytes ho (by have := HXL.out; omega); exact ⟨_, rfl, hb, ra, _, rc, rfl, hB2.mono fun _ _ => trivial⟩
        simp only [Act.put, List.setIfInBounds_toArray, List.set_cons_zero, List.set_cons_succ]
        refine wpParts_any rfl (PieceTup.later) (by rfl) (fun W hE hN => ?_) (fun u4 => ?_)
        · simp [near, Oper.looksAt, Op.operands] at hN; go_simp; exact Below.refl _ _
        simp only [Act.put, List.setIfInBounds_toArray, List.set_cons_zero, List.set_cons_succ]
        refine wpParts_any rfl (AnyRow1.later) (by rfl) (fun W hE hN => ?_) (fun u5 => ?_)
        · simp [near, Oper.looksAt, Op.operands] at hN; obtain ⟨ra, rl, rc, rfl, hR⟩ := hN; go_simp; exact ⟨Below.refl _ _, ra, rl, rc, rfl, hR⟩
        simp only [Act.put, List.setIfInBounds_toArray, List.set_cons_zero, List.set_cons_succ]
        refine wpParts_det (by rfl) (fun W hE hN => ?_) ?_
        · simp [near, Oper.looksAt, Op.operands] at hN; obtain ⟨ra, rl, rc, rfl, hR⟩ := hN; go_simp; refine ⟨Below.refl _ _, ?_⟩; rfl
        simp only [Act.put, List.setIfInBounds_toArray, List.set_cons_zero, List.set_cons_succ]
        refine wpParts_any rfl (AnyRow1.later) (by rfl) (fun W hE hN => ?_) (fun u7 => ?_)
        · simp [near, Oper.looksAt, Op.operands] at hN; go_simp; exact Below.refl _ _
        simp only [Act.put, List.setIfInBounds_toArray, List.set_cons_zero, List.set_cons_succ]
        refine wpParts_det (by rfl) (fun W hE hN => ?_) ?_
        · go_simp; refine ⟨Below.refl _ _, ?_⟩; rfl
        simp only [Act.put, List.setIfInBounds_toArray, List.set_cons_zero, List.set_cons_succ]
        refine wpParts_end fun W6 hE6 hG6 => ?_
        have hcW6 := fun b o h => hE6.cell (p := ⟨b, o, none⟩) h
        have hfW6 := fun b o h => hE6.frozen (p := ⟨b, o, none⟩) h
        obtain ⟨⟨ba, bl, bc, rfl, hB⟩, _⟩ := hG6
        have HFF6 := Lib.hid (HFF2.out.ext hE6)
        have HB6 := Lib.hid (HB2.out.ext hE6)
        have HF6 := Lib.hid (HF2.out.ext hE6)
        have BEL6 := Lib.hid (BEL2.out.trans (hE6.mono BEL2.out.size))
        have HBX := Lib.hid hB
        have hs6 := hE6.size
        have q1 := HFF6.out.cells
        have l1 := HFF6.out.lt
        clear hB hE6 hcW6 hfW6 q0 l0 HFF2 HB2 HF2 BEL2
        go_wp2_with fail
        have hA := HAPP.out W6 _ ba bl bc HF6.out (fun b h => by have := HSS.out b h; omega) HBX.out
        rw [HAV.out] at hA
        refine hA.mono ?_; rintro e w7 ⟨ga, gl, gc, ma, ml, mc, rfl, hR, hb7⟩
        clear hA q1 l1
        have hs7 := hb7.size
        have HFF7 := Lib.hid (HFF6.out.ext hb7)
        have HB7 := Lib.hid (HB6.out.ext hb7)
        have BEL7 := Lib.hid (BEL6.out.trans (hb7.mono BEL6.out.size))
        have HR7 := Lib.hid hR
        have q1 := HFF7.out.cells
        have m1 := HFF7.out.marks
        have l1 := HFF7.out.lt
        clear hb7 hR HFF6 HB6 HF6 BEL6 HBX
        by_cases he : e7 = 0
        · have he' : (e7 != 0) = false := by simp [he]
          have HV := Lib.hid (show F.fput p = (F7, plc, e7) by rw [HV0.out, if_pos he])
          subst he
          go_upto_region 10 with fail
          obtain ⟨W8, hW8⟩ : ∃ W8, (((((w7.setCell ⟨w.heap.size, 0, none⟩ (.slice ga gl gc)).setCell ⟨w.heap.size, 1, none⟩ (.slice ma ml mc)).setCell ⟨w.heap.size, 2, none⟩ (.int .i64 F7.fuse)).setCell ⟨w.heap.size, 3, none⟩ (.int .i64 F7.fault)).setCell ⟨w.heap.size, 4, none⟩ (.bool F7.off)) = W8 := ⟨_, rfl⟩
          have o8 : Only w.heap.size w7 W8 := by rw [← hW8]; exact (by repeat (first | (with_reducible exact Only.refl _ _) | (with_reducible refine Only.set ?_ _ _) | (with_reducible refine Only.alloc ?_ _) | (with_reducible refine Only.drew ?_)))
          have HFX := Lib.hid (show Blk W8 w.heap.size [.slice ga gl gc, .slice ma ml mc, .int .i64 F7.fuse, .int .i64 F7.fault, .bool F7.off] 25 by rw [← hW8]; exact ((((HFF7.out.set 0 _).set 1 _).set 2 _).set 3 _).set 4 _)
          have B1 := HB7.out.only o8 (by omega)
          have bel : Below w.heap.size w W8 := below_only BEL7.out o8 BEL7.out.size (Nat.le_refl _)
          have HR := Lib.hid (HR7.out.same o8.size (fun b h hlt => o8.block b hlt (by
            rcases h with h | h
            · have := HSS.out b h; omega
            · omega)))
          have hs8 := o8.size
          rw [hW8]
          clear hW8 o8 q1 m1 l1 HR7 HB7 BEL7
          have q1 := HFX.out.cells
          have l1 := HFX.out.lt
          have hr2 := ((((B1.set 0 (.slice ga gl gc)).set 1 (.slice ma ml mc)).set 2 (.int .i64 (F7).fuse)).set 3 (.int .i64 (F7).fault)).set 4 (.bool (F7).off)
          have c2 := hr2.cells
          have m2 := B1.marks
          have q2 := B1.cells
          have lB := B1.lt
          simp only [List.set_cons_zero, List.set_cons_succ] at c2
          go_wp2
          rw [HV.out]
          refine bodyPost_ret (v := .tuple #[.agg #[.slice ga gl gc, .slice ma ml mc, .int .i64 (F7).fuse, .int .i64 (F7).fault, .bool (F7).off], .int .i64 ((plc : Nat) : Int), .int .i64 (0)]) (by simp [results, Try.results16, go_sem, c2]) rfl ⟨ga, gl, gc, ma, ml, mc, rfl, ?_, ?_⟩
          · refine ((HR.out).same (Only.size (p := w.heap.size + 1) (by repeat (first | (with_reducible exact Only.refl _ _) | (with_reducible refine Only.set ?_ _ _) | (with_reducible refine Only.alloc ?_ _) | (with_reducible refine Only.drew ?_)))) (fun b h hlt => Only.block (p := w.heap.size + 1) (by repeat (first | (with_reducible exact Only.refl _ _) | (with_reducible refine Only.set ?_ _ _) | (with_reducible refine Only.alloc ?_ _) | (with_reducible refine Only.drew ?_))) b hlt ?_)).mono (T := Or S w) (fun b h => ?_)
            · rcases h with h | h
              · have := HSS.out b h; omega
              · (try simp at h); omega
            · rcases h with h | h
              · exact .inl h
              · exact .inr (by (try simp at h); omega)
          · exact (by repeat (first | (with_reducible exact Below.refl _ _) | (with_reducible exact Below.refl _ _) | (with_reducible refine Below.setCell ?_ (by first | omega | (simp; done) | (simp; omega)) _) | (with_reducible refine Below.alloc ?_ (by first | omega | (simp; done) | (simp; omega)) _) | (with_reducible refine Below.drew ?_) | (with_reducible refine below_drewN ?_ _) | (with_reducible refine Below.trans ?_ (bel.mono (by first | omega | (simp; done) | (simp; omega))))))
        · have he' : (e7 != 0) = true := by simp [he]
          have HV := Lib.hid (show F.fput p = (F7, 0, e7) by rw [HV0.out, if_neg he])
          clear he
          go_upto_region 9 with fail
          obtain ⟨W8, hW8⟩ : ∃ W8, (((((w7.setCell ⟨w.heap.size, 0, none⟩ (.slice ga gl gc)).setCell ⟨w.heap.size, 1, none⟩ (.slice ma ml mc)).setCell ⟨w.heap.size, 2, none⟩ (.int .i64 F7.fuse)).setCell ⟨w.heap.size, 3, none⟩ (.int .i64 F7.fault)).setCell ⟨w.heap.size, 4, none⟩ (.bool F7.off)) = W8 := ⟨_, rfl⟩
          have o8 : Only w.heap.size w7 W8 := by rw [← hW8]; exact (by repeat (first | (with_reducible exact Only.refl _ _) | (with_reducible refine Only.set ?_ _ _) | (with_reducible refine Only.alloc ?_ _) | (with_reducible refine Only.drew ?_)))
          have HFX := Lib.hid (show Blk W8 w.heap.size [.slice ga gl gc, .slice ma ml mc, .int .i64 F7.fuse, .int .i64 F7.fault, .bool F7.off] 25 by rw [← hW8]; exact ((((HFF7.out.set 0 _).set 1 _).set 2 _).set 3 _).set 4 _)
          have B1 := HB7.out.only o8 (by omega)
          have bel : Below w.heap.size w W8 := below_only BEL7.out o8 BEL7.out.size (Nat.le_refl _)
          have HR := Lib.hid (HR7.out.same o8.size (fun b h hlt => o8.block b hlt (by
            rcases h with h | h
            · have := HSS.out b h; omega
            · omega)))
          have hs8 := o8.size
          rw [hW8]
          clear hW8 o8 q1 m1 l1 HR7 HB7 BEL7
          have q1 := HFX.out.cells
          have l1 := HFX.out.lt
          have hr2 := ((((B1.set 0 (.slice ga gl gc)).set 1 (.slice ma ml mc)).set 2 (.int .i64 (F7).fuse)).set 3 (.int .i64 (F7).fault)).set 4 (.bool (F7).off)
          have c2 := hr2.cells
          have m2 := B1.marks
          have q2 := B1.cells
          have lB := B1.lt
          simp only [List.set_cons_zero, List.set_cons_succ] at c2
          go_wp2
          rw [HV.out]
          refine bodyPost_ret (v := .tuple #[.agg #[.slice ga gl gc, .slice ma ml mc, .int .i64 (F7).fuse, .int .i64 (F7).fault, .bool (F7).off], .int .i64 ((0 : Nat) : Int), .int .i64 (e7)]) (by simp [results, Try.results16, go_sem, c2]) rfl ⟨ga, gl, gc, ma, ml, mc, rfl, ?_, ?_⟩
          · refine ((HR.out).same (Only.size (p := w.heap.size + 1) (by repeat (first | (with_reducible exact Only.refl _ _) | (with_reducible refine Only.set ?_ _ _) | (with_reducible refine Only.alloc ?_ _) | (with_reducible refine Only.drew ?_)))) (fun b h hlt => Only.block (p := w.heap.size + 1) (by repeat (first | (with_reducible exact Only.refl _ _) | (with_reducible refine Only.set ?_ _ _) | (with_reducible refine Only.alloc ?_ _) | (with_reducible refine Only.drew ?_))) b hlt ?_)).mono (T := Or S w) (fun b h => ?_)
            · rcases h with h | h
              · have := HSS.out b h; omega
              · (try simp at h); omega
            · rcases h with h | h
              · exact .inl h
              · exact .inr (by (try simp at h); omega)
          · exact (by repeat (first | (with_reducible exact Below.refl _ _) | (with_reducible exact Below.refl _ _) | (with_reducible refine Below.setCell ?_ (by first | omega | (simp; done) | (simp; omega)) _) | (with_reducible refine Below.alloc ?_ (by first | omega | (simp; done) | (simp; omega)) _) | (with_reducible refine Below.drew ?_) | (with_reducible refine below_drewN ?_ _) | (with_reducible refine Below.trans ?_ (bel.mono (by first | omega | (simp; done) | (simp; omega))))))
    · rw [show (decide (1 ≤ pl) && decide (pl ≤ 4096)) = false by simp; omega]
      have HV := Lib.hid (show F.fput p = (F, 0, 2) by unfold FileD.fput; rw [if_pos hr, if_neg (by rw [HPN.out]; exact hm)])
      have B1 := HB2.out
      have bel := BEL2.out
      have HR := Lib.hid (HF2.out.mono (T := Or S w2) fun b h => Or.inl h)
      clear hr hm
      have hr2 := ((((B1.set 0 (.slice fa fl fc)).set 1 (.slice la ll lc)).set 2 (.int .i64 (F).fuse)).set 3 (.int .i64 (F).fault)).set 4 (.bool (F).off)
      have c2 := hr2.cells
      have m2 := B1.marks
      have q2 := B1.cells
      have lB := B1.lt
      simp only [List.set_cons_zero, List.set_cons_succ] at c2
      go_wp2
      rw [HV.out]
      refine bodyPost_ret (v := .tuple #[.agg #[.slice fa fl fc, .slice la ll lc, .int .i64 (F).fuse, .int .i64 (F).fault, .bool (F).off], .int .i64 ((0 : Nat) : Int), .int .i64 (2)]) (by simp [results, Try.results16, go_sem, c2]) rfl ⟨fa, fl, fc, la, ll, lc, rfl, ?_, ?_⟩
      · refine ((HR.out).same (Only.size (p := w.heap.size + 1) (by repeat (first | (with_reducible exact Only.refl _ _) | (with_reducible refine Only.set ?_ _ _) | (with_reducible refine Only.alloc ?_ _) | (with_reducible refine Only.drew ?_)))) (fun b h hlt => Only.block (p := w.heap.size + 1) (by repeat (first | (with_reducible exact Only.refl _ _) | (with_reducible refine Only.set ?_ _ _) | (with_reducible refine Only.alloc ?_ _) | (with_reducible refine Only.drew ?_))) b hlt ?_)).mono (T := Or S w) (fun b h => ?_)
        · rcases h with h | h
          · have := HSS.out b h; omega
          · (try simp at h); omega
        · rcases h with h | h
          · exact .inl h
          · exact .inr (by (try simp at h); omega)
      · exact (by repeat (first | (with_reducible exact Below.refl _ _) | (with_reducible exact Below.refl _ _) | (with_reducible refine Below.setCell ?_ (by first | omega | (simp; done) | (simp; omega)) _) | (with_reducible refine Below.alloc ?_ (by first | omega | (simp; done) | (simp; omega)) _) | (with_reducible refine Below.drew ?_) | (with_reducible refine below_drewN ?_ _) | (with_reducible refine Below.trans ?_ (bel.mono (by first | omega | (simp; done) | (simp; omega))))))
end Go.Proofs.Ytafigbomcgncnaa
