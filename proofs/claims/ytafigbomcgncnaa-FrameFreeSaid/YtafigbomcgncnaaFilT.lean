/-
  Layer 10: Read, walked: where it reads.
-/
import Derived.Test.YtafigbomcgncnaaFilS
namespace Go.Dav
set_option linter.unusedVariables false
set_option linter.unusedSimpArgs false
open Go Go.RowKit
theorem keeps_below {W W' : World} (h : Below W.heap.size W W') : KeepsOthers W W' := ⟨h.size, fun k o hk _ => (h.block k (Array.getElem?_eq_some_iff.1 hk).1).trans hk⟩
theorem part_le {W : World} {S : Nat → Prop} (at_ n : Nat) (x : RunT W S) : (Dav.part at_ n x).length ≤ 524288 := by
  have h2 := x.2.1.at_.hlen
  have h3 := x.2.2.1
  unfold Dav.part
  rw [List.length_drop, List.length_take]
  omega
theorem readOf_le {W : World} {S : Nat → Prop} (at_ n : Nat) (xs : List (RunT W S)) : (readOf at_ n xs).length ≤ xs.length * 524288 := by
  induction xs with
  | nil => simp [readOf]
  | cons x xs ih =>
    have h1 : readOf at_ n (x :: xs) = Dav.part at_ n x ++ readOf at_ n xs := by simp [readOf]
    have h2 := part_le at_ n x
    rw [h1, List.length_append, List.length_cons]
    omega
/-- What Read answers, as a row of the call's own. -/
def GivesReadOwn (t : TypeId) (w : World) (x : List UInt8) (e : Ending) (w' : World) : Prop :=
  ∃ v, e = .returned (.tuple #[v, .int .i64 0]) ∧ w'.ownsRow w.heap.size t 1 v x.length (u8s x) ∧ Below w.heap.size w w'
theorem u8s_part (ls : List UInt8) (lo hi : Nat) : ((u8s ls).take hi).drop lo = u8s ((ls.take hi).drop lo) := by simp [u8s, List.map_take, List.map_drop]
end Go.Dav
namespace Go.Proofs.Ytafigbomcgncnaa
set_option linter.unusedVariables false
set_option linter.unusedSimpArgs false
open Go.RowKit Go.Dav Go.Shelf
attribute [local go_sem] Gives ite_val ite_val_true Oper.semAt_some

set_option maxRecDepth 100000 in
set_option maxHeartbeats 8000000 in
theorem Try_Read_own (F : FileD) (fa la : Option Addr) (fl fc ll lc : Nat) (at_ n : Nat) (w : World) (S : Nat → Prop) (hF : FileS w S fa fl fc la ll lc F) (hS : ∀ b, S b → b < w.heap.size) (hr : F.right = true) (hle : at_ + n ≤ F.many) :
    Calls Try.prog 41 #[.agg #[.slice fa fl fc, .slice la ll lc, .int .i64 F.fuse, .int .i64 F.fault, .bool F.off], .int .i64 (at_ : Int), .int .i64 (n : Int)] w (GivesReadOwn 5 w ((F.all.drop at_).take n)) := by
  have hW : Below w.heap.size w (((w.alloc (.cells [.slice fa fl fc, .slice la ll lc, .int .i64 F.fuse, .int .i64 F.fault, .bool F.off].toArray 25)).alloc (.cells #[.int .i64 (at_ : Int)] 3)).alloc (.cells #[.int .i64 (n : Int)] 3)) := (by repeat (first | (with_reducible exact Below.refl _ _) | (with_reducible exact Below.refl _ _) | (with_reducible refine Below.setCell ?_ (by first | omega | (simp; done) | (simp; omega)) _) | (with_reducible refine Below.alloc ?_ (by first | omega | (simp; done) | (simp; omega)) _) | (with_reducible refine Below.drew ?_) | (with_reducible refine below_drewN ?_ _)))
  have HF := Lib.hid (hF.ext hW)
  have HB1 := Lib.hid (((Blk.new w [.slice fa fl fc, .slice la ll lc, .int .i64 F.fuse, .int .i64 F.fault, .bool F.off] 25).alloc (.cells #[.int .i64 (at_ : Int)] 3)).alloc (.cells #[.int .i64 (n : Int)] 3))
  have HB2 := Lib.hid ((Blk.new' (w.alloc (.cells [.slice fa fl fc, .slice la ll lc, .int .i64 F.fuse, .int .i64 F.fault, .bool F.off].toArray 25)) [.int .i64 (at_ : Int)] 3 (p := w.heap.size + 1) (by simp)).alloc (.cells #[.int .i64 (n : Int)] 3))
  have HB3 := Lib.hid (Blk.new' ((w.alloc (.cells [.slice fa fl fc, .slice la ll lc, .int .i64 F.fuse, .int .i64 F.fault, .bool F.off].toArray 25)).alloc (.cells #[.int .i64 (at_ : Int)] 3)) [.int .i64 (n : Int)] 3 (p := w.heap.size + 1 + 1) (by simp))
  have hC := Try_Check F fa la fl fc ll lc _ (hF.ext hW).at_
  rw [FileD.err_right hr] at hC
  have HC := Lib.hid hC
  have HR := Lib.hid hr
  have HSS := Lib.hid hS
  have hmx := (FileD.right_spec.1 hr).2.2.2.2
  obtain ⟨m, hm⟩ : ∃ m, F.many = m := ⟨_, rfl⟩
  have HM := Lib.hid hm
  rw [hm] at hmx hle
  have hmx' : (m : Int) ≤ 524288 := by omega
  have hle' : (at_ : Int) + (n : Int) ≤ (m : Int) := by omega
  have HL := Lib.hid (FileD.len_right hr)
  have HC6 := Lib.hid (Try_length F fa la fl fc ll lc)
  obtain ⟨i0, hi, hz0, hz1, hz2⟩ := info_parts Try_infoU8
  have HI := Lib.hid (And.intro hi (And.intro hz0 (And.intro hz1 hz2)))
  have g1 : ¬ (at_ : Int) < 0 := by omega
  have g2 : ¬ (n : Int) < 0 := by omega
  clear hF hW hC hr hm hS hi hz0 hz1 hz2
  refine (callsIn_wide (n := 4)).1 ?_
  refine callsIn_of_wp_marks Try.func41 rfl trivial (wpIn_wide.2 ?_) rfl
  simp only [Try.ntmps41, List.size_toArray, List.length_cons, List.length_nil, Nat.reduceAdd, Nat.reduceSub, Array.replicate_succ, Array.replicate_zero, List.push_toArray, List.append_toArray, List.nil_append, List.cons_append]
  go_wp2_with fail
  go_step3
  go_wp2_with fail
  refine HC.out.mono ?_; rintro e w1 ⟨rfl, hb1⟩
  have s1 := hb1.size
  simp only [World.size_alloc] at s1
  have B1 := HB1.out.ext hb1
  have B2 := HB2.out.ext hb1
  have B3 := HB3.out.ext hb1
  have q1 := B1.cells
  have q2 := B2.cells
  have q3 := B3.cells
  have m1 := B1.marks
  have m2 := B2.marks
  have m3 := B3.marks
  have l1 := B1.lt
  have l2 := B2.lt
  have l3 := B3.lt
  have bel : Below w.heap.size w w1 := (by repeat (first | (with_reducible exact Below.refl _ _) | (with_reducible exact Below.refl _ _) | (with_reducible refine Below.setCell ?_ (by first | omega | (simp; done) | (simp; omega)) _) | (with_reducible refine Below.alloc ?_ (by first | omega | (simp; done) | (simp; omega)) _) | (with_reducible refine Below.drew ?_) | (with_reducible refine below_drewN ?_ _) | (with_reducible refine Below.trans ?_ (hb1.mono (by first | omega | (simp; done) | (simp; omega))))))
  have HF1 := Lib.hid (HF.out.ext hb1)
  have HB1' := Lib.hid B1
  have HB2' := Lib.hid B2
  have HB3' := Lib.hid B3
  clear hb1 B1 B2 B3 HB1 HB2 HB3
  go_wp2_with fail
  refine' wp_region_seq [.inl _, .inl _, .inl _, .inl _, .inl _, .inl _] (by kernel_rfl) (by kernel_rfl) ?main1
  case main1 =>
    refine wpParts_det (by rfl) (fun W hE hN => ?_) ?_
    · have hc := fun b o h => hE.cell (p := ⟨b, o, none⟩) h
      go_simp; refine ⟨Below.refl _ _, ?_⟩; rfl
    simp only [Act.put, List.setIfInBounds_toArray, List.set_cons_zero, List.set_cons_succ]
    refine wpParts_det (by rfl) (fun W hE hN => ?_) ?_
    · have hc := fun b o h => hE.cell (p := ⟨b, o, none⟩) h
      go_simp; refine ⟨Below.refl _ _, ?_⟩; rfl
    simp only [Act.put, List.setIfInBounds_toArray, List.set_cons_zero, List.set_cons_succ]
    refine wpParts_det (by rfl) (fun W hE hN => ?_) ?_
    · go_simp; refine ⟨Below.refl _ _, ?_⟩; refine ((HL.out.trans (congrArg Nat.cast HM.out)) ▸ HC6.out _ (HF1.out.at_.ext hE)).mono ?_; rintro e w' ⟨rfl, hb⟩; refine ⟨?_, hb⟩; rfl
    simp only [Act.put, List.setIfInBounds_toArray, List.set_cons_zero, List.set_cons_succ]
    refine wpParts_det (by rfl) (fun W hE hN => ?_) ?_
    · have hc := fun b o h => hE.cell (p := ⟨b, o, none⟩) h
      go_simp; refine ⟨Below.refl _ _, ?_⟩; rfl
    simp only [Act.put, List.setIfInBounds_toArray, List.set_cons_zero, List.set_cons_succ]
    refine wpParts_det (by rfl) (fun W hE hN => ?_) ?_
    · go_simp; refine ⟨Below.refl _ _, ?_⟩; rfl
    simp only [Act.put, List.setIfInBounds_toArray, List.set_cons_zero, List.set_cons_succ]
    refine wpParts_det (by rfl) (fun W hE hN => ?_) ?_
    · go_simp; refine ⟨Below.refl _ _, ?_⟩; rfl
    simp only [Act.put, List.setIfInBounds_toArray, List.set_cons_zero, List.set_cons_succ]
    refine wpParts_end fun W2 hE2 hG2 => ?_
    have hcW2 := fun b o h => hE2.cell (p := ⟨b, o, none⟩) h
    have hfW2 := fun b o h => hE2.frozen (p := ⟨b, o, none⟩) h
    have hw : IntKind.i64.wrap ((m : Int) - (at_ : Int)) = (m : Int) - (at_ : Int) := IntWalk.i64_in _ (by omega)
    have hd : ¬ IntKind.i64.wrap ((m : Int) - (at_ : Int)) < (n : Int) := by rw [hw]; omega
    have s2 := hE2.size
    clear hw
    have B1 := HB1'.out.ext hE2
    have B2 := HB2'.out.ext hE2
    have B3 := HB3'.out.ext hE2
    obtain ⟨hi, hz0, hz1, hz2⟩ := HI.out
    have HE2 := Lib.hid hE2
    clear q1 q2 q3 m1 m2 m3 l1 l2 l3 hE2
    have q1 := B1.cells
    have q2 := B2.cells
    have q3 := B3.cells
    have l1 := B1.lt
    have l2 := B2.lt
    have l3 := B3.lt
    have HB1'' := Lib.hid B1
    have HB2'' := Lib.hid B2
    have HB3'' := Lib.hid B3
    clear B1 B2 B3
    go_wp2_with (at_make; refine wpList_make_own _ rfl _ _ 22 rfl (w.heap.size + 1 + 1 + 1) 5 i0 _ 1 Try.underlying22 hi hz0 hz1 .i64 .i64 (n : Int) n rfl rfl rfl (by rw [hz2]; omega) (by unfold maxLen; omega) (by omega) ?_; intro w3 hown3 hg3; have hb3 := (Below.refl W2.heap.size W2).grown hg3 (Nat.le_refl _) (fun k e => by cases e); have HO3 := Lib.hid hown3; have s3 := hb3.size; have b13 := HB1''.out.ext hb3; have q1 := b13.cells; have l1 := b13.lt; have b23 := Lib.hid (HB2''.out.ext hb3); have b33 := Lib.hid (HB3''.out.ext hb3); have HB3b := Lib.hid hb3; have hb13 := Lib.hid b13; clear hown3 hg3 hi b13 hb3 q2 q3 l2 l3)
    go_step3
    go_wp2_with fail
    refine (Try_runs F fa la fl fc ll lc _).mono ?_; rintro e w4 ⟨rfl, rfl⟩
    go_wp2_with fail
    obtain ⟨L, hL⟩ : ∃ L, ((w3.alloc (Obj.cells #[Value.slice (some { block := W2.heap.size, off := 0 }) 0 n] 22)).alloc (Obj.cells [.slice fa fl fc, .slice la ll lc, .int .i64 F.fuse, .int .i64 F.fault, .bool F.off].toArray 25)) = L := ⟨_, rfl⟩
    have hsz : L.heap.size = w3.heap.size + 1 + 1 := by rw [← hL]; simp
    have hw3L : Below w3.heap.size w3 L := by rw [← hL]; exact ((Below.refl _ _).alloc (by omega) _).alloc (by simp) _
    have hw1L : Below w1.heap.size w1 L := (HE2.out.trans (HB3b.out.mono s2)).trans (hw3L.mono (by omega))
    have hbelL : Below w.heap.size w L := bel.trans (hw1L.mono (by omega))
    have bB : Boxed L w3.heap.size 22 (Value.slice (some { block := W2.heap.size, off := 0 }) 0 n) := by rw [← hL]; exact (Boxed.new w3 _ _).alloc _
    have bX : Blk L (w3.heap.size + 1) [.slice fa fl fc, .slice la ll lc, .int .i64 F.fuse, .int .i64 F.fault, .bool F.off] 25 := by rw [← hL]; exact Blk.new' (w3.alloc _) [.slice fa fl fc, .slice la ll lc, .int .i64 F.fuse, .int .i64 F.fault, .bool F.off] _ (by simp)
    have hown : L.ownsRow (w.heap.size + 1 + 1 + 1) 5 1 (Value.slice (some { block := W2.heap.size, off := 0 }) 0 n) 0 [] := by
      rw [← hL]
      exact (HO3.out.kept (World.grownBy_alloc _ _ none) (.inr (by simp [Value.ownBlock]))).kept (World.grownBy_alloc _ _ none) (.inr (by simp [Value.ownBlock]))
    have hn0 : w.heap.size + 1 + 1 + 1 ≤ L.heap.size := by omega
    have hseq := Try_runs1 F fa la fl fc ll lc L S (4 - 1) (w.heap.size + 1 + 1 + 1) (w3.heap.size + 1) (by decide) (HF1.out.ext hw1L) HR.out (fun b h => by have := HSS.out b h; omega) hn0 bX
    have HSEQ := Lib.hid hseq
    have b2 := b23.out.ext hw3L
    have b3 := b33.out.ext hw3L
    have HB2L := Lib.hid b2
    have HB3L := Lib.hid b3
    have HBEL := Lib.hid hbelL
    have hN : F.loose.length + 1 ≤ 524289 := by
      have h1 := (FileD.right_spec.1 HR.out).2.2.2.2
      have h3 := full_len (FileD.right_spec.1 HR.out).1
      unfold FileD.many at h1
      omega
    have HN := Lib.hid hN
    have HOWN := holdsRow_own (β := List (RunT L S)) (w.heap.size + 1 + 1 + 1) w3.heap.size 22 5 1 (fun pre => (readOf at_ n pre).length) (fun pre => u8s (readOf at_ n pre)) (fun _ _ => True)
    rw [show ((w3.alloc (Obj.cells #[Value.slice (some { block := W2.heap.size, off := 0 }) 0 n] 22)).alloc (Obj.cells [.slice fa fl fc, .slice la ll lc, .int .i64 F.fuse, .int .i64 F.fault, .bool F.off].toArray 25)) = L from hL]
    clear hseq hw3L hw1L hbelL hL hN b2 b3 q1 l1 bel
    refine wpIn_wide.1 (wpIn_rangeFunc_ownF (n := 4) rfl (by decide) (gf := 59) (lb := #[.pointer (some ⟨w3.heap.size + 1, 0, none⟩)]) rfl trivial Try_enter59 HSEQ.out KpR.t (KpR.b hn0 (by omega)) (Below.refl _ _) (fun _ => rfl)
      (fun pre W => (∃ v, Boxed W w3.heap.size 22 v ∧ W.ownsRow (w.heap.size + 1 + 1 + 1) 5 1 v (readOf at_ n pre).length (u8s (readOf at_ n pre)) ∧ True) ∧ Below (w.heap.size + 1 + 1 + 1) L W ∧ Blk W (w3.heap.size + 1) [.slice fa fl fc, .slice la ll lc, .int .i64 F.fuse, .int .i64 F.fault, .bool F.off] 25)
      (fun c pre W => (c = .exit 1 ∧ ∃ pre' x, pre = pre' ++ [x] ∧ ((at_ + n : Nat) : Int) ≤ x.1.at_ ∧ ∃ v, Boxed W w3.heap.size 22 v ∧ W.ownsRow (w.heap.size + 1 + 1 + 1) 5 1 v (readOf at_ n pre').length (u8s (readOf at_ n pre')) ∧ True) ∧ Below (w.heap.size + 1 + 1 + 1) L W)
      (OwnFrom.and (Own.from HOWN _) (OwnFrom.and (ownFrom_below hn0 hn0) (Own.from (blk_own _ _ _) _)))
      (fun c => OwnFrom.and (Own.from (fun s A B row hs hg hr => by obtain ⟨hc, pre', x, e, hx, hv⟩ := hs; exact ⟨hc, pre', x, e, hx, HOWN pre' A B row hv hg hr⟩) _) (ownFrom_below hn0 hn0))
      ⟨⟨_, bB, hown, trivial⟩, Below.refl _ _, bX⟩
      ?act ?assign ?body ?done ?stop)
    case assign =>
      intro l x W K hK
      gi_wp2
      exact hK
    case body =>
      rintro l pre x W ⟨⟨v, hv, hrow, _⟩, hB, hblk⟩ hlt
      obtain ⟨o, a, xl, xc, ls, hxe⟩ : ∃ (o : Nat) (a : Option Addr) (xl xc : Nat) (ls : List UInt8), x.1 = ⟨(o : Int), a, xl, xc, ls⟩ :=
        ⟨x.1.at_.toNat, x.1.a, x.1.len, x.1.cap, x.1.l, by have := x.2.2.2.1; cases hx : x.1; simp only [hx] at this ⊢; congr 1; omega⟩
      obtain ⟨hx1, hx2, hx3, hx4, hx5⟩ := x.2
      rw [hxe] at hx1 hx2 hx3 hx4 hx5
      dsimp only at hx1 hx2 hx3 hx4 hx5
      have HXE := Lib.hid hxe
      rw [hxe]
      dsimp only
      clear hxe
      have hc := hv.cell
      have hb2 := HB2L.out.below hB (by omega)
      have hb3 := HB3L.out.below hB (by omega)
      have q2 := hb2.cells
      have q3 := hb3.cells
      have l2 := hb2.lt
      have l3 := hb3.lt
      have lv := hv.lt
      have hbs := hx1.same hB.size (fun b hb _ => hB.block b (by have := HSS.out b hb; omega))
      have hlen := hx1.at_.hlen
      have hcap := hx1.at_.hcap
      have hx6 : (xl : Int) ≤ 524288 := by omega
      have hw1 : IntKind.i64.wrap ((at_ : Int) + (n : Int)) = (at_ : Int) + (n : Int) := IntWalk.i64_in _ (by omega)
      have HBS := Lib.hid hbs
      have HV := Lib.hid hv
      have HROW := Lib.hid hrow
      have HBL := Lib.hid hB
      have HBK := Lib.hid hblk
      have HX := Lib.hid hx5
      have HAT := Lib.hid hx1.at_
      have hWs : w.heap.size + 1 + 1 + 1 ≤ W.heap.size := Nat.le_trans hn0 hB.size
      have HT := Lib.hid hlt
      clear hbs hv hrow hB hblk hx1 hb2 hb3 hlt hx5
      by_cases g5 : at_ + n ≤ o
      · have g6 : (at_ : Int) + (n : Int) ≤ (o : Int) := by omega
        have HG := Lib.hid g5
        clear g5
        gi_wp2
        exact ⟨KeepsOthers.refl _, ⟨rfl, pre, x, rfl, by rw [HXE.out]; show ((at_ + n : Nat) : Int) ≤ (o : Int); omega, v, HV.out, HROW.out, trivial⟩, HBL.out⟩
      · have g6 : ¬ (at_ : Int) + (n : Int) ≤ (o : Int) := by omega
        have hw2 : IntKind.i64.wrap ((o : Int) + (xl : Int)) = (o : Int) + (xl : Int) := IntWalk.i64_in _ (by omega)
        by_cases g7 : o + xl ≤ at_
        · have g8 : ¬ (at_ : Int) < (o : Int) + (xl : Int) := by omega
          have hp : Dav.part at_ n x = [] := by
            unfold Dav.part
            rw [HXE.out]
            refine List.drop_eq_nil_of_le ?_
            rw [List.length_take]
            show min _ ls.length ≤ at_ - (o : Int).toNat
            rw [hlen, Int.toNat_natCast]; omega
          have HP := Lib.hid hp
          clear hp g7 g5
          have hz : W.ownsRow (w.heap.size + 1 + 1 + 1) 5 1 v (readOf at_ n (pre ++ [x])).length (u8s (readOf at_ n (pre ++ [x]))) := by
            rw [readOf_snoc, HP.out, List.append_nil]; exact HROW.out
          have HZ := Lib.hid hz
          clear hz
          gi_wp2
          refine ⟨KeepsOthers.refl _, KpR.refl _ _ _, ⟨v, HV.out, ?_⟩, HBL.out, HBK.out⟩
          first | exact ⟨HZ.out, trivial⟩ | exact HZ.out
        · have g8 : (at_ : Int) < (o : Int) + (xl : Int) := by omega
          have G5 := Lib.hid g5
          have G7 := Lib.hid g7
          clear g5 g7
          have hvs : ∃ va vn vc, v = .slice va vn vc := by
            obtain ⟨va, vc, rfl, _⟩ := own_cells HROW.out
            exact ⟨_, _, _, rfl⟩
          have kx : 0 < xl := by
            have := G5.out; have := G7.out
            apply Classical.byContradiction
            intro h
            have h1 : xl = 0 := by omega
            have h2 := HX.out h1
            omega
          obtain ⟨b0, o0, rfl⟩ : ∃ b0 o0, a = some ⟨b0, o0, none⟩ := by
            have h0 : 0 < ls.length := by omega
            obtain ⟨c0, hc0⟩ : ∃ c0, ls[0]? = some c0 := ⟨_, List.getElem?_eq_getElem h0⟩
            obtain ⟨b0, o0, h1, _⟩ := HAT.out.hat 0 c0 hc0
            exact ⟨b0, o0, h1⟩
          obtain ⟨lo, hlo⟩ : ∃ lo : Nat, lo = at_ - o := ⟨_, rfl⟩
          obtain ⟨hi', hhi⟩ : ∃ hi' : Nat, hi' = min (at_ + n - o) xl := ⟨_, rfl⟩
          have k1 : lo ≤ hi' := by have := G5.out; have := G7.out; omega
          have k2 : hi' ≤ xl := by omega
          have k3 : (if (at_ : Int) - (o : Int) < 0 then (0 : Int) else (at_ : Int) - (o : Int)) = (lo : Int) := by split <;> omega
          have k4 : (if (xl : Int) < (at_ : Int) + (n : Int) - (o : Int) then (xl : Int) else (at_ : Int) + (n : Int) - (o : Int)) = (hi' : Int) := by have := G5.out; split <;> omega
          have k9 : ¬ xc = lo := by have := G7.out; have := G5.out; omega
          have k5 : IntKind.i64.wrap ((at_ : Int) - (o : Int)) = (at_ : Int) - (o : Int) := IntWalk.i64_in _ (by omega)
          have k6 : IntKind.i64.wrap ((at_ : Int) + (n : Int) - (o : Int)) = (at_ : Int) + (n : Int) - (o : Int) := IntWalk.i64_in _ (by omega)
          have k7 : (lo : Int) ≤ (hi' : Int) := by omega
          have k8 : (hi' : Int) ≤ (xc : Int) := by omega
          have k10 : hi' ≤ xc := by omega
          have HLO := Lib.hid hlo
          have HHI := Lib.hid hhi
          clear hlo hhi
          gi_wp2_with fail
          refine' wpIn_region_seqF [] [.inl _, .inl _, .inl _, .inl _, .inl _, .inl _, .inl _, .inl _, .inl _, .inl _, .inl _, .inl _, .inl _, .inl _, .inl _] (by kernel_rfl) (by kernel_rfl) (by kernel_rfl) ?main2
          case main2 =>
            refine wpParts_det (by rfl) (fun W hE hN => ?_) ?_
            · have hc := fun b o h => hE.cell (p := ⟨b, o, none⟩) h
              go_simp; refine ⟨Below.refl _ _, ?_⟩; rfl
            simp only [Act.put, List.setIfInBounds_toArray, List.set_cons_zero, List.set_cons_succ]
            refine wpParts_det (by rfl) (fun W hE hN => ?_) ?_
            · go_simp; refine ⟨Below.refl _ _, ?_⟩; rfl
            simp only [Act.put, List.setIfInBounds_toArray, List.set_cons_zero, List.set_cons_succ]
            refine wpParts_det (by rfl) (fun W hE hN => ?_) ?_
            · have hc := fun b o h => hE.cell (p := ⟨b, o, none⟩) h
              go_simp; refine ⟨Below.refl _ _, ?_⟩; rfl
            simp only [Act.put, List.setIfInBounds_toArray, List.set_cons_zero, List.set_cons_succ]
            refine wpParts_det (by rfl) (fun W hE hN => ?_) ?_
            · go_simp; refine ⟨Below.refl _ _, ?_⟩; rfl
            simp only [Act.put, List.setIfInBounds_toArray, List.set_cons_zero, List.set_cons_succ]
            refine wpParts_det (by rfl) (fun W hE hN => ?_) ?_
            · go_simp; refine ⟨Below.refl _ _, ?_⟩; rfl
            simp only [Act.put, List.setIfInBounds_toArray, List.set_cons_zero, List.set_cons_succ]
            refine wpParts_det (by rfl) (fun W hE hN => ?_) ?_
            · go_simp; refine ⟨Below.refl _ _, ?_⟩; rfl
            simp only [Act.put, List.setIfInBounds_toArray, List.set_cons_zero, List.set_cons_succ]
            refine wpParts_det (by rfl) (fun W hE hN => ?_) ?_
            · have hc := fun b o h => hE.cell (p := ⟨b, o, none⟩) h
              go_simp; refine ⟨Below.refl _ _, ?_⟩; rfl
            simp only [Act.put, List.setIfInBounds_toArray, List.set_cons_zero, List.set_cons_succ]
            refine wpParts_det (by rfl) (fun W hE hN => ?_) ?_
            · have hc := fun b o h => hE.cell (p := ⟨b, o, none⟩) h
              go_simp; refine ⟨Below.refl _ _, ?_⟩; rfl
            simp only [Act.put, List.setIfInBounds_toArray, List.set_cons_zero, List.set_cons_succ]
            refine wpParts_det (by rfl) (fun W hE hN => ?_) ?_
            · go_simp; refine ⟨Below.refl _ _, ?_⟩; rfl
            simp only [Act.put, List.setIfInBounds_toArray, List.set_cons_zero, List.set_cons_succ]
            refine wpParts_det (by rfl) (fun W hE hN => ?_) ?_
            · go_simp; refine ⟨Below.refl _ _, ?_⟩; rfl
            simp only [Act.put, List.setIfInBounds_toArray, List.set_cons_zero, List.set_cons_succ]
            refine wpParts_det (by rfl) (fun W hE hN => ?_) ?_
            · go_simp; refine ⟨Below.refl _ _, ?_⟩; rfl
            simp only [Act.put, List.setIfInBounds_toArray, List.set_cons_zero, List.set_cons_succ]
            refine wpParts_det (by rfl) (fun W hE hN => ?_) ?_
            · go_simp; refine ⟨Below.refl _ _, ?_⟩; rfl
            simp only [Act.put, List.setIfInBounds_toArray, List.set_cons_zero, List.set_cons_succ]
            refine wpParts_det (by rfl) (fun W hE hN => ?_) ?_
            · go_simp; refine ⟨Below.refl _ _, ?_⟩; rfl
            simp only [Act.put, List.setIfInBounds_toArray, List.set_cons_zero, List.set_cons_succ]
            refine wpParts_det (by rfl) (fun W hE hN => ?_) ?_
            · go_simp; refine ⟨Below.refl _ _, ?_⟩; rfl
            simp only [Act.put, List.setIfInBounds_toArray, List.set_cons_zero, List.set_cons_succ]
            refine wpParts_det (by rfl) (fun W hE hN => ?_) ?_
            · go_simp; refine ⟨Below.refl _ _, ?_⟩; rfl
            simp only [Act.put, List.setIfInBounds_toArray, List.set_cons_zero, List.set_cons_succ]
            refine wpParts_end fun W5 hE5 hG5 => ?_
            have hcW5 := fun b o h => hE5.cell (p := ⟨b, o, none⟩) h
            have hfW5 := fun b o h => hE5.frozen (p := ⟨b, o, none⟩) h
            have s5 := hE5.size
            have HB5 := HBL.out.trans (hE5.mono hWs)
            have HV5 : Boxed W5 w3.heap.size 22 v := (hE5.block _ lv).trans HV.out
            have HROW5 := ownsRow_ext HROW.out hE5
            have HBK5 := HBK.out.ext hE5
            have hc5 := HV5.cell
            have hpart : Dav.part at_ n x = (ls.take hi').drop lo := by
              unfold Dav.part
              rw [HXE.out, HHI.out, HLO.out]
              show List.drop (at_ - (o : Int).toNat) (List.take (at_ + n - (o : Int).toNat) ls) = _
              rw [Int.toNat_natCast]
              by_cases h : at_ + n - o ≤ xl
              · rw [Nat.min_eq_left h]
              · rw [Nat.min_eq_right (by omega), List.take_of_length_le (i := xl) (by omega), List.take_of_length_le (by omega)]
            have hcs := (HBS.out.ext hE5).cells.part k1 k2
            rw [u8s_part, ← hpart] at hcs
            have HCS := Lib.hid hcs
            have hpl : (Dav.part at_ n x).length = hi' - lo := by rw [hpart, List.length_drop, List.length_take]; omega
            have hrl := readOf_le at_ n pre
            have hn1 : (readOf at_ n pre).length + (hi' - lo) ≤ 140737488355328 := by have := HN.out; have := HT.out; omega
            have HPL := Lib.hid hpl
            have HV5' := Lib.hid HV5
            have HROW5' := Lib.hid HROW5
            have HBK5' := Lib.hid HBK5
            have HE5 := Lib.hid hE5
            have hn5 : w.heap.size + 1 + 1 + 1 ≤ W5.heap.size := by omega
            clear hcs hpart hpl hrl HV5 HROW5 HBK5 hE5 q2 q3
            go_wp2_with (at_builtin; refine wpList_append_rowS rfl (.tmp 49) (.tmp 63) 22 rfl Try_elemU8 (w.heap.size + 1 + 1 + 1) _ (readOf at_ n pre).length (u8s (readOf at_ n pre)) rfl HROW5'.out S (some ⟨b0, o0 + lo, none⟩) (hi' - lo) (xc - lo) (u8s (Dav.part at_ n x)) rfl HCS.out (u8s_one _) (fun h => by cases h) (by unfold maxLen; omega) (by omega) hn5 ?_; intro v' w' hown' hgrow; obtain ⟨a', c', rfl, hz⟩ := own_cells hown'; obtain ⟨hv1, hv2, hr2, hk2, hb2, hq2⟩ := boxed_appended HV5'.out (by decide) HROW5'.out hn5 (by omega) hown' hgrow; have hc1 := hv1.cell; have hf1 := hv1.frozen; clear hn1)
            refine onlyN_normal ?_
            gi_wp2_with fail
            have hx := hq2 _ _ _ (by decide) (by omega) HBK5'.out
            have hkb := hk2
            have hKP : KpR (w.heap.size + 1 + 1 + 1) (w3.heap.size + 1) W (w'.setCell ⟨w3.heap.size, 0, none⟩ (Value.slice a' ((readOf at_ n pre).length + (hi' - lo)) c')) := ⟨(HE5.out.mono hWs).trans hb2, Eq.trans hx (Eq.symm HBK.out)⟩
            have hz2 : (w'.setCell ⟨w3.heap.size, 0, none⟩ (Value.slice a' ((readOf at_ n pre).length + (hi' - lo)) c')).ownsRow (w.heap.size + 1 + 1 + 1) 5 1 (Value.slice a' ((readOf at_ n pre).length + (hi' - lo)) c') (readOf at_ n (pre ++ [x])).length (u8s (readOf at_ n (pre ++ [x]))) := by
              rw [readOf_snoc, u8s_append, List.length_append, HPL.out]; exact hr2
            refine ⟨(keeps_below HE5.out).trans hk2, hKP, ⟨_, hv2, ?_⟩, HB5.trans hb2, hx⟩
            first | exact ⟨hz2, trivial⟩ | exact hz2
    case done =>
      rintro D ys W hD hys ⟨⟨v, hv, hrow, _⟩, hB, hblk⟩ hK
      rw [readOf_all at_ n hys] at hrow
      have hall := FileD.all_length F
      have hmx2 : F.all.length ≤ 524288 := by have := HM.out; omega
      obtain ⟨r, hr⟩ : ∃ r, (F.all.drop at_).take n = r := ⟨_, rfl⟩
      rw [hr] at hrow
      have HRR := Lib.hid hr
      obtain ⟨q, hq⟩ : ∃ q, r.length = q := ⟨_, rfl⟩
      have hql : q ≤ 524288 := by rw [← hq, ← hr, List.length_take, List.length_drop]; omega
      rw [hq] at hrow
      obtain ⟨a', c', rfl, hz1', hz2', hz3', hz4'⟩ := own_cells hrow
      have hc := hv.cell
      have lv := hv.lt
      have HBY := Lib.hid hrow
      have HQ := Lib.hid hq
      have HBW := Lib.hid hB
      have HKK := Lib.hid hK
      have hDw : w.heap.size ≤ D := by omega
      clear hv hrow hz1' hz2' hz3' hz4' hall hmx2 hB hr hq
      go_wp2_with fail
      rw [Exit.noGoto_ret]
      refine ⟨by simp, .inl ⟨_, _, rfl, run_takeDeferred HKK.out, ?_⟩⟩
      refine ⟨.tuple #[.slice a' q c', .int .i64 0], by simp [results, Try.results41, go_sem], _, rfl, ?_, ?_⟩
      · rw [HRR.out, HQ.out]
        refine World.ownsRow.mono (World.ownsRow.kept HBY.out (grownBy_putObj' _ _ _) (.inr fun e' => ?_)) (by omega)
        rcases HBY.out.2 with ⟨e1, _⟩ | ⟨g0, c0, cur, e1, _, hgb, _⟩
        · cases e1; cases e'
        · cases e1
          obtain rfl : g0 = D := by simpa [Value.ownBlock] using e'
          rw [HKK.out] at hgb; cases hgb
      · exact (HBEL.out.trans (HBW.out.mono (by omega))).trans (belowK_b (w := w) (Nat.le_refl _) W D _ _ hDw HKK.out rfl rfl)
    case stop =>
      rintro D c pre W hD ⟨k, hk⟩ ⟨⟨rfl, pre', x, rfl, hx, v, hv, hrow, _⟩, hB⟩ hK
      rw [readOf_some at_ n hk hx] at hrow
      refine wpIn_wide.2 ?_
      have hall := FileD.all_length F
      have hmx2 : F.all.length ≤ 524288 := by have := HM.out; omega
      obtain ⟨r, hr⟩ : ∃ r, (F.all.drop at_).take n = r := ⟨_, rfl⟩
      rw [hr] at hrow
      have HRR := Lib.hid hr
      obtain ⟨q, hq⟩ : ∃ q, r.length = q := ⟨_, rfl⟩
      have hql : q ≤ 524288 := by rw [← hq, ← hr, List.length_take, List.length_drop]; omega
      rw [hq] at hrow
      obtain ⟨a', c', rfl, hz1', hz2', hz3', hz4'⟩ := own_cells hrow
      have hc := hv.cell
      have lv := hv.lt
      have HBY := Lib.hid hrow
      have HQ := Lib.hid hq
      have HBW := Lib.hid hB
      have HKK := Lib.hid hK
      have hDw : w.heap.size ≤ D := by omega
      clear hv hrow hz1' hz2' hz3' hz4' hall hmx2 hB hr hq
      go_wp2_with fail
      rw [Exit.noGoto_ret]
      refine ⟨by simp, .inl ⟨_, _, rfl, run_takeDeferred HKK.out, ?_⟩⟩
      refine ⟨.tuple #[.slice a' q c', .int .i64 0], by simp [results, Try.results41, go_sem], _, rfl, ?_, ?_⟩
      · rw [HRR.out, HQ.out]
        refine World.ownsRow.mono (World.ownsRow.kept HBY.out (grownBy_putObj' _ _ _) (.inr fun e' => ?_)) (by omega)
        rcases HBY.out.2 with ⟨e1, _⟩ | ⟨g0, c0, cur, e1, _, hgb, _⟩
        · cases e1; cases e'
        · cases e1
          obtain rfl : g0 = D := by simpa [Value.ownBlock] using e'
          rw [HKK.out] at hgb; cases hgb
      · exact (HBEL.out.trans (HBW.out.mono (by omega))).trans (belowK_b (w := w) (Nat.le_refl _) W D _ _ hDw HKK.out rfl rfl)
/-- .. and so as bytes. -/
theorem Try_Read_yes (F : FileD) (fa la : Option Addr) (fl fc ll lc : Nat) (at_ n : Nat) (w : World) (S : Nat → Prop) (hF : FileS w S fa fl fc la ll lc F) (hS : ∀ b, S b → b < w.heap.size) (hr : F.right = true) (hle : at_ + n ≤ F.many) :
    Calls Try.prog 41 #[.agg #[.slice fa fl fc, .slice la ll lc, .int .i64 F.fuse, .int .i64 F.fault, .bool F.off], .int .i64 (at_ : Int), .int .i64 (n : Int)] w (GivesRead w ((F.all.drop at_).take n) 0) :=
  (Try_Read_own F fa la fl fc ll lc at_ n w S hF hS hr hle).mono fun e w' ⟨v, he, ho, hb⟩ => by
    have hmx := (FileD.right_spec.1 hr).2.2.2.2
    have hal := F.all_length
    obtain ⟨a', c', rfl, hB'⟩ := own_bytes ho (by rw [List.length_take, List.length_drop]; omega)
    exact ⟨a', _, c', he, hB', hb⟩
end Go.Proofs.Ytafigbomcgncnaa
