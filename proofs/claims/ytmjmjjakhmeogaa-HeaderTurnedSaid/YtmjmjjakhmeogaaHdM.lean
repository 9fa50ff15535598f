/-
  Layer 12: Find, walked: the program's.
-/
import Derived.Test.YtmjmjjakhmeogaaHdL
import Derived.Test.YtmjmjjakhmeogaaFreeIn
import Derived.RegionTactic
import Derived.BigRegion
namespace Go.Dav
set_option linter.unusedVariables false
set_option linter.unusedSimpArgs false
open Go Go.RowKit
theorem wpListIn_store_row {Fn : Fence} {n0 : Nat} {P : Program} {ops : Array Oper} {rest : List Oper} {o : Oper} {a : Act} {w : World} {Q : Exit → Act → World → Prop} (hgd : o.guard = none) (ty : TypeId) (x y : Operand) (ho : o.op = .store ty x y)
    (g : Nat) (cells : Array Value) (hx : a.eval x = .pointer (some ⟨g, 0, none⟩)) (hy : a.eval y = .agg cells)
    (t : TypeId) (old : Array Value) (hg : w.heap[g]? = some (.cells old t (0, 0))) (hi : (P.info? ty).map (·.size) = some cells.size)
    (hold : old.size = cells.size) (h1 : cells.all (·.oneCell') = true)
    (h : wpListIn Fn n0 P ops Q rest (a.put o.dst undef) (w.setRow g cells)) : wpListIn Fn n0 P ops Q (o :: rest) a w := by
  refine wpListIn_plain hgd fun K hK => ?_
  unfold Oper.wpIn
  refine ⟨?_, ?_⟩
  · simp [Oper.about, ho]
  · rw [Oper.semAt_plain Fn _ _ (by rw [ho]; intro c hc'; cases hc')]
    unfold execOp
    simp only [ho, hx, hy, Instr.storeAt, Instr.sureAddr, Sem.run_bind, Sem.run_pure, Result.andThen_ok, run_storeVar_row w g t ty old cells hg hi hold h1]
    exact hK _ _ h
theorem KeepsFrom.of_only {p : Nat → Prop} {B : Nat} {W W' : World} (h : OnlyS p W W') (hp : ∀ k, p k → k < B) : KeepsFrom B W W' :=
  ⟨h.size, fun k o hk h1 _ => (h.block k (Array.getElem?_eq_some_iff.1 h1).1 (fun hpk => by have := hp k hpk; omega)).trans h1⟩
theorem KeepsFrom.of_below {B : Nat} {W W' : World} (h : Below W.heap.size W W') : KeepsFrom B W W' :=
  ⟨h.size, fun k o hk h1 _ => (h.block k (Array.getElem?_eq_some_iff.1 h1).1).trans h1⟩
end Go.Dav
namespace Go.Proofs.Ytmjmjjakhmeogaa
set_option linter.unusedVariables false
set_option linter.unusedSimpArgs false
open Go.RowKit Go.Dav Go.Shelf
attribute [local go_sem] Gives ite_val ite_val_true Oper.semAt_some

theorem Try_looked_own {β : Type} (ph pf pp g a z : Nat) (f : Bool) : Own (fun (_ : β) W => TryLooked ph pf pp g a f z W) := fun s X Y row h hg hr =>
  ⟨blk_own ph _ _ s X Y row h.h hg hr, blk_own pf _ _ s X Y row h.f hg hr, blk_own pp _ _ s X Y row h.p hg hr⟩
/-- No block that was told is a header's. -/
def TryNone (pre : List BlkT) : Prop := ∀ x ∈ pre, isOf x.1.2 = false

theorem TryLooked.ext {ph pf pp g a z : Nat} {f : Bool} {W W' : World} (h : TryLooked ph pf pp g a f z W) (hb : Below W.heap.size W W') : TryLooked ph pf pp g a f z W' := ⟨h.h.ext hb, h.f.ext hb, h.p.ext hb⟩

set_option maxRecDepth 100000 in
set_option maxHeartbeats 8000000 in
theorem Try_Find (F : FileD) (fa la : Option Addr) (fl fc ll lc : Nat) (w : World) (S : Nat → Prop) (hF : FileS w S fa fl fc la ll lc F) (hS : ∀ b, S b → b < w.heap.size) :
    Calls Try.prog 47 #[.agg #[.slice fa fl fc, .slice la ll lc, .int .i64 F.fuse, .int .i64 F.fault, .bool F.off]] w fun e w' => e = .returned (findOf F.said) ∧ Below w.heap.size w w' := by
  have HF := Lib.hid hF
  have HSS := Lib.hid hS
  clear hF hS
  refine (callsIn_wide (n := 4)).1 ?_
  refine callsIn_of_wp_marks Try.func47 rfl trivial (wpIn_wide.2 ?_) rfl
  simp only [Try.ntmps47, List.size_toArray, List.length_cons, List.length_nil, Nat.reduceAdd, Nat.reduceSub, Array.replicate_succ, Array.replicate_zero, List.push_toArray, List.append_toArray, List.nil_append, List.cons_append]
  go_wp2_with fail
  go_step3
  go_wp2_with fail
  go_step3
  go_wp2_with fail
  refine (Try_blocks F fa la fl fc ll lc _).mono ?_; rintro e w4 ⟨rfl, rfl⟩
  go_wp2_with fail
  obtain ⟨L, hL⟩ : ∃ L, (((((w.alloc (.cells [.slice fa fl fc, .slice la ll lc, .int .i64 F.fuse, .int .i64 F.fault, .bool F.off].toArray 25)).alloc (.cells #[.int .u64 0, .int .i64 0] 56)).alloc (.cells #[.int .i64 0] 3)).alloc (.cells #[.bool false] 4)).alloc (.cells #[Value.func (Fn.func 71) #[] #[.pointer (some ⟨w.heap.size + 1, 0, none⟩), .pointer (some ⟨w.heap.size + 1 + 1 + 1, 0, none⟩), .pointer (some ⟨w.heap.size + 1 + 1, 0, none⟩)]] 104)).alloc (.cells [.slice fa fl fc, .slice la ll lc, .int .i64 F.fuse, .int .i64 F.fault, .bool F.off].toArray 25) = L := ⟨_, rfl⟩
  have hsz : L.heap.size = w.heap.size + 1 + 1 + 1 + 1 + 1 + 1 := by rw [← hL]; simp
  have hbL : Below w.heap.size w L := by rw [← hL]; exact (by repeat (first | (with_reducible exact Below.refl _ _) | (with_reducible exact Below.refl _ _) | (with_reducible refine Below.setCell ?_ (by first | omega | (simp; done) | (simp; omega)) _) | (with_reducible refine Below.alloc ?_ (by first | omega | (simp; done) | (simp; omega)) _) | (with_reducible refine Below.drew ?_) | (with_reducible refine below_drewN ?_ _)))
  have hb1 : Blk L (w.heap.size + 1) [.int .u64 0, .int .i64 0] 56 := by rw [← hL]; exact ((((Blk.new' _ _ _ (by simp)).alloc _).alloc _).alloc _).alloc _
  have hb2 : Blk L (w.heap.size + 1 + 1) [.int .i64 0] 3 := by rw [← hL]; exact (((Blk.new' _ _ _ (by simp)).alloc _).alloc _).alloc _
  have hb3 : Blk L (w.heap.size + 1 + 1 + 1) [.bool false] 4 := by rw [← hL]; exact ((Blk.new' _ _ _ (by simp)).alloc _).alloc _
  have hb4 : Blk L (w.heap.size + 1 + 1 + 1 + 1) [Value.func (Fn.func 71) #[] #[.pointer (some ⟨w.heap.size + 1, 0, none⟩), .pointer (some ⟨w.heap.size + 1 + 1 + 1, 0, none⟩), .pointer (some ⟨w.heap.size + 1 + 1, 0, none⟩)]] 104 := by rw [← hL]; exact (Blk.new' _ _ _ (by simp)).alloc _
  have hb5 : Blk L (w.heap.size + 1 + 1 + 1 + 1 + 1) [.slice fa fl fc, .slice la ll lc, .int .i64 F.fuse, .int .i64 F.fault, .bool F.off] 25 := by rw [← hL]; exact Blk.new' _ [.slice fa fl fc, .slice la ll lc, .int .i64 F.fuse, .int .i64 F.fault, .bool F.off] _ (by simp)
  have hseq := Try_blocks1 F fa la fl fc ll lc L S (fun k => k = w.heap.size + 1 ∨ k = w.heap.size + 1 + 1 + 1 ∨ k = w.heap.size + 1 + 1) (4 - 1) (w.heap.size + 1 + 1 + 1 + 1 + 1) (by decide) (HF.out.ext hbL) (fun b h => by have := HSS.out b h; omega) (fun b h => by omega) hb5
  have HSEQ := Lib.hid hseq
  have HBL := Lib.hid hbL
  have hI0 : TryLooked (w.heap.size + 1) (w.heap.size + 1 + 1 + 1) (w.heap.size + 1 + 1) 0 0 false 0 L := ⟨hb1, hb3, hb2⟩
  have HI0 := Lib.hid hI0
  have HB4 := Lib.hid hb4
  rw [show _ = L from hL]
  have HSZ := Lib.hid hsz
  clear hL hsz hbL hb1 hb2 hb3 hb4 hb5 hseq hI0
  refine wpIn_wide.1 (wpIn_rangeFunc_ownH (n := 4) rfl (by decide) (gf := 83) (lb := #[.pointer (some ⟨w.heap.size + 1 + 1 + 1 + 1 + 1, 0, none⟩)]) rfl trivial Try_enter83 HSEQ.out KpC.t KpC.b (Below.refl _ _) (fun _ => rfl)
    (fun pre W => TryLooked (w.heap.size + 1) (w.heap.size + 1 + 1 + 1) (w.heap.size + 1 + 1) 0 0 false 0 W ∧ Blk W (w.heap.size + 1 + 1 + 1 + 1) [Value.func (Fn.func 71) #[] #[.pointer (some ⟨w.heap.size + 1, 0, none⟩), .pointer (some ⟨w.heap.size + 1 + 1 + 1, 0, none⟩), .pointer (some ⟨w.heap.size + 1 + 1, 0, none⟩)]] 104 ∧ Below w.heap.size L W ∧ TryNone pre)
    (fun c pre W => (c = .exit 0 ∧ ∃ pre' x, pre = pre' ++ [x] ∧ TryNone pre' ∧ isOf x.1.2 = true ∧ TryLooked (w.heap.size + 1) (w.heap.size + 1 + 1 + 1) (w.heap.size + 1 + 1) (genOf x.1.2) (atOf x.1.2) true x.1.1 W) ∧ Below w.heap.size L W)
    (OwnFrom.and (Own.from (Try_looked_own _ _ _ _ _ _ _) _) (OwnFrom.and (Own.from (blk_own _ _ _) _) (OwnFrom.and (ownFrom_below (by rw [HSZ.out]; omega) (by rw [HSZ.out]; omega)) (ownFrom_pure _ _))))
    (fun c => OwnFrom.and (Own.from (fun s A B row hs hg hr => by obtain ⟨hc, pre', x, e, hn, hx, hv⟩ := hs; exact ⟨hc, pre', x, e, hn, hx, Try_looked_own (β := Unit) _ _ _ _ _ _ _ () A B row hv hg hr⟩) _) (ownFrom_below (by rw [HSZ.out]; omega) (by rw [HSZ.out]; omega)))
    ⟨HI0.out, HB4.out, Below.refl _ _, fun x hx => by cases hx⟩
    (fun x a' W => ∃ bb, a' = { tmps := #[.agg #[.slice fa fl fc, .slice la ll lc, .int .i64 F.fuse, .int .i64 F.fault, .bool F.off], .pointer (some ⟨w.heap.size, 0, none⟩), .pointer (some ⟨w.heap.size + 1, 0, none⟩), .pointer (some ⟨w.heap.size + 1 + 1, 0, none⟩), .pointer (some ⟨w.heap.size + 1 + 1 + 1, 0, none⟩), .pointer (some ⟨w.heap.size + 1 + 1 + 1 + 1, 0, none⟩), .int .i64 (x.1.1 : Int), .pointer (some ⟨bb, 0, none⟩), Value.func (Fn.func 71) #[] #[.pointer (some ⟨w.heap.size + 1, 0, none⟩), .pointer (some ⟨w.heap.size + 1 + 1 + 1, 0, none⟩), .pointer (some ⟨w.heap.size + 1 + 1, 0, none⟩)], .agg #[.slice fa fl fc, .slice la ll lc, .int .i64 F.fuse, .int .i64 F.fault, .bool F.off], Value.func (Fn.func 83) #[] #[.pointer (some ⟨w.heap.size + 1 + 1 + 1 + 1 + 1, 0, none⟩)], .int .i64 (x.1.1 : Int), .agg (u8s x.1.2).toArray, undef, undef, undef, undef, undef, undef, undef], defers := [] } ∧ Blk W bb (u8s x.1.2) 57)
    (fun x a' => Own.from (fun s A B row hs hg hr => by obtain ⟨bb, e, hv⟩ := hs; exact ⟨bb, e, blk_own (β := Unit) bb _ _ () A B row hv hg hr⟩) _)
    ?assign ?body ?done ?stop)
  case assign =>
    rintro l pre x W K ⟨hlk, h4, hbw, hno⟩ hK
    have HK := Lib.hid hK
    have HLK := Lib.hid hlk
    have H4 := Lib.hid h4
    have HBW := Lib.hid hbw
    have HNO := Lib.hid hno
    have HXL := Lib.hid x.2.1
    have HBz := Lib.hid (show Blk (W.alloc (.cells #[.int .u8 0, .int .u8 0, .int .u8 0, .int .u8 0, .int .u8 0, .int .u8 0, .int .u8 0, .int .u8 0, .int .u8 0, .int .u8 0, .int .u8 0, .int .u8 0, .int .u8 0, .int .u8 0, .int .u8 0, .int .u8 0, .int .u8 0, .int .u8 0, .int .u8 0, .int .u8 0, .int .u8 0, .int .u8 0, .int .u8 0, .int .u8 0, .int .u8 0, .int .u8 0, .int .u8 0, .int .u8 0, .int .u8 0, .int .u8 0, .int .u8 0, .int .u8 0, .int .u8 0, .int .u8 0, .int .u8 0, .int .u8 0, .int .u8 0, .int .u8 0, .int .u8 0, .int .u8 0, .int .u8 0, .int .u8 0, .int .u8 0, .int .u8 0, .int .u8 0, .int .u8 0, .int .u8 0, .int .u8 0, .int .u8 0, .int .u8 0, .int .u8 0, .int .u8 0, .int .u8 0, .int .u8 0, .int .u8 0, .int .u8 0, .int .u8 0, .int .u8 0, .int .u8 0, .int .u8 0, .int .u8 0, .int .u8 0, .int .u8 0, .int .u8 0] 57)) W.heap.size (u8s (List.replicate 64 0)) 57 from Blk.new W _ _)
    clear hK hlk h4 hbw hno
    gi_wp2_with (first | (refine wpListIn_store_row rfl 57 (.tmp 7) (.tmp 12) rfl W.heap.size (u8s x.1.2).toArray rfl rfl 57 (u8s (List.replicate 64 0)).toArray HBz.out (Try_size64_of HXL.out) (by simp [u8s_len, HXL.out]) (u8s_all _) ?_))
    have bx : Below W.heap.size W ((W.alloc (.cells #[.int .u8 0, .int .u8 0, .int .u8 0, .int .u8 0, .int .u8 0, .int .u8 0, .int .u8 0, .int .u8 0, .int .u8 0, .int .u8 0, .int .u8 0, .int .u8 0, .int .u8 0, .int .u8 0, .int .u8 0, .int .u8 0, .int .u8 0, .int .u8 0, .int .u8 0, .int .u8 0, .int .u8 0, .int .u8 0, .int .u8 0, .int .u8 0, .int .u8 0, .int .u8 0, .int .u8 0, .int .u8 0, .int .u8 0, .int .u8 0, .int .u8 0, .int .u8 0, .int .u8 0, .int .u8 0, .int .u8 0, .int .u8 0, .int .u8 0, .int .u8 0, .int .u8 0, .int .u8 0, .int .u8 0, .int .u8 0, .int .u8 0, .int .u8 0, .int .u8 0, .int .u8 0, .int .u8 0, .int .u8 0, .int .u8 0, .int .u8 0, .int .u8 0, .int .u8 0, .int .u8 0, .int .u8 0, .int .u8 0, .int .u8 0, .int .u8 0, .int .u8 0, .int .u8 0, .int .u8 0, .int .u8 0, .int .u8 0, .int .u8 0, .int .u8 0] 57)).setRow W.heap.size (u8s x.1.2).toArray) := below_only ((Below.refl _ W).alloc (Nat.le_refl _) _) (only_row _ _ _) (by simp) (Nat.le_refl _)
    exact HK.out _ _ (KeepsFrom.of_below bx) (KpC.of_below bx) ⟨HLK.out.ext bx, H4.out.ext bx, HBW.out.trans (bx.mono (by have := HBW.out.size; have := HSZ.out; omega)), HNO.out⟩ ⟨_, rfl, blk_row (ds := u8s x.1.2) HBz.out⟩
  case body =>
    rintro l pre x a' W - - ⟨hlk, h4, hbw, hno⟩ ⟨bb, rfl, hbb⟩ -
    have HLK := Lib.hid hlk
    have H4 := Lib.hid h4
    have HBW := Lib.hid hbw
    have HNO := Lib.hid hno
    have HXL := Lib.hid x.2.1
    have HBB := Lib.hid hbb
    have q4 := h4.cells
    have l4 := h4.lt
    have hen := Try_enter71
    have HCT := Lib.hid (Try_look x.1.2 x.2.1 x.1.1 (w.heap.size + 1) (w.heap.size + 1 + 1 + 1) (w.heap.size + 1 + 1) 0 0 0 false (by omega) (by omega) (by omega) W hlk)
    clear hlk h4 hbw hno hbb
    gi_wp2_with (first | (refine wpListIn_load_cells rfl 57 (.tmp 7) rfl ⟨bb, 0, none⟩ rfl (u8s x.1.2) _ ((cells_of_blk HBB.out).from_) Try.underlying57 rfl (by rw [Try_size64, u8s_len, HXL.out]) ?_))
    refine ⟨trivial, ((callsIn_wide.2 HCT.out).inRound l).mono ?_⟩
    rintro e W2 ⟨rfl, hlk2, hon⟩
    have hkf : KeepsFrom L.heap.size W W2 := KeepsFrom.of_only hon (fun k h => by have := HSZ.out; omega)
    have hbw2 : Below w.heap.size L W2 := HBW.out.trans (hon.below (by have := HBW.out.size; have := HSZ.out; omega) (fun k h => by omega))
    have h42 := H4.out.onlyS hon (by omega)
    have hkc := KpC.of_only hon
    have HLK2 := Lib.hid hlk2
    have H42 := Lib.hid h42
    have HKF := Lib.hid hkf
    have HBW2 := Lib.hid hbw2
    have HKC := Lib.hid hkc
    clear hlk2 h42 hkf hbw2 hkc hon q4 l4
    cases hv : isOf x.1.2 with
    | true =>
      have HV := Lib.hid hv
      clear hv
      gi_wp2
      refine ⟨HKF.out, ⟨rfl, pre, x, rfl, HNO.out, HV.out, ?_⟩, HBW2.out⟩
      have h := HLK2.out
      unfold sayG sayA placeIf at h
      rw [HV.out] at h
      exact h
    | false =>
      have HV := Lib.hid hv
      clear hv
      gi_wp2
      refine ⟨HKF.out, HKC.out, ?_, H42.out, HBW2.out, ?_⟩
      · have h := HLK2.out
        rw [sayG_no HV.out, sayA_no HV.out, HV.out] at h
        exact h
      · intro y hy
        rcases List.mem_append.1 hy with h | h
        · exact HNO.out y h
        · rw [List.mem_singleton.1 h]; exact HV.out
  case done =>
    rintro D xs W hD hys ⟨hlk, h4, hbw, hno⟩ hK
    have hval : findOf F.said = .tuple #[.agg #[.int .u64 0, .int .i64 0], .int .i64 0, .bool false] := find_none (lastIs_none fun j hj => by
      obtain ⟨x, hx⟩ : ∃ x, xs[F.said.length / 64 - 1 - j]? = some x := ⟨_, List.getElem?_eq_getElem (by rw [hys.1]; omega)⟩
      have h := hys.2.2 _ x hx
      have h2 := hno x (List.mem_of_getElem? hx)
      rw [h] at h2
      rw [show F.said.length / 64 - 1 - (F.said.length / 64 - 1 - j) = j by omega] at h2
      exact h2)
    have HVAL := Lib.hid hval
    have HLK := Lib.hid hlk
    have HBW := Lib.hid (HBL.out.trans hbw)
    have HKK := Lib.hid hK
    have q1 := hlk.h.cells
    have q2 := hlk.p.cells
    have q3 := hlk.f.cells
    have m1 := hlk.h.marks
    have m2 := hlk.p.marks
    have m3 := hlk.f.marks
    have l1 := hlk.h.lt
    have l2 := hlk.p.lt
    have l3 := hlk.f.lt
    clear hval hlk hbw hK
    go_wp2_with fail
    go_region
    obtain ⟨V, hV⟩ : ∃ V, ((((W.setCell ⟨w.heap.size + 1, 0, none⟩ (.int .u64 0)).setCell ⟨w.heap.size + 1, 1, none⟩ (.int .i64 0)).setCell ⟨w.heap.size + 1 + 1, 0, none⟩ (.int .i64 0)).setCell ⟨w.heap.size + 1 + 1 + 1, 0, none⟩ (.bool false)).drew = V := ⟨_, rfl⟩
    have hon : OnlyS (fun k => k = w.heap.size + 1 ∨ k = w.heap.size + 1 + 1 + 1 ∨ k = w.heap.size + 1 + 1) W V := by
      rw [← hV]
      exact (((((OnlyS.refl _ W).set _ 0 _ (.inl rfl)).set _ 1 _ (.inl rfl)).set _ 0 _ (.inr (.inr rfl))).set _ 0 _ (.inr (.inl rfl))).ext ((Below.refl _ _).drew)
    have e1 : Blk V (w.heap.size + 1) [.int .u64 0, .int .i64 0] 56 := by
      rw [← hV]; exact ((((HLK.out.h.set 0 _).set 1 _).other (by omega) _ _).other (by omega) _ _).drew
    have e2 : Blk V (w.heap.size + 1 + 1) [.int .i64 0] 3 := by
      rw [← hV]; exact ((((HLK.out.p.other (by omega) _ _).other (by omega) _ _).set 0 _).other (by omega) _ _).drew
    have e3 : Blk V (w.heap.size + 1 + 1 + 1) [.bool false] 4 := by
      rw [← hV]; exact ((((HLK.out.f.other (by omega) _ _).other (by omega) _ _).other (by omega) _ _).set 0 _).drew
    first | rw [hV] | rw [show _ = V from hV]
    have hD2 := HSZ.out
    have hsV := hon.size
    have hDW : D < W.heap.size := (Array.getElem?_eq_some_iff.1 HKK.out).1
    have hKV : V.heap[D]? = some (.deferred (some [])) := (hon.block D hDW (by omega)).trans HKK.out
    have e1' : Blk (V.putObj D (.deferred none)) (w.heap.size + 1) [.int .u64 0, .int .i64 0] 56 := (putObj_block e1.lt (by omega)).trans e1
    have e2' : Blk (V.putObj D (.deferred none)) (w.heap.size + 1 + 1) [.int .i64 0] 3 := (putObj_block e2.lt (by omega)).trans e2
    have e3' : Blk (V.putObj D (.deferred none)) (w.heap.size + 1 + 1 + 1) [.bool false] 4 := (putObj_block e3.lt (by omega)).trans e3
    have c1 := e1'.cells
    have c2 := e2'.cells
    have c3 := e3'.cells
    have hbV : Below w.heap.size w V := HBW.out.trans (hon.below (by have := HBW.out.size; omega) (fun k h => by omega))
    have hbe : Below w.heap.size w (V.putObj D (.deferred none)) := hbV.trans (belowK_b (w := w) (Nat.le_refl _) V D _ _ (by omega) hKV rfl rfl)
    have HKV := Lib.hid hKV
    have HBE := Lib.hid hbe
    clear hV hon e1 e2 e3 e1' e2' e3' hKV hbV hbe q1 q2 q3 m1 m2 m3 l1 l2 l3
    go_wp2_with fail
    rw [Exit.noGoto_ret]
    refine ⟨by simp, .inl ⟨_, _, rfl, run_takeDeferred HKV.out, ?_⟩⟩
    refine ⟨.tuple #[.agg #[.int .u64 0, .int .i64 0], .int .i64 0, .bool false], by simp [results, Try.results47, go_sem, c1, c2, c3], by rw [HVAL.out], HBE.out⟩
  case stop =>
    rintro D c pre W hD ⟨k, hk⟩ ⟨⟨rfl, pre', x, rfl, hno, hx, hlk⟩, hbw⟩ hK
    have hl := hk.1
    rw [List.length_append, List.length_singleton] at hl
    have hk2 := hk.2.1
    have hxv := hk.2.2 pre'.length x (by simp)
    obtain ⟨i, hi⟩ : ∃ i, F.said.length / 64 - 1 - pre'.length = i := ⟨_, rfl⟩
    rw [hi] at hxv
    have hval : findOf F.said = .tuple #[.agg #[.int .u64 (genOf x.1.2 : Int), .int .i64 (atOf x.1.2 : Int)], .int .i64 (x.1.1 : Int), .bool true] := by
      have h := find_some (l := F.said) (i := i) (lastIs_some (by omega) (by rw [hxv] at hx; exact hx) fun j h1 h2 => by
        obtain ⟨y, hy⟩ : ∃ y, pre'[F.said.length / 64 - 1 - j]? = some y := ⟨_, List.getElem?_eq_getElem (by omega)⟩
        have h3 := hk.2.2 (F.said.length / 64 - 1 - j) y ((List.getElem?_append_left (by omega)).trans hy)
        have h4 := hno y (List.mem_of_getElem? hy)
        rw [h3] at h4
        rw [show F.said.length / 64 - 1 - (F.said.length / 64 - 1 - j) = j by omega] at h4
        exact h4)
      rw [hxv]; exact h
    obtain ⟨xg, hxg⟩ : ∃ z, genOf x.1.2 = z := ⟨_, rfl⟩
    obtain ⟨xa, hxa⟩ : ∃ z, atOf x.1.2 = z := ⟨_, rfl⟩
    obtain ⟨xp, hxp⟩ : ∃ z, x.1.1 = z := ⟨_, rfl⟩
    rw [hxg, hxa, hxp] at hval hlk
    clear hl hk2 hxv hi hno hx hk hxg hxa hxp
    refine wpIn_wide.2 ?_
    have HVAL := Lib.hid hval
    have HLK := Lib.hid hlk
    have HBW := Lib.hid (HBL.out.trans hbw)
    have HKK := Lib.hid hK
    have q1 := hlk.h.cells
    have q2 := hlk.p.cells
    have q3 := hlk.f.cells
    have m1 := hlk.h.marks
    have m2 := hlk.p.marks
    have m3 := hlk.f.marks
    have l1 := hlk.h.lt
    have l2 := hlk.p.lt
    have l3 := hlk.f.lt
    clear hval hlk hbw hK
    go_wp2_with fail
    go_region
    obtain ⟨V, hV⟩ : ∃ V, ((((W.setCell ⟨w.heap.size + 1, 0, none⟩ (.int .u64 (xg : Int))).setCell ⟨w.heap.size + 1, 1, none⟩ (.int .i64 (xa : Int))).setCell ⟨w.heap.size + 1 + 1, 0, none⟩ (.int .i64 (xp : Int))).setCell ⟨w.heap.size + 1 + 1 + 1, 0, none⟩ (.bool true)).drew = V := ⟨_, rfl⟩
    have hon : OnlyS (fun k => k = w.heap.size + 1 ∨ k = w.heap.size + 1 + 1 + 1 ∨ k = w.heap.size + 1 + 1) W V := by
      rw [← hV]
      exact (((((OnlyS.refl _ W).set _ 0 _ (.inl rfl)).set _ 1 _ (.inl rfl)).set _ 0 _ (.inr (.inr rfl))).set _ 0 _ (.inr (.inl rfl))).ext ((Below.refl _ _).drew)
    have e1 : Blk V (w.heap.size + 1) [.int .u64 (xg : Int), .int .i64 (xa : Int)] 56 := by
      rw [← hV]; exact ((((HLK.out.h.set 0 _).set 1 _).other (by omega) _ _).other (by omega) _ _).drew
    have e2 : Blk V (w.heap.size + 1 + 1) [.int .i64 (xp : Int)] 3 := by
      rw [← hV]; exact ((((HLK.out.p.other (by omega) _ _).other (by omega) _ _).set 0 _).other (by omega) _ _).drew
    have e3 : Blk V (w.heap.size + 1 + 1 + 1) [.bool true] 4 := by
      rw [← hV]; exact ((((HLK.out.f.other (by omega) _ _).other (by omega) _ _).other (by omega) _ _).set 0 _).drew
    first | rw [hV] | rw [show _ = V from hV]
    have hD2 := HSZ.out
    have hsV := hon.size
    have hDW : D < W.heap.size := (Array.getElem?_eq_some_iff.1 HKK.out).1
    have hKV : V.heap[D]? = some (.deferred (some [])) := (hon.block D hDW (by omega)).trans HKK.out
    have e1' : Blk (V.putObj D (.deferred none)) (w.heap.size + 1) [.int .u64 (xg : Int), .int .i64 (xa : Int)] 56 := (putObj_block e1.lt (by omega)).trans e1
    have e2' : Blk (V.putObj D (.deferred none)) (w.heap.size + 1 + 1) [.int .i64 (xp : Int)] 3 := (putObj_block e2.lt (by omega)).trans e2
    have e3' : Blk (V.putObj D (.deferred none)) (w.heap.size + 1 + 1 + 1) [.bool true] 4 := (putObj_block e3.lt (by omega)).trans e3
    have c1 := e1'.cells
    have c2 := e2'.cells
    have c3 := e3'.cells
    have hbV : Below w.heap.size w V := HBW.out.trans (hon.below (by have := HBW.out.size; omega) (fun k h => by omega))
    have hbe : Below w.heap.size w (V.putObj D (.deferred none)) := hbV.trans (belowK_b (w := w) (Nat.le_refl _) V D _ _ (by omega) hKV rfl rfl)
    have HKV := Lib.hid hKV
    have HBE := Lib.hid hbe
    clear hV hon e1 e2 e3 e1' e2' e3' hKV hbV hbe q1 q2 q3 m1 m2 m3 l1 l2 l3
    go_wp2_with fail
    rw [Exit.noGoto_ret]
    refine ⟨by simp, .inl ⟨_, _, rfl, run_takeDeferred HKV.out, ?_⟩⟩
    refine ⟨.tuple #[.agg #[.int .u64 (xg : Int), .int .i64 (xa : Int)], .int .i64 (xp : Int), .bool true], by simp [results, Try.results47, go_sem, c1, c2, c3], by rw [HVAL.out], HBE.out⟩
end Go.Proofs.Ytmjmjjakhmeogaa
