/-
  Layer 10: Sync, walked: the program's.
-/
import Derived.Test.YtmjmjjakhmeogaaFilP
import Derived.Test.YtmjmjjakhmeogaaFilN
namespace Go.Dav
set_option linter.unusedVariables false
set_option linter.unusedSimpArgs false
open Go Go.RowKit

theorem wpListIn_append_rowS {Fn : Fence} {n0 : Nat} {P : Program} {W : World} {ops : Array Oper} {rest : List Oper} {o : Oper} {a : Act} {Q : Exit → Act → World → Prop} (hgd : o.guard = none) (s x : Operand) (t : TypeId) (ho : o.op = .call { callee := .builtin .append, args := #[s, x], argTypes := #[t, t] }) {e bytes : Nat} (E : Elem1 P t e bytes) (base : Nat) (v : Value) (n : Nat) (xs : List Value) (hs : a.eval s = v) (hown : W.ownsRow base e 1 v n xs)
    (T : Nat → Prop) (ax : Option Addr) (m c : Nat) (ys : List Value) (hx : a.eval x = .slice ax m c) (hy : CellsS W T ax m ys)
    (h1 : ∀ u ∈ ys, u.oneCell' = true) (hnone : ax = none → c = 0) (h63 : n + m ≤ maxLen) (hbytes : (n + m) * bytes ≤ 140737488355328) (hbase : base ≤ W.heap.size)
    (h : ∀ v' w', w'.ownsRow base e 1 v' (n + m) (xs ++ ys) → W.grownBy w' v.ownBlock → wpListIn Fn n0 P ops Q rest (a.put o.dst v') w') : wpListIn Fn n0 P ops Q (o :: rest) a W := by
  refine wpListIn_plain hgd fun K hK => ?_
  obtain ⟨v', w', hr, h2, h3⟩ := run_append_rowS (P := P) E o.type base v n xs hown T ax m c ys hy h1 hnone h63 hbytes hbase
  unfold Oper.wpIn
  refine ⟨?_, ?_⟩
  · simp [Oper.about, ho, resolve, Target.leads, Sem.run_pure]
  · rw [Oper.semAt_plain Fn _ _ (by rw [ho]; intro c hc'; cases hc')]
    simp [execOp, ho, resolve, invoke, builtin, hs, hx, hr, Result.andThen]
    exact hK _ _ (h v' w' h2 h3)

/-- 'x = append(x, ..)' where x is boxed and owns its row: what lies behind it. -/
theorem boxed_appended {W w1 : World} {n₀ B : Nat} {t e : TypeId} {size : Nat} {v v' : Value} {k m : Nat} {xs ys : List Value}
    (hv : Boxed W B t v) (hte : t ≠ e) (hrow : W.ownsRow n₀ e size v k xs) (hn₀ : n₀ ≤ W.heap.size) (hB : n₀ ≤ B)
    (hown' : w1.ownsRow n₀ e size v' m ys) (hgrow : W.grownBy w1 v.ownBlock) :
    Boxed w1 B t v ∧ Boxed (w1.setCell ⟨B, 0, none⟩ v') B t v' ∧ (w1.setCell ⟨B, 0, none⟩ v').ownsRow n₀ e size v' m ys ∧ KeepsOthers W (w1.setCell ⟨B, 0, none⟩ v') ∧ Below n₀ W (w1.setCell ⟨B, 0, none⟩ v') ∧
      ∀ (q : Nat) (cs : List Value) (t' : TypeId), t' ≠ e → q ≠ B → Blk W q cs t' → Blk (w1.setCell ⟨B, 0, none⟩ v') q cs t' := by
  have hv1 : Boxed w1 B t v := hv.kept hgrow (hv.not_row hte hrow)
  refine ⟨hv1, hv1.set v', hown'.kept (grownBy_setCell' w1 B v') (.inr (hv1.not_row hte hown').symm), ?_, ?_, ?_⟩
  · refine (KeepsOthers.of_grownBy hgrow fun j o ej hj => ?_).trans (KeepsOthers.setCell _ _ _)
    rcases hrow.2 with ⟨rfl, _⟩ | ⟨g, cap, cur, rfl, _, hgb, _⟩
    · simp [Value.ownBlock] at ej
    · obtain rfl : g = j := by simpa [Value.ownBlock] using ej
      rw [hgb] at hj; cases hj; rfl
  · refine ((Below.refl n₀ W).grown hgrow hn₀ fun j ej => ?_).setCell (p := ⟨B, 0, none⟩) hB v'
    rcases hrow.2 with ⟨rfl, _⟩ | ⟨g, cap, cur, rfl, hb, _, _⟩
    · simp [Value.ownBlock] at ej
    · obtain rfl : g = j := by simpa [Value.ownBlock] using ej
      exact hb
  · intro q cs t' ht hq hb
    refine Blk.other (q := B) (W := w1) ?_ hq 0 v'
    refine (hgrow.block q hb.lt fun e' => ?_).trans hb
    rcases hrow.2 with ⟨rfl, _⟩ | ⟨g, cap, cur, rfl, _, hgb, _⟩
    · simp [Value.ownBlock] at e'
    · obtain rfl : q = g := by simpa [Value.ownBlock] using e'
      rw [show W.heap[q]? = _ from hb] at hgb
      cases hgb; exact ht rfl

theorem blk_own {β : Type} (B : Nat) (cs : List Value) (t : TypeId) : Own (fun (_ : β) W => Blk W B cs t) := fun s X Y row h hg hr =>
  (hg.block B h.lt fun e => by
    obtain ⟨o, ho, hc⟩ := hr B e.symm
    rw [show X.heap[B]? = _ from h] at ho; cases ho; cases hc).trans h

theorem CellsS.ne_obj {W : World} {S : Nat → Prop} {a : Option Addr} {n D : Nat} {xs : List Value} {o : Obj} (h : CellsS W S a n xs) (hl : W.heap[D]? = some o) (ho : o.isCells = false) : CellsS W (fun b => S b ∧ b ≠ D) a n xs :=
  ⟨h.len, fun k v hk => by
    obtain ⟨b, i, h1, h2, h3, h4⟩ := h.at_ k v hk
    refine ⟨b, i, h1, h2, ⟨h3, fun e => ?_⟩, h4⟩
    subst e
    unfold World.cell? at h4
    simp only [hl] at h4
    cases o <;> first | cases h4 | cases ho⟩
theorem putObj_block {W : World} {D k : Nat} {o : Obj} (hk : k < W.heap.size) (hne : k ≠ D) : (W.putObj D o).heap[k]? = W.heap[k]? := (grownBy_putObj' W D o).block k hk (by intro e; cases e; exact hne rfl)

/-- The bytes that the runs have told. -/
def told {W : World} {S : Nat → Prop} (xs : List (RunT W S)) : List UInt8 := (xs.map fun x => x.1.l).flatten
theorem told_snoc {W : World} {S : Nat → Prop} (xs : List (RunT W S)) (x : RunT W S) : told (xs ++ [x]) = told xs ++ x.1.l := by simp [told]
theorem told_le {W : World} {S : Nat → Prop} (xs : List (RunT W S)) : (told xs).length ≤ xs.length * 524288 := by
  induction xs with
  | nil => simp [told]
  | cons x xs ih =>
    have h1 : told (x :: xs) = x.1.l ++ told xs := by simp [told]
    have h2 := x.2.1.at_.hlen
    have h3 := x.2.2.1
    rw [h1, List.length_append, List.length_cons]
    omega
theorem told_all {W : World} {S : Nat → Prop} {F : FileD} {xs : List (RunT W S)} (h : RunsTo F (F.loose.length + 1) xs) : told xs = F.all := by
  unfold told
  rw [h.1, List.take_of_length_le (by simp)]
  simp [FileD.all]
end Go.Dav
namespace Go.Proofs.Ytmjmjjakhmeogaa
set_option linter.unusedVariables false
set_option linter.unusedSimpArgs false
open Go.RowKit Go.Dav Go.Shelf
attribute [local go_sem] Gives ite_val ite_val_true Oper.semAt_some

theorem Try_enter78 (args : Array Value) (W : World) : (callFunc 78 args).run Try.prog W = .ok (Next.enter 78 args) W := by kernel_rfl
theorem Try_enter79 (args : Array Value) (W : World) : (callFunc 79 args).run Try.prog W = .ok (Next.enter 79 args) W := by kernel_rfl

set_option maxRecDepth 100000 in
set_option maxHeartbeats 4000000 in
theorem Try_sync1 (F0 : FileD) (fa la : Option Addr) (fl fc ll lc q : Nat) (w : World) (S : Nat → Prop) (hS : ∀ b, S b → b < w.heap.size) (hF0 : FileS w S fa fl fc la ll lc F0) (hr0 : F0.right = true) (hq : Blk w q [.slice fa fl fc, .slice la ll lc, .int .i64 F0.fuse, .int .i64 F0.fault, .bool F0.off] 25) : TryDoes w S 78 #[.pointer (some ⟨q, 0, none⟩)] (fun G => { G with firm := F0.all, loose := [] }) := by
  intro W0 p ga ma gl gc ml mc F hb hp hpb hF hr
  have hq2 := hq.ext hb
  have HF0 := Lib.hid (hF0.ext hb)
  have HF := Lib.hid hF
  have HQ := Lib.hid hq2
  have HB := Lib.hid hb
  have HPB := Lib.hid hpb
  have HSS := Lib.hid hS
  have HR0 := Lib.hid hr0
  have hm := (FileD.right_spec.1 hr0).2.2.2.2
  have hC := Try_length F0 fa la fl fc ll lc W0 (hF0.ext hb).at_
  rw [FileD.len_right hr0] at hC
  have HC := Lib.hid hC
  have cq := hq2.cells
  have cp := hpb.cells
  have mp := hpb.marks
  have lp := hpb.lt
  have lq := hq2.lt
  obtain ⟨i0, hi, hz0, hz1, hz2⟩ := info_parts Try_infoU8
  have HI := Lib.hid (And.intro hi (And.intro hz0 (And.intro hz1 hz2)))
  obtain ⟨m, hmm⟩ : ∃ m, F0.many = m := ⟨_, rfl⟩
  rw [hmm] at hm HC
  have hm' : (m : Int) ≤ 524288 := by omega
  have HMM := Lib.hid hmm
  clear hF0 hF hq hq2 hb hpb hS hr0 hr hC hi hz0 hz1 hz2 hmm
  show Calls Try.prog 78 #[.pointer (some ⟨p, 0, none⟩), .pointer (some ⟨q, 0, none⟩)] W0 _
  refine (callsIn_wide (n := 4)).1 ?_
  refine callsIn_of_wp_marks Try.func78 rfl trivial ?_ rfl
  simp only [Try.ntmps78, List.size_toArray, List.length_cons, List.length_nil, Nat.reduceAdd, Nat.reduceSub, Array.replicate_succ, Array.replicate_zero, List.push_toArray, List.append_toArray, List.nil_append, List.cons_append]
  gi_wp2_with fail
  refine ⟨trivial, (callsIn_wide.2 HC.out).mono ?_⟩; rintro e w1 ⟨rfl, hb1⟩
  have s1 := hb1.size
  obtain ⟨hi, hz0, hz1, hz2⟩ := HI.out
  have hbq := HQ.out.ext hb1
  have cq1 := hbq.cells
  have lq1 := hbq.lt
  have HBQ := Lib.hid hbq
  have HB1 := Lib.hid hb1
  clear cq cp mp hb1 hbq
  gi_wp2_with (gi_at_make; refine wpListIn_make_own _ rfl _ _ 22 rfl W0.heap.size 5 i0 _ 1 Try.underlying22 hi hz0 hz1 .i64 .i64 (m : Int) m rfl rfl rfl (by rw [hz2]; omega) (by unfold maxLen; omega) s1 ?_; intro w2 hown2 hg2; have hb2 := (Below.refl w1.heap.size w1).grown hg2 (Nat.le_refl _) (fun k e => by cases e); have HO2 := Lib.hid hown2; have s2 := hb2.size; have bq2 := HBQ.out.ext hb2; have cq2 := bq2.cells; have lq2 := bq2.lt; have HBQ2 := Lib.hid bq2; have HB2 := Lib.hid hb2; clear hown2 hg2 hi bq2 hb2 cq1)
  refine ⟨trivial, (callsIn_wide.2 (Try_runs F0 fa la fl fc ll lc _)).mono ?_⟩; rintro e w3 ⟨rfl, rfl⟩
  gi_wp2_with fail
  obtain ⟨L, hL⟩ : ∃ L, ((w2.alloc (Obj.cells #[Value.slice (some { block := w1.heap.size, off := 0 }) 0 m] 22)).alloc (Obj.cells [.slice fa fl fc, .slice la ll lc, .int .i64 F0.fuse, .int .i64 F0.fault, .bool F0.off].toArray 25)) = L := ⟨_, rfl⟩
  have hsz : L.heap.size = w2.heap.size + 1 + 1 := by rw [← hL]; simp
  have hb02 : Below W0.heap.size W0 w2 := HB1.out.trans (HB2.out.mono s1)
  have hb0L : Below W0.heap.size W0 L := by rw [← hL]; exact (hb02.alloc (by omega) _).alloc (by simp; omega) _
  have bB : Boxed L w2.heap.size 22 (Value.slice (some { block := w1.heap.size, off := 0 }) 0 m) := by rw [← hL]; exact (Boxed.new w2 _ _).alloc _
  have bX : Blk L (w2.heap.size + 1) [.slice fa fl fc, .slice la ll lc, .int .i64 F0.fuse, .int .i64 F0.fault, .bool F0.off] 25 := by rw [← hL]; exact Blk.new' (w2.alloc _) [.slice fa fl fc, .slice la ll lc, .int .i64 F0.fuse, .int .i64 F0.fault, .bool F0.off] _ (by simp)
  have hown : L.ownsRow W0.heap.size 5 1 (Value.slice (some { block := w1.heap.size, off := 0 }) 0 m) 0 [] := by
    rw [← hL]
    exact (HO2.out.kept (World.grownBy_alloc _ _ none) (.inr (by simp [Value.ownBlock]))).kept (World.grownBy_alloc _ _ none) (.inr (by simp [Value.ownBlock]))
  have hseq := Try_runs1 F0 fa la fl fc ll lc L S (4 - 1) W0.heap.size (w2.heap.size + 1) (by decide) (HF0.out.ext hb0L) HR0.out (fun b h => by have := HSS.out b h; have := HB.out.size; omega) hb0L.size bX
  have HSEQ := Lib.hid hseq
  have HL := Lib.hid hb0L
  have hN : F0.loose.length + 1 ≤ 524289 := by
    have h1 := (FileD.right_spec.1 HR0.out).2.2.2.2
    have h3 := full_len (FileD.right_spec.1 HR0.out).1
    unfold FileD.many at h1
    omega
  have HN := Lib.hid hN
  rw [show ((w2.alloc (Obj.cells #[Value.slice (some { block := w1.heap.size, off := 0 }) 0 m] 22)).alloc (Obj.cells [.slice fa fl fc, .slice la ll lc, .int .i64 F0.fuse, .int .i64 F0.fault, .bool F0.off].toArray 25)) = L from hL]
  clear hseq hb0L hb02 hL hN
  refine wpIn_rangeFunc_ownF (n := 4) rfl (by decide) (gf := 79) (lb := #[.pointer (some ⟨w2.heap.size + 1, 0, none⟩)]) rfl trivial Try_enter79 HSEQ.out KpR.t (KpR.b HL.out.size (by omega)) (Below.refl _ _) (fun _ => rfl)
    (fun pre W => (∃ v, Boxed W w2.heap.size 22 v ∧ W.ownsRow W0.heap.size 5 1 v (told pre).length (u8s (told pre)) ∧ True) ∧ Below W0.heap.size L W ∧ Blk W (w2.heap.size + 1) [.slice fa fl fc, .slice la ll lc, .int .i64 F0.fuse, .int .i64 F0.fault, .bool F0.off] 25)
    (fun _ _ _ => False)
    (OwnFrom.and (Own.from (holdsRow_own _ _ _ _ 1 (fun pre => (told pre).length) (fun pre => u8s (told pre)) (fun _ _ => True)) _) (OwnFrom.and (ownFrom_below HL.out.size HL.out.size) (Own.from (blk_own _ _ _) _)))
    (fun _ _ _ _ _ hs _ _ => hs)
    ⟨⟨_, bB, hown, trivial⟩, Below.refl _ _, bX⟩
    (fun x => { tmps := #[Value.pointer (some { block := p, off := 0 }), Value.pointer (some { block := q, off := 0 }), undef, Value.pointer (some { block := w2.heap.size, off := 0 }), undef, .slice x.1.a x.1.len x.1.cap, .agg #[.slice fa fl fc, .slice la ll lc, .int .i64 F0.fuse, .int .i64 F0.fault, .bool F0.off], Value.int IntKind.i64 ↑m, Value.slice (some { block := w1.heap.size, off := 0 }) 0 m, .agg #[.slice fa fl fc, .slice la ll lc, .int .i64 F0.fuse, .int .i64 F0.fault, .bool F0.off], Value.func (Fn.func 79) #[] #[Value.pointer (some { block := w2.heap.size + 1, off := 0 })], .int .i64 x.1.at_, .slice x.1.a x.1.len x.1.cap, undef, undef, undef, undef, undef, undef, undef, undef, undef, undef, undef, undef], defers := [] }) ?assign ?body ?done ?stop
  case assign =>
    intro l x W K hK
    gi_wp2
    exact hK
  case body =>
    rintro l pre x W ⟨⟨v, hv, hrow, _⟩, hB, hblk⟩ hlt
    have hc := hv.cell
    have hbs := x.2.1.same hB.size (fun b hb _ => hB.block b (by have := HSS.out b hb; have := HB.out.size; omega))
    have hcs := hbs.cells
    have hnil := x.2.1.at_.hnil
    have hlen := x.2.1.at_.hlen
    have hle := x.2.2.1
    have htl := told_le pre
    have hn1 : (told pre).length + x.1.len ≤ 140737488355328 := by have := HN.out; omega
    have HCS := Lib.hid hcs
    have HV := Lib.hid hv
    have HROW := Lib.hid hrow
    have HNIL := Lib.hid hnil
    have HBL := Lib.hid hB
    have HBK := Lib.hid hblk
    have hWs : W0.heap.size ≤ W.heap.size := Nat.le_trans HL.out.size hB.size
    clear hbs hcs hv hrow hnil hB hblk
    gi_wp2_with (gi_at_builtin; refine wpListIn_append_rowS rfl (.tmp 13) (.tmp 14) 22 rfl Try_elemU8 W0.heap.size _ (told pre).length (u8s (told pre)) rfl HROW.out S x.1.a x.1.len x.1.cap (u8s x.1.l) rfl HCS.out (u8s_one _) HNIL.out (by unfold maxLen; omega) (by omega) hWs ?_; intro v' w' hown' hgrow; obtain ⟨a', c', rfl, hz⟩ := own_cells hown'; obtain ⟨hv1, hv2, hr2, hk2, hb2, hq2⟩ := boxed_appended HV.out (by decide) HROW.out hWs (by omega) hown' hgrow; have hc1 := hv1.cell; have hf1 := hv1.frozen)
    have hx := hq2 _ _ _ (by decide) (by omega) HBK.out
    refine ⟨hk2, ⟨hb2, Eq.trans hx (Eq.symm HBK.out)⟩, ⟨_, hv2, ?_, trivial⟩, HBL.out.trans hb2, hx⟩
    rw [told_snoc, u8s_append, List.length_append, hlen]
    exact hr2
  case done =>
    rintro D ys W hD hys ⟨⟨v, hv, hrow, _⟩, hB, hblk⟩ hK
    rw [told_all hys] at hrow
    obtain ⟨a', c', rfl, hz1', hz2', hz3', hz4'⟩ := own_cells hrow
    have hc := hv.cell
    have hall := FileD.all_length F0
    have hmx := (FileD.right_spec.1 HR0.out).2.2.2.2
    have hBW := HL.out.trans hB
    have hpW := HPB.out.below hBW lp
    have hBytes : BytesS W (fun b => W0.heap.size ≤ b ∧ b ≠ D) a' F0.all.length c' F0.all := BytesS.of_cells (hz4'.ne_obj hK rfl) hz1' hz2' (by omega) hz3'
    have HBY := Lib.hid hBytes
    have HBW := Lib.hid hBW
    have HPW := Lib.hid hpW
    have HKK := Lib.hid hK
    have cpw := hpW.cells
    have mpw := hpW.marks
    clear hv hrow hz1' hz2' hz3' hz4' hall hmx hBW hpW hBytes hblk
    gi_wp2
    have ho : Only p W ((W.setCell ⟨p, 0, none⟩ (Value.slice a' F0.all.length c')).setCell ⟨p, 1, none⟩ (Value.slice none 0 0)) := (by repeat (first | (with_reducible exact Only.refl _ _) | (with_reducible refine Only.set ?_ _ _) | (with_reducible refine Only.alloc ?_ _) | (with_reducible refine Only.drew ?_)))
    have hK' := ((KeepsOthers.setCell W ⟨p, 0, none⟩ (Value.slice a' F0.all.length c')).trans (KeepsOthers.setCell _ ⟨p, 1, none⟩ (Value.slice none 0 0))).same D _ HKK.out rfl
    have hbp := (HPW.out.set 0 (Value.slice a' F0.all.length c')).set 1 (Value.slice none 0 0)
    have hDp : D < W.heap.size := (Array.getElem?_eq_some_iff.1 HKK.out).1
    have hDL := HL.out.size
    have hsw := HBW.out.size
    have hso := ho.size
    refine ⟨by simp, .inl ⟨_, _, rfl, run_takeDeferred hK', ?_⟩⟩
    refine ⟨_, results_none rfl _ _ _, rfl, a', F0.all.length, c', none, 0, 0, (putObj_block hbp.lt (by omega)).trans hbp, ⟨?_, LooseS.nil_, HF.out.fuse, HF.out.fault⟩, ?_⟩
    · refine (HBY.out.same (by simp) fun b h hlt => ?_).mono fun b h => Or.inr h.1
      exact (putObj_block (by omega) h.2).trans (ho.block b hlt (by omega))
    · have g := grownBy_putObj' ((W.setCell ⟨p, 0, none⟩ (Value.slice a' F0.all.length c')).setCell ⟨p, 1, none⟩ (Value.slice none 0 0)) D (.deferred none)
      have gs := g.size
      exact ⟨g.os.trans (ho.os.trans HBW.out.os), g.tape.trans (ho.tape.trans HBW.out.tape), g.output.trans (ho.output.trans HBW.out.output), Nat.le_trans hsw (Nat.le_trans hso gs), fun k hk hne => (putObj_block (by omega) (by omega)).trans ((ho.block k (by omega) hne).trans (HBW.out.block k hk))⟩
  case stop =>
    rintro D c pre W _ _ h _
    exact h.elim


set_option maxRecDepth 8000 in
set_option maxHeartbeats 4000000 in
theorem Try_Sync (F : FileD) (fa la : Option Addr) (fl fc ll lc : Nat) (w : World) (S : Nat → Prop) (hF : FileS w S fa fl fc la ll lc F) (hS : ∀ b, S b → b < w.heap.size) :
    Calls Try.prog 53 #[.agg #[.slice fa fl fc, .slice la ll lc, .int .i64 F.fuse, .int .i64 F.fault, .bool F.off]] w (GivesFile w S F.sync.1 F.sync.2) := by
  have hW : Below w.heap.size w ((w.alloc (.cells [.slice fa fl fc, .slice la ll lc, .int .i64 F.fuse, .int .i64 F.fault, .bool F.off].toArray 25)).alloc (.cells #[.slice none 0 0, .slice none 0 0, .int .i64 0, .int .i64 0, .bool false] 25)) := (by repeat (first | (with_reducible exact Below.refl _ _) | (with_reducible exact Below.refl _ _) | (with_reducible refine Below.setCell ?_ (by first | omega | (simp; done) | (simp; omega)) _) | (with_reducible refine Below.alloc ?_ (by first | omega | (simp; done) | (simp; omega)) _) | (with_reducible refine Below.drew ?_) | (with_reducible refine below_drewN ?_ _)))
  have hf0 := (Blk.new w [.slice fa fl fc, .slice la ll lc, .int .i64 F.fuse, .int .i64 F.fault, .bool F.off] 25).alloc (o := (.cells #[.slice none 0 0, .slice none 0 0, .int .i64 0, .int .i64 0, .bool false] 25))
  have B0 := Blk.new' (w.alloc (.cells [.slice fa fl fc, .slice la ll lc, .int .i64 F.fuse, .int .i64 F.fault, .bool F.off].toArray 25)) [.slice none 0 0, .slice none 0 0, .int .i64 0, .int .i64 0, .bool false] 25 (p := w.heap.size + 1) (by simp)
  have hS' : ∀ b, S b → b < ((w.alloc (.cells [.slice fa fl fc, .slice la ll lc, .int .i64 F.fuse, .int .i64 F.fault, .bool F.off].toArray 25)).alloc (.cells #[.slice none 0 0, .slice none 0 0, .int .i64 0, .int .i64 0, .bool false] 25)).heap.size := fun b h => by have := hS b h; simp; omega
  have hC : Calls Try.prog 76 #[.agg #[.slice fa fl fc, .slice la ll lc, .int .i64 F.fuse, .int .i64 F.fault, .bool F.off], .int .i64 0, .func (.func 78) #[] #[.pointer (some ⟨w.heap.size, 0, none⟩)]] ((w.alloc (.cells [.slice fa fl fc, .slice la ll lc, .int .i64 F.fuse, .int .i64 F.fault, .bool F.off].toArray 25)).alloc (.cells #[.slice none 0 0, .slice none 0 0, .int .i64 0, .int .i64 0, .bool false] 25)) (GivesFile ((w.alloc (.cells [.slice fa fl fc, .slice la ll lc, .int .i64 F.fuse, .int .i64 F.fault, .bool F.off].toArray 25)).alloc (.cells #[.slice none 0 0, .slice none 0 0, .int .i64 0, .int .i64 0, .bool false] 25)) S F.sync.1 F.sync.2) := by
    cases hr : F.right with
    | false =>
      have e : F.sync = (F, 200) := by unfold FileD.sync FileD.op; rw [if_neg (by rw [hr]; decide)]
      rw [e]
      exact Try_operation_no F fa la fl fc ll lc _ 0 _ _ S (hF.ext hW) hr
    | true =>
      have e : F.sync = F.op 0 fun G => { G with firm := F.all, loose := [] } := by
        unfold FileD.sync FileD.op
        rw [if_pos hr, if_pos hr]
        show (if (F.asked 0).snd = 0 then ({ (F.asked 0).fst with firm := (F.asked 0).fst.all, loose := [] }, (0 : Int)) else F.asked 0) = _
        rw [FileD.all_same (FileD.asked_same F 0)]
      rw [e]
      exact Try_operation F fa la fl fc ll lc _ 0 _ _ _ S (hF.ext hW) hS' (Try_sync1 F fa la fl fc ll lc w.heap.size _ S hS' (hF.ext hW) hr hf0) Try_enter78
  have HSS := Lib.hid hS
  have HC := Lib.hid hC
  have HB0 := Lib.hid B0
  clear hW hf0 B0 hS' hC hF hS
  go_enter Try.func53, Try.ntmps53
  go_wp2_with fail
  obtain ⟨F7, e7, hV⟩ : ∃ F7 e7, F.sync = (F7, e7) := ⟨_, _, rfl⟩
  have HC2 := HC.out
  rw [hV] at HC2
  have HV := Lib.hid hV
  clear hV HC
  refine HC2.mono ?_; rintro e w2 ⟨ga, gl, gc, ma, ml, mc, rfl, hR, hb2⟩
  clear HC2
  have B1 := HB0.out.ext hb2
  have s2 := hb2.size
  simp only [World.size_alloc] at s2
  have bel : Below w.heap.size w w2 := (by repeat (first | (with_reducible exact Below.refl _ _) | (with_reducible exact Below.refl _ _) | (with_reducible refine Below.setCell ?_ (by first | omega | (simp; done) | (simp; omega)) _) | (with_reducible refine Below.alloc ?_ (by first | omega | (simp; done) | (simp; omega)) _) | (with_reducible refine Below.drew ?_) | (with_reducible refine below_drewN ?_ _) | (with_reducible refine Below.trans ?_ (hb2.mono (by first | omega | (simp; done) | (simp; omega))))))
  have HR := Lib.hid hR; clear hR
  have hr2 := ((((B1.set 0 (.slice ga gl gc)).set 1 (.slice ma ml mc)).set 2 (.int .i64 (F7).fuse)).set 3 (.int .i64 (F7).fault)).set 4 (.bool (F7).off)
  have c2 := hr2.cells
  have m2 := B1.marks
  have q2 := B1.cells
  have lB := B1.lt
  simp only [List.set_cons_zero, List.set_cons_succ] at c2
  go_wp2
  rw [HV.out]
  refine bodyPost_ret (v := .tuple #[.agg #[.slice ga gl gc, .slice ma ml mc, .int .i64 (F7).fuse, .int .i64 (F7).fault, .bool (F7).off], .int .i64 (e7)]) (by simp [results, Try.results53, go_sem, c2]) rfl ⟨ga, gl, gc, ma, ml, mc, rfl, ?_, ?_⟩
  · refine ((HR.out).same (Only.size (p := w.heap.size + 1) (by repeat (first | (with_reducible exact Only.refl _ _) | (with_reducible refine Only.set ?_ _ _) | (with_reducible refine Only.alloc ?_ _) | (with_reducible refine Only.drew ?_)))) (fun b h hlt => Only.block (p := w.heap.size + 1) (by repeat (first | (with_reducible exact Only.refl _ _) | (with_reducible refine Only.set ?_ _ _) | (with_reducible refine Only.alloc ?_ _) | (with_reducible refine Only.drew ?_))) b hlt ?_)).mono (T := Or S w) (fun b h => ?_)
    · rcases h with h | h
      · have := HSS.out b h; omega
      · (try simp at h); omega
    · rcases h with h | h
      · exact .inl h
      · exact .inr (by (try simp at h); omega)
  · exact (by repeat (first | (with_reducible exact Below.refl _ _) | (with_reducible exact Below.refl _ _) | (with_reducible refine Below.setCell ?_ (by first | omega | (simp; done) | (simp; omega)) _) | (with_reducible refine Below.alloc ?_ (by first | omega | (simp; done) | (simp; omega)) _) | (with_reducible refine Below.drew ?_) | (with_reducible refine below_drewN ?_ _) | (with_reducible refine Below.trans ?_ (bel.mono (by first | omega | (simp; done) | (simp; omega))))))
end Go.Proofs.Ytmjmjjakhmeogaa
