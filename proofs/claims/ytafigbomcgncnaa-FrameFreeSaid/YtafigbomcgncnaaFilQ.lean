/-
  Layer 10: Sync, walked: the program's.
-/
import Derived.Test.YtafigbomcgncnaaFilP
import Derived.Test.YtafigbomcgncnaaFilN
namespace Go.Dav
set_option linter.unusedVariables false
set_option linter.unusedSimpArgs false
open Go Go.RowKit

theorem wpListIn_append_rowS {Fn : Fence} {n0 : Nat} {P : Program} {W : World} {ops : Array Oper} {rest : List Oper} {o : Oper} {a : Act} {Q : Exit → Act → World → Prop} (hgd : o.guard = none) (s x : Operand) (t : TypeId) (ho : o.op = .call { callee := .builtin .append, args := #[s, x], argTypes := #[t, t] }) {e bytes : Nat} (E : Elem1 P t e bytes) (base : Nat) (v : Value) (n : Nat) (xs : List Value) (hs : a.eval s = v) (hown : W.ownsRow base e 1 v n xs)
    (T : Nat → Prop) (ax : Option Addr) (m c : Nat) (ys : List Value) (hx : a.eval x = .slice ax m c) (hy : CellsS W T ax m ys)
    (h1 : ∀ u ∈ ys, u.oneCell' = true) (hnone : ax = none → c = 0) (h63 : n + m ≤ maxLen) (hbytes : (n + m) * bytes ≤ 140737488355328) (hbase : base ≤ W.heap.size)
    (h : ∀ v' w', w'.ownsRow base e 1 v' (n + m) (xs ++ ys) → W.grownBy w' v.ownBlock → wpListIn Fn n0 P ops Q rest (a.put o.dst v') w') : wpListIn Fn n0 P ops Q (o :: rest) a W := by
  refine wpListIn_plain hgd fun K hK => ?_
  obtain ⟨v', w', hr, h2, h3⟩ := run_append_rowS (P := P) E o.type base v n xs hown T ax m c ys hy h1 hnone h63 hbytes hbase
  unfold Oper.wpIn
  refine ⟨?_, ?_⟩
  · simp [Oper.about, ho, resolve, Target.leads, Sem.run_pure]
  · rw [Oper.semAt_plain Fn _ _ (by rw [ho]; intro c hc'; cases hc')]
    simp [execOp, ho, resolve, invoke, builtin, hs, hx, hr, Result.andThen]
    exact hK _ _ (h v' w' h2 h3)

/-- 'x = append(x, ..)' where x is boxed and owns its row: what lies behind it. -/
theorem boxed_appended {W w1 : World} {n₀ B : Nat} {t e : TypeId} {size : Nat} {v v' : Value} {k m : Nat} {xs ys : List Value}
    (hv : Boxed W B t v) (hte : t ≠ e) (hrow : W.ownsRow n₀ e size v k xs) (hn₀ : n₀ ≤ W.heap.size) (hB : n₀ ≤ B)
    (hown' : w1.ownsRow n₀ e size v' m ys) (hgrow : W.grownBy w1 v.ownBlock) :
    Boxed w1 B t v ∧ Boxed (w1.setCell ⟨B, 0, none⟩ v') B t v' ∧ (w1.setCell ⟨B, 0, none⟩ v').ownsRow n₀ e size v' m ys ∧ KeepsOthers W (w1.setCell ⟨B, 0, none⟩ v') ∧ Below n₀ W (w1.setCell ⟨B, 0, none⟩ v') ∧
      ∀ (q : Nat) (cs : List Value) (t' : TypeId), t' ≠ e → q ≠ B → Blk W q cs t' → Blk (w1.setCell ⟨B, 0, none⟩ v') q cs t' := by
  have hv1 : Boxed w1 B t v := hv.kept hgrow (hv.not_row hte hrow)
  refine ⟨hv1, hv1.set v', hown'.kept (grownBy_setCell' w1 B v') (.inr (hv1.not_row hte hown').symm), ?_, ?_, ?_⟩
  · refine (KeepsOthers.of_grownBy hgrow fun j o ej hj => ?_).trans (KeepsOthers.setCell _ _ _)
    rcases hrow.2 with ⟨rfl, _⟩ | ⟨g, cap, cur, rfl, _, hgb, _⟩
    · simp [Value.ownBlock] at ej
    · obtain rfl : g = j := by simpa [Value.ownBlock] using ej
      rw [hgb] at hj; cases hj; rfl
  · refine ((Below.refl n₀ W).grown hgrow hn₀ fun j ej => ?_).setCell (p := ⟨B, 0, none⟩) hB v'
    rcases hrow.2 with ⟨rfl, _⟩ | ⟨g, cap, cur, rfl, hb, _, _⟩
    · simp [Value.ownBlock] at ej
    · obtain rfl : g = j := by simpa [Value.ownBlock] using ej
      exact hb
  · intro q cs t' ht hq hb
    refine Blk.other (q := B) (W := w1) ?_ hq 0 v'
    refine (hgrow.block q hb.lt fun e' => ?_).trans hb
    rcases hrow.2 with ⟨rfl, _⟩ | ⟨g, cap, cur, rfl, _, hgb, _⟩
    · simp [Value.ownBlock] at e'
    · obtain rfl : q = g := by simpa [Value.ownBlock] using e'
      rw [show W.heap[q]? = _ from hb] at hgb
      cases hgb; exact ht rfl

theorem blk_own {β : Type} (B : Nat) (cs : List Value) (t : TypeId) : Own (fun (_ : β) W => Blk W B cs t) := fun s X Y row h hg hr =>
  (hg.block B h.lt fun e => by
    obtain ⟨o, ho, hc⟩ := hr B e.symm
    rw [show X.heap[B]? = _ from h] at ho; cases ho; cases hc).trans h

theorem CellsS.ne_obj {W : World} {S : Nat → Prop} {a : Option Addr} {n D : Nat} {xs : List Value} {o : Obj} (h : CellsS W S a n xs) (hl : W.heap[D]? = some o) (ho : o.isCells = false) : CellsS W (fun b => S b ∧ b ≠ D) a n xs :=
  ⟨h.len, fun k v hk => by
    obtain ⟨b, i, h1, h2, h3, h4⟩ := h.at_ k v hk
    refine ⟨b, i, h1, h2, ⟨h3, fun e => ?_⟩, h4⟩
    subst e
    unfold World.cell? at h4
    simp only [hl] at h4
    cases o <;> first | cases h4 | cases ho⟩
theorem putObj_block {W : World} {D k : Nat} {o : Obj} (hk : k < W.heap.size) (hne : k ≠ D) : (W.putObj D o).heap[k]? = W.heap[k]? := (grownBy_putObj' W D o).block k hk (by intro e; cases e; exact hne rfl)

/-- The bytes that the runs have told. -/
def told {W : World} {S : Nat → Prop} (xs : List (RunT W S)) : List UInt8 := (xs.map fun x => x.1.l).flatten
theorem told_snoc {W : World} {S : Nat → Prop} (xs : List (RunT W S)) (x : RunT W S) : told (xs ++ [x]) = told xs ++ x.1.l := by simp [told]
theorem told_le {W : World} {S : Nat → Prop} (xs : List (RunT W S)) : (told xs).length ≤ xs.length * 524288 := by
  induction xs with
  | nil => simp [told]
  | cons x xs ih =>
    have h1 : told (x :: xs) = x.1.l ++ told xs := by simp [told]
    have h2 := x.2.1.at_.hlen
    have h3 := x.2.2.1
    rw [h1, List.length_append, List.length_cons]
    omega
theorem told_all {W : World} {S : Nat → Prop} {F : FileD} {xs : List (RunT W S)} (h : RunsTo F (F.loose.length + 1) xs) : told xs = F.all := by
  unfold told
  rw [h.1, List.take_of_length_le (by simp)]
  simp [FileD.all]
end Go.Dav
namespace Go.Proofs.Ytafigbomcgncnaa
set_option linter.unusedVariables false
set_option linter.unusedSimpArgs false
open Go.RowKit Go.Dav Go.Shelf
attribute [local go_sem] Gives ite_val ite_val_true Oper.semAt_some

theorem Try_enter59 (args : Array Value) (W : World) : (callFunc 59 args).run Try.prog W = .ok (Next.enter 59 args) W := by kernel_rfl


end Go.Proofs.Ytafigbomcgncnaa
