/-
  Layer 14: the parts of a node, in plain; the values that they are; the methods of a part.
  Layer 14: the parts of a node, walked.
  Layer 14: bytes.Compare; Check, walked.
-/
import Derived.Test.YtfhhcpolicdfpaaNdA
import Derived.Test.YtfhhcpolicdfpaaNdB
import Derived.Lib.Bytealg
import Derived.Lib.UnsafeStr
import Derived.Laws.Entries
namespace Go.Dav
set_option linter.unusedVariables false
set_option linter.unusedSimpArgs false
open Go Go.RowKit
abbrev PartD := ItemD ⊕ KidD
def pKey : PartD → List UInt8
  | .inl x => x.key
  | .inr x => x.key
def pRed : PartD → Red
  | .inl x => rowRed x.int x.n
  | .inr x => x.red
def pMay : PartD → Bool
  | .inl x => decide (x.value.length ≤ 100) && (x.int || decide (x.n = 0))
  | .inr x => decide (1 ≤ x.at_) && (decide (x.at_ < 524288) && (decide (1 ≤ x.red.c) && x.red.ok))
def pOk (x : PartD) : Bool := decide (1 ≤ (pKey x).length) && (decide ((pKey x).length ≤ 120) && pMay x)
def partsOf (n : NodeD) : List PartD := if n.leaf then n.items.map .inl else n.kids.map .inr
def leastOf (n : NodeD) : Nat := if n.leaf then 1 else 2
/-- How many rows the first i parts are of. -/
def rowsTo (L : List PartD) (i : Nat) : Int := ((L.take i).map fun x => (pRed x).c).sum
theorem rowsTo_zero (L : List PartD) : rowsTo L 0 = 0 := by simp [rowsTo]
theorem rowsTo_succ {L : List PartD} {i : Nat} {x : PartD} (h : L[i]? = some x) : rowsTo L (i + 1) = rowsTo L i + (pRed x).c := by
  unfold rowsTo; rw [List.take_add_one, h]; simp
/-- Is the i-th key behind the one ahead of it? -/
def behindB (L : List PartD) (i : Nat) : Bool := decide (i = 0) || aheadB (((L[i - 1]?).map pKey).getD []) (((L[i]?).map pKey).getD [])
def stepB (L : List PartD) (i : Nat) : Bool := (((L[i]?).map pOk).getD false) && (behindB L i && decide (rowsTo L (i + 1) ≤ 1073741824))
def stepsTo (L : List PartD) (i : Nat) : Bool := (List.range i).all (stepB L)
theorem stepsTo_succ (L : List PartD) (i : Nat) : stepsTo L (i + 1) = (stepsTo L i && stepB L i) := by
  unfold stepsTo; rw [List.range_succ, List.all_append]; simp
def shapeB (n : NodeD) : Bool := decide (n.items.length ≤ 6) && (decide (n.kids.length ≤ 6) && (if n.leaf then decide (n.kids.length = 0) else decide (n.items.length = 0)))
def checkB (n : NodeD) : Bool := shapeB n && (decide (leastOf n ≤ (partsOf n).length) && stepsTo (partsOf n) (partsOf n).length)
theorem all_range {L : List PartD} {p : PartD → Bool} : (L.all p) = (List.range L.length).all (fun i => ((L[i]?).map p).getD false) := by
  rw [Bool.eq_iff_iff, List.all_eq_true, List.all_eq_true]
  constructor
  · intro h i hi
    have hi := List.mem_range.1 hi
    rw [List.getElem?_eq_getElem hi]
    exact h _ (List.getElem_mem hi)
  · intro h x hx
    obtain ⟨i, hi, e⟩ := List.mem_iff_getElem.1 hx
    have := h i (List.mem_range.2 hi)
    rw [List.getElem?_eq_getElem hi, e] at this
    exact this
theorem rowsTo_mono {L : List PartD} (h : ∀ x ∈ L, 0 ≤ (pRed x).c) : ∀ (i d : Nat), rowsTo L i ≤ rowsTo L (i + d)
  | i, 0 => Int.le_refl _
  | i, d + 1 => by
    have ih := rowsTo_mono h i d
    by_cases hl : i + d < L.length
    · have := rowsTo_succ (List.getElem?_eq_getElem hl)
      have h2 := h _ (List.getElem_mem hl)
      rw [← Nat.add_assoc]; omega
    · have e : rowsTo L (i + (d + 1)) = rowsTo L (i + d) := by
        unfold rowsTo; rw [List.take_of_length_le (by omega), List.take_of_length_le (by omega)]
      omega
theorem pOk_c {x : PartD} (h : pOk x = true) : 0 ≤ (pRed x).c := by
  cases x with
  | inl x => unfold pRed rowRed; dsimp only; split <;> simp
  | inr x =>
    unfold pOk pMay at h
    simp only [Bool.and_eq_true, decide_eq_true_eq] at h
    unfold pRed; dsimp only; omega
theorem rowsTo_items (l : List ItemD) (i : Nat) (hi : i ≤ l.length) : rowsTo (l.map .inl) i = i := by
  induction i with
  | zero => simp [rowsTo]
  | succ i ih =>
    have hl : i < (l.map (Sum.inl : ItemD → PartD)).length := by simp; omega
    rw [rowsTo_succ (List.getElem?_eq_getElem hl), ih (by omega)]
    simp only [List.getElem_map]
    unfold pRed rowRed; dsimp only; split <;> rfl
theorem steps_split {L : List PartD} : stepsTo L L.length = (L.all pOk && (((List.range L.length).all (behindB L)) && decide (∀ i, i < L.length → rowsTo L (i + 1) ≤ 1073741824))) := by
  rw [all_range, Bool.eq_iff_iff]
  unfold stepsTo stepB
  simp only [List.all_eq_true, List.mem_range, Bool.and_eq_true, decide_eq_true_eq]
  constructor
  · intro h; exact ⟨fun i hi => (h i hi).1, fun i hi => (h i hi).2.1, fun i hi => (h i hi).2.2⟩
  · rintro ⟨h1, h2, h3⟩ i hi; exact ⟨h1 i hi, h2 i hi, h3 i hi⟩
theorem rises_parts {L : List PartD} : (List.range L.length).all (behindB L) = risesTo (L.map pKey) L.length := by
  unfold risesTo behindB
  congr 1
  funext i
  simp [List.getD_eq_getElem?_getD]
theorem itemOk_p (x : ItemD) : pOk (.inl x) = itemOk x := by unfold pOk pMay pKey itemOk; rfl
theorem kidOk_p (x : KidD) : pOk (.inr x) = kidOk x := by unfold pOk pMay pKey kidOk; rfl
theorem countTo_rows (l : List KidD) (i : Nat) : countTo l i = rowsTo (l.map .inr) i := by
  unfold countTo rowsTo; rw [← List.map_take, List.map_map]; rfl
/-- What the program's Check looks at is what the document says. -/
theorem checkB_eq (n : NodeD) : checkB n = nodeOk n := by
  unfold checkB nodeOk shapeB leastOf partsOf
  rw [steps_split, rises_parts]
  cases n.leaf with
  | true =>
    have e1 : ((n.items.map (Sum.inl : ItemD → PartD)).all pOk) = n.items.all itemOk := by rw [List.all_map]; congr 1
    have e2 : (n.items.map (Sum.inl : ItemD → PartD)).map pKey = n.items.map (·.key) := by rw [List.map_map]; rfl
    simp only [if_true, e1, e2, List.length_map]
    rw [Bool.eq_iff_iff]
    simp only [Bool.and_eq_true, decide_eq_true_eq]
    constructor
    · rintro ⟨⟨h1, h2, h3⟩, h4, h5, h6, h7⟩; exact ⟨h5, h6, h4, h1, h3⟩
    · rintro ⟨h1, h2, h3, h4, h5⟩
      refine ⟨⟨h4, by omega, h5⟩, h3, h1, h2, fun i hi => ?_⟩
      rw [rowsTo_items _ _ (by omega)]; omega
  | false =>
    have e1 : ((n.kids.map (Sum.inr : KidD → PartD)).all pOk) = n.kids.all kidOk := by rw [List.all_map]; congr 1
    have e2 : (n.kids.map (Sum.inr : KidD → PartD)).map pKey = n.kids.map (·.key) := by rw [List.map_map]; rfl
    simp only [Bool.false_eq_true, if_false, List.length_map]
    rw [e2, countTo_rows, ← e1, Bool.eq_iff_iff]
    simp only [Bool.and_eq_true, decide_eq_true_eq]
    constructor
    · rintro ⟨⟨h1, h2, h3⟩, h4, h5, h6, h7⟩
      refine ⟨h4, h2, h3, h5, h6, ?_⟩
      have := h7 (n.kids.length - 1) (by omega)
      rwa [show n.kids.length - 1 + 1 = n.kids.length by omega] at this
    · rintro ⟨h1, h2, h3, h4, h5, h6⟩
      refine ⟨⟨by omega, h2, h3⟩, h1, h4, h5, fun i hi => ?_⟩
      have hc : ∀ x ∈ (n.kids.map (Sum.inr : KidD → PartD)), 0 ≤ (pRed x).c := fun x hx => pOk_c (List.all_eq_true.1 h4 x hx)
      have := rowsTo_mono hc (i + 1) (n.kids.length - (i + 1))
      rw [show i + 1 + (n.kids.length - (i + 1)) = n.kids.length by omega] at this
      omega
theorem shape_few {n : NodeD} (h : shapeB n = true) : n.items.length ≤ 6 ∧ n.kids.length ≤ 6 ∧ (partsOf n).length ≤ 6 := by
  unfold shapeB at h
  simp only [Bool.and_eq_true, decide_eq_true_eq] at h
  refine ⟨h.1, h.2.1, ?_⟩
  unfold partsOf; split <;> simp <;> omega
end Go.Dav
namespace Go.Proofs.Ytfhhcpolicdfpaa
set_option linter.unusedVariables false
set_option linter.unusedSimpArgs false
open Go.RowKit Go.Dav
attribute [local go_sem] ite_val ite_val_true

def TryTy : PartD → TypeId
  | .inl _ => 100
  | .inr _ => 101
def TryFName : PartD → FuncId
  | .inl _ => 93
  | .inr _ => 100
def TryFMay : PartD → FuncId
  | .inl _ => 92
  | .inr _ => 99
def TryFRed : PartD → FuncId
  | .inl _ => 94
  | .inr _ => 101
def TryFLay : PartD → FuncId
  | .inl _ => 91
  | .inr _ => 98
/-- What an item's value is. -/
def TryItemU (W : World) (S : Nat → Prop) (u : Value) (i : ItemD) : Prop := ∃ ka kl kc va vl vc, u = .agg #[.slice ka kl kc, .slice va vl vc, .bool i.int, .int .i64 i.n] ∧ BytesS W S ka kl kc i.key ∧ BytesS W S va vl vc i.value ∧ I64 i.n
/-- What a kid's value is. -/
def TryKidU (W : World) (S : Nat → Prop) (u : Value) (k : KidD) : Prop := ∃ ka kl kc, u = .agg #[.slice ka kl kc, .int .i64 k.at_, .int .i64 k.red.c, .int .i64 k.red.n, .int .i64 (hi k.red.s), .int .u64 (lo k.red.s), .int .i64 k.red.l, .int .i64 k.red.m] ∧ BytesS W S ka kl kc k.key ∧ I64 k.at_ ∧ k.red.fits
def TryPartU (W : World) (S : Nat → Prop) (u : Value) : PartD → Prop
  | .inl i => TryItemU W S u i
  | .inr k => TryKidU W S u k
theorem TryPartU.ext {W W' : World} {S : Nat → Prop} {u : Value} : ∀ {x : PartD}, TryPartU W S u x → Below W.heap.size W W' → TryPartU W' S u x
  | .inl _, ⟨ka, kl, kc, va, vl, vc, h1, h2, h3, h4⟩, hb => ⟨ka, kl, kc, va, vl, vc, h1, h2.ext hb, h3.ext hb, h4⟩
  | .inr _, ⟨ka, kl, kc, h1, h2, h3, h4⟩, hb => ⟨ka, kl, kc, h1, h2.ext hb, h3, h4⟩
theorem TryPartU.same {W W' : World} {S : Nat → Prop} {u : Value} (hs : W.heap.size ≤ W'.heap.size) (hb : ∀ b, S b → b < W.heap.size → W'.heap[b]? = W.heap[b]?) : ∀ {x : PartD}, TryPartU W S u x → TryPartU W' S u x
  | .inl _, ⟨ka, kl, kc, va, vl, vc, h1, h2, h3, h4⟩ => ⟨ka, kl, kc, va, vl, vc, h1, h2.same hs hb, h3.same hs hb, h4⟩
  | .inr _, ⟨ka, kl, kc, h1, h2, h3, h4⟩ => ⟨ka, kl, kc, h1, h2.same hs hb, h3, h4⟩
theorem TryPartU.mono {W : World} {S T : Nat → Prop} {u : Value} (hst : ∀ b, S b → T b) : ∀ {x : PartD}, TryPartU W S u x → TryPartU W T u x
  | .inl _, ⟨ka, kl, kc, va, vl, vc, h1, h2, h3, h4⟩ => ⟨ka, kl, kc, va, vl, vc, h1, h2.mono hst, h3.mono hst, h4⟩
  | .inr _, ⟨ka, kl, kc, h1, h2, h3, h4⟩ => ⟨ka, kl, kc, h1, h2.mono hst, h3, h4⟩
theorem Try_meth_name (x : PartD) (u : Value) (w : World) : (method 249 (TryTy x) u "davenport/node.name").run Try.prog w = .ok (TryFName x, u) w := by cases x <;> kernel_rfl
theorem Try_meth_may (x : PartD) (u : Value) (w : World) : (method 249 (TryTy x) u "davenport/node.may").run Try.prog w = .ok (TryFMay x, u) w := by cases x <;> kernel_rfl
theorem Try_meth_red (x : PartD) (u : Value) (w : World) : (method 249 (TryTy x) u "davenport/node.red").run Try.prog w = .ok (TryFRed x, u) w := by cases x <;> kernel_rfl
theorem Try_meth_lay (x : PartD) (u : Value) (w : World) : (method 249 (TryTy x) u "davenport/node.lay").run Try.prog w = .ok (TryFLay x, u) w := by cases x <;> kernel_rfl
theorem Try_en_name (x : PartD) (args : Array Value) (w : World) : (callFunc (TryFName x) args).run Try.prog w = .ok (.enter (TryFName x) args) w := by cases x <;> kernel_rfl
theorem Try_en_may (x : PartD) (args : Array Value) (w : World) : (callFunc (TryFMay x) args).run Try.prog w = .ok (.enter (TryFMay x) args) w := by cases x <;> kernel_rfl
theorem Try_en_red (x : PartD) (args : Array Value) (w : World) : (callFunc (TryFRed x) args).run Try.prog w = .ok (.enter (TryFRed x) args) w := by cases x <;> kernel_rfl
theorem Try_en_lay (x : PartD) (args : Array Value) (w : World) : (callFunc (TryFLay x) args).run Try.prog w = .ok (.enter (TryFLay x) args) w := by cases x <;> kernel_rfl
/-- A part's key, as its value has it. -/
def uKey : Value → Value
  | .agg cs => cs.getD 0 undef
  | v => v
theorem Try_key_of {W : World} {S : Nat → Prop} {u : Value} : ∀ {x : PartD}, TryPartU W S u x → ∃ a n c, uKey u = .slice a n c ∧ BytesS W S a n c (pKey x)
  | .inl _, ⟨ka, kl, kc, _, _, _, h1, h2, _⟩ => ⟨ka, kl, kc, by rw [h1]; rfl, h2⟩
  | .inr _, ⟨ka, kl, kc, h1, h2, _⟩ => ⟨ka, kl, kc, by rw [h1]; rfl, h2⟩
theorem Try_name {S : Nat → Prop} {u : Value} {x : PartD} {a : Option Addr} {n c : Nat} {w : World} (h : TryPartU w S u x) (hk : uKey u = .slice a n c) :
    Calls Try.prog (TryFName x) #[u] w fun e w' => e = .returned (.slice a n c) ∧ Below w.heap.size w w' := by
  cases x with
  | inl i =>
    obtain ⟨ka, kl, kc, va, vl, vc, h1, _⟩ := h
    subst h1
    cases hk
    unfold TryFName
    dsimp only
    go_enter Try.func93, Try.ntmps93
    go_wp2
    go_ret
    exact ⟨rfl, (by repeat (first | (with_reducible exact Below.refl _ _) | (with_reducible exact Below.refl _ _) | (with_reducible refine Below.setCell ?_ (by first | omega | (simp; done) | (simp; omega)) _) | (with_reducible refine Below.alloc ?_ (by first | omega | (simp; done) | (simp; omega)) _) | (with_reducible refine Below.drew ?_) | (with_reducible refine below_drewN ?_ _)))⟩
  | inr i =>
    obtain ⟨ka, kl, kc, h1, _⟩ := h
    subst h1
    cases hk
    unfold TryFName
    dsimp only
    go_enter Try.func100, Try.ntmps100
    go_wp2
    go_ret
    exact ⟨rfl, (by repeat (first | (with_reducible exact Below.refl _ _) | (with_reducible exact Below.refl _ _) | (with_reducible refine Below.setCell ?_ (by first | omega | (simp; done) | (simp; omega)) _) | (with_reducible refine Below.alloc ?_ (by first | omega | (simp; done) | (simp; omega)) _) | (with_reducible refine Below.drew ?_) | (with_reducible refine below_drewN ?_ _)))⟩
def redV (r : Red) : Value := .agg #[.int .i64 r.c, .int .i64 r.n, .int .i64 (hi r.s), .int .u64 (lo r.s), .int .i64 r.l, .int .i64 r.m]
theorem Try_red {S : Nat → Prop} {u : Value} {x : PartD} {w : World} (h : TryPartU w S u x) :
    Calls Try.prog (TryFRed x) #[u] w fun e w' => e = .returned (redV (pRed x)) ∧ Below w.heap.size w w' := by
  cases x with
  | inl i =>
    obtain ⟨ka, kl, kc, va, vl, vc, h1, _, _, h4⟩ := h
    subst h1
    unfold TryFRed
    dsimp only
    go_enter Try.func94, Try.ntmps94
    go_wp2_with fail
    (with_reducible refine (Try_One' _ _ _ _ _ _ _ _ _ h4).mono ?_); rintro e w1 ⟨rfl, hb⟩
    obtain ⟨hc, hf, hs⟩ := after hb
    go_wp2
    obtain ⟨r, hr⟩ : ∃ r, rowRed i.int i.n = r := ⟨_, rfl⟩
    have HR := Lib.hid hr
    rw [hr]
    clear hr
    refine bodyPost_ret (v := redV r) (by simp [results, Try.results94, go_sem, redV, *]) rfl ⟨by unfold pRed; dsimp only; rw [HR.out], ?_⟩
    exact (by repeat (first | (with_reducible exact Below.refl _ _) | (with_reducible exact Below.refl _ _) | (with_reducible refine Below.setCell ?_ (by first | omega | (simp; done) | (simp; omega)) _) | (with_reducible refine Below.alloc ?_ (by first | omega | (simp; done) | (simp; omega)) _) | (with_reducible refine Below.drew ?_) | (with_reducible refine below_drewN ?_ _) | (with_reducible refine Below.trans ?_ (hb.mono (by first | omega | (simp; done) | (simp; omega))))))
  | inr i =>
    obtain ⟨ka, kl, kc, h1, _⟩ := h
    subst h1
    unfold TryFRed
    dsimp only
    go_enter Try.func101, Try.ntmps101
    go_wp2
    refine bodyPost_ret (v := redV i.red) (by simp [results, Try.results101, go_sem, redV]) rfl ⟨rfl, ?_⟩
    exact (by repeat (first | (with_reducible exact Below.refl _ _) | (with_reducible exact Below.refl _ _) | (with_reducible refine Below.setCell ?_ (by first | omega | (simp; done) | (simp; omega)) _) | (with_reducible refine Below.alloc ?_ (by first | omega | (simp; done) | (simp; omega)) _) | (with_reducible refine Below.drew ?_) | (with_reducible refine below_drewN ?_ _)))
def mayItem (x : ItemD) : Bool := decide (x.value.length ≤ 100) && (x.int || decide (x.n = 0))
def mayKid (x : KidD) : Bool := decide (1 ≤ x.at_) && (decide (x.at_ < 524288) && (decide (1 ≤ x.red.c) && x.red.ok))
theorem Try_mayItem {S : Nat → Prop} {u : Value} {i : ItemD} {w : World} (h : TryItemU w S u i) :
    Calls Try.prog 92 #[u] w fun e w' => e = .returned (.bool (mayItem i)) ∧ Below w.heap.size w w' := by
  obtain ⟨ka, kl, kc, va, vl, vc, h1, _, h3, h4⟩ := h
  subst h1
  have hl := h3.at_.hlen
  obtain ⟨r, hr⟩ : ∃ r, mayItem i = r := ⟨_, rfl⟩
  rw [hr]
  unfold mayItem at hr
  rw [hl] at hr
  have HR := Lib.hid hr
  clear hr h3 h4 hl
  obtain ⟨key, value, int, n⟩ := i
  dsimp only at *
  cases int with
  | true =>
    go_enter Try.func92, Try.ntmps92
    go_wp2
    all_goals
      go_ret
      refine ⟨?_, (by repeat (first | (with_reducible exact Below.refl _ _) | (with_reducible exact Below.refl _ _) | (with_reducible refine Below.setCell ?_ (by first | omega | (simp; done) | (simp; omega)) _) | (with_reducible refine Below.alloc ?_ (by first | omega | (simp; done) | (simp; omega)) _) | (with_reducible refine Below.drew ?_) | (with_reducible refine below_drewN ?_ _)))⟩
      rw [← HR.out]
      simp [*] <;> first | omega | (rw [Bool.eq_iff_iff]; simp; done) | (rw [Bool.eq_iff_iff]; simp; omega)
  | false =>
    go_enter Try.func92, Try.ntmps92
    go_wp2
    all_goals
      go_ret
      refine ⟨?_, (by repeat (first | (with_reducible exact Below.refl _ _) | (with_reducible exact Below.refl _ _) | (with_reducible refine Below.setCell ?_ (by first | omega | (simp; done) | (simp; omega)) _) | (with_reducible refine Below.alloc ?_ (by first | omega | (simp; done) | (simp; omega)) _) | (with_reducible refine Below.drew ?_) | (with_reducible refine below_drewN ?_ _)))⟩
      rw [← HR.out]
      simp [*] <;> first | omega | (rw [Bool.eq_iff_iff]; simp; done) | (rw [Bool.eq_iff_iff]; simp; omega)
theorem Try_mayKid {S : Nat → Prop} {u : Value} {k : KidD} {w : World} (h : TryKidU w S u k) :
    Calls Try.prog 99 #[u] w fun e w' => e = .returned (.bool (mayKid k)) ∧ Below w.heap.size w w' := by
  obtain ⟨ka, kl, kc, h1, _, h3, h4⟩ := h
  subst h1
  have hl : I64 k.red.l := h4.2.2.1
  have hm : I64 k.red.m := h4.2.2.2
  obtain ⟨r, hr⟩ : ∃ r, mayKid k = r := ⟨_, rfl⟩
  rw [hr]
  unfold mayKid at hr
  have HR := Lib.hid hr
  clear hr h3 h4
  obtain ⟨key, at_, red⟩ := k
  dsimp only at *
  by_cases g1 : 1 ≤ at_
  · by_cases g2 : at_ < 524288
    · by_cases g3 : 1 ≤ red.c
      · go_enter Try.func99, Try.ntmps99
        go_wp2_with fail
        (with_reducible refine (Try_mCheck red _ hl hm).mono ?_); rintro e w1 ⟨rfl, hb⟩
        cases hok : red.ok with
        | true =>
          have e0 : redE true = 0 := rfl
          go_wp2
          go_ret
          exact ⟨ret_bool (by rw [← HR.out, hok]; simp; omega), (by repeat (first | (with_reducible exact Below.refl _ _) | (with_reducible exact Below.refl _ _) | (with_reducible refine Below.setCell ?_ (by first | omega | (simp; done) | (simp; omega)) _) | (with_reducible refine Below.alloc ?_ (by first | omega | (simp; done) | (simp; omega)) _) | (with_reducible refine Below.drew ?_) | (with_reducible refine below_drewN ?_ _) | (with_reducible refine Below.trans ?_ (hb.mono (by first | omega | (simp; done) | (simp; omega))))))⟩
        | false =>
          have e0 : redE false = 230 := rfl
          go_wp2
          go_ret
          exact ⟨ret_bool (by rw [← HR.out, hok]; simp), (by repeat (first | (with_reducible exact Below.refl _ _) | (with_reducible exact Below.refl _ _) | (with_reducible refine Below.setCell ?_ (by first | omega | (simp; done) | (simp; omega)) _) | (with_reducible refine Below.alloc ?_ (by first | omega | (simp; done) | (simp; omega)) _) | (with_reducible refine Below.drew ?_) | (with_reducible refine below_drewN ?_ _) | (with_reducible refine Below.trans ?_ (hb.mono (by first | omega | (simp; done) | (simp; omega))))))⟩
      · have e : r = false := by rw [← HR.out]; simp; omega
        subst e
        go_enter Try.func99, Try.ntmps99
        go_wp2
        go_ret
        exact ⟨rfl, (by repeat (first | (with_reducible exact Below.refl _ _) | (with_reducible exact Below.refl _ _) | (with_reducible refine Below.setCell ?_ (by first | omega | (simp; done) | (simp; omega)) _) | (with_reducible refine Below.alloc ?_ (by first | omega | (simp; done) | (simp; omega)) _) | (with_reducible refine Below.drew ?_) | (with_reducible refine below_drewN ?_ _)))⟩
    · have e : r = false := by rw [← HR.out]; simp; omega
      subst e
      go_enter Try.func99, Try.ntmps99
      go_wp2
      go_ret
      exact ⟨rfl, (by repeat (first | (with_reducible exact Below.refl _ _) | (with_reducible exact Below.refl _ _) | (with_reducible refine Below.setCell ?_ (by first | omega | (simp; done) | (simp; omega)) _) | (with_reducible refine Below.alloc ?_ (by first | omega | (simp; done) | (simp; omega)) _) | (with_reducible refine Below.drew ?_) | (with_reducible refine below_drewN ?_ _)))⟩
  · have e : r = false := by rw [← HR.out]; simp; omega
    subst e
    go_enter Try.func99, Try.ntmps99
    go_wp2
    go_ret
    exact ⟨rfl, (by repeat (first | (with_reducible exact Below.refl _ _) | (with_reducible exact Below.refl _ _) | (with_reducible refine Below.setCell ?_ (by first | omega | (simp; done) | (simp; omega)) _) | (with_reducible refine Below.alloc ?_ (by first | omega | (simp; done) | (simp; omega)) _) | (with_reducible refine Below.drew ?_) | (with_reducible refine below_drewN ?_ _)))⟩
theorem Try_may {S : Nat → Prop} {u : Value} {x : PartD} {w : World} (h : TryPartU w S u x) :
    Calls Try.prog (TryFMay x) #[u] w fun e w' => e = .returned (.bool (pMay x)) ∧ Below w.heap.size w w' := by
  cases x with
  | inl i => exact Try_mayItem h
  | inr k => exact Try_mayKid h
end Go.Proofs.Ytfhhcpolicdfpaa

namespace Go.Proofs.Ytfhhcpolicdfpaa
set_option linter.unusedVariables false
set_option linter.unusedSimpArgs false
open Go.RowKit Go.Dav
attribute [local go_sem] Gives ite_val ite_val_true

theorem Try_infoPart : (Try.prog.info? 74).map (fun i => (i.zero, i.size, i.bytes)) = some (some .nilIface, 1, 16) := by kernel_rfl
theorem Try_elemPart : Elem1 Try.prog 70 74 16 := by
  obtain ⟨i0, hi, hz0, hz1, hz2⟩ := info_parts Try_infoPart
  exact ⟨Try.underlying70, i0, _, hi, hz0, hz1, hz2, rfl⟩

/-- Parts, one behind the other, in blocks of T; what they are made of lies in blocks of S. -/
structure TryPartsS (W : World) (S T : Nat → Prop) (a : Option Addr) (n c : Nat) (L : List PartD) : Prop where
  hlen : L.length = n
  hcap : n ≤ c
  hmax : c ≤ maxLen
  hnil : a = none → c = 0
  hat : ∀ k x, L[k]? = some x → ∃ b o u, a = some ⟨b, o, none⟩ ∧ b < W.heap.size ∧ T b ∧ W.cell? ⟨b, o + k, none⟩ = some (.iface (TryTy x) u) ∧ TryPartU W S u x
theorem TryPartsS.same {W W' : World} {S T : Nat → Prop} {a : Option Addr} {n c : Nat} {L : List PartD} (h : TryPartsS W S T a n c L) (hs : W.heap.size ≤ W'.heap.size) (hb : ∀ b, S b → b < W.heap.size → W'.heap[b]? = W.heap[b]?) (hb2 : ∀ b, T b → b < W.heap.size → W'.heap[b]? = W.heap[b]?) : TryPartsS W' S T a n c L :=
  ⟨h.hlen, h.hcap, h.hmax, h.hnil, fun k x hk => by
    obtain ⟨b, o, u, h1, h2, h3, h4, h5⟩ := h.hat k x hk
    exact ⟨b, o, u, h1, by omega, h3, (World.cell?_of_block (a := ⟨b, o + k, none⟩) (hb2 b h3 h2)).trans h4, h5.same hs hb⟩⟩
theorem TryPartsS.ext {W W' : World} {S T : Nat → Prop} {a : Option Addr} {n c : Nat} {L : List PartD} (h : TryPartsS W S T a n c L) (hb : Below W.heap.size W W') : TryPartsS W' S T a n c L := h.same hb.size (fun b _ h2 => hb.block b h2) (fun b _ h2 => hb.block b h2)

theorem items_open {W : World} {S : Nat → Prop} {a : Option Addr} {n c : Nat} {l : List ItemD} (h : ItemsS W S a n c l) : ∃ us : List Value, us.length = n ∧ ∀ k x, l[k]? = some x → ∃ b o ka kl kc va vl vc, a = some ⟨b, o, none⟩ ∧ b < W.heap.size ∧ W.cell? ⟨b, o + k * 4, none⟩ = some (.slice ka kl kc) ∧ W.cell? ⟨b, o + k * 4 + 1, none⟩ = some (.slice va vl vc) ∧ W.cell? ⟨b, o + k * 4 + 2, none⟩ = some (.bool x.int) ∧ W.cell? ⟨b, o + k * 4 + 3, none⟩ = some (.int .i64 x.n) ∧ us[k]? = some (.agg #[.slice ka kl kc, .slice va vl vc, .bool x.int, .int .i64 x.n]) ∧ BytesS W S ka kl kc x.key ∧ BytesS W S va vl vc x.value ∧ I64 x.n := by
  have key : ∀ m, m ≤ l.length → ∃ us : List Value, us.length = m ∧ ∀ k x, k < m → l[k]? = some x → ∃ b o ka kl kc va vl vc, a = some ⟨b, o, none⟩ ∧ b < W.heap.size ∧ W.cell? ⟨b, o + k * 4, none⟩ = some (.slice ka kl kc) ∧ W.cell? ⟨b, o + k * 4 + 1, none⟩ = some (.slice va vl vc) ∧ W.cell? ⟨b, o + k * 4 + 2, none⟩ = some (.bool x.int) ∧ W.cell? ⟨b, o + k * 4 + 3, none⟩ = some (.int .i64 x.n) ∧ us[k]? = some (.agg #[.slice ka kl kc, .slice va vl vc, .bool x.int, .int .i64 x.n]) ∧ BytesS W S ka kl kc x.key ∧ BytesS W S va vl vc x.value ∧ I64 x.n := by
    intro m
    induction m with
    | zero => intro _; exact ⟨[], rfl, fun k x hk => by omega⟩
    | succ m ih =>
      intro hm
      obtain ⟨us, hl, hu⟩ := ih (by omega)
      obtain ⟨b, o, ka, kl, kc, va, vl, vc, h1, h2, h3, c0, c1, c2, c3, h4, h5, h6⟩ := h.hat m l[m] (List.getElem?_eq_getElem hm)
      refine ⟨us ++ [.agg #[.slice ka kl kc, .slice va vl vc, .bool l[m].int, .int .i64 l[m].n]], by simp [hl], fun k x hk hx => ?_⟩
      by_cases hkm : k < m
      · obtain ⟨b, o, ka, kl, kc, va, vl, vc, h1, h2, c0, c1, c2, c3, h3, h4, h5, h6⟩ := hu k x hkm hx
        exact ⟨b, o, ka, kl, kc, va, vl, vc, h1, h2, c0, c1, c2, c3, by rw [List.getElem?_append_left (by omega)]; exact h3, h4, h5, h6⟩
      · obtain rfl : k = m := by omega
        rw [List.getElem?_eq_getElem hm] at hx
        cases hx
        exact ⟨b, o, ka, kl, kc, va, vl, vc, h1, h2, c0, c1, c2, c3, by rw [List.getElem?_append_right (by omega), hl, Nat.sub_self]; rfl, h4, h5, h6⟩
  obtain ⟨us, h1, h2⟩ := key l.length (Nat.le_refl _)
  exact ⟨us, by rw [h1, h.hlen], fun k x hx => h2 k x (List.getElem?_eq_some_iff.1 hx).1 hx⟩
theorem kids_open {W : World} {S : Nat → Prop} {a : Option Addr} {n c : Nat} {l : List KidD} (h : KidsS W S a n c l) : ∃ us : List Value, us.length = n ∧ ∀ k x, l[k]? = some x → ∃ b o ka kl kc, a = some ⟨b, o, none⟩ ∧ b < W.heap.size ∧ W.cell? ⟨b, o + k * 8, none⟩ = some (.slice ka kl kc) ∧ W.cell? ⟨b, o + k * 8 + 1, none⟩ = some (.int .i64 x.at_) ∧ W.cell? ⟨b, o + k * 8 + 2, none⟩ = some (.int .i64 x.red.c) ∧ W.cell? ⟨b, o + k * 8 + 3, none⟩ = some (.int .i64 x.red.n) ∧ W.cell? ⟨b, o + k * 8 + 4, none⟩ = some (.int .i64 (hi x.red.s)) ∧ W.cell? ⟨b, o + k * 8 + 5, none⟩ = some (.int .u64 (lo x.red.s)) ∧ W.cell? ⟨b, o + k * 8 + 6, none⟩ = some (.int .i64 x.red.l) ∧ W.cell? ⟨b, o + k * 8 + 7, none⟩ = some (.int .i64 x.red.m) ∧ us[k]? = some (.agg #[.slice ka kl kc, .int .i64 x.at_, .int .i64 x.red.c, .int .i64 x.red.n, .int .i64 (hi x.red.s), .int .u64 (lo x.red.s), .int .i64 x.red.l, .int .i64 x.red.m]) ∧ BytesS W S ka kl kc x.key ∧ I64 x.at_ ∧ x.red.fits := by
  have key : ∀ m, m ≤ l.length → ∃ us : List Value, us.length = m ∧ ∀ k x, k < m → l[k]? = some x → ∃ b o ka kl kc, a = some ⟨b, o, none⟩ ∧ b < W.heap.size ∧ W.cell? ⟨b, o + k * 8, none⟩ = some (.slice ka kl kc) ∧ W.cell? ⟨b, o + k * 8 + 1, none⟩ = some (.int .i64 x.at_) ∧ W.cell? ⟨b, o + k * 8 + 2, none⟩ = some (.int .i64 x.red.c) ∧ W.cell? ⟨b, o + k * 8 + 3, none⟩ = some (.int .i64 x.red.n) ∧ W.cell? ⟨b, o + k * 8 + 4, none⟩ = some (.int .i64 (hi x.red.s)) ∧ W.cell? ⟨b, o + k * 8 + 5, none⟩ = some (.int .u64 (lo x.red.s)) ∧ W.cell? ⟨b, o + k * 8 + 6, none⟩ = some (.int .i64 x.red.l) ∧ W.cell? ⟨b, o + k * 8 + 7, none⟩ = some (.int .i64 x.red.m) ∧ us[k]? = some (.agg #[.slice ka kl kc, .int .i64 x.at_, .int .i64 x.red.c, .int .i64 x.red.n, .int .i64 (hi x.red.s), .int .u64 (lo x.red.s), .int .i64 x.red.l, .int .i64 x.red.m]) ∧ BytesS W S ka kl kc x.key ∧ I64 x.at_ ∧ x.red.fits := by
    intro m
    induction m with
    | zero => intro _; exact ⟨[], rfl, fun k x hk => by omega⟩
    | succ m ih =>
      intro hm
      obtain ⟨us, hl, hu⟩ := ih (by omega)
      obtain ⟨b, o, ka, kl, kc, h1, h2, h3, c0, c1, c2, c3, c4, c5, c6, c7, h4, h5, h6⟩ := h.hat m l[m] (List.getElem?_eq_getElem hm)
      refine ⟨us ++ [.agg #[.slice ka kl kc, .int .i64 l[m].at_, .int .i64 l[m].red.c, .int .i64 l[m].red.n, .int .i64 (hi l[m].red.s), .int .u64 (lo l[m].red.s), .int .i64 l[m].red.l, .int .i64 l[m].red.m]], by simp [hl], fun k x hk hx => ?_⟩
      by_cases hkm : k < m
      · obtain ⟨b, o, ka, kl, kc, h1, h2, c0, c1, c2, c3, c4, c5, c6, c7, h3, h4, h5, h6⟩ := hu k x hkm hx
        exact ⟨b, o, ka, kl, kc, h1, h2, c0, c1, c2, c3, c4, c5, c6, c7, by rw [List.getElem?_append_left (by omega)]; exact h3, h4, h5, h6⟩
      · obtain rfl : k = m := by omega
        rw [List.getElem?_eq_getElem hm] at hx
        cases hx
        exact ⟨b, o, ka, kl, kc, h1, h2, c0, c1, c2, c3, c4, c5, c6, c7, by rw [List.getElem?_append_right (by omega), hl, Nat.sub_self]; rfl, h4, h5, h6⟩
  obtain ⟨us, h1, h2⟩ := key l.length (Nat.le_refl _)
  exact ⟨us, by rw [h1, h.hlen], fun k x hx => h2 k x (List.getElem?_eq_some_iff.1 hx).1 hx⟩

def TryPartsRel (w : World) (n : Nat) (t : TypeId) (us : List Value) (cs : List Value) (ix v : Value) (wr : World) : Prop :=
  ∃ k : Nat, k ≤ n ∧ ix = .int .i64 k ∧ wr.ownsRow (w.heap.size + 1) 74 1 v k ((us.take k).map (Value.iface t)) ∧ Below (w.heap.size + 1) (w.alloc (.cells cs.toArray 28)) wr
/-- The parts are handed back, in new memory. -/
def TryGivesParts (w : World) (S : Nat → Prop) (N : NodeD) (e : Ending) (w' : World) : Prop :=
  ∃ a n c, e = .returned (.tuple #[.slice a n c, .int .i64 (leastOf N : Int)]) ∧ TryPartsS w' S (fun b => w.heap.size ≤ b) a n c (partsOf N) ∧ Below w.heap.size w w'
theorem own_parts {w0 W : World} {base e n : Nat} {v : Value} {xs : List Value} (h : W.ownsRow base e 1 v n xs) : ∃ a c, v = .slice a n c ∧ CellsS W (fun b => base ≤ b) a n xs ∧ n ≤ c ∧ c ≤ maxLen ∧ (a = none → c = 0) := by
  obtain ⟨a, cap, h1, h2, h3, h4, h5⟩ := own_cells h
  exact ⟨a, cap, h1, h5, h2, h3, h4⟩

set_option maxRecDepth 8000 in
set_option maxHeartbeats 4000000 in
theorem Try_parts_leaf (N : NodeD) (ia ka : Option Addr) (il ic kl kc : Nat) (S : Nat → Prop) (w : World) (hN : NodeS w S ia il ic ka kl kc N) (hf : N.leaf = true) (h6 : N.items.length ≤ 6) :
    Calls Try.prog 39 #[.agg #[.bool true, .slice ia il ic, .slice ka kl kc]] w (TryGivesParts w S N) := by
  obtain ⟨us, hul, hus⟩ := items_open hN.items
  have hlen := hN.items.hlen
  have hil : il ≤ 6 := by omega
  have HU := Lib.hid hus
  have HL := Lib.hid hul
  have HN := Lib.hid hN
  have HH := Lib.hid hlen
  have hnilI := hN.items.hnil
  have HNI := Lib.hid hnilI
  clear hus hul hN hlen hnilI
  go_enter Try.func39, Try.ntmps39
  go_wp2_with fail
  go_loopw [13, 2] (fun ix v wr => TryPartsRel w il 100 us [.bool true, .slice ia il ic, .slice ka kl kc] ix v wr) (fun ix _ _ => il - (intOf ix).toNat)
  case atStart => exact ⟨0, Nat.zero_le _, rfl, World.ownsRow_nil _ _ _ _, Below.refl _ _⟩
  case round =>
    obtain ⟨k, hk, rfl, hown, hbel⟩ := hrel
    have hbs := hbel.size
    simp only [World.size_alloc] at hbs
    have HOW := Lib.hid hown
    have HB := Lib.hid hbel
    clear hown hbel
    by_cases hlt : k < il
    · obtain ⟨x, hx⟩ : ∃ x, N.items[k]? = some x := ⟨_, List.getElem?_eq_getElem (by have := HH.out; omega)⟩
      obtain ⟨b, o, ka', kl', kc', va, vl, vc, rfl, hb, c0, c1, c2, c3, hu, h4, h5, h6⟩ := HU.out k x hx
      have hcell := fun j => ((Below.refl w.heap.size w).alloc (Nat.le_refl _) (.cells #[.bool true, .slice (some ⟨b, o, none⟩) il ic, .slice ka kl kc] 28)).trans (HB.out.mono (Nat.le_succ _)) |>.cell (p := ⟨b, o + k * 4 + j, none⟩) hb
      have d0 := (hcell 0).trans c0
      have d1 := (hcell 1).trans c1
      have d2 := (hcell 2).trans c2
      have d3 := (hcell 3).trans c3
      rw [Nat.add_zero] at d0
      have hkl : (k : Int) < (il : Int) := by omega
      have hbw : b < wr.heap.size := by omega
      have HK := Lib.hid hu
      have HLT := Lib.hid hlt
      have HC := Lib.hid (cells_one (W := (wr.alloc (.cells #[.slice ka' kl' kc', .slice va vl vc, .bool x.int, .int .i64 x.n] 56)).alloc (.cells #[.iface 100 (.agg #[.slice ka' kl' kc', .slice va vl vc, .bool x.int, .int .i64 x.n])] 74)) (S := fun b => wr.heap.size + 1 ≤ b) (g := wr.heap.size + 1) (v := .iface 100 (.agg #[.slice ka' kl' kc', .slice va vl vc, .bool x.int, .int .i64 x.n])) (Nat.le_refl _) (by simp) ((Blk.new' _ [_] _ (by simp)).cell 0 rfl))
      clear hcell c0 c1 c2 c3 hu h4 h5 h6 hk hlt hx
      go_wp2_with (at_builtin; refine wpList_append_rowS rfl (.tmp 17) (.tmp 20) 70 rfl Try_elemPart (w.heap.size + 1) _ k ((us.take k).map (Value.iface 100)) rfl ((HOW.out.alloc _).alloc _) (fun b => wr.heap.size + 1 ≤ b) (some ⟨wr.heap.size + 1, 0, none⟩) 1 1 [.iface 100 (.agg #[.slice ka' kl' kc', .slice va vl vc, .bool x.int, .int .i64 x.n])] rfl HC.out (fun u hu => by simp at hu; subst hu; rfl) (fun h => by cases h) (by unfold maxLen; omega) (by omega) (by simp; omega) ?_; intro v1 w1 hown1 hgrow1)
      have bel1 := ((HB.out.alloc (by omega) (.cells #[.slice ka' kl' kc', .slice va vl vc, .bool x.int, .int .i64 x.n] 56)).alloc (by simp; omega) (.cells #[.iface 100 (.agg #[.slice ka' kl' kc', .slice va vl vc, .bool x.int, .int .i64 x.n])] 74)).grown hgrow1 (by simp; omega) (fun k hk => (HOW.out.lt k hk).1)
      have e1 : (us.take k).map (Value.iface 100) ++ [.iface 100 (.agg #[.slice ka' kl' kc', .slice va vl vc, .bool x.int, .int .i64 x.n])] = (us.take (k + 1)).map (Value.iface 100) := by rw [List.take_add_one, HK.out]; simp
      rw [e1] at hown1
      clear e1 HC
      go_roundw
      case rel => exact ⟨k + 1, HLT.out, by go_num, hown1, bel1⟩
      case measure => simp [intOf]; omega
    · obtain rfl : k = il := by omega
      have hk3 : ¬ ((k : Int) < (k : Int)) := by omega
      have hown := HOW.out
      have e0 := HL.out
      rw [List.take_of_length_le (by omega)] at hown
      have E0 := Lib.hid e0
      obtain ⟨pa, pc, rfl, hcs, g1, g2, g3⟩ := own_parts (w0 := w) hown
      have HCS := Lib.hid hcs
      have g4 := Lib.hid g3
      clear hk hlt hown e0 hcs g3
      go_wp2
      go_ret2
      have hb2 : Below w.heap.size w wr := ((Below.refl _ w).alloc (Nat.le_refl _) _).trans (HB.out.mono (by omega))
      refine ⟨pa, k, pc, ?_, ⟨?_, g1, g2, g4.out, fun i x hx => ?_⟩, hb2⟩
      · unfold leastOf; rw [if_pos hf]; rfl
      · unfold partsOf; rw [if_pos hf, List.length_map, HH.out]
      · unfold partsOf at hx
        rw [if_pos hf, List.getElem?_map] at hx
        obtain ⟨y, hy, rfl⟩ := Option.map_eq_some_iff.1 hx
        obtain ⟨b, o, ka', kl', kc', va, vl, vc, _, _, _, _, _, _, hu, h4, h5, h6⟩ := HU.out i y hy
        obtain ⟨b2, o2, h7, h8, h9, h10⟩ := HCS.out.at_ i (.iface 100 (.agg #[.slice ka' kl' kc', .slice va vl vc, .bool y.int, .int .i64 y.n])) (by rw [List.getElem?_map, hu]; rfl)
        exact ⟨b2, o2, _, h7, h8, by omega, h10, ka', kl', kc', va, vl, vc, rfl, h4.ext hb2, h5.ext hb2, h6⟩
set_option maxRecDepth 8000 in
set_option maxHeartbeats 4000000 in
theorem Try_parts_inner (N : NodeD) (ia ka : Option Addr) (il ic kl kc : Nat) (S : Nat → Prop) (w : World) (hN : NodeS w S ia il ic ka kl kc N) (hf : N.leaf = false) (h6 : N.kids.length ≤ 6) :
    Calls Try.prog 39 #[.agg #[.bool false, .slice ia il ic, .slice ka kl kc]] w (TryGivesParts w S N) := by
  obtain ⟨us, hul, hus⟩ := kids_open hN.kids
  have hlen := hN.kids.hlen
  have hil : kl ≤ 6 := by omega
  have HU := Lib.hid hus
  have HL := Lib.hid hul
  have HN := Lib.hid hN
  have HH := Lib.hid hlen
  have hnilI := hN.kids.hnil
  have HNI := Lib.hid hnilI
  clear hus hul hN hlen hnilI
  go_enter Try.func39, Try.ntmps39
  go_wp2_with fail
  go_loopw [27, 2] (fun ix v wr => TryPartsRel w kl 101 us [.bool false, .slice ia il ic, .slice ka kl kc] ix v wr) (fun ix _ _ => kl - (intOf ix).toNat)
  case atStart => exact ⟨0, Nat.zero_le _, rfl, World.ownsRow_nil _ _ _ _, Below.refl _ _⟩
  case round =>
    obtain ⟨k, hk, rfl, hown, hbel⟩ := hrel
    have hbs := hbel.size
    simp only [World.size_alloc] at hbs
    have HOW := Lib.hid hown
    have HB := Lib.hid hbel
    clear hown hbel
    by_cases hlt : k < kl
    · obtain ⟨x, hx⟩ : ∃ x, N.kids[k]? = some x := ⟨_, List.getElem?_eq_getElem (by have := HH.out; omega)⟩
      obtain ⟨b, o, ka', kl', kc', rfl, hb, c0, c1, c2, c3, c4, c5, c6, c7, hu, h4, h5, h6⟩ := HU.out k x hx
      have hcell := fun j => ((Below.refl w.heap.size w).alloc (Nat.le_refl _) (.cells #[.bool false, .slice ia il ic, .slice (some ⟨b, o, none⟩) kl kc] 28)).trans (HB.out.mono (Nat.le_succ _)) |>.cell (p := ⟨b, o + k * 8 + j, none⟩) hb
      have d0 := (hcell 0).trans c0
      have d1 := (hcell 1).trans c1
      have d2 := (hcell 2).trans c2
      have d3 := (hcell 3).trans c3
      have d4 := (hcell 4).trans c4
      have d5 := (hcell 5).trans c5
      have d6 := (hcell 6).trans c6
      have d7 := (hcell 7).trans c7
      rw [Nat.add_zero] at d0
      have hkl : (k : Int) < (kl : Int) := by omega
      have hbw : b < wr.heap.size := by omega
      have HK := Lib.hid hu
      have HLT := Lib.hid hlt
      have HC := Lib.hid (cells_one (W := (wr.alloc (.cells #[.slice ka' kl' kc', .int .i64 x.at_, .int .i64 x.red.c, .int .i64 x.red.n, .int .i64 (hi x.red.s), .int .u64 (lo x.red.s), .int .i64 x.red.l, .int .i64 x.red.m] 58)).alloc (.cells #[.iface 101 (.agg #[.slice ka' kl' kc', .int .i64 x.at_, .int .i64 x.red.c, .int .i64 x.red.n, .int .i64 (hi x.red.s), .int .u64 (lo x.red.s), .int .i64 x.red.l, .int .i64 x.red.m])] 74)) (S := fun b => wr.heap.size + 1 ≤ b) (g := wr.heap.size + 1) (v := .iface 101 (.agg #[.slice ka' kl' kc', .int .i64 x.at_, .int .i64 x.red.c, .int .i64 x.red.n, .int .i64 (hi x.red.s), .int .u64 (lo x.red.s), .int .i64 x.red.l, .int .i64 x.red.m])) (Nat.le_refl _) (by simp) ((Blk.new' _ [_] _ (by simp)).cell 0 rfl))
      clear hcell c0 c1 c2 c3 c4 c5 c6 c7 hu h4 h5 h6 hk hlt hx
      go_wp2_with (at_builtin; refine wpList_append_rowS rfl (.tmp 31) (.tmp 34) 70 rfl Try_elemPart (w.heap.size + 1) _ k ((us.take k).map (Value.iface 101)) rfl ((HOW.out.alloc _).alloc _) (fun b => wr.heap.size + 1 ≤ b) (some ⟨wr.heap.size + 1, 0, none⟩) 1 1 [.iface 101 (.agg #[.slice ka' kl' kc', .int .i64 x.at_, .int .i64 x.red.c, .int .i64 x.red.n, .int .i64 (hi x.red.s), .int .u64 (lo x.red.s), .int .i64 x.red.l, .int .i64 x.red.m])] rfl HC.out (fun u hu => by simp at hu; subst hu; rfl) (fun h => by cases h) (by unfold maxLen; omega) (by omega) (by simp; omega) ?_; intro v1 w1 hown1 hgrow1)
      have bel1 := ((HB.out.alloc (by omega) (.cells #[.slice ka' kl' kc', .int .i64 x.at_, .int .i64 x.red.c, .int .i64 x.red.n, .int .i64 (hi x.red.s), .int .u64 (lo x.red.s), .int .i64 x.red.l, .int .i64 x.red.m] 58)).alloc (by simp; omega) (.cells #[.iface 101 (.agg #[.slice ka' kl' kc', .int .i64 x.at_, .int .i64 x.red.c, .int .i64 x.red.n, .int .i64 (hi x.red.s), .int .u64 (lo x.red.s), .int .i64 x.red.l, .int .i64 x.red.m])] 74)).grown hgrow1 (by simp; omega) (fun k hk => (HOW.out.lt k hk).1)
      have e1 : (us.take k).map (Value.iface 101) ++ [.iface 101 (.agg #[.slice ka' kl' kc', .int .i64 x.at_, .int .i64 x.red.c, .int .i64 x.red.n, .int .i64 (hi x.red.s), .int .u64 (lo x.red.s), .int .i64 x.red.l, .int .i64 x.red.m])] = (us.take (k + 1)).map (Value.iface 101) := by rw [List.take_add_one, HK.out]; simp
      rw [e1] at hown1
      clear e1 HC
      go_roundw
      case rel => exact ⟨k + 1, HLT.out, by go_num, hown1, bel1⟩
      case measure => simp [intOf]; omega
    · obtain rfl : k = kl := by omega
      have hk3 : ¬ ((k : Int) < (k : Int)) := by omega
      have hown := HOW.out
      have e0 := HL.out
      rw [List.take_of_length_le (by omega)] at hown
      have E0 := Lib.hid e0
      obtain ⟨pa, pc, rfl, hcs, g1, g2, g3⟩ := own_parts (w0 := w) hown
      have HCS := Lib.hid hcs
      have g4 := Lib.hid g3
      clear hk hlt hown e0 hcs g3
      go_wp2
      go_ret2
      have hb2 : Below w.heap.size w wr := ((Below.refl _ w).alloc (Nat.le_refl _) _).trans (HB.out.mono (by omega))
      refine ⟨pa, k, pc, ?_, ⟨?_, g1, g2, g4.out, fun i x hx => ?_⟩, hb2⟩
      · unfold leastOf; rw [hf]; rfl
      · unfold partsOf; rw [hf, if_neg Bool.false_ne_true, List.length_map, HH.out]
      · unfold partsOf at hx
        rw [hf, if_neg Bool.false_ne_true, List.getElem?_map] at hx
        obtain ⟨y, hy, rfl⟩ := Option.map_eq_some_iff.1 hx
        obtain ⟨b, o, ka', kl', kc', _, _, _, _, _, _, _, _, _, _, hu, h4, h5, h6⟩ := HU.out i y hy
        obtain ⟨b2, o2, h7, h8, h9, h10⟩ := HCS.out.at_ i (.iface 101 (.agg #[.slice ka' kl' kc', .int .i64 y.at_, .int .i64 y.red.c, .int .i64 y.red.n, .int .i64 (hi y.red.s), .int .u64 (lo y.red.s), .int .i64 y.red.l, .int .i64 y.red.m])) (by rw [List.getElem?_map, hu]; rfl)
        exact ⟨b2, o2, _, h7, h8, by omega, h10, ka', kl', kc', rfl, h4.ext hb2, h5, h6⟩
/-- What a node's value is. -/
def nodeV (f : Bool) (ia : Option Addr) (il ic : Nat) (ka : Option Addr) (kl kc : Nat) : Value := .agg #[.bool f, .slice ia il ic, .slice ka kl kc]
theorem Try_parts (N : NodeD) (ia ka : Option Addr) (il ic kl kc : Nat) (S : Nat → Prop) (w : World) (hN : NodeS w S ia il ic ka kl kc N) (h6 : (partsOf N).length ≤ 6) :
    Calls Try.prog 39 #[.agg #[.bool N.leaf, .slice ia il ic, .slice ka kl kc]] w (TryGivesParts w S N) := by
  cases hf : N.leaf with
  | true => exact Try_parts_leaf N ia ka il ic kl kc S w hN hf (by unfold partsOf at h6; rw [if_pos hf, List.length_map] at h6; exact h6)
  | false => exact Try_parts_inner N ia ka il ic kl kc S w hN hf (by unfold partsOf at h6; rw [hf, if_neg Bool.false_ne_true, List.length_map] at h6; exact h6)
end Go.Proofs.Ytfhhcpolicdfpaa

namespace Go.Dav
set_option linter.unusedVariables false
set_option linter.unusedSimpArgs false
open Go Go.RowKit
theorem run_loadB (w : World) : ∀ (l : List UInt8) (a : Addr) (acc : ByteArray) {P : Program}, (∀ j x, l[j]? = some x → w.cell? (a.add j) = some (.int .u8 (x.toNat : Int))) →
    (Extern.Bytes.loadBytes a l.length acc).run P w = .ok ⟨acc.data ++ l.toArray⟩ w
  | [], a, acc, _, _ => by simp [Extern.Bytes.loadBytes]
  | x :: l, a, acc, P, h => by
    have h0 : w.cell? a = some (.int .u8 (x.toNat : Int)) := by
      have := h 0 x rfl
      simpa [Addr.add] using this
    have ih := run_loadB w l (a.add 1) (acc.push x) (P := P) (fun j y hy => by
      have := h (j + 1) y (by simpa using hy)
      have e : (a.add 1).add j = a.add (j + 1) := by
        unfold Addr.add
        by_cases hj : j = 0
        · subst hj; simp
        · simp [hj]; omega
      rw [e]; exact this)
    have hx : ((x.toNat : Int).toNat).toUInt8 = x := by simp
    simp only [List.length_cons, Extern.Bytes.loadBytes, Sem.run_bind, run_load, h0, Result.andThen, hx]
    rw [ih]
    congr 1
    apply ByteArray.ext
    simp [ByteArray.push]
theorem BytesAt.read {P : Program} {W : World} {a : Option Addr} {n c : Nat} {l : List UInt8} (h : BytesAt W a n c l) : (Extern.Bytes.bytesOf (.slice a n c)).run P W = .ok ⟨l.toArray⟩ W := by
  have hl := h.hlen
  subst hl
  cases a with
  | none =>
    have h0 := h.hnil rfl
    have h1 := h.hcap
    have : l = [] := List.length_eq_zero_iff.1 (by omega)
    subst this
    rfl
  | some a =>
    have := run_loadB W l a .empty (P := P) (fun j x hx => by
      obtain ⟨b, o, e, _, hc⟩ := h.hat j x hx
      cases e
      rw [show (⟨b, o, none⟩ : Addr).add j = ⟨b, o + j, none⟩ by unfold Addr.add; split <;> simp_all]
      exact hc)
    show (Extern.Bytes.loadBytes a l.length .empty).run P W = _
    rw [this]
    congr 1
    apply ByteArray.ext
    show (#[] : Array UInt8) ++ l.toArray = l.toArray
    simp
theorem run_compareS {P : Program} {W : World} {a b : Option Addr} {n c m d : Nat} {x y : List UInt8} (hx : BytesAt W a n c x) (hy : BytesAt W b m d y) :
    (Extern.BytealgCompare.compare #[.slice a n c, .slice b m d]).run P W = .ok (.int .i64 (Lib.compareBytes x y)) W := by
  change Sem.run P (do pure (goInt (Extern.BytealgCompare.cmp (← Extern.Bytes.bytesOf (.slice a n c)) (← Extern.Bytes.bytesOf (.slice b m d))))) W = _
  simp only [Sem.run_bind, Sem.run_pure, hx.read, hy.read, Result.andThen]
  rw [Lib.cmp_eq]
  rfl
theorem compare_ahead : ∀ (x y : List UInt8), (Lib.compareBytes x y < 0 ↔ aheadB x y = true) ∧ (Lib.compareBytes x y = 0 ↔ x = y) ∧ -1 ≤ Lib.compareBytes x y ∧ Lib.compareBytes x y ≤ 1
  | [], [] => by simp [Lib.compareBytes, aheadB]
  | [], _ :: _ => by simp [Lib.compareBytes, aheadB]
  | _ :: _, [] => by simp [Lib.compareBytes, aheadB]
  | a :: x, b :: y => by
    have ih := compare_ahead x y
    unfold Lib.compareBytes aheadB
    by_cases h : a = b
    · subst h
      have hl : ¬ a < a := UInt8.lt_irrefl a
      simp only [hl, if_false, if_true, List.cons.injEq, true_and]
      exact ih
    · rw [if_neg h]
      by_cases hl : a < b
      · rw [if_pos hl]
        have h2 : a.toNat < b.toNat := UInt8.lt_iff_toNat_lt.1 hl
        simp [h, h2]
      · rw [if_neg hl]
        have h2 : ¬ a.toNat < b.toNat := fun h => hl (UInt8.lt_iff_toNat_lt.2 h)
        have h3 : b < a := UInt8.lt_of_le_of_ne (UInt8.not_lt.1 hl) (Ne.symm h)
        rw [if_pos h3]
        simp [h, h2]
def nodeE (N : NodeD) : Int := if nodeOk N then 0 else 240
theorem nodeE_bad {N : NodeD} (h : checkB N = false) : nodeE N = 240 := by unfold nodeE; rw [← checkB_eq, h]; rfl
theorem nodeE_good {N : NodeD} (h : checkB N = true) : nodeE N = 0 := by unfold nodeE; rw [← checkB_eq, h]; rfl
theorem steps_bad {L : List PartD} {k : Nat} (hk : k < L.length) (h : stepB L k = false) : stepsTo L L.length = false := by
  unfold stepsTo
  rw [List.all_eq_false]
  exact ⟨k, List.mem_range.2 hk, by rw [h]; simp⟩
end Go.Dav
namespace Go.Proofs.Ytfhhcpolicdfpaa
set_option linter.unusedVariables false
set_option linter.unusedSimpArgs false
open Go.RowKit Go.Dav
attribute [local go_sem] ite_val ite_val_true

set_option maxRecDepth 100000 in
theorem Try_Compare (a b : Option Addr) (al ac bl bc : Nat) (x y : List UInt8) (w : World) (hx : BytesAt w a al ac x) (hy : BytesAt w b bl bc y) :
    Calls Try.prog 28 #[.slice a al ac, .slice b bl bc] w fun e w' => e = .returned (.int .i64 (Lib.compareBytes x y)) ∧ Below w.heap.size w w' := by
  have hr := run_compareS (P := Try.prog) hx hy
  clear hx hy
  go_enter Try.func28, Try.ntmps28
  go_wp2
  rw [run_callFunc_extern Try.func54 (by kernel_rfl) (by kernel_rfl) (by kernel_rfl) (e := Extern.BytealgCompare.compare) (by kernel_rfl), hr]
  simp only [Result.andThen]
  rw [Oper.upon_value]
  go_wp2
  go_ret
  exact ⟨rfl, Below.refl _ _⟩
end Go.Proofs.Ytfhhcpolicdfpaa
