/-
  Layer 10: copies: slices.Clone; the reference's All, walked.
-/
import Derived.Test.YtafigbomcgncnaaFilH
import Derived.Test.YtafigbomcgncnaaRow
namespace Go.Proofs.Ytafigbomcgncnaa
set_option linter.unusedVariables false
set_option linter.unusedSimpArgs false
open Go.RowKit Go.Dav
attribute [local go_sem] Gives ite_val ite_val_true

theorem Try_infoU8 : (Try.prog.info? 5).map (fun i => (i.zero, i.size, i.bytes)) = some (some (.int .u8 0), 1, 1) := by kernel_rfl
theorem Try_elemU8 : Elem1 Try.prog 22 5 1 := by
  obtain ⟨i0, hi, hz0, hz1, hz2⟩ := info_parts Try_infoU8
  exact ⟨Try.underlying22, i0, _, hi, hz0, hz1, hz2, rfl⟩
theorem Try_infoBytes : (Try.prog.info? 22).map (fun i => (i.zero, i.size, i.bytes)) = some (some (.slice none 0 0), 1, 24) := by kernel_rfl
theorem Try_elemBytes : Elem1 Try.prog 23 22 24 := by
  obtain ⟨i0, hi, hz0, hz1, hz2⟩ := info_parts Try_infoBytes
  exact ⟨Try.underlying23, i0, _, hi, hz0, hz1, hz2, rfl⟩

theorem Try_eqNil (w : World) (a : Option Addr) (n c : Nat) : (binOp .eql 22 (.slice a n c) (.slice none 0 0)).run Try.prog w = .ok (.bool a.isNone) w := Lib.run_eql_slice_nil w _ _ a n c 0 0 Try.underlying22

/-- Bytes are handed back, in new memory. -/
def GivesBytes (w : World) (x : List UInt8) (e : Ending) (w' : World) : Prop :=
  ∃ a n c, e = .returned (.slice a n c) ∧ BytesS w' (fun b => w.heap.size ≤ b) a n c x ∧ Below w.heap.size w w'

/-- Bytes are handed back, in a row of the call's own. -/
def GivesOwn (t : TypeId) (w : World) (x : List UInt8) (e : Ending) (w' : World) : Prop :=
  ∃ v, e = .returned v ∧ w'.ownsRow w.heap.size t 1 v x.length (u8s x) ∧ Below w.heap.size w w'

theorem own_bytes {w : World} {base e n : Nat} {v : Value} {l : List UInt8} (h : w.ownsRow base e 1 v n (u8s l)) (hn : n ≤ 140737488355328) : ∃ a c, v = .slice a n c ∧ BytesS w (fun b => base ≤ b) a n c l := by
  obtain ⟨a, cap, h1, h2, h3, h4, h5⟩ := own_cells h
  exact ⟨a, cap, h1, BytesS.of_cells h5 h2 h3 hn h4⟩

set_option maxHeartbeats 1000000 in
theorem Try_Clone (a : Option Addr) (al ac : Nat) (x : List UInt8) (S : Nat → Prop) (w : World) (hx : BytesS w S a al ac x) :
    Calls Try.prog 34 #[.slice a al ac] w (GivesBytes w x) := by
  cases a with
  | none =>
    have h0 := hx.at_.hnil rfl
    have h1 := hx.at_.hcap
    obtain rfl : al = 0 := by omega
    subst h0
    have hx0 : x = [] := List.length_eq_zero_iff.1 hx.at_.hlen
    subst hx0
    clear hx h1
    have knil := @Try_eqNil
    go_enter Try.func34, Try.ntmps34
    go_wp2
    go_ret
    exact ⟨none, 0, 0, rfl, BytesS.nil_, (by repeat (first | (with_reducible exact Below.refl _ _) | (with_reducible exact Below.refl _ _) | (with_reducible refine Below.setCell ?_ (by first | omega | (simp; done) | (simp; omega)) _) | (with_reducible refine Below.alloc ?_ (by first | omega | (simp; done) | (simp; omega)) _) | (with_reducible refine Below.drew ?_) | (with_reducible refine below_drewN ?_ _)))⟩
  | some ad =>
    have hc := (hx.cells.ext ((Below.refl _ w).alloc (Nat.le_refl _) (.cells #[] 5)))
    have hf := hx.at_.hfew
    have HX := Lib.hid hc
    clear hx hc
    have knil := @Try_eqNil
    go_enter Try.func34, Try.ntmps34
    have hown := World.ownsRow_made (e := 5) (size := 1) w #[] 0 (Nat.le_refl _) (by unfold maxLen; omega) rfl
    go_wp2_with (at_builtin; refine wpList_append_rowS rfl (.tmp 5) (.tmp 6) 22 rfl Try_elemU8 w.heap.size _ 0 [] rfl hown S (some ad) al ac (u8s x) rfl HX.out (u8s_one x) (fun h => by cases h) (by unfold maxLen; omega) (by omega) (by simp) ?_; intro v' w1 hown1 hgrow)
    rw [Nat.zero_add, List.nil_append] at hown1
    obtain ⟨a', c', rfl, hB⟩ := own_bytes hown1 hf
    have hbel : Below w.heap.size w w1 := ((Below.refl _ w).alloc (Nat.le_refl _) _).grown hgrow (by simp) (fun k hk => (hown.lt k hk).1)
    clear hown1 hgrow
    go_wp2
    go_ret
    exact ⟨a', al, c', rfl, hB, hbel⟩
/-- The bytes up to the k-th piece. -/
def allTo (F : FileD) (k : Nat) : List UInt8 := F.firm ++ (F.loose.take k).flatten
theorem allTo_succ {F : FileD} {k : Nat} {p : List UInt8} (h : F.loose[k]? = some p) : allTo F (k + 1) = allTo F k ++ p := by
  unfold allTo; rw [List.take_add_one, h]; simp
theorem allTo_len (F : FileD) (k : Nat) : (allTo F k).length = F.firm.length + sumTo F.loose k := by
  unfold allTo sumTo; simp [List.length_flatten]
theorem allTo_le (F : FileD) (k : Nat) : (allTo F k).length ≤ F.many := by
  rw [allTo_len]; have := sumTo_mono F.loose k; unfold FileD.many; omega
theorem allTo_all (F : FileD) : allTo F F.loose.length = F.all := by unfold allTo FileD.all; rw [List.take_length]

def TryAllRel (w : World) (F : FileD) (cs : List Value) (ix v : Value) (wr : World) : Prop :=
  ∃ k : Nat, k ≤ F.loose.length ∧ ix = .int .i64 k ∧ wr.ownsRow (w.heap.size + 1) 5 1 v (allTo F k).length (u8s (allTo F k)) ∧ Below (w.heap.size + 1) (w.alloc (.cells cs.toArray 25)) wr

end Go.Proofs.Ytafigbomcgncnaa
