/-
  How the statements' arguments are opened: bytes, pieces, files.
-/
import Derived.Test.YtafigbomcgncnaaRows
import Derived.Test.YtafigbomcgncnaaFilD
import Derived.Test.YtafigbomcgncnaaOpen
import Derived.WalkKit
import Derived.ProofKit
import Derived.OpenShut
import Derived.ShutString
import Derived.ChangeOld
import Derived.Below
import Derived.SizedLaws
namespace Go.Proofs.Ytafigbomcgncnaa
set_option linter.unusedVariables false
set_option linter.unusedSimpArgs false
open Go.ChangeShapes Go.WideShapes Go.ChangeAt Go.RowKit Go.Joins Go.Dav Go.Deep

/-- A list that answers at every place below n, where each place has an answer. -/
theorem Try_listOf {α : Type} {p : Nat → α → Prop} : ∀ (n : Nat), (∀ i, i < n → ∃ x, p i x) → ∃ l : List α, l.length = n ∧ ∀ i x, l[i]? = some x → p i x
  | 0, _ => ⟨[], rfl, fun i x h => by simp at h⟩
  | n + 1, h => by
    obtain ⟨l, hl, hp⟩ := Try_listOf (p := p) n (fun i hi => h i (by omega))
    obtain ⟨x, hx⟩ := h n (by omega)
    refine ⟨l ++ [x], by simp [hl], fun i y hy => ?_⟩
    by_cases hi : i < l.length
    · rw [List.getElem?_append_left hi] at hy; exact hp i y hy
    · rw [List.getElem?_append_right (by omega)] at hy
      have : i - l.length = 0 := by
        have := (List.getElem?_eq_some_iff.1 hy).1
        simp at this; omega
      rw [this] at hy
      have e : x = y := by simpa using hy
      have : i = n := by omega
      subst this e
      exact hx

theorem weightsAll_mem {H : Type} {P : Program} {e : TypeId} {n : Nat} : ∀ {ds : List (DataW H)} {i : Nat} {d : DataW H}, ds[i]? = some d → n ∈ d.weights P e → n ∈ DataW.weightsAll P e ds
  | d0 :: ds, 0, d, hd, hn => by
    simp only [List.getElem?_cons_zero, Option.some.injEq] at hd
    subst hd
    simp only [DataW.weightsAll, List.mem_append]
    exact .inl hn
  | d0 :: ds, i + 1, d, hd, hn => by
    simp only [List.getElem?_cons_succ] at hd
    simp only [DataW.weightsAll, List.mem_append]
    exact .inr (weightsAll_mem hd hn)
  | [], _, _, hd, _ => by simp at hd
theorem i64_wf {x : Int} (h : (Lit.int .i64 x).wf = true) : I64' x := by
  have := bounds_i64 h
  unfold I64'
  omega

section
variable {H : Type} {enc : TypeId × Value → H} {w : World} {base : Nat} {spare : Nat → Bool} {held : Bool}

set_option maxRecDepth 100000 in
theorem Try_bytes_open {fuel : Nat} {v : Value} {y : DataW H × List MemPlace} (h : DataW.trod enc Try.prog w base spare held fuel 22 [v] = some y) (hs : ∀ n ∈ y.1.weights Try.prog 22, n ≤ reachBytes) :
    ∃ (a : Option Addr) (len cap : Nat) (l : List UInt8), v = .slice a len cap ∧ BytesAt w a len cap l := by
  rcases open_slice1 Try.underlying22 (by kernel_rfl) h with ⟨hc, _⟩ | ⟨a, len, cap, m, n, V, D, Pl, hc, _, hl, hm, hmm, rfl, hi⟩
  · simp only [List.cons.injEq, and_true] at hc
    exact ⟨_, _, _, [], hc, BytesAt.nil_⟩
  · simp only [List.cons.injEq, and_true] at hc
    have hlm : len ≤ m := by rw [hmm]; split <;> omega
    have hb1 : Try.prog.bytesOf 5 = 1 := by kernel_rfl
    have hw := hs ((((List.range len).map D).length + ((List.range (m - len)).map fun j => D (len + j)).length) * Try.prog.bytesOf 5) (by simp [DataW.weights, Try.underlying22])
    rw [hb1] at hw
    simp only [List.length_map, List.length_range] at hw
    have key : ∀ i, i < len → ∃ x : UInt8, w.cell? (a.add i) = some (.int .u8 (x.toNat : Int)) := by
      intro i hil
      obtain ⟨h1, h2⟩ := hi i (by omega)
      obtain ⟨x, e, _, wf⟩ := DataW.trod_int Try.underlying5 h2
      simp only [List.cons.injEq, and_true] at e
      have hx := bounds_u8 wf
      refine ⟨UInt8.ofNat x.toNat, ?_⟩
      rw [h1, e]
      have : (UInt8.ofNat x.toNat).toNat = x.toNat := by rw [UInt8.toNat_ofNat']; omega
      rw [this]
      congr 2
      omega
    obtain ⟨l, hlen, hl2⟩ := Try_listOf len key
    refine ⟨some a, len, cap, l, hc, hlen, hl, hm, by unfold reachBytes at hw; omega, fun k x hk => ?_, fun e => by cases e⟩
    have hcell := hl2 k x hk
    obtain ⟨b, o, sp⟩ := a
    have hkl := (List.getElem?_eq_some_iff.1 hk).1
    have hsp := World.cell?_spot (hl2 0 _ (List.getElem?_eq_getElem (by omega : 0 < l.length)))
    have hsp : sp = none := by simpa [Addr.add] using hsp
    subst hsp
    rw [Addr.add_lit] at hcell
    exact ⟨b, o, rfl, World.block_lt_of_cell? _ _ hcell, hcell⟩

set_option maxRecDepth 100000 in
theorem Try_loose_open {fuel : Nat} {v : Value} {y : DataW H × List MemPlace} (h : DataW.trod enc Try.prog w base spare held fuel 23 [v] = some y) (hs : ∀ n ∈ y.1.weights Try.prog 23, n ≤ reachBytes) :
    ∃ (a : Option Addr) (len cap : Nat) (L : List (List UInt8)), v = .slice a len cap ∧ LooseAt w a len cap L := by
  rcases open_slice1 Try.underlying23 (by kernel_rfl) h with ⟨hc, _⟩ | ⟨a, len, cap, m, n, V, D, Pl, hc, _, hl, hm, hmm, rfl, hi⟩
  · simp only [List.cons.injEq, and_true] at hc
    exact ⟨_, _, _, [], hc, LooseAt.nil_⟩
  · simp only [List.cons.injEq, and_true] at hc
    have hlm : len ≤ m := by rw [hmm]; split <;> omega
    have hb1 : Try.prog.bytesOf 22 = 24 := by kernel_rfl
    have hw := hs ((((List.range len).map D).length + ((List.range (m - len)).map fun j => D (len + j)).length) * Try.prog.bytesOf 22) (by simp [DataW.weights, Try.underlying23])
    rw [hb1] at hw
    simp only [List.length_map, List.length_range] at hw
    have key : ∀ i, i < len → ∃ p : List UInt8, ∃ pa pl pc, w.cell? (a.add i) = some (.slice pa pl pc) ∧ BytesAt w pa pl pc p := by
      intro i hil
      obtain ⟨h1, h2⟩ := hi i (by omega)
      obtain ⟨pa, pl, pc, p, e, hb⟩ := Try_bytes_open h2 (fun k hk => hs k (by
        simp only [DataW.weights, Try.underlying23, List.mem_cons, List.mem_append]
        exact .inr (.inl (weightsAll_mem (i := i) (by simp [hil]) hk))))
      exact ⟨p, pa, pl, pc, by rw [h1, e], hb⟩
    obtain ⟨l, hlen, hl2⟩ := Try_listOf len key
    refine ⟨some a, len, cap, l, hc, hlen, hl, hm, by unfold reachBytes at hw; omega, fun k x hk => ?_, fun e => by cases e⟩
    obtain ⟨pa, pl, pc, hcell, hb⟩ := hl2 k x hk
    obtain ⟨b, o, sp⟩ := a
    have hkl := (List.getElem?_eq_some_iff.1 hk).1
    obtain ⟨_, _, _, hcell0, _⟩ := hl2 0 _ (List.getElem?_eq_getElem (by omega : 0 < l.length))
    have hsp := World.cell?_spot hcell0
    have hsp : sp = none := by simpa [Addr.add] using hsp
    subst hsp
    rw [Addr.add_lit] at hcell
    exact ⟨b, o, pa, pl, pc, rfl, World.block_lt_of_cell? _ _ hcell, hcell, hb⟩

set_option maxRecDepth 100000 in
theorem Try_file_open {r : Reach} {b0 : Nat} {v : Value} {d : DataW H} {p : List MemPlace} (hv : Value.okWide Try.prog w r b0 25 v) (h : DataW.Trod enc Try.prog w base spare held 25 v d p) (hs : ∀ n ∈ d.weights Try.prog 25, n ≤ reachBytes) :
    ∃ (fa : Option Addr) (fl fc : Nat) (la : Option Addr) (ll lc : Nat) (F : FileD), v = .agg #[.slice fa fl fc, .slice la ll lc, .int .i64 F.fuse, .int .i64 F.fault, .bool F.off] ∧ FileAt w fa fl fc la ll lc F := by
  obtain ⟨z0, z1, z2, z3, z4, u0, u1, u2, u3, u4, fv, rfl, rfl, rfl, i0, i1, i2, i3, i4⟩ := open_agg5 Try.underlying25 (by kernel_rfl) (by kernel_rfl) hv h
  have hmem : ∀ n, (n ∈ u0.1.weights Try.prog 22 ∨ n ∈ u1.1.weights Try.prog 23) → n ≤ reachBytes := fun n hn => hs n (by
    simp only [DataW.weights, Try.underlying25, List.map_cons, List.map_nil, DataW.weightsEach, List.mem_append]
    rcases hn with h | h
    · exact .inl h
    · exact .inr (.inl h))
  obtain ⟨fa, fl, fc, firm, rfl, hf⟩ := Try_bytes_open i0 (fun n hn => hmem n (.inl hn))
  obtain ⟨la, ll, lc, loose, rfl, hl⟩ := Try_loose_open i1 (fun n hn => hmem n (.inr hn))
  obtain ⟨x2, f2, _, v2⟩ := DataW.trod_int Try.underlying3 i2
  obtain ⟨x3, f3, _, v3⟩ := DataW.trod_int Try.underlying3 i3
  obtain ⟨b4, f4, _⟩ := DataW.trod_bool Try.underlying4 i4
  simp only [List.cons.injEq, and_true] at f2 f3 f4
  subst f2 f3 f4
  exact ⟨fa, fl, fc, la, ll, lc, ⟨firm, loose, x2, x3, b4⟩, rfl, hf, hl, i64_wf v2, i64_wf v3⟩
end
end Go.Proofs.Ytafigbomcgncnaa
