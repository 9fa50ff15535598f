/-
  Layer 14, in plain: what is read of a node's bytes is the node.
-/
import Derived.Test.YtfhhcpolicdfpaaNdL
namespace Go.Dav
set_option linter.unusedVariables false
set_option linter.unusedSimpArgs false
open Go Go.RowKit
/-- All went well so far, and these bytes are left. -/
structure Rd (s : TkSt) (l : List UInt8) : Prop where
  ok : s.ok = true
  left : s.l = l
  n : s.n = l.length
theorem rd_can {s : TkSt} {x r : List UInt8} (h : Rd s (x ++ r)) : s.can x.length = true := by
  unfold TkSt.can; rw [h.ok, h.n]; simp
theorem rd_bytes {s : TkSt} {x r : List UInt8} {k : Nat} (h : Rd s (x ++ r)) (hk : x.length = k) : s.bytes k = x := by
  subst hk
  unfold TkSt.bytes; rw [if_pos (rd_can h), h.left]; simp
theorem rd_next {s : TkSt} {x r : List UInt8} {k : Nat} (h : Rd s (x ++ r)) (hk : x.length = k) : Rd (s.next k) r := by
  subst hk
  unfold TkSt.next; rw [if_pos (rd_can h)]
  exact ⟨rfl, by rw [h.left]; simp, by rw [h.n]; simp⟩
theorem high_cons (x n : Nat) : highOf x (n + 1) = UInt8.ofNat (x / 2 ^ (8 * n)) :: highOf x n := by
  unfold highOf
  rw [List.range_succ_eq_map, List.map_cons, List.map_map]
  congr 1
  refine List.map_congr_left fun i hi => ?_
  simp only [Function.comp]
  congr 3
  omega
theorem numFrom_high : ∀ (n x a : Nat), (highOf x n).foldl (fun y c => y * 256 + c.toNat) a = a * 256 ^ n + x % 256 ^ n
  | 0, x, a => by simp [highOf, Nat.mod_one]
  | n + 1, x, a => by
    rw [high_cons, List.foldl_cons, numFrom_high n x]
    have e : (UInt8.ofNat (x / 2 ^ (8 * n))).toNat = x / 256 ^ n % 256 := by
      rw [show (256 : Nat) ^ n = 2 ^ (8 * n) by rw [Nat.pow_mul]]
      simp
    rw [e]
    have h1 : x % 256 ^ (n + 1) = x / 256 ^ n % 256 * 256 ^ n + x % 256 ^ n := by
      rw [Nat.pow_succ, Nat.mod_mul, Nat.mul_comm (256 ^ n) (x / 256 ^ n % 256)]; omega
    rw [h1, Nat.pow_succ, Nat.add_mul, Nat.mul_assoc, Nat.mul_comm 256 (256 ^ n)]
    omega
theorem numOf_high {x n : Nat} (h : x < 256 ^ n) : numOf (highOf x n) = x := by
  have := numFrom_high n x 0
  unfold numOf
  rw [this, Nat.zero_mul, Nat.zero_add, Nat.mod_eq_of_lt h]
theorem rd_num {s : TkSt} {x n : Nat} {r : List UInt8} (h : Rd s (highOf x n ++ r)) (hx : x < 256 ^ n) : s.num n = x ∧ Rd (s.next n) r := by
  refine ⟨?_, rd_next h (highOf_len x n)⟩
  unfold TkSt.num
  rw [rd_bytes h (highOf_len x n), numOf_high hx]
theorem rd_num1 {s : TkSt} {c : UInt8} {r : List UInt8} (h : Rd s (c :: r)) : s.num 1 = c.toNat ∧ Rd (s.next 1) r := by
  refine ⟨?_, rd_next (x := [c]) (k := 1) h rfl⟩
  unfold TkSt.num
  rw [rd_bytes (x := [c]) (k := 1) h rfl]
  simp [numOf]
theorem rd_cnt {s : TkSt} {x r : List UInt8} (h : Rd s ((UInt8.ofNat x.length :: x) ++ r)) (hx : x.length ≤ 255) : s.cnt = x ∧ Rd s.skip r := by
  obtain ⟨h1, h2⟩ := rd_num1 (show Rd s (UInt8.ofNat x.length :: (x ++ r)) from h)
  have e : (UInt8.ofNat x.length).toNat = x.length := by simp; omega
  rw [e] at h1
  unfold TkSt.cnt TkSt.skip
  rw [h1]
  exact ⟨rd_bytes h2 rfl, rd_next h2 rfl⟩
theorem wrap_back {n : Int} (h : I64' n) : wrap64 (((n % 18446744073709551616).toNat : Nat) : Int) = n := by
  unfold I64' at h
  rw [wrap64_def]; omega
theorem rd_item {s : TkSt} {x : ItemD} {r : List UInt8} (h : Rd s (itemBytes x ++ r)) (hx : itemOk x = true) (hn : I64' x.n) : rdItem s = x ∧ Rd (rdItemS s) r := by
  have hk : x.key.length ≤ 255 ∧ x.value.length ≤ 255 := by
    unfold itemOk at hx
    simp only [Bool.and_eq_true, decide_eq_true_eq] at hx
    omega
  have e : itemBytes x ++ r = (UInt8.ofNat x.key.length :: x.key) ++ ((UInt8.ofNat x.value.length :: x.value) ++ ((if x.int then 1 else 0) :: (highOf (x.n % 18446744073709551616).toNat 8 ++ r))) := by
    unfold itemBytes; simp
  rw [e] at h
  obtain ⟨h1, h2⟩ := rd_cnt h hk.1
  obtain ⟨h3, h4⟩ := rd_cnt h2 hk.2
  obtain ⟨h5, h6⟩ := rd_num1 h4
  obtain ⟨h7, h8⟩ := rd_num h6 (by omega)
  refine ⟨?_, h8⟩
  unfold rdItem
  rw [h1, h3, h5, h7, wrap_back hn]
  cases x with
  | mk key value int n => cases int <;> rfl
/-- Such numbers as memory holds. -/
def kidFine (x : KidD) : Prop := I64' x.at_ ∧ x.red.fits ∧ x.red.canon
theorem rd_kid {s : TkSt} {x : KidD} {r : List UInt8} (h : Rd s (kidBytes x ++ r)) (hx : kidOk x = true) (hn : kidFine x) : rdKid s = x ∧ Rd (rdKidS s) r := by
  have hk : x.key.length ≤ 255 ∧ 1 ≤ x.at_ ∧ x.at_ < 524288 ∧ x.red.ok = true := by
    unfold kidOk at hx
    simp only [Bool.and_eq_true, decide_eq_true_eq] at hx
    exact ⟨by omega, hx.2.2.1, hx.2.2.2.1, hx.2.2.2.2.2⟩
  have hr := Red.ok_spec hk.2.2.2
  obtain ⟨hn1, ⟨g1, g2, g3, g4⟩, hcan⟩ := hn
  have hlo := lo_bd x.red.s
  have hhi := hi_bd x.red.s
  have e : kidBytes x ++ r = (UInt8.ofNat x.key.length :: x.key) ++ (highOf (x.at_ % 18446744073709551616).toNat 4 ++ (highOf (x.red.c % 18446744073709551616).toNat 4 ++ (highOf (x.red.n % 18446744073709551616).toNat 4 ++ (highOf (hi x.red.s % 18446744073709551616).toNat 8 ++ (highOf (lo x.red.s).toNat 8 ++ (highOf (x.red.l % 18446744073709551616).toNat 8 ++ (highOf (x.red.m % 18446744073709551616).toNat 8 ++ r))))))) := by
    unfold kidBytes; simp
  rw [e] at h
  obtain ⟨h1, h2⟩ := rd_cnt h hk.1
  obtain ⟨a1, b1⟩ := rd_num h2 (by omega)
  obtain ⟨a2, b2⟩ := rd_num b1 (by omega)
  obtain ⟨a3, b3⟩ := rd_num b2 (by omega)
  obtain ⟨a4, b4⟩ := rd_num b3 (by omega)
  obtain ⟨a5, b5⟩ := rd_num b4 (by omega)
  obtain ⟨a6, b6⟩ := rd_num b5 (by omega)
  obtain ⟨a7, b7⟩ := rd_num b6 (by omega)
  refine ⟨?_, b7⟩
  have c1 : ((s.skip.num 4 : Nat) : Int) = x.at_ := by rw [a1]; omega
  have c2 : (((k2 s).num 4 : Nat) : Int) = x.red.c := by show (((s.skip.next 4).num 4 : Nat) : Int) = _; rw [a2]; omega
  have c3 : (((k3 s).num 4 : Nat) : Int) = x.red.n := by show ((((s.skip.next 4).next 4).num 4 : Nat) : Int) = _; rw [a3]; omega
  have c4 : wrap64 ((k4 s).num 8 : Nat) = hi x.red.s := by show wrap64 ((((s.skip.next 4).next 4).next 4).num 8 : Nat) = _; rw [a4]; exact wrap_back (by unfold I64'; omega)
  have c5 : (((k5 s).num 8 : Nat) : Int) = lo x.red.s := by show ((((((s.skip.next 4).next 4).next 4).next 8).num 8 : Nat) : Int) = _; rw [a5]; omega
  have c6 : wrap64 ((k6 s).num 8 : Nat) = x.red.l := by show wrap64 ((((((s.skip.next 4).next 4).next 4).next 8).next 8).num 8 : Nat) = _; rw [a6]; exact wrap_back g3
  have c7 : wrap64 ((k7 s).num 8 : Nat) = x.red.m := by show wrap64 (((((((s.skip.next 4).next 4).next 4).next 8).next 8).next 8).num 8 : Nat) = _; rw [a7]; exact wrap_back g4
  unfold rdKid
  rw [h1, c1, c2, c3, c4, c5, c6, c7, ← hcan]
theorem rd_items : ∀ {L : List ItemD} {s : TkSt} {r : List UInt8} (acc : List ItemD), Rd s (L.flatMap itemBytes ++ r) → (∀ x ∈ L, itemOk x = true ∧ I64' x.n) → ∃ s', sevI L.length acc s = (acc ++ L, s', true) ∧ Rd s' r
  | [], s, r, acc, h, _ => ⟨s, by simp [sevI], by simpa using h⟩
  | x :: L, s, r, acc, h, hx => by
    rw [List.flatMap_cons, List.append_assoc] at h
    obtain ⟨h1, h2⟩ := rd_item h (hx x (by simp)).1 (hx x (by simp)).2
    obtain ⟨s', h3, h4⟩ := rd_items (acc ++ [x]) h2 fun y hy => hx y (by simp [hy])
    refine ⟨s', ?_, h4⟩
    rw [List.length_cons]
    unfold sevI
    rw [if_pos h2.ok, h1, h3]
    simp
theorem rd_kids : ∀ {L : List KidD} {s : TkSt} {r : List UInt8} (acc : List KidD), Rd s (L.flatMap kidBytes ++ r) → (∀ x ∈ L, kidOk x = true ∧ kidFine x) → ∃ s', sevK L.length acc s = (acc ++ L, s', true) ∧ Rd s' r
  | [], s, r, acc, h, _ => ⟨s, by simp [sevK], by simpa using h⟩
  | x :: L, s, r, acc, h, hx => by
    rw [List.flatMap_cons, List.append_assoc] at h
    obtain ⟨h1, h2⟩ := rd_kid h (hx x (by simp)).1 (hx x (by simp)).2
    obtain ⟨s', h3, h4⟩ := rd_kids (acc ++ [x]) h2 fun y hy => hx y (by simp [hy])
    refine ⟨s', ?_, h4⟩
    rw [List.length_cons]
    unfold sevK
    rw [if_pos h2.ok, h1, h3]
    simp
/-- Such numbers as memory holds. -/
def nodeFine (n : NodeD) : Prop := (∀ x ∈ n.items, I64' x.n) ∧ ∀ x ∈ n.kids, kidFine x
theorem raw_bytes {N : NodeD} {s : TkSt} {r : List UInt8} (h : Rd s (nodeBytes N ++ r)) (hok : nodeOk N = true) (hf : nodeFine N) : rawN s = (N, true) := by
  obtain ⟨h1, h2, _, h4⟩ := nodeOk_check hok
  have h6 := shape_few h1
  unfold nodeBytes at h
  have h' : Rd s ((if N.leaf then 1 else 2) :: (UInt8.ofNat (partsOf N).length :: ((partsOf N).flatMap pBytes ++ r))) := by simpa using h
  obtain ⟨a1, b1⟩ := rd_num1 h'
  obtain ⟨a2, b2⟩ := rd_num1 b1
  have e2 : (UInt8.ofNat (partsOf N).length).toNat = (partsOf N).length := by simp; omega
  rw [e2] at a2
  have hmin : min (partsOf N).length 7 = (partsOf N).length := by omega
  unfold shapeB at h1
  simp only [Bool.and_eq_true] at h1
  unfold rawN
  cases hl : N.leaf with
  | true =>
    rw [hl] at a1
    have ha : s.num 1 = 1 := by rw [a1]; rfl
    have hp : partsOf N = N.items.map .inl := by unfold partsOf; rw [hl]; rfl
    have hk : N.kids = [] := by
      have := h1.2.2
      rw [hl, if_pos rfl, decide_eq_true_eq] at this
      exact List.length_eq_zero_iff.1 this
    rw [if_pos ha, a2, hmin, hp, List.length_map]
    rw [hp] at b2 h4
    have e3 : (N.items.map (Sum.inl : ItemD → PartD)).flatMap pBytes = N.items.flatMap itemBytes := by rw [List.flatMap_map]; rfl
    rw [e3] at b2
    obtain ⟨s', h3, _⟩ := rd_items (L := N.items) [] b2 fun x hx => ⟨by rw [← itemOk_p]; exact h4 _ (List.mem_map.2 ⟨x, hx, rfl⟩), hf.1 x hx⟩
    rw [h3]
    cases N; simp_all
  | false =>
    rw [hl] at a1
    have ha : ¬ s.num 1 = 1 := by rw [a1]; decide
    have hp : partsOf N = N.kids.map .inr := by unfold partsOf; rw [hl]; rfl
    have hk : N.items = [] := by
      have := h1.2.2
      rw [hl, if_neg Bool.false_ne_true, decide_eq_true_eq] at this
      exact List.length_eq_zero_iff.1 this
    rw [if_neg ha, a2, hmin, hp, List.length_map]
    rw [hp] at b2 h4
    have e3 : (N.kids.map (Sum.inr : KidD → PartD)).flatMap pBytes = N.kids.flatMap kidBytes := by rw [List.flatMap_map]; rfl
    rw [e3] at b2
    obtain ⟨s', h3, _⟩ := rd_kids (L := N.kids) [] b2 fun x hx => ⟨by rw [← kidOk_p]; exact h4 _ (List.mem_map.2 ⟨x, hx, rfl⟩), hf.2 x hx⟩
    rw [h3]
    cases N; simp_all
/-- Decoding an encoding. -/
theorem dec_bytes {N : NodeD} {a : Option Addr} {n c : Nat} (hok : nodeOk N = true) (hf : nodeFine N) (hn : n = (nodeBytes N).length) : goodN ⟨a, n, c, nodeBytes N, true⟩ = true ∧ decN ⟨a, n, c, nodeBytes N, true⟩ = N ∧ decE ⟨a, n, c, nodeBytes N, true⟩ = 0 := by
  have hr : rawN ⟨a, n, c, nodeBytes N, true⟩ = (N, true) := raw_bytes (r := []) ⟨rfl, by simp, by simpa using hn⟩ hok hf
  have hg : goodN ⟨a, n, c, nodeBytes N, true⟩ = true := by unfold goodN; rw [hr]; simp [hok]
  exact ⟨hg, by unfold decN; rw [hg, if_pos rfl, hr], by unfold decE; rw [hg]; rfl⟩
end Go.Dav
