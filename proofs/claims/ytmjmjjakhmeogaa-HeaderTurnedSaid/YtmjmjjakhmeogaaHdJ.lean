/-
  Layer 12: Put, walked.
-/
import Derived.Test.YtmjmjjakhmeogaaHdI
import Derived.Test.YtmjmjjakhmeogaaFilK
namespace Go.Dav
set_option linter.unusedVariables false
set_option linter.unusedSimpArgs false
open Go Go.RowKit
def FileD.put (F : FileD) (h : HeadD) : FileD × Int :=
  if F.right = true then (if h.right = true then F.append (laidOf F.many h.gen h.at_.toNat) else (F, 220)) else (F, 200)
/-- A file; a file and an error. -/
def FileV (w : World) (S : Nat → Prop) (F : FileD) (v : Value) (W : World) : Prop :=
  ∃ fa fl fc la ll lc, v = .agg #[.slice fa fl fc, .slice la ll lc, .int .i64 F.fuse, .int .i64 F.fault, .bool F.off] ∧ FileS W (Or S w) fa fl fc la ll lc F
def FileTup (w : World) (S : Nat → Prop) (F : FileD) (err : Int) (v : Value) (W : World) : Prop :=
  ∃ fa fl fc la ll lc, v = .tuple #[.agg #[.slice fa fl fc, .slice la ll lc, .int .i64 F.fuse, .int .i64 F.fault, .bool F.off], .int .i64 err] ∧ FileS W (Or S w) fa fl fc la ll lc F
theorem FileV.later {w : World} {S : Nat → Prop} {F : FileD} : ∀ v W W', FileV w S F v W → Below W.heap.size W W' → FileV w S F v W' :=
  fun _ _ _ ⟨fa, fl, fc, la, ll, lc, h1, h2⟩ hb => ⟨fa, fl, fc, la, ll, lc, h1, h2.ext hb⟩
theorem FileTup.later {w : World} {S : Nat → Prop} {F : FileD} {err : Int} : ∀ v W W', FileTup w S F err v W → Below W.heap.size W W' → FileTup w S F err v W' :=
  fun _ _ _ ⟨fa, fl, fc, la, ll, lc, h1, h2⟩ hb => ⟨fa, fl, fc, la, ll, lc, h1, h2.ext hb⟩
/-- Bytes, wherever. -/
def AnyRow (x : List UInt8) (v : Value) (W : World) : Prop := ∃ a n c, v = .slice a n c ∧ BytesS W (fun _ => True) a n c x
theorem AnyRow.later {x : List UInt8} : ∀ v W W', AnyRow x v W → Below W.heap.size W W' → AnyRow x v W' := fun _ _ _ ⟨a, n, c, h1, h2⟩ hb => ⟨a, n, c, h1, h2.ext hb⟩
/-- A slice of zeros, in a block of its own. -/
def ZeroSl (B k : Nat) (t : TypeId) (v : Value) (W : World) : Prop := ∃ p, v = .slice (some ⟨p, 0, none⟩) k k ∧ B ≤ p ∧ Blk W p (u8s (List.replicate k 0)) t
theorem ZeroSl.later {B k : Nat} {t : TypeId} : ∀ v W W', ZeroSl B k t v W → Below W.heap.size W W' → ZeroSl B k t v W' := fun _ _ _ ⟨p, h1, h2, h3⟩ hb => ⟨p, h1, h2, h3.ext hb⟩
theorem padOf_lt (n : Nat) : padOf n < 64 := by unfold padOf; omega
theorem laidOf_len (n g a : Nat) : (laidOf n g a).length = padOf n + 64 := by unfold laidOf; rw [List.length_append, List.length_replicate, blockOf_len]
end Go.Dav
namespace Go.Proofs.Ytmjmjjakhmeogaa
set_option linter.unusedVariables false
set_option linter.unusedSimpArgs false
open Go.RowKit Go.Dav
attribute [local go_sem] Gives ite_val ite_val_true

theorem Try_appendLaid (n g a p6 p5 : Nat) (W : World) (ty : TypeId) (hc6 : Blk W p6 (u8s (List.replicate (padOf n) 0)) 5) (hk5 : Blk W p5 (u8s (blockOf g a)) 57) :
    ∃ v' w', (Builtin.append_ #[22, 22] ty #[.slice (some ⟨p6, 0, none⟩) (padOf n) (padOf n), .slice (some ⟨p5, 0, none⟩) 64 64]).run Try.prog W = .ok v' w' ∧ Below W.heap.size W w' ∧ AnyRow (laidOf n g a) v' w' := by
  have hp := padOf_lt n
  have h6 := cells_of_blk hc6
  rw [List.length_replicate] at h6
  have h5 := cells_of_blk hk5
  rw [blockOf_len] at h5
  obtain ⟨a', c', w', hr, h2, k1, k2, k3, hb⟩ := run_append_fullS (P := Try.prog) (W := W) Try_elemU8 ty (fun b => b = p6) (some ⟨p6, 0, none⟩) (padOf n) (u8s (List.replicate (padOf n) 0)) h6 (fun b => b = p5) (some ⟨p5, 0, none⟩) 64 64 (u8s (blockOf g a)) h5 (u8s_one _) (fun h => by cases h) (by unfold maxLen; omega) (by omega)
  have e : u8s (laidOf n g a) = u8s (List.replicate (padOf n) 0) ++ u8s (blockOf g a) := by unfold laidOf; rw [u8s_append]
  rw [← e] at h2
  exact ⟨_, w', hr, hb, a', _, c', rfl, BytesS.of_cells (h2.mono fun _ _ => trivial) k1 k2 (by omega) k3⟩

set_option maxRecDepth 100000 in
set_option maxHeartbeats 8000000 in
theorem Try_Put (F : FileD) (h : HeadD) (fa la : Option Addr) (fl fc ll lc : Nat) (w : World) (S : Nat → Prop) (hh : h.Fits) (hF : FileS w S fa fl fc la ll lc F) (hS : ∀ b, S b → b < w.heap.size) :
    Calls Try.prog 42 #[.agg #[.slice fa fl fc, .slice la ll lc, .int .i64 F.fuse, .int .i64 F.fault, .bool F.off], .agg #[.int .u64 (h.gen : Int), .int .i64 h.at_]] w (GivesFile w S (F.put h).1 (F.put h).2) := by
  have hW : Below w.heap.size w (((w.alloc (.cells [.slice fa fl fc, .slice la ll lc, .int .i64 F.fuse, .int .i64 F.fault, .bool F.off].toArray 25)).alloc (.cells #[.int .u64 (h.gen : Int), .int .i64 h.at_] 56)).alloc (.cells #[.slice none 0 0, .slice none 0 0, .int .i64 0, .int .i64 0, .bool false] 25)) := (by repeat (first | (with_reducible exact Below.refl _ _) | (with_reducible exact Below.refl _ _) | (with_reducible refine Below.setCell ?_ (by first | omega | (simp; done) | (simp; omega)) _) | (with_reducible refine Below.alloc ?_ (by first | omega | (simp; done) | (simp; omega)) _) | (with_reducible refine Below.drew ?_) | (with_reducible refine below_drewN ?_ _)))
  have hq := (Blk.new' (w.alloc (.cells [.slice fa fl fc, .slice la ll lc, .int .i64 F.fuse, .int .i64 F.fault, .bool F.off].toArray 25)) [.int .u64 (h.gen : Int), .int .i64 h.at_] 56 (p := w.heap.size + 1) (by simp)).alloc (o := (.cells #[.slice none 0 0, .slice none 0 0, .int .i64 0, .int .i64 0, .bool false] 25))
  have hf0 := ((Blk.new w [.slice fa fl fc, .slice la ll lc, .int .i64 F.fuse, .int .i64 F.fault, .bool F.off] 25).alloc (.cells #[.int .u64 (h.gen : Int), .int .i64 h.at_] 56)).alloc (o := (.cells #[.slice none 0 0, .slice none 0 0, .int .i64 0, .int .i64 0, .bool false] 25))
  have B0 := Blk.new' ((w.alloc (.cells [.slice fa fl fc, .slice la ll lc, .int .i64 F.fuse, .int .i64 F.fault, .bool F.off].toArray 25)).alloc (.cells #[.int .u64 (h.gen : Int), .int .i64 h.at_] 56)) [.slice none 0 0, .slice none 0 0, .int .i64 0, .int .i64 0, .bool false] 25 (p := w.heap.size + 1 + 1) (by simp)
  have HSS := Lib.hid hS
  have HF := Lib.hid (hF.ext hW)
  have HQ := Lib.hid hq
  have HFF := Lib.hid hf0
  have HB0 := Lib.hid B0
  have HH := Lib.hid hh
  clear hF hW hq hf0 B0 hS hh
  cases hr : F.right with
  | false =>
    have HV := Lib.hid (show F.put h = (F, 200) by unfold FileD.put; rw [if_neg (by rw [hr]; decide)])
    have herr : F.err = 200 := by unfold FileD.err; rw [if_neg (by rw [hr]; decide)]
    go_enter Try.func42, Try.ntmps42
    go_wp2_with fail
    refine (Try_Check F fa la fl fc ll lc _ HF.out.at_).mono ?_; rintro e w1 ⟨rfl, hb1⟩
    have hs1 := hb1.size
    simp only [World.size_alloc] at hs1
    rw [herr]
    have B1 := HB0.out.ext hb1
    have bel : Below w.heap.size w w1 := (by repeat (first | (with_reducible exact Below.refl _ _) | (with_reducible exact Below.refl _ _) | (with_reducible refine Below.setCell ?_ (by first | omega | (simp; done) | (simp; omega)) _) | (with_reducible refine Below.alloc ?_ (by first | omega | (simp; done) | (simp; omega)) _) | (with_reducible refine Below.drew ?_) | (with_reducible refine below_drewN ?_ _) | (with_reducible refine Below.trans ?_ (hb1.mono (by first | omega | (simp; done) | (simp; omega))))))
    have HR := Lib.hid ((HF.out.ext hb1).mono (T := Or S w1) fun b h => Or.inl h)
    have q0 := (HFF.out.ext hb1).cells
    have l0 := (HFF.out.ext hb1).lt
    have hr2 := ((((B1.set 0 (.slice fa fl fc)).set 1 (.slice la ll lc)).set 2 (.int .i64 (F).fuse)).set 3 (.int .i64 (F).fault)).set 4 (.bool (F).off)
    have c2 := hr2.cells
    have m2 := B1.marks
    have q2 := B1.cells
    have lB := B1.lt
    simp only [List.set_cons_zero, List.set_cons_succ] at c2
    go_wp2
    rw [HV.out]
    refine bodyPost_ret (v := .tuple #[.agg #[.slice fa fl fc, .slice la ll lc, .int .i64 (F).fuse, .int .i64 (F).fault, .bool (F).off], .int .i64 (200)]) (by simp [results, Try.results42, go_sem, c2]) rfl ⟨fa, fl, fc, la, ll, lc, rfl, ?_, ?_⟩
    · refine ((HR.out).same (Only.size (p := w.heap.size + 1 + 1) (by repeat (first | (with_reducible exact Only.refl _ _) | (with_reducible refine Only.set ?_ _ _) | (with_reducible refine Only.alloc ?_ _) | (with_reducible refine Only.drew ?_)))) (fun b h hlt => Only.block (p := w.heap.size + 1 + 1) (by repeat (first | (with_reducible exact Only.refl _ _) | (with_reducible refine Only.set ?_ _ _) | (with_reducible refine Only.alloc ?_ _) | (with_reducible refine Only.drew ?_))) b hlt ?_)).mono (T := Or S w) (fun b h => ?_)
      · rcases h with h | h
        · have := HSS.out b h; omega
        · (try simp at h); omega
      · rcases h with h | h
        · exact .inl h
        · exact .inr (by (try simp at h); omega)
    · exact (by repeat (first | (with_reducible exact Below.refl _ _) | (with_reducible exact Below.refl _ _) | (with_reducible refine Below.setCell ?_ (by first | omega | (simp; done) | (simp; omega)) _) | (with_reducible refine Below.alloc ?_ (by first | omega | (simp; done) | (simp; omega)) _) | (with_reducible refine Below.drew ?_) | (with_reducible refine below_drewN ?_ _) | (with_reducible refine Below.trans ?_ (bel.mono (by first | omega | (simp; done) | (simp; omega))))))
  | true =>
    have herr : F.err = 0 := by unfold FileD.err; rw [if_pos hr]
    go_enter Try.func42, Try.ntmps42
    go_wp2_with fail
    refine (Try_Check F fa la fl fc ll lc _ HF.out.at_).mono ?_; rintro e w1 ⟨rfl, hb1⟩
    have hs1 := hb1.size
    simp only [World.size_alloc] at hs1
    rw [herr]
    have HQ1 := Lib.hid (HQ.out.ext hb1)
    have HFF1 := Lib.hid (HFF.out.ext hb1)
    have HB1 := Lib.hid (HB0.out.ext hb1)
    have HF1 := Lib.hid (HF.out.ext hb1)
    have BEL1 := Lib.hid (show Below w.heap.size w w1 from (by repeat (first | (with_reducible exact Below.refl _ _) | (with_reducible exact Below.refl _ _) | (with_reducible refine Below.setCell ?_ (by first | omega | (simp; done) | (simp; omega)) _) | (with_reducible refine Below.alloc ?_ (by first | omega | (simp; done) | (simp; omega)) _) | (with_reducible refine Below.drew ?_) | (with_reducible refine below_drewN ?_ _) | (with_reducible refine Below.trans ?_ (hb1.mono (by first | omega | (simp; done) | (simp; omega)))))))
    have q1 := HQ1.out.cells
    have l1 := HQ1.out.lt
    clear hb1 HQ HFF HB0 HF
    go_wp2_with fail
    refine (Try_hCheck h w1).mono ?_; rintro e w2 ⟨rfl, hb2⟩
    have hs2 := hb2.size
    have HFF2 := Lib.hid (HFF1.out.ext hb2)
    have HQ2 := Lib.hid (HQ1.out.ext hb2)
    have HB2 := Lib.hid (HB1.out.ext hb2)
    have HF2 := Lib.hid (HF1.out.ext hb2)
    have BEL2 := Lib.hid (BEL1.out.trans (hb2.mono BEL1.out.size))
    clear hb2 HQ1 HFF1 HB1 HF1 BEL1 q1 l1
    have q0 := HFF2.out.cells
    have l0 := HFF2.out.lt
    cases hhr : h.right with
    | false =>
      have hherr : h.err = 220 := by unfold HeadD.err; rw [if_neg (by rw [hhr]; decide)]
      have HV := Lib.hid (show F.put h = (F, 220) by unfold FileD.put; rw [if_pos hr, if_neg (by rw [hhr]; decide)])
      rw [hherr]
      have B1 := HB2.out
      have bel := BEL2.out
      have HR := Lib.hid (HF2.out.mono (T := Or S w2) fun b h => Or.inl h)
      clear hhr hr
      have hr2 := ((((B1.set 0 (.slice fa fl fc)).set 1 (.slice la ll lc)).set 2 (.int .i64 (F).fuse)).set 3 (.int .i64 (F).fault)).set 4 (.bool (F).off)
      have c2 := hr2.cells
      have m2 := B1.marks
      have q2 := B1.cells
      have lB := B1.lt
      simp only [List.set_cons_zero, List.set_cons_succ] at c2
      go_wp2
      rw [HV.out]
      refine bodyPost_ret (v := .tuple #[.agg #[.slice fa fl fc, .slice la ll lc, .int .i64 (F).fuse, .int .i64 (F).fault, .bool (F).off], .int .i64 (220)]) (by simp [results, Try.results42, go_sem, c2]) rfl ⟨fa, fl, fc, la, ll, lc, rfl, ?_, ?_⟩
      · refine ((HR.out).same (Only.size (p := w.heap.size + 1 + 1) (by repeat (first | (with_reducible exact Only.refl _ _) | (with_reducible refine Only.set ?_ _ _) | (with_reducible refine Only.alloc ?_ _) | (with_reducible refine Only.drew ?_)))) (fun b h hlt => Only.block (p := w.heap.size + 1 + 1) (by repeat (first | (with_reducible exact Only.refl _ _) | (with_reducible refine Only.set ?_ _ _) | (with_reducible refine Only.alloc ?_ _) | (with_reducible refine Only.drew ?_))) b hlt ?_)).mono (T := Or S w) (fun b h => ?_)
        · rcases h with h | h
          · have := HSS.out b h; omega
          · (try simp at h); omega
        · rcases h with h | h
          · exact .inl h
          · exact .inr (by (try simp at h); omega)
      · exact (by repeat (first | (with_reducible exact Below.refl _ _) | (with_reducible exact Below.refl _ _) | (with_reducible refine Below.setCell ?_ (by first | omega | (simp; done) | (simp; omega)) _) | (with_reducible refine Below.alloc ?_ (by first | omega | (simp; done) | (simp; omega)) _) | (with_reducible refine Below.drew ?_) | (with_reducible refine below_drewN ?_ _) | (with_reducible refine Below.trans ?_ (bel.mono (by first | omega | (simp; done) | (simp; omega))))))
    | true =>
      have hherr : h.err = 0 := by unfold HeadD.err; rw [if_pos hhr]
      obtain ⟨m, hm⟩ : ∃ m, F.many = m := ⟨_, rfl⟩
      have hmx := (FileD.right_spec.1 hr).2.2.2.2
      rw [hm] at hmx
      obtain ⟨g, a0⟩ := h
      have hs := HeadD.right_spec.1 hhr
      obtain ⟨a, rfl⟩ := Int.eq_ofNat_of_zero_le hs.2.1
      have HV0 := Lib.hid (show F.put ⟨g, (a : Int)⟩ = F.append (laidOf m g a) by unfold FileD.put; rw [if_pos hr, if_pos hhr, hm]; rfl)
      have HBK := Lib.hid (show blkOf ⟨g, (a : Int)⟩ = blockOf g a by unfold blkOf; rw [if_pos hhr]; rfl)
      rw [hherr]
      dsimp only
      go_wp2_with fail
      have hL := Try_Len F fa la fl fc ll lc w2 HF2.out.at_
      rw [if_pos hr, hm] at hL
      have HL := Lib.hid hL
      clear hL hhr hr herr hherr hs hm
      refine HL.out.mono ?_; rintro e w3 ⟨rfl, hb3⟩
      have hs3 := hb3.size
      have HFF3 := Lib.hid (HFF2.out.ext hb3)
      have HQ3 := Lib.hid (HQ2.out.ext hb3)
      have HB3 := Lib.hid (HB2.out.ext hb3)
      have HF3 := Lib.hid (HF2.out.ext hb3)
      have BEL3 := Lib.hid (BEL2.out.trans (hb3.mono BEL2.out.size))
      clear hb3 HQ2 HFF2 HB2 HF2 BEL2 q0 l0 HL
      have q1 := HQ3.out.cells
      have l1 := HQ3.out.lt
      have htm : (m : Int).tmod 64 = ((m % 64 : Nat) : Int) := by rw [Int.tmod_eq_emod_of_nonneg (by omega)]; omega
      go_wp2_with fail
      have hA := Try_Block ⟨g, (a : Int)⟩ HH.out w3
      rw [HBK.out] at hA
      refine hA.mono ?_; rintro e w4 ⟨rfl, hb4⟩
      clear hA
      have hs4 := hb4.size
      have HFF4 := Lib.hid (HFF3.out.ext hb4)
      have HB4 := Lib.hid (HB3.out.ext hb4)
      have HF4 := Lib.hid (HF3.out.ext hb4)
      have BEL4 := Lib.hid (BEL3.out.trans (hb4.mono BEL3.out.size))
      clear hb4 HQ3 HFF3 HB3 HF3 BEL3 q1 l1
      have HBz := Lib.hid (show Blk (w4.alloc (.cells #[.int .u8 0, .int .u8 0, .int .u8 0, .int .u8 0, .int .u8 0, .int .u8 0, .int .u8 0, .int .u8 0, .int .u8 0, .int .u8 0, .int .u8 0, .int .u8 0, .int .u8 0, .int .u8 0, .int .u8 0, .int .u8 0, .int .u8 0, .int .u8 0, .int .u8 0, .int .u8 0, .int .u8 0, .int .u8 0, .int .u8 0, .int .u8 0, .int .u8 0, .int .u8 0, .int .u8 0, .int .u8 0, .int .u8 0, .int .u8 0, .int .u8 0, .int .u8 0, .int .u8 0, .int .u8 0, .int .u8 0, .int .u8 0, .int .u8 0, .int .u8 0, .int .u8 0, .int .u8 0, .int .u8 0, .int .u8 0, .int .u8 0, .int .u8 0, .int .u8 0, .int .u8 0, .int .u8 0, .int .u8 0, .int .u8 0, .int .u8 0, .int .u8 0, .int .u8 0, .int .u8 0, .int .u8 0, .int .u8 0, .int .u8 0, .int .u8 0, .int .u8 0, .int .u8 0, .int .u8 0, .int .u8 0, .int .u8 0, .int .u8 0, .int .u8 0] 57)) w4.heap.size (u8s (List.replicate 64 0)) 57 from Blk.new w4 _ _)
      go_wp2_with (first | (refine wpList_store_row rfl 57 (.tmp 8) (.tmp 23) rfl w4.heap.size (u8s (blockOf g a)).toArray rfl rfl 57 (u8s (List.replicate 64 0)).toArray HBz.out (Try_size64_of (blockOf_len g a)) (by simp [u8s_len, blockOf_len]) (u8s_all _) ?_))
      obtain ⟨V, hV⟩ : ∃ V, (w4.alloc (.cells #[.int .u8 0, .int .u8 0, .int .u8 0, .int .u8 0, .int .u8 0, .int .u8 0, .int .u8 0, .int .u8 0, .int .u8 0, .int .u8 0, .int .u8 0, .int .u8 0, .int .u8 0, .int .u8 0, .int .u8 0, .int .u8 0, .int .u8 0, .int .u8 0, .int .u8 0, .int .u8 0, .int .u8 0, .int .u8 0, .int .u8 0, .int .u8 0, .int .u8 0, .int .u8 0, .int .u8 0, .int .u8 0, .int .u8 0, .int .u8 0, .int .u8 0, .int .u8 0, .int .u8 0, .int .u8 0, .int .u8 0, .int .u8 0, .int .u8 0, .int .u8 0, .int .u8 0, .int .u8 0, .int .u8 0, .int .u8 0, .int .u8 0, .int .u8 0, .int .u8 0, .int .u8 0, .int .u8 0, .int .u8 0, .int .u8 0, .int .u8 0, .int .u8 0, .int .u8 0, .int .u8 0, .int .u8 0, .int .u8 0, .int .u8 0, .int .u8 0, .int .u8 0, .int .u8 0, .int .u8 0, .int .u8 0, .int .u8 0, .int .u8 0, .int .u8 0] 57)).setRow w4.heap.size (u8s (blockOf g a)).toArray = V := ⟨_, rfl⟩
      have hb4V : Below w4.heap.size w4 V := by rw [← hV]; exact below_only ((Below.refl _ w4).alloc (Nat.le_refl _) _) (only_row _ _ _) (by simp) (Nat.le_refl _)
      have hVk : Blk V w4.heap.size (u8s (blockOf g a)) 57 := by rw [← hV]; exact blk_row (ds := u8s (blockOf g a)) HBz.out
      rw [hV]
      have HFF5 := Lib.hid (HFF4.out.ext hb4V)
      have HB5 := Lib.hid (HB4.out.ext hb4V)
      have HF5 := Lib.hid (HF4.out.ext hb4V)
      have BEL5 := Lib.hid (BEL4.out.trans (hb4V.mono BEL4.out.size))
      have HVK := Lib.hid hVk
      have hsV := hb4V.size
      have hsV' : w.heap.size ≤ V.heap.size := by omega
      clear hV hb4V hVk HBz HFF4 HB4 HF4 BEL4
      have q1 := HFF5.out.cells
      have l1 := HFF5.out.lt
      have lB := HB5.out.lt
      have hw1 : IntKind.i64.wrap (64 - (m : Int) % 64) = 64 - (m : Int) % 64 := IntWalk.i64_in _ (by omega)
      have htm2 : (64 - (m : Int) % 64).tmod 64 = (padOf m : Int) := by rw [Int.tmod_eq_emod_of_nonneg (by omega)]; unfold padOf; omega
      have hmk := Try_makeN (padOf m) (by have := padOf_lt m; omega)
      obtain ⟨F7, e7, hV⟩ : ∃ F7 e7, F.append (laidOf m g a) = (F7, e7) := ⟨_, _, rfl⟩
      have HV := Lib.hid (HV0.out.trans hV)
      have HAP := Lib.hid hV
      clear HV0 hV
      refine' wp_region_seq [.inl _, .inl _, .inl _, .inl _, .inr (ZeroSl V.heap.size (padOf m) 5), .inl _, .inr (AnyRow (laidOf m g a)), .inr (FileTup V S F7 e7), .inr (FileV V S F7), .inl _] (by kernel_rfl) (by kernel_rfl) ?main1
      case main1 =>
        refine wpParts_det (by rfl) (fun W hE hN => ?_) ?_
        · have hc := fun b o h => hE.cell (p := ⟨b, o, none⟩) h
          go_simp; refine ⟨Below.refl _ _, ?_⟩; rfl
        simp only [Act.put, List.setIfInBounds_toArray, List.set_cons_zero, List.set_cons_succ]
        refine wpParts_det (by rfl) (fun W hE hN => ?_) ?_
        · go_simp; refine ⟨Below.refl _ _, ?_⟩; rfl
        simp only [Act.put, List.setIfInBounds_toArray, List.set_cons_zero, List.set_cons_succ]
        refine wpParts_det (by rfl) (fun W hE hN => ?_) ?_
        · go_simp; refine ⟨Below.refl _ _, ?_⟩; rfl
        simp only [Act.put, List.setIfInBounds_toArray, List.set_cons_zero, List.set_cons_succ]
        refine wpParts_det (by rfl) (fun W hE hN => ?_) ?_
        · go_simp; refine ⟨Below.refl _ _, ?_⟩; rfl
        simp only [Act.put, List.setIfInBounds_toArray, List.set_cons_zero, List.set_cons_succ]
        refine wpParts_any rfl (ZeroSl.later) (by rfl) (fun W hE hN => ?_) (fun u4 => ?_)
        · go_simp; exact ⟨(Below.refl _ _).alloc (Nat.le_refl _) _, _, rfl, hE.size, Blk.new _ _ _⟩
        simp only [Act.put, List.setIfInBounds_toArray, List.set_cons_zero, List.set_cons_succ]
        refine wpParts_det (by rfl) (fun W hE hN => ?_) ?_
        · go_simp; refine ⟨Below.refl _ _, ?_⟩; rfl
        simp only [Act.put, List.setIfInBounds_toArray, List.set_cons_zero, List.set_cons_succ]
        refine wpParts_any rfl (AnyRow.later) (by rfl) (fun W hE hN => ?_) (fun u6 => ?_)
        · simp [near, Oper.looksAt, Op.operands, Call.operands] at hN; obtain ⟨p6, rfl, hp6, hk6⟩ := hN; obtain ⟨v', w', hr, hb, hR⟩ := Try_appendLaid m g a p6 w4.heap.size W 22 hk6 (HVK.out.ext hE); exact gives_append rfl rfl rfl hr hb hR
        simp only [Act.put, List.setIfInBounds_toArray, List.set_cons_zero, List.set_cons_succ]
        refine wpParts_any rfl (FileTup.later) (by rfl) (fun W hE hN => ?_) (fun u7 => ?_)
        · simp [near, Oper.looksAt, Op.operands, Call.operands] at hN; obtain ⟨ba, bl, bc, rfl, hB⟩ := hN; go_simp; refine ⟨Below.refl _ _, ?_⟩; have hA := Try_Append F fa la ba fl fc ll lc bl bc (laidOf m g a) W S (fun _ => True) (HF5.out.ext hE) (fun b h => by have := HSS.out b h; have := hE.size; omega) hB; rw [HAP.out] at hA; refine hA.mono ?_; rintro e w' ⟨ga, gl, gc, ma, ml, mc, rfl, hR, hb⟩; exact ⟨_, rfl, hb, ga, gl, gc, ma, ml, mc, rfl, hR.mono fun b h => h.imp id fun h => Nat.le_trans hE.size h⟩
        simp only [Act.put, List.setIfInBounds_toArray, List.set_cons_zero, List.set_cons_succ]
        refine wpParts_any rfl (FileV.later) (by rfl) (fun W hE hN => ?_) (fun u8 => ?_)
        · simp [near, Oper.looksAt, Op.operands] at hN; obtain ⟨ga, gl, gc, ma, ml, mc, rfl, hR⟩ := hN; go_simp; exact ⟨Below.refl _ _, ga, gl, gc, ma, ml, mc, rfl, hR⟩
        simp only [Act.put, List.setIfInBounds_toArray, List.set_cons_zero, List.set_cons_succ]
        refine wpParts_det (by rfl) (fun W hE hN => ?_) ?_
        · simp [near, Oper.looksAt, Op.operands] at hN; obtain ⟨ga, gl, gc, ma, ml, mc, rfl, hR⟩ := hN; go_simp; refine ⟨Below.refl _ _, ?_⟩; rfl
        simp only [Act.put, List.setIfInBounds_toArray, List.set_cons_zero, List.set_cons_succ]
        refine wpParts_end fun W6 hE6 hG6 => ?_
        have hcW6 := fun b o h => hE6.cell (p := ⟨b, o, none⟩) h
        have hfW6 := fun b o h => hE6.frozen (p := ⟨b, o, none⟩) h
        obtain ⟨⟨ga, gl, gc, ma, ml, mc, rfl, hR⟩, _⟩ := hG6
        have B1 := HB5.out.ext hE6
        have bel := BEL5.out.trans (hE6.mono hsV')
        have hs6 := hE6.size
        have HR := Lib.hid hR
        clear hR hE6 hcW6 hfW6 q1 l1 lB hmk htm2 hw1 htm HF5 HFF5 HVK
        have hr2 := ((((B1.set 0 (.slice ga gl gc)).set 1 (.slice ma ml mc)).set 2 (.int .i64 (F7).fuse)).set 3 (.int .i64 (F7).fault)).set 4 (.bool (F7).off)
        have c2 := hr2.cells
        have m2 := B1.marks
        have q2 := B1.cells
        have lB := B1.lt
        simp only [List.set_cons_zero, List.set_cons_succ] at c2
        go_wp2
        rw [HV.out]
        refine bodyPost_ret (v := .tuple #[.agg #[.slice ga gl gc, .slice ma ml mc, .int .i64 (F7).fuse, .int .i64 (F7).fault, .bool (F7).off], .int .i64 (e7)]) (by simp [results, Try.results42, go_sem, c2]) rfl ⟨ga, gl, gc, ma, ml, mc, rfl, ?_, ?_⟩
        · refine ((HR.out).same (Only.size (p := w.heap.size + 1 + 1) (by repeat (first | (with_reducible exact Only.refl _ _) | (with_reducible refine Only.set ?_ _ _) | (with_reducible refine Only.alloc ?_ _) | (with_reducible refine Only.drew ?_)))) (fun b h hlt => Only.block (p := w.heap.size + 1 + 1) (by repeat (first | (with_reducible exact Only.refl _ _) | (with_reducible refine Only.set ?_ _ _) | (with_reducible refine Only.alloc ?_ _) | (with_reducible refine Only.drew ?_))) b hlt ?_)).mono (T := Or S w) (fun b h => ?_)
          · rcases h with h | h
            · have := HSS.out b h; omega
            · (try simp at h); omega
          · rcases h with h | h
            · exact .inl h
            · exact .inr (by (try simp at h); omega)
        · exact (by repeat (first | (with_reducible exact Below.refl _ _) | (with_reducible exact Below.refl _ _) | (with_reducible refine Below.setCell ?_ (by first | omega | (simp; done) | (simp; omega)) _) | (with_reducible refine Below.alloc ?_ (by first | omega | (simp; done) | (simp; omega)) _) | (with_reducible refine Below.drew ?_) | (with_reducible refine below_drewN ?_ _) | (with_reducible refine Below.trans ?_ (bel.mono (by first | omega | (simp; done) | (simp; omega))))))
end Go.Proofs.Ytmjmjjakhmeogaa
