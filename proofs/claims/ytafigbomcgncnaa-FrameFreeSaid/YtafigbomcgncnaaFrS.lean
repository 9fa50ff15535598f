/-
  bytes.Repeat of one byte, walked; the marks of what is laid.
-/
import Derived.Test.YtafigbomcgncnaaFrQ
import Derived.Lib.MakeNoZero
import Derived.Laws.CopyOwn
namespace Go.Dav
set_option linter.unusedVariables false
set_option linter.unusedSimpArgs false
open Go Go.RowKit
theorem body_mark : ∀ (cs : List UInt8) (n j : Nat), (n + j) % 64 = 0 → j < (bodyAt n cs).length → (bodyAt n cs)[j]? = some 0 := fun cs => by
  induction cs with
  | nil => intro n j _ h; exact absurd h (Nat.not_lt_zero _)
  | cons c cs ih =>
    intro n j h hl
    rw [bodyAt_cons] at hl ⊢
    by_cases h0 : n % 64 = 0
    · rw [if_pos h0] at hl ⊢
      match j, h, hl with
      | 0, _, _ => rfl
      | 1, h, _ => omega
      | j + 2, h, hl => exact ih (n + 2) j (by omega) (by simpa using hl)
    · rw [if_neg h0] at hl ⊢
      match j, h, hl with
      | 0, h, _ => omega
      | j + 1, h, hl => exact ih (n + 1) j (by omega) (by simpa using hl)
/-- Every mark within what is laid is 0. -/
theorem laid_mark (A cs : List UInt8) {i : Nat} (h1 : A.length ≤ i) (h2 : i % 64 = 0) (h3 : i < (A ++ pieceOf A cs).length) : (A ++ pieceOf A cs)[i]? = some 0 := by
  rw [piece_body] at h3 ⊢
  by_cases h : i < (A ++ padFor A).length
  · rw [List.getElem?_append_left h, List.getElem?_append_right h1]
    rw [List.length_append] at h
    unfold padFor at h ⊢
    split
    · rename_i hm
      rw [if_pos hm, List.length_replicate] at h
      rw [List.getElem?_replicate, if_pos (by omega)]
    · rename_i hm
      rw [if_neg hm] at h
      simp at h; omega
  · rw [List.getElem?_append_right (by omega)]
    rw [@List.length_append _ (A ++ padFor A)] at h3
    exact body_mark cs _ _ (by rw [show (A ++ padFor A).length + (i - (A ++ padFor A).length) = i by omega]; exact h2) (by omega)
theorem bits_and_mask {a : Nat} (ha : a < 4294967296) : bits .and .u64 (a : Int) 4294967295 = (a : Int) := by
  have h := (bits_nat .u64 32 (by decide) (fun n h0 h1 => by rw [IntKind.wrap_u64]; omega) a 4294967295 ha (by decide)).1
  rw [show ((4294967295 : Nat) : Int) = 4294967295 from rfl] at h
  rw [h, show (4294967295 : Nat) = 2 ^ 32 - 1 from rfl, Nat.and_two_pow_sub_one_eq_mod]
  omega
theorem take_full {α : Type} (l : List α) (x : α) (k n : Nat) (h : l.take k = List.replicate k x) (hk : k ≤ l.length) (m : Nat) (hm : m ≤ k) (hl : k + m ≤ l.length) : (l.take k ++ (List.replicate m x ++ l.drop (k + m))).take (k + m) = List.replicate (k + m) x := by
  rw [h, ← List.append_assoc, List.replicate_append_replicate, List.take_left' (by simp)]
end Go.Dav
namespace Go.Proofs.Ytafigbomcgncnaa
set_option linter.unusedVariables false
set_option linter.unusedSimpArgs false
open Go.RowKit Go.Dav
attribute [local go_sem] Gives ite_val ite_val_true

theorem Try_Mul64 (n : Nat) (hn : n ≤ 600) (w : World) : Calls Try.prog 56 #[.int .u64 1, .int .u64 (n : Int)] w fun e w' => e = .returned (.tuple #[.int .u64 0, .int .u64 (n : Int)]) ∧ Below w.heap.size w w' := by
  have a1 : bits .and .u64 1 4294967295 = 1 := bits_and_mask (a := 1) (by omega)
  have a2 : bits .and .u64 (n : Int) 4294967295 = (n : Int) := bits_and_mask (by omega)
  have a3 : (n : Int) / 4294967296 = 0 := by omega
  have a4 : IntKind.u64.wrap (n : Int) = (n : Int) := by rw [IntKind.wrap_u64]; omega
  have a5 : bits .and .u64 0 4294967295 = 0 := bits_and_mask (a := 0) (by omega)
  go_enter Try.func56, Try.ntmps56
  go_wp2
  go_ret2
  exact ⟨rfl, Below.refl _ _⟩
theorem Try_Mul (n : Nat) (hn : n ≤ 600) (w : World) : Calls Try.prog 42 #[.int .u64 1, .int .u64 (n : Int)] w fun e w' => e = .returned (.tuple #[.int .u64 0, .int .u64 (n : Int)]) ∧ Below w.heap.size w w' := by
  have HM := Lib.hid (Try_Mul64 n hn w)
  go_enter Try.func42, Try.ntmps42
  go_wp2_with fail
  refine HM.out.mono ?_; rintro e w1 ⟨rfl, hb1⟩
  have HB := Lib.hid hb1
  clear hb1
  go_wp2
  go_ret2
  exact ⟨rfl, HB.out⟩

set_option maxRecDepth 100000 in
set_option maxHeartbeats 8000000 in
theorem Try_Repeat (b o c n : Nat) (m : UInt8) (w : World) (hc : w.cell? ⟨b, o, none⟩ = some (.int .u8 (m.toNat : Int))) (hb : b < w.heap.size) (h1 : 1 ≤ n) (hn : n ≤ 600) :
    Calls Try.prog 27 #[.slice (some ⟨b, o, none⟩) 1 c, .int .i64 (n : Int)] w fun e w' => ∃ g, e = .returned (.slice (some ⟨g, 0, none⟩) n n) ∧ BytesS w' (fun x => w.heap.size ≤ x) (some ⟨g, 0, none⟩) n n (List.replicate n m) ∧ Below w.heap.size w w' := by
  have HM := Lib.hid (Try_Mul n hn w)
  have a1 : ¬ (n : Int) = 0 := by omega
  have a2 : ¬ (n : Int) < 0 := by omega
  have a3 : IntKind.u64.wrap (n : Int) = (n : Int) := by rw [IntKind.wrap_u64]; omega
  have a4 : ¬ (9223372036854775807 : Int) < (n : Int) := by omega
  have a5 : IntKind.i64.wrap (n : Int) = (n : Int) := IntWalk.i64_in _ (by omega)
  have a6 : ¬ (8192 : Int) < (n : Int) := by omega
  have a8 : ¬ n = 0 := by omega
  go_enter Try.func27, Try.ntmps27
  go_wp2_with fail
  refine HM.out.mono ?_; rintro e w1 ⟨rfl, hb1⟩
  obtain ⟨cs, hrunM, hle, hmax⟩ := Lib.run_makeNoZero (P := Try.prog) w1 #[3] 22 5 Try.underlying22 n (by omega)
  have hcall : (callFunc 43 #[.int .i64 (n : Int)]).run Try.prog w1 = .ok (.value (.slice (some ⟨w1.heap.size, 0, none⟩) n cs.size)) (w1.drew.drew.alloc (.cells cs 5)) := by
    rw [run_callFunc_extern Try.func43 (by kernel_rfl) (by kernel_rfl) (by kernel_rfl) (e := Extern.BytealgMakeNoZero.makeNoZero #[3] #[22]) (by kernel_rfl), hrunM]
    rfl
  obtain ⟨W0, hW0⟩ : ∃ W0, w1.drew.drew.alloc (.cells cs 5) = W0 := ⟨_, rfl⟩
  rw [hW0] at hcall
  have hbel : Below w1.heap.size w1 W0 := by rw [← hW0]; exact (by repeat (first | (with_reducible exact Below.refl _ _) | (with_reducible exact Below.refl _ _) | (with_reducible refine Below.setCell ?_ (by first | omega | (simp; done) | (simp; omega)) _) | (with_reducible refine Below.alloc ?_ (by first | omega | (simp; done) | (simp; omega)) _) | (with_reducible refine Below.drew ?_) | (with_reducible refine below_drewN ?_ _)))
  have hblk : W0.heap[w1.heap.size]? = some (.cells cs 5 (0, 0)) := by rw [← hW0]; exact heap_alloc_new _ _
  have a7 : (n : Int) ≤ (cs.size : Int) := by omega
  have hsrc : W0.cell? ⟨b, o, none⟩ = some (.int .u8 (m.toNat : Int)) := (hbel.cell (p := ⟨b, o, none⟩) (Nat.lt_of_lt_of_le hb hb1.size)).trans ((hb1.cell (p := ⟨b, o, none⟩) hb).trans hc)
  have HSRC := Lib.hid (show ∀ (j : Nat) (v : Value), [Value.int .u8 (m.toNat : Int)][j]? = some v → W0.cell? (Addr.add ⟨b, o, none⟩ j) = some v from fun j v hj => by
    match j, hj with
    | 0, hj => cases hj; exact hsrc
    | j + 1, hj => simp at hj)
  have HBEL := Lib.hid hbel
  have HBLK := Lib.hid hblk
  have HB1 := Lib.hid hb1
  have hs1 := hb1.size
  obtain ⟨g, hg⟩ : ∃ g, w1.heap.size = g := ⟨_, rfl⟩
  have hgW : g < W0.heap.size := by rw [← hg]; exact (Array.getElem?_eq_some_iff.1 hblk).1
  rw [hg] at hcall HBLK
  clear hrunM hW0 hbel hblk hmax hb1 hsrc hc HM
  obtain ⟨u, hu⟩ : ∃ u, Value.int .u8 (m.toNat : Int) = u := ⟨_, rfl⟩
  have hu1 : u.oneCell' = true := by rw [← hu]; rfl
  obtain ⟨l2, hl2⟩ : ∃ l2, cs.toList.take 0 ++ ([u] ++ cs.toList.drop (0 + [u].length)) = l2 := ⟨_, rfl⟩
  have hl2n : l2.length = cs.size := by rw [← hl2]; simp; omega
  have hl2t : l2.take 1 = List.replicate 1 u := by rw [← hl2]; simp
  obtain ⟨W2, hW2⟩ : ∃ W2, W0.setRow g l2.toArray = W2 := ⟨_, rfl⟩
  have HW2 := Lib.hid (show W0.setRow g (cs.toList.take 0 ++ ([u] ++ cs.toList.drop (0 + [u].length))).toArray = W2 by rw [hl2, hW2])
  have hblk2 : W2.heap[g]? = some (.cells l2.toArray 5 (0, 0)) := by rw [← hW2]; exact setRow_heap W0 g cs _ _ _ HBLK.out
  have hbel2 : Below g w1 W2 := by rw [← hW2]; exact below_setRow (by rw [← hg]; exact HBEL.out) (Nat.le_refl _) _
  rw [hu] at HSRC
  have HK2 := Lib.hid hblk2
  have HBEL2 := Lib.hid hbel2
  have HL2 := Lib.hid (And.intro hl2n hl2t)
  have HU := Lib.hid hu1
  have HUU := Lib.hid hu
  have HG := Lib.hid hg
  clear hW2 hblk2 hbel2 hl2 hl2n hl2t hu1 hu
  go_wp2_with (refine wpList_copy_own rfl (.tmp 58) (.tmp 59) 22 22 rfl 5 Try.underlying22 (by kernel_rfl) g 0 n n ⟨b, o, none⟩ 1 c rfl rfl cs 5 HBLK.out [u] (by show 1 = Nat.min 1 n; exact (Nat.min_eq_left h1).symm) HSRC.out (by simp; omega) (fun v hv => by simp at hv; rw [hv]; exact HU.out) ?_; rw [HW2.out])
  clear hcall HBLK HBEL HSRC hgW a2 a3 a4 hg HW2
  go_loopw [10] (fun ix wr => ∃ (k : Nat) (l : List Value), 1 ≤ k ∧ k ≤ n ∧ ix = .int .i64 (k : Int) ∧ l.length = cs.size ∧ l.take k = List.replicate k u ∧ wr.heap[g]? = some (.cells l.toArray 5 (0, 0)) ∧ Below g w1 wr) (fun ix _ => n - (intOf ix).toNat)
  case atStart => exact ⟨1, l2, Nat.le_refl _, h1, by go_num, HL2.out.1, HL2.out.2, HK2.out, HBEL2.out⟩
  case round =>
    obtain ⟨k, l, hk1, hkn, rfl, hll, hlt, hlk, hbl⟩ := hrel
    have HLK := Lib.hid hlk
    have HBL := Lib.hid hbl
    have HLT := Lib.hid hlt
    clear hlk hbl hlt
    by_cases hkm : k < n
    · have b1 : (k : Int) < (n : Int) := by omega
      have b2 : ¬ (n : Int) < (k : Int) := by omega
      have b3 : (k : Int) ≤ (n : Int) := by omega
      have b4 : (0 : Int) ≤ (k : Int) := by omega
      have b5 : ¬ n = k := by omega
      have hgw : g < wr.heap.size := (Array.getElem?_eq_some_iff.1 HLK.out).1
      obtain ⟨m2, hm2⟩ : ∃ m2, Nat.min k (n - k) = m2 := ⟨_, rfl⟩
      have hm3 : 1 ≤ m2 ∧ m2 ≤ k ∧ k + m2 ≤ n := by rw [← hm2]; show 1 ≤ min k (n - k) ∧ min k (n - k) ≤ k ∧ k + min k (n - k) ≤ n; omega
      have HMM := Lib.hid (show (List.replicate m2 u).length = Nat.min k (n - k) by rw [List.length_replicate, hm2])
      have HFIT := Lib.hid (show k + (List.replicate m2 u).length ≤ l.toArray.size by rw [List.length_replicate]; simp; omega)
      have HONE := Lib.hid (show ∀ v ∈ List.replicate m2 u, v.oneCell' = true from fun v hv => by rw [(List.mem_replicate.1 hv).2]; exact HU.out)
      have HSR := Lib.hid (show ∀ W', Below wr.heap.size wr W' → ∀ (j : Nat) (v : Value), (List.replicate m2 u)[j]? = some v → W'.cell? (Addr.add ⟨g, 0, none⟩ j) = some v from fun W' hW' j v hj => by
        have hjm : j < m2 := by have h := (List.getElem?_eq_some_iff.1 hj).1; rwa [List.length_replicate] at h
        rw [List.getElem?_replicate, if_pos hjm] at hj
        cases hj
        have hg2 : Blk wr g l 5 := HLK.out
        rw [Addr.add_lit, Nat.zero_add, (hg2.ext hW').cells]
        have h := congrArg (·[j]?) HLT.out
        simp only [List.getElem?_take, List.getElem?_replicate] at h
        rwa [if_pos (by omega), if_pos (by omega)] at h)
      have hkI : IntKind.i64.wrap ((k : Int) + (m2 : Int)) = (k : Int) + (m2 : Int) := IntWalk.i64_in _ (by omega)
      clear hkm hm2
      go_wp2_with fail
      refine' wp_region_seqF [0] [.inl _, .inl _, .inl _, .inl _, .inl _, .inl _, .inl _] (by kernel_rfl) (by kernel_rfl) ?main1
      case main1 =>
        refine wpParts_det (by rfl) (fun W hE hN => ?_) ?_
        · go_simp; refine ⟨Below.refl _ _, ?_⟩; rfl
        simp only [Act.put, List.setIfInBounds_toArray, List.set_cons_zero, List.set_cons_succ]
        refine wpParts_det (by rfl) (fun W hE hN => ?_) ?_
        · go_simp; refine ⟨Below.refl _ _, ?_⟩; rfl
        simp only [Act.put, List.setIfInBounds_toArray, List.set_cons_zero, List.set_cons_succ]
        refine wpParts_det (by rfl) (fun W hE hN => ?_) ?_
        · go_simp; refine ⟨Below.refl _ _, ?_⟩; rfl
        simp only [Act.put, List.setIfInBounds_toArray, List.set_cons_zero, List.set_cons_succ]
        refine wpParts_det (by rfl) (fun W hE hN => ?_) ?_
        · go_simp; refine ⟨Below.refl _ _, ?_⟩; rfl
        simp only [Act.put, List.setIfInBounds_toArray, List.set_cons_zero, List.set_cons_succ]
        refine wpParts_det (by rfl) (fun W hE hN => ?_) ?_
        · go_simp; refine ⟨Below.refl _ _, ?_⟩; rfl
        simp only [Act.put, List.setIfInBounds_toArray, List.set_cons_zero, List.set_cons_succ]
        refine wpParts_det (by rfl) (fun W hE hN => ?_) ?_
        · go_simp; refine ⟨Below.refl _ _, ?_⟩; rfl
        simp only [Act.put, List.setIfInBounds_toArray, List.set_cons_zero, List.set_cons_succ]
        refine wpParts_det (by rfl) (fun W hE hN => ?_) ?_
        · go_simp; refine ⟨Below.refl _ _, ?_⟩; rfl
        simp only [Act.put, List.setIfInBounds_toArray, List.set_cons_zero, List.set_cons_succ]
        refine wpParts_end fun W5 hE5 hG5 => ?_
        have hcW5 := fun b o h => hE5.cell (p := ⟨b, o, none⟩) h
        have hfW5 := fun b o h => hE5.frozen (p := ⟨b, o, none⟩) h
        have hk5 := (show Blk wr g l 5 from HLK.out).ext hE5
        have HK5 := Lib.hid (show W5.heap[g]? = some (.cells l.toArray 5 (0, 0)) from hk5)
        have HB5 := Lib.hid (HBL.out.trans (hE5.mono (by have := HBL.out.size; omega)))
        have HS5 := Lib.hid (HSR.out W5 hE5)
        clear hk5 hE5 hG5 hcW5 hfW5
        obtain ⟨l6, hl6⟩ : ∃ l6, l.take k ++ (List.replicate m2 u ++ l.drop (k + m2)) = l6 := ⟨_, rfl⟩
        have hl6n : l6.length = cs.size := by rw [← hl6]; simp; omega
        have hl6t : l6.take (k + m2) = List.replicate (k + m2) u := by rw [← hl6]; exact take_full l u k n HLT.out (by omega) m2 hm3.2.1 (by omega)
        obtain ⟨W6, hW6⟩ : ∃ W6, W5.setRow g l6.toArray = W6 := ⟨_, rfl⟩
        have HW6 := Lib.hid (show W5.setRow g (l.toArray.toList.take k ++ (List.replicate m2 u ++ l.toArray.toList.drop (k + (List.replicate m2 u).length))).toArray = W6 by rw [List.length_replicate, hl6, hW6])
        have HK6 := Lib.hid (show W6.heap[g]? = some (.cells l6.toArray 5 (0, 0)) by rw [← hW6]; exact setRow_heap W5 g _ _ _ _ HK5.out)
        have HB6 := Lib.hid (show Below g w1 W6 by rw [← hW6]; exact below_setRow HB5.out (Nat.le_refl _) _)
        have HL6 := Lib.hid (And.intro hl6n hl6t)
        clear hl6 hl6n hl6t hW6
        go_wp2_with (go_loud (refine wpList_copy_own rfl (.tmp 70) (.tmp 73) 22 22 rfl 5 Try.underlying22 (by kernel_rfl) g k (n - k) (n - k) ⟨g, 0, none⟩ k n rfl rfl l.toArray 5 HK5.out (List.replicate m2 u) HMM.out HS5.out HFIT.out HONE.out ?_; rw [HW6.out]; rw [List.length_replicate]))
        refine noPanic_normal ?_
        go_wp2_with fail
        go_roundw
        case rel => exact ⟨k + m2, l6, by omega, hm3.2.2, by go_num, HL6.out.1, HL6.out.2, HK6.out, HB6.out⟩
        case measure => simp [intOf]; omega
    · obtain rfl : n = k := by omega
      have hkg : Blk wr g l 5 := HLK.out
      have hby : BytesS wr (fun x => w.heap.size ≤ x) (some ⟨g, 0, none⟩) n n (List.replicate n m) := by
        refine BytesS.of_cells ⟨by rw [u8s_len, List.length_replicate], fun j v hj => ⟨g, 0, rfl, hkg.lt, by have := HG.out; omega, ?_⟩⟩ (Nat.le_refl _) (by unfold maxLen; omega) (by omega) (fun e => by cases e)
        have hjn : j < n := by have h := (List.getElem?_eq_some_iff.1 hj).1; rwa [u8s_len, List.length_replicate] at h
        have hv : v = u := by
          rw [← HUU.out]
          simp only [u8s, List.map_replicate, List.getElem?_replicate, if_pos hjn] at hj
          exact (Option.some.inj hj).symm
        rw [Nat.zero_add, hkg.cells, hv]
        have h := congrArg (·[j]?) HLT.out
        simp only [List.getElem?_take, List.getElem?_replicate] at h
        rwa [if_pos hjn, if_pos hjn] at h
      have HBY := Lib.hid hby
      have HBW := Lib.hid (HB1.out.trans ((HG.out ▸ HBL.out).mono hs1))
      clear hkg hby hkm
      go_wp2
      go_ret
      exact ⟨g, rfl, HBY.out, HBW.out⟩
end Go.Proofs.Ytafigbomcgncnaa
