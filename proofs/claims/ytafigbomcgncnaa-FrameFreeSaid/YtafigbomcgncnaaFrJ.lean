/-
  Layer 11, the reference: Past.
-/
import Derived.Test.YtafigbomcgncnaaFrI
namespace Go.Dav
set_option linter.unusedVariables false
set_option linter.unusedSimpArgs false
open Go Go.RowKit
theorem own_other {W W' : World} {base base' e e' n n' : Nat} {v v' : Value} {xs xs' : List Value} (h : W.ownsRow base e 1 v n xs) (h' : W.ownsRow base' e' 1 v' n' xs') (hne : e ≠ e') (hg : W.grownBy W' v'.ownBlock) : W'.ownsRow base e 1 v n xs := by
  refine h.kept hg ?_
  rcases h.2 with ⟨rfl, _⟩ | ⟨g, c, cur, rfl, _, h3, _⟩
  · exact .inl rfl
  · refine .inr fun e1 => ?_
    rcases h'.2 with ⟨rfl, _⟩ | ⟨g', c', cur', rfl, _, h3', _⟩
    · simp [Value.ownBlock] at e1
    · obtain rfl : g = g' := by simpa [Value.ownBlock] using e1
      rw [h3] at h3'; cases h3'; exact hne rfl
def intsOf (pre : List (Nat × UInt8)) : List Value := pre.map fun x => Value.int .i64 (x.1 : Int)
def bytesIn (pre : List (Nat × UInt8)) : List UInt8 := pre.map (·.2)
theorem pasts_len (l : List UInt8) (i : Nat) : (pasts l i).length ≤ l.length - i := by
  unfold pasts
  have : ∀ (m : List UInt8) (i : Nat), (pastsL i m).length ≤ m.length := fun m => by
    induction m with
    | nil => intro i; exact Nat.le_refl _
    | cons c r ih =>
      intro i
      unfold pastsL
      have := ih (i + 1)
      split
      · split
        · simp only [List.length_cons]; omega
        · simp
      · simp only [List.length_cons]; omega
  have := this (l.drop i) i
  rwa [List.length_drop] at this
/-- The answer of the reference's Past. -/
def PastTo (w : World) (tb ti : Nat) (T : List (Nat × UInt8)) (e : Ending) (w' : World) : Prop :=
  ∃ vb vp, e = .returned (.tuple #[vb, vp]) ∧ w'.ownsRow w.heap.size tb 1 vb T.length (u8s (bytesIn T)) ∧ w'.ownsRow w.heap.size ti 1 vp T.length (intsOf T) ∧ Below w.heap.size w w'
end Go.Dav
namespace Go.Proofs.Ytafigbomcgncnaa
set_option linter.unusedVariables false
set_option linter.unusedSimpArgs false
open Go.RowKit Go.Dav Go.Shelf
attribute [local go_sem] Gives ite_val ite_val_true Oper.semAt_some

theorem Try_infoInt : (Try.prog.info? 3).map (fun i => (i.zero, i.size, i.bytes)) = some (some (.int .i64 0), 1, 8) := by kernel_rfl
theorem Try_elemInt : Elem1 Try.prog 53 3 8 := by
  obtain ⟨i0, hi, hz0, hz1, hz2⟩ := info_parts Try_infoInt
  exact ⟨Try.underlying53, i0, _, hi, hz0, hz1, hz2, rfl⟩

theorem Try_refPast_no (a : Option Addr) (n c : Nat) (l : List UInt8) (at_ : Int) (w : World) (hl : BytesAt w a n c l) (ha : I64' at_) (h : at_ < 0 ∨ (n : Int) ≤ at_ ∨ at_ % 64 = 0) :
    Calls Try.prog 33 #[.slice a n c, .int .i64 at_] w (PastTo w 5 3 []) := by
  have hend : ∀ w', Below w.heap.size w w' → PastTo w 5 3 [] (.returned (.tuple #[.slice none 0 0, .slice none 0 0])) w' := fun w' hb => ⟨_, _, rfl, World.ownsRow_nil _ _ _ _, World.ownsRow_nil _ _ _ _, hb⟩
  have HEND := Lib.hid hend
  clear hl hend
  by_cases h1 : at_ < 0
  · have d1 : decide (at_ < 0) = true := decide_eq_true h1
    clear h h1
    go_enter Try.func33, Try.ntmps33
    go_wp2
    refine bodyPost_ret (v := .tuple #[.slice none 0 0, .slice none 0 0]) (by simp [results, Try.results33, go_sem]) rfl (HEND.out _ (Below.refl _ _))
  · obtain ⟨k, rfl⟩ : ∃ k : Nat, at_ = (k : Int) := ⟨at_.toNat, by omega⟩
    have d1 : decide ((k : Int) < 0) = false := decide_eq_false h1
    by_cases h2 : n ≤ k
    · have d2 : decide (n ≤ k) = true := decide_eq_true h2
      clear h h1 h2
      go_enter Try.func33, Try.ntmps33
      go_wp2
      refine bodyPost_ret (v := .tuple #[.slice none 0 0, .slice none 0 0]) (by simp [results, Try.results33, go_sem]) rfl (HEND.out _ (Below.refl _ _))
    · have d2 : decide (n ≤ k) = false := decide_eq_false h2
      have t1 : (k : Int).tmod 64 = (k : Int) % 64 := Int.tmod_eq_emod_of_nonneg (by omega)
      have d3 : (k : Int) % 64 = 0 := by omega
      clear h h1 h2
      go_enter Try.func33, Try.ntmps33
      go_wp2
      refine bodyPost_ret (v := .tuple #[.slice none 0 0, .slice none 0 0]) (by simp [results, Try.results33, go_sem]) rfl (HEND.out _ (Below.refl _ _))

set_option maxRecDepth 100000 in
set_option maxHeartbeats 8000000 in
theorem Try_refPast_in (b o n c : Nat) (l : List UInt8) (k : Nat) (w : World) (hl : BytesAt w (some ⟨b, o, none⟩) n c l) (hn : n ≤ 1048576) (h1 : k < n) (h2 : k % 64 ≠ 0) (x0 : UInt8) (hx : l[k - k % 64]? = some x0) :
    Calls Try.prog 33 #[.slice (some ⟨b, o, none⟩) n c, .int .i64 (k : Int)] w (PastTo w 5 3 (if x0 = 0 then pasts l k else [])) := by
  have hend : ∀ w', Below w.heap.size w w' → PastTo w 5 3 [] (.returned (.tuple #[.slice none 0 0, .slice none 0 0])) w' := fun w' hb => ⟨_, _, rfl, World.ownsRow_nil _ _ _ _, World.ownsRow_nil _ _ _ _, hb⟩
  have HEND := Lib.hid hend
  have hln := hl.hlen
  have d1 : decide ((k : Int) < 0) = false := decide_eq_false (by omega)
  have d2 : decide (n ≤ k) = false := decide_eq_false (by omega)
  have t1 : (k : Int).tmod 64 = (k : Int) % 64 := Int.tmod_eq_emod_of_nonneg (by omega)
  have d3 : ((k : Int) % 64 == 0) = false := by rw [beq_eq_false_iff_ne]; omega
  obtain ⟨fr, hfr⟩ : ∃ fr, k - k % 64 = fr := ⟨_, rfl⟩
  have e1 : IntKind.i64.wrap ((k : Int) - (k : Int) % 64) = (fr : Int) := by
    rw [show (k : Int) - (k : Int) % 64 = (fr : Int) by omega]; exact IntWalk.i64_in _ (by omega)
  have e2 : (k : Int) - (k : Int) % 64 = (fr : Int) := by omega
  have e3 : IntKind.i64.wrap (fr : Int) = (fr : Int) := IntWalk.i64_in _ (by omega)
  have e4 : fr < n := by omega
  rw [hfr] at hx
  have c0 : w.cell? ⟨b, o + fr, none⟩ = some (.int .u8 (x0.toNat : Int)) := by
    obtain ⟨b', o', h3, _, h4⟩ := hl.hat fr x0 hx
    cases h3; exact h4
  have HL := Lib.hid hl
  have HLN := Lib.hid hln
  clear hend hl hln hx hfr
  by_cases h0 : x0 = 0
  · subst h0
    rw [if_pos rfl]
    have c0' : w.cell? ⟨b, o + fr, none⟩ = some (.int .u8 0) := c0
    clear c0
    go_enter Try.func33, Try.ntmps33
    go_wp2_with fail
    go_loopg [6, 7, 8] (n - k) (fun g bs ps ix wr => ∃ (i : Nat) (pre : List (Nat × UInt8)), k ≤ i ∧ i ≤ n ∧ g = n - i ∧ ix = .int .i64 (i : Int) ∧ pre ++ pasts l i = pasts l k ∧ wr.ownsRow w.heap.size 5 1 bs pre.length (u8s (bytesIn pre)) ∧ wr.ownsRow w.heap.size 3 1 ps pre.length (intsOf pre) ∧ Below w.heap.size w wr)
    case atStart => exact ⟨k, [], Nat.le_refl _, by omega, rfl, rfl, rfl, World.ownsRow_nil _ _ _ _, World.ownsRow_nil _ _ _ _, Below.refl _ _⟩
    case round =>
      obtain ⟨i, pre, hk1, hk2, rfl, rfl, hpre, hob, hop, hbl⟩ := hrel
      have hpl : pre.length ≤ 1048576 := by
        have h3 := congrArg List.length hpre
        have h4 := pasts_len l k
        rw [List.length_append] at h3
        have := HLN.out
        omega
      have HOB := Lib.hid hob
      have HOP := Lib.hid hop
      have HBL := Lib.hid hbl
      have HPRE := Lib.hid hpre
      obtain ⟨ra, rc, rfl, _⟩ := own_cells hob
      obtain ⟨pa, pc, rfl, _⟩ := own_cells hop
      have t2 : (i : Int).tmod 64 = (i : Int) % 64 := Int.tmod_eq_emod_of_nonneg (by omega)
      clear hob hop hbl hpre c0' d1 d2 d3 t1 e1 e2 e3 e4
      by_cases hin : i < n
      · obtain ⟨x, hx⟩ : ∃ x, l[i]? = some x := ⟨_, List.getElem?_eq_getElem (by have := HLN.out; omega)⟩
        obtain ⟨b', o', e5, hb', hc⟩ := HL.out.hat i x hx
        cases e5
        have hc' := (HBL.out.cell (p := ⟨b, o + i, none⟩) hb').trans hc
        have hin' : (i : Int) < (n : Int) := by omega
        have HX := Lib.hid hx
        clear hx hc hb'
        by_cases h64 : i % 64 = 0
        · have d4 : (i : Int) % 64 = 0 := by omega
          by_cases hx0 : x = 0
          · subst hx0
            have hc2 : wr.cell? ⟨b, o + i, none⟩ = some (.int .u8 0) := hc'
            clear hc'
            go_wp2_with fail
            go_roundg (n - (i + 1))
            case measure => omega
            case rel => exact ⟨i + 1, pre, by omega, by omega, rfl, by go_num, by rw [← pasts_zero HX.out h64]; exact HPRE.out, HOB.out, HOP.out, HBL.out⟩
          · have hz : ((x.toNat : Int) != 0) = true := by
              rw [bne_iff_ne]; intro e; exact hx0 (UInt8.toNat_inj.1 (by exact_mod_cast e))
            have HFIN := Lib.hid (show pre = pasts l k by rw [← HPRE.out, pasts_stop HX.out h64 hx0, List.append_nil])
            clear hx0 h64
            go_wp2_with fail
            refine bodyPost_ret (v := .tuple #[.slice ra pre.length rc, .slice pa pre.length pc]) (by simp [results, Try.results33, go_sem]) rfl ⟨_, _, rfl, by rw [← HFIN.out]; exact HOB.out, by rw [← HFIN.out]; exact HOP.out, HBL.out⟩
        · have d4 : ¬ (i : Int) % 64 = 0 := by omega
          have HMID := Lib.hid (pasts_mid HX.out h64)
          have HCX := Lib.hid (cells_one (S := fun b => b = wr.heap.size) (g := wr.heap.size) (v := .int .u8 (x.toNat : Int)) rfl (by simp) (Blk.new wr [.int .u8 (x.toNat : Int)] 5 |>.cell 0 rfl))
          clear h64
          go_wp2_with (first | (at_builtin; refine wpList_append_rowS rfl (.tmp 49) (.tmp 54) 22 rfl Try_elemU8 w.heap.size _ pre.length (u8s (bytesIn pre)) rfl (HOB.out.alloc _) (fun b => b = wr.heap.size) (some ⟨wr.heap.size, 0, none⟩) 1 1 [.int .u8 (x.toNat : Int)] rfl HCX.out (fun u hu => by simp at hu; subst hu; rfl) (fun h => by cases h) (by unfold maxLen; omega) (by omega) (by have := HBL.out.size; simp; omega) ?_; intro v2 w2 hown2 hgrow2; have bel2 := Lib.hid (below_own (HBL.out.alloc HBL.out.size _) (by have := HBL.out.size; simp; omega) (HOB.out.alloc _) (Nat.le_refl _) hgrow2); have hs2 := bel2.out.size; have HP2 := Lib.hid (own_other (HOP.out.alloc _) (HOB.out.alloc (.cells #[.int .u8 (x.toNat : Int)] 5)) (by decide) hgrow2); obtain ⟨r2, c2, rfl, hz2⟩ := own_cells hown2; have HO2 := Lib.hid hown2; have HCI := Lib.hid (cells_one (S := fun b => b = w2.heap.size) (g := w2.heap.size) (v := .int .i64 (i : Int)) rfl (by simp) (Blk.new w2 [.int .i64 (i : Int)] 3 |>.cell 0 rfl)); clear HOB HOP HCX hown2 hgrow2 hz2) | (at_builtin; refine wpList_append_rowS rfl (.tmp 56) (.tmp 58) 53 rfl Try_elemInt w.heap.size _ pre.length (intsOf pre) rfl (HP2.out.alloc _) (fun b => b = w2.heap.size) (some ⟨w2.heap.size, 0, none⟩) 1 1 [.int .i64 (i : Int)] rfl HCI.out (fun u hu => by simp at hu; subst hu; rfl) (fun h => by cases h) (by unfold maxLen; omega) (by omega) (by simp; omega) ?_; intro v3 w3 hown3 hgrow3; have bel3 := Lib.hid (below_own (bel2.out.alloc (by omega) _) (by simp; omega) (HP2.out.alloc _) (Nat.le_refl _) hgrow3); have HB3 := Lib.hid (own_other (HO2.out.alloc _) (HP2.out.alloc (.cells #[.int .i64 (i : Int)] 3)) (by decide) hgrow3); obtain ⟨r3, c3, rfl, hz3⟩ := own_cells hown3; have HO3 := Lib.hid hown3; clear HP2 HO2 HCI hown3 hgrow3 hz3))
          go_roundg (n - (i + 1))
          case measure => omega
          case rel =>
            refine ⟨i + 1, pre ++ [(i, x)], by omega, by omega, rfl, by go_num, ?_, ?_, ?_, bel3.out⟩
            · rw [List.append_assoc, List.singleton_append, ← HMID.out]; exact HPRE.out
            · have h := HB3.out
              rw [List.length_append, bytesIn, List.map_append, u8s_append]; exact h
            · have h := HO3.out
              rw [List.length_append, intsOf, List.map_append]; exact h
      · have hni : ¬ ((i : Int) < (n : Int)) := by omega
        have HFIN := Lib.hid (show pre = pasts l k by rw [← HPRE.out, pasts_end (by have := HLN.out; omega), List.append_nil])
        clear hin
        go_wp2_with fail
        refine bodyPost_ret (v := .tuple #[.slice ra pre.length rc, .slice pa pre.length pc]) (by simp [results, Try.results33, go_sem]) rfl ⟨_, _, rfl, by rw [← HFIN.out]; exact HOB.out, by rw [← HFIN.out]; exact HOP.out, HBL.out⟩
  · rw [if_neg h0]
    have hz : ((x0.toNat : Int) != 0) = true := by
      rw [bne_iff_ne]; intro e; exact h0 (UInt8.toNat_inj.1 (by exact_mod_cast e))
    clear h0
    go_enter Try.func33, Try.ntmps33
    go_wp2
    refine bodyPost_ret (v := .tuple #[.slice none 0 0, .slice none 0 0]) (by simp [results, Try.results33, go_sem]) rfl (HEND.out _ (Below.refl _ _))
end Go.Proofs.Ytafigbomcgncnaa
