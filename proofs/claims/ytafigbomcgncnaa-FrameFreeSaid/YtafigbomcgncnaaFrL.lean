/-
  Layer 11, the reference: Get.
-/
import Derived.Test.YtafigbomcgncnaaFrK
namespace Go.Dav
set_option linter.unusedVariables false
set_option linter.unusedSimpArgs false
open Go Go.RowKit
def RefGetsTo (w : World) (T : List (Nat × UInt8)) (e : Ending) (w' : World) : Prop :=
  (∃ p nx, frameOf T = some (p, nx) ∧ ∃ a n c, e = .returned (.tuple #[.slice a n c, .int .i64 (nx : Int), .bool true]) ∧ BytesAt w' a n c p ∧ Below w.heap.size w w') ∨
  (frameOf T = none ∧ e = .returned (.tuple #[.slice none 0 0, .int .i64 0, .bool false]) ∧ Below w.heap.size w w')
theorem frameOf_short {T : List (Nat × UInt8)} (h : T.length < 7) : frameOf T = none := by
  unfold frameOf; exact if_neg fun hf => by have := hf.1; omega
theorem frameOf_size {T : List (Nat × UInt8)} (h : ¬ mayBe (szOf (bytesIn T))) : frameOf T = none := by
  unfold frameOf; exact if_neg fun hf => h hf.2.1
theorem frameOf_cut {T : List (Nat × UInt8)} (h : T.length < 6 + szOf (bytesIn T)) : frameOf T = none := by
  unfold frameOf; exact if_neg fun hf => by have h1 := hf.2.2.1; unfold bytesIn at h; omega
theorem frameOf_full {T : List (Nat × UInt8)} (h : 6 < T.length) (hm : mayBe (szOf (bytesIn T))) (hl : 6 + szOf (bytesIn T) ≤ T.length) :
    (outOf (((bytesIn T).drop 6).take (szOf (bytesIn T))) = (bytesIn T).take (6 + szOf (bytesIn T)) → frameOf T = some (((bytesIn T).drop 6).take (szOf (bytesIn T)), (T[5 + szOf (bytesIn T)]?.map fun x => x.1 + 1).getD 0)) ∧
    (¬ outOf (((bytesIn T).drop 6).take (szOf (bytesIn T))) = (bytesIn T).take (6 + szOf (bytesIn T)) → frameOf T = none) := by
  unfold frameOf
  exact ⟨fun he => if_pos ⟨h, hm, hl, he⟩, fun he => if_neg fun hf => he hf.2.2.2⟩
theorem pastsL_mem {x : Nat × UInt8} : ∀ (m : List UInt8) (i : Nat), x ∈ pastsL i m → x.1 < i + m.length := fun m => by
  induction m with
  | nil => intro i h; cases h
  | cons c r ih =>
    intro i h
    unfold pastsL at h
    have := ih (i + 1)
    simp only [List.length_cons]
    split at h
    · split at h
      · have := this h; omega
      · cases h
    · rcases List.mem_cons.1 h with rfl | h
      · show i < _; omega
      · have := this h; omega
theorem pasts_mem {x : Nat × UInt8} {l : List UInt8} {i : Nat} (h : x ∈ pasts l i) : x.1 < l.length := by
  by_cases hi : l.length ≤ i
  · rw [pasts_end hi] at h; cases h
  · have := pastsL_mem _ _ h
    rw [List.length_drop] at this; omega
theorem pastAll_cases (l : List UInt8) (at_ : Int) : pastAll l at_ = [] ∨ ∃ i, pastAll l at_ = pasts l i := by
  unfold pastAll
  split
  · exact .inl rfl
  · unfold restAt
    split
    · split
      · exact .inr ⟨_, rfl⟩
      · exact .inl rfl
    · exact .inr ⟨_, rfl⟩
theorem pastAll_len (l : List UInt8) (at_ : Int) : (pastAll l at_).length ≤ l.length := by
  rcases pastAll_cases l at_ with h | ⟨i, h⟩
  · rw [h]; exact Nat.zero_le _
  · rw [h]; have := pasts_len l i; omega
theorem pastAll_place (l : List UInt8) (at_ : Int) (x : Nat × UInt8) (h : x ∈ pastAll l at_) : x.1 < l.length := by
  rcases pastAll_cases l at_ with e | ⟨i, e⟩
  · rw [e] at h; cases h
  · rw [e] at h; exact pasts_mem h
theorem bytesIn_len (T : List (Nat × UInt8)) : (bytesIn T).length = T.length := by simp [bytesIn]
end Go.Dav
namespace Go.Proofs.Ytafigbomcgncnaa
set_option linter.unusedVariables false
set_option linter.unusedSimpArgs false
open Go.RowKit Go.Dav Go.Shelf
attribute [local go_sem] Gives ite_val ite_val_true Oper.semAt_some

set_option maxRecDepth 100000 in
set_option maxHeartbeats 8000000 in
theorem Try_refGet (a : Option Addr) (n c : Nat) (l : List UInt8) (at_ : Int) (w : World) (hl : BytesAt w a n c l) (ha : I64' at_) (hn : n ≤ 524288) :
    Calls Try.prog 12 #[.slice a n c, .int .i64 at_] w (RefGetsTo w (pastAll l at_)) := by
  obtain ⟨T, hT⟩ : ∃ T, pastAll l at_ = T := ⟨_, rfl⟩
  have hP := Try_refPast a n c l at_ w hl ha (by omega)
  have htl : T.length ≤ 524288 ∧ ∀ x ∈ T, x.1 ≤ 524288 := by
    have := hl.hlen
    rw [← hT]
    exact ⟨Nat.le_trans (pastAll_len _ _) (by omega), fun x hx => Nat.le_trans (Nat.le_of_lt (pastAll_place _ _ x hx)) (by omega)⟩
  rw [hT] at hP ⊢
  have HTP := Lib.hid htl.2
  have htl1 := htl.1
  clear hl ha hn hT htl
  go_enter Try.func12, Try.ntmps12
  go_wp2_with fail
  refine hP.mono ?_; rintro e w1 ⟨vb, vp, rfl, hob, hop, hb1⟩
  obtain ⟨ra, rc, rfl, hz1, hz2, hz3, hz4⟩ := own_cells hob
  obtain ⟨pa, pc, rfl, hp1, hp2, hp3, hp4⟩ := own_cells hop
  have BEL1 := Lib.hid hb1
  clear hb1 hP
  by_cases h7 : T.length < 7
  · have d1 : (T.length : Int) < 7 := by omega
    have HN := Lib.hid (frameOf_short h7)
    clear h7 hob hop hz4 hp4
    go_wp2
    refine bodyPost_ret (v := .tuple #[.slice none 0 0, .int .i64 0, .bool false]) (by simp [results, Try.results12, go_sem]) rfl (.inr ⟨HN.out, rfl, BEL1.out⟩)
  · have d1 : ¬ (T.length : Int) < 7 := by omega
    obtain ⟨l1, hl1⟩ : ∃ l1, bytesIn T = l1 := ⟨_, rfl⟩
    have hlen : l1.length = T.length := by rw [← hl1, bytesIn_len]
    have hff := @frameOf_full T (by omega)
    have hfs := @frameOf_size T
    have hfc := @frameOf_cut T
    rw [hl1] at hob hz4 hff hfs hfc
    obtain ⟨x0, hx0⟩ : ∃ x, l1[0]? = some x := ⟨_, List.getElem?_eq_getElem (by omega)⟩
    obtain ⟨x1, hx1⟩ : ∃ x, l1[1]? = some x := ⟨_, List.getElem?_eq_getElem (by omega)⟩
    have hsz : szOf l1 = x0.toNat * 256 + x1.toNat := szOf_get hx0 hx1
    obtain ⟨g, go, e1, hg0, hg1, hc0⟩ := hz4.at_ 0 _ (u8s_get hx0)
    subst e1
    obtain ⟨_, _, e2, _, _, hc1⟩ := hz4.at_ 1 _ (u8s_get hx1)
    cases e2
    rw [Nat.add_zero] at hc0
    have hn0 := x0.toNat_lt
    have hn1 := x1.toNat_lt
    obtain ⟨sz, hszv⟩ : ∃ sz, szOf l1 = sz := ⟨_, rfl⟩
    rw [hszv] at hsz hff hfs hfc
    have es : (x0.toNat : Int) * 256 + (x1.toNat : Int) = (sz : Int) := by omega
    have hs65 : sz ≤ 65535 := by omega
    have e3 : IntKind.i64.wrap ((x0.toNat : Int) * 256) = (x0.toNat : Int) * 256 := IntWalk.i64_in _ (by omega)
    have e4 : IntKind.i64.wrap ((x0.toNat : Int) * 256 + (x1.toNat : Int)) = (sz : Int) := by rw [es]; exact IntWalk.i64_in _ (by omega)
    have e5 : IntKind.i64.wrap (6 + (sz : Int)) = 6 + (sz : Int) := IntWalk.i64_in _ (by omega)
    have e6 : IntKind.i64.wrap (5 + (sz : Int)) = 5 + (sz : Int) := IntWalk.i64_in _ (by omega)
    have HZ4 := Lib.hid hz4
    have HOP := Lib.hid hop
    have HP4 := Lib.hid hp4
    have HFF := Lib.hid hff
    have HFS := Lib.hid hfs
    have HFC := Lib.hid hfc
    have HL1 := Lib.hid hl1
    have HLEN := Lib.hid hlen
    have h7i : 7 ≤ T.length := by omega
    clear h7 hob hop hz4 hp4 hff hfs hfc hx0 hx1 hl1 hlen hsz hszv hg1
    go_wp2_with fail
    go_quiet (fail)
    have hbd := below_drewN (Below.refl w1.heap.size w1) nq
    obtain ⟨W2, hW2⟩ : ∃ W2, w1.drewN nq = W2 := ⟨_, rfl⟩
    rw [hW2] at hbd ⊢
    have HZ42 := Lib.hid (HZ4.out.ext hbd)
    have HP42 := Lib.hid (HP4.out.ext hbd)
    have BEL2 := Lib.hid (BEL1.out.trans (hbd.mono BEL1.out.size))
    clear hbd hW2 hc0 hc1 HZ4 HP4 BEL1 d1
    by_cases hm : 1 ≤ sz ∧ sz ≤ 4096
    · by_cases hcut : T.length < 6 + sz
      · have f1 : ¬ (sz : Int) < 1 := by omega
        have f2 : ¬ (4096 : Int) < (sz : Int) := by omega
        have f3 : (T.length : Int) < 6 + (sz : Int) := by omega
        have HN := Lib.hid (HFC.out hcut)
        clear hm hcut
        go_wp2
        refine bodyPost_ret (v := .tuple #[.slice none 0 0, .int .i64 0, .bool false]) (by simp [results, Try.results12, go_sem]) rfl (.inr ⟨HN.out, rfl, BEL2.out⟩)
      · have f1 : ¬ (sz : Int) < 1 := by omega
        have f2 : ¬ (4096 : Int) < (sz : Int) := by omega
        have f3 : ¬ (T.length : Int) < 6 + (sz : Int) := by omega
        have f4 : 6 + sz ≤ T.length := by omega
        have f5 : sz ≤ 4096 := hm.2
        obtain ⟨hyes, hno⟩ := HFF.out hm f4
        have hpart := (HZ42.out.part (lo := 6) (hi := 6 + sz) (by omega) f4)
        rw [u8s_part, List.drop_take, show 6 + sz - 6 = sz by omega] at hpart
        have hpl : ((l1.drop 6).take sz).length = sz := by rw [List.length_take, List.length_drop]; have := HLEN.out; omega
        obtain ⟨p, hp⟩ : ∃ p, (l1.drop 6).take sz = p := ⟨_, rfl⟩
        rw [hp] at hpart hyes hno hpl
        have hB := BytesS.of_cells hpart (cap := rc - 6) (by omega) (by omega) (by omega) (fun e => by cases e)
        have hA := Try_refOut (some ⟨g, go + 6, none⟩) sz (rc - 6) p W2 _ hB (by omega)
        obtain ⟨r, hr⟩ : ∃ r, outOf p = r := ⟨_, rfl⟩
        have hrl : r.length = 6 + sz := by rw [← hr, outOf_len, hpl]
        rw [hr] at hA hyes hno
        have g1 : (6 : Int) ≤ 6 + (sz : Int) := by omega
        have g2 : 6 + (sz : Int) ≤ (rc : Int) := by omega
        have g3 : 6 + (sz : Int) ≤ (T.length : Int) := by omega
        have HB := Lib.hid hB
        have HA := Lib.hid hA
        have HYES := Lib.hid hyes
        have HNO := Lib.hid hno
        have HRL := Lib.hid hrl
        clear hm hcut hpart hp hpl hB hA hr hrl hyes hno
        go_wp2_with fail
        refine HA.out.mono ?_; rintro e w3 ⟨vr, rfl, hor, hb3⟩
        obtain ⟨rb, rrc, rfl, hr1, hr2, hr3, hr4⟩ := own_cells hor
        obtain ⟨y0, hy0⟩ : ∃ x, r[0]? = some x := ⟨_, List.getElem?_eq_getElem (by have := HRL.out; omega)⟩
        obtain ⟨rg, ro, e1, _⟩ := hr4.at_ 0 _ (u8s_get hy0)
        subst e1
        have HR3 := Lib.hid hr4
        have HZ43 := Lib.hid (HZ42.out.ext hb3)
        have HP43 := Lib.hid (HP42.out.ext hb3)
        have HB3 := Lib.hid (HB.out.ext hb3)
        have BEL3 := Lib.hid (BEL2.out.trans (hb3.mono BEL2.out.size))
        clear hor hr4 hb3 hy0 HZ42 HP42 HB BEL2 HA
        go_wp2_with fail
        go_loopg [12] (6 + sz) (fun g2 ix wr => ∃ i : Nat, i ≤ 6 + sz ∧ g2 = 6 + sz - i ∧ ix = .int .i64 (i : Int) ∧ (∀ j, j < i → r[j]? = l1[j]?) ∧ Below w3.heap.size w3 wr)
        case atStart => exact ⟨0, by omega, rfl, by go_num, fun j hj => absurd hj (Nat.not_lt_zero _), Below.refl _ _⟩
        case round =>
          obtain ⟨i, hi, rfl, rfl, hsame, hbl⟩ := hrel
          have HBL := Lib.hid hbl
          have HSAME := Lib.hid hsame
          clear hsame hbl
          by_cases hin : i < 6 + sz
          · have g4 : (i : Int) < 6 + (sz : Int) := by omega
            have g5 : i < T.length := by omega
            obtain ⟨x, hx⟩ : ∃ x, r[i]? = some x := ⟨_, List.getElem?_eq_getElem (by have := HRL.out; omega)⟩
            obtain ⟨y, hy⟩ : ∃ y, l1[i]? = some y := ⟨_, List.getElem?_eq_getElem (by have := HLEN.out; omega)⟩
            obtain ⟨_, _, e5, hb5, _, hcx0⟩ := HR3.out.at_ i _ (u8s_get hx)
            cases e5
            obtain ⟨_, _, e5, hb6, _, hcy0⟩ := HZ43.out.at_ i _ (u8s_get hy)
            cases e5
            have hcx := (HBL.out.cell (p := ⟨rg, ro + i, none⟩) hb5).trans hcx0
            have hcy := (HBL.out.cell (p := ⟨g, go + i, none⟩) hb6).trans hcy0
            have HX := Lib.hid hx
            have HY := Lib.hid hy
            clear hcx0 hcy0 hb5 hb6 hx hy
            go_wp2_with fail
            go_quiet (fail)
            have hbd := below_drewN (Below.refl wr.heap.size wr) nq
            obtain ⟨W2, hW2⟩ : ∃ W2, wr.drewN nq = W2 := ⟨_, rfl⟩
            rw [hW2] at hbd ⊢
            have HBL2 := Lib.hid (HBL.out.trans (hbd.mono HBL.out.size))
            clear hbd hW2 hcx hcy HBL
            by_cases hxy : x = y
            · subst hxy
              go_wp2_with fail
              go_roundg (6 + sz - (i + 1))
              case measure => omega
              case rel =>
                refine ⟨i + 1, hin, rfl, by go_num, fun j hj => ?_, HBL2.out⟩
                by_cases hji : j = i
                · subst hji; rw [HX.out, HY.out]
                · exact HSAME.out j (by omega)
            · have hne : ((x.toNat : Int) != (y.toNat : Int)) = true := by
                rw [bne_iff_ne]; intro e; exact hxy (UInt8.toNat_inj.1 (by exact_mod_cast e))
              have HN := Lib.hid (HNO.out (fun e => hxy (Option.some.inj (by
                rw [← HX.out, e, List.getElem?_take, if_pos hin]; exact HY.out))))
              clear hxy
              go_wp2_with fail
              refine bodyPost_ret (v := .tuple #[.slice none 0 0, .int .i64 0, .bool false]) (by simp [results, Try.results12, go_sem]) rfl (.inr ⟨HN.out, rfl, BEL3.out.trans (HBL2.out.mono BEL3.out.size)⟩)
          · obtain rfl : i = 6 + sz := by omega
            have g4 : ¬ ((6 + sz : Nat) : Int) < 6 + (sz : Int) := by omega
            have HN := Lib.hid (HYES.out (List.ext_getElem? fun j => by
              by_cases hj : j < 6 + sz
              · rw [HSAME.out j hj, List.getElem?_take, if_pos hj]
              · rw [List.getElem?_eq_none (by have := HRL.out; omega), List.getElem?_eq_none (by rw [List.length_take]; omega)]))
            obtain ⟨t, ht⟩ : ∃ t, T[5 + sz]? = some t := ⟨_, List.getElem?_eq_getElem (by omega)⟩
            obtain ⟨pg, po, e5, hb5, _, hct0⟩ := HP43.out.at_ (5 + sz) (.int .i64 (t.1 : Int)) (by simp [intsOf, ht])
            subst e5
            have hct := (HBL.out.cell (p := ⟨pg, po + (5 + sz), none⟩) hb5).trans hct0
            have hct' : wr.cell? ⟨pg, po + 5 + sz, none⟩ = some (.int .i64 (t.1 : Int)) := by rw [Nat.add_assoc]; exact hct
            have g5 : 5 + sz < T.length := by omega
            have g6 : t.1 ≤ 524288 := HTP.out t (List.mem_of_getElem? ht)
            have g7 : IntKind.i64.wrap ((t.1 : Int) + 1) = ((t.1 + 1 : Nat) : Int) := by rw [Int.natCast_add]; exact IntWalk.i64_in _ (by omega)
            have g8 : (5 : Int) + (sz : Int) < (T.length : Int) := by omega
            have HT5 := Lib.hid ht
            clear hct0 hb5 ht hin
            go_wp2_with fail
            go_quiet (fail)
            have hbd := below_drewN (Below.refl wr.heap.size wr) nq
            obtain ⟨W2, hW2⟩ : ∃ W2, wr.drewN nq = W2 := ⟨_, rfl⟩
            rw [hW2] at hbd ⊢
            have HBL2 := Lib.hid (HBL.out.trans (hbd.mono HBL.out.size))
            clear hbd hW2 hct hct' HBL
            go_wp2_with fail
            refine bodyPost_ret (v := .tuple #[.slice (some ⟨g, go + 6, none⟩) sz (rc - 6), .int .i64 ((t.1 + 1 : Nat) : Int), .bool true]) (by simp [results, Try.results12, go_sem]) rfl (.inl ⟨_, _, HN.out, _, _, _, by rw [HT5.out]; rfl, (HB3.out.ext HBL2.out).at_, BEL3.out.trans (HBL2.out.mono BEL3.out.size)⟩)
    · have HN := Lib.hid (HFS.out hm)
      by_cases h1 : sz < 1
      · have f1 : (sz : Int) < 1 := by omega
        clear hm h1
        go_wp2
        refine bodyPost_ret (v := .tuple #[.slice none 0 0, .int .i64 0, .bool false]) (by simp [results, Try.results12, go_sem]) rfl (.inr ⟨HN.out, rfl, BEL2.out⟩)
      · have f1 : ¬ (sz : Int) < 1 := by omega
        have f2 : (4096 : Int) < (sz : Int) := by omega
        clear hm h1
        go_wp2
        refine bodyPost_ret (v := .tuple #[.slice none 0 0, .int .i64 0, .bool false]) (by simp [results, Try.results12, go_sem]) rfl (.inr ⟨HN.out, rfl, BEL2.out⟩)
end Go.Proofs.Ytafigbomcgncnaa
