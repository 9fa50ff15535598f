/-
  MonoidJoins, walked: the law answers true.
-/
import Derived.Test.YtdebmifjfemcjaaMonWakes
import Derived.Test.YtdebmifjfemcjaaMonRefC
import Derived.ArgAppend
import Derived.LoopN
namespace Go.Proofs.Ytdebmifjfemcjaa
set_option linter.unusedVariables false
set_option linter.unusedSimpArgs false
open Go.RowKit Go.Dav
attribute [local go_sem] Gives ite_val ite_val_true

theorem Try_info24 : (Try.prog.info? 24).map (fun i => (i.zero, i.size, i.bytes)) = some (some (.agg #[.int .i64 0, .int .i64 0, .int .i64 0, .int .u64 0, .int .i64 0, .int .i64 0]), 6, 48) := by kernel_rfl

/-- The slice x as it came in: its elements, if there are any. -/
def TryRedsIn (W : World) (a : Option Addr) (len cap : Nat) (l : List Red) : Prop :=
  len ≤ cap ∧ (len : Int) ≤ 9223372036854775807 ∧ l.length = len ∧ (0 < len → ∃ b o, a = some ⟨b, o, none⟩ ∧ b < W.heap.size ∧ TryRedsAt W b o l) ∧ (a = none → len = 0 ∧ cap = 0) ∧ ∀ r ∈ l, r.fits ∧ r.canon

def TryJoinsRel (w : World) (L : List Red) (g c : Nat) (js : List Value) (ix : Value) (wr : World) : Prop :=
  ∃ k : Nat, k ≤ L.length ∧ ix = .int .i64 k ∧ (∀ j r, j < k → L[j]? = some r → r.ok = true) ∧ TryRedsAt wr g 0 L ∧ g < wr.heap.size ∧ Blk wr c js 24 ∧
    Blk wr (c + 1) [.int .i64 0, .int .i64 0, .int .i64 0, .int .u64 0, .int .i64 0, .int .i64 0] 24 ∧ Below w.heap.size w wr

def TryJoinsRel2 (w : World) (L : List Red) (g c : Nat) (js : List Value) (ix ov : Value) (wr : World) : Prop :=
  ∃ (k : Nat) (o : Bool) (want : Red), k ≤ L.length ∧ ix = .int .i64 k ∧ ov = .bool o ∧ (o = true → joinL Red.zero L = none) ∧ (o = false → joinL Red.zero L = joinL want (L.drop k) ∧ want.fine ∧ want.blank) ∧
    TryRedsAt wr g 0 L ∧ g < wr.heap.size ∧ Blk wr c js 24 ∧ Blk wr (c + 1) want.cells 24 ∧ Below w.heap.size w wr

set_option maxRecDepth 8000 in
set_option maxHeartbeats 8000000 in
theorem Try_MonoidJoins_few (a : Option Addr) (len cap : Nat) (l : List Red) (w : World) (hin : TryRedsIn w a len cap l) (hpos : 0 < len) (h50 : len ≤ 50) :
    Calls Try.prog 4 #[.slice a len cap] w fun e w' => e = .returned (.bool true) ∧ Below w.heap.size w w' := by
  obtain ⟨hlc, hl63, hlen, hsome, hnone, hall⟩ := hin
  obtain ⟨b, o, rfl, hb, hat⟩ := hsome hpos
  obtain ⟨i0, hi0, hz0, hz1, hz2⟩ := info_parts Try_info24
  have hi1 : (len : Int) ≤ (cap : Int) := by omega
  have hi2 : (len : Int) ≤ 50 := by omega
  have hi3 : (len : Int) ≤ (cap : Int) := by omega
  have HLEN := Lib.hid hlen; clear hlen
  have HALL := Lib.hid hall; clear hall
  have HAT := Lib.hid hat; clear hat
  have H50 := Lib.hid h50; clear h50
  have HC := Lib.hid hlc; clear hlc
  have HP := Lib.hid hpos; clear hpos
  clear hsome hnone
  go_enter Try.func4, Try.ntmps4
  go_wp2_with fail
  refine (Try_wakes _).mono ?_; rintro e w1 ⟨rfl, hb1⟩
  have s1 := hb1.size
  have hlt1 : b < w1.heap.size := Nat.lt_of_lt_of_le hb s1
  have hat1 := Try_reds_take len (Try_reds_below (Try_reds_below HAT.out hb1 hb) ((Below.refl _ _).alloc (Nat.le_refl _) (.cells #[] 24)) hlt1)
  have hlk : (l.take len).length = len := by rw [List.length_take, HLEN.out]; have := HP.out; have := H50.out; omega
  have hall1 : ∀ r ∈ l.take len, r.fits ∧ r.canon := fun r hr => HALL.out r (List.mem_of_mem_take hr)
  generalize l.take len = L at hat1 hlk hall1
  have HL := Lib.hid hlk; clear hlk
  have HALL1 := Lib.hid hall1; clear hall1
  have HAT1 := Lib.hid hat1; clear hat1
  have HKP : 0 < len := by have := HP.out; have := H50.out; omega
  have HKC : len ≤ cap := by have := HC.out; have := H50.out; omega
  have KB : len ≤ 50 := by have := H50.out; omega
  go_wp2_with (at_builtin; refine wpList_append_grows _ rfl (.tmp 14) (.tmp 19) 34 rfl 24 i0 _ 6 48 Try.underlying34 hi0 hz0 hz1 hz2 rfl (by decide) (some ⟨w1.heap.size, 0, none⟩) 0 0 [] rfl (by simp) rfl (by simp) ⟨b, o, none⟩ len cap (L.flatMap Red.cells) rfl (by rw [Try_reds_len, HL.out]) (fun j u hu => by rw [Addr.add_mid]; exact Try_reds_cells L o HAT1.out j u hu) (Try_reds_one L) (by omega) (by unfold maxLen; omega) (by omega) ?_; intro v' w2 hown hgrow; simp only [Nat.zero_add, List.nil_append] at hown; obtain ⟨g, cap', rfl, hg, hgl, hgc, hgr⟩ := Try_reds_own hown HKP; clear hown)
  have hb2 := below_grown hgrow
  clear hgrow
  have s2 := hb2.size
  simp only [World.size_alloc] at s2 hg
  have HGR := Lib.hid hgr; clear hgr
  (with_reducible refine (Try_Join' g 0 len cap' L _ HL.out (by omega) hgl HGR.out (fun r hr => (HALL1.out r hr).1)).mono ?_)
  rintro e w3 ⟨rfl, hb3⟩
  have s3 := hb3.size
  obtain ⟨hc3, hf3, _⟩ := after hb3
  have hgr3 := Try_reds_below HGR.out hb3 hgl
  have hgl3 : g < w3.heap.size := Nat.lt_of_lt_of_le hgl s3
  have hsz : (joined L).1.cells.toArray = #[.int .i64 (joined L).1.c, .int .i64 (joined L).1.n, .int .i64 (hi (joined L).1.s), .int .u64 (lo (joined L).1.s), .int .i64 (joined L).1.l, .int .i64 (joined L).1.m] := rfl
  rw [hsz]
  clear hsz
  generalize hJ : joined L = J
  obtain ⟨⟨jc, jn, js, jl, jm⟩, je⟩ := J
  have HJ := Lib.hid hJ; clear hJ
  have z1 := hi_zero
  have z2 := lo_zero
  have H1 := Lib.hid HAT1; clear HAT1 HAT
  simp only at hc3 ⊢
  clear hc3 hf3
  go_wp2_with fail
  go_loopw [29] (fun ix wr => TryJoinsRel w L g w3.heap.size [.int .i64 jc, .int .i64 jn, .int .i64 (hi js), .int .u64 (lo js), .int .i64 jl, .int .i64 jm] ix wr) (fun ix _ => len - (intOf ix).toNat)
  case atStart =>
    refine ⟨0, Nat.zero_le _, rfl, fun j r hj => by omega, ?_, by simp; omega, (Blk.new _ [_, _, _, _, _, _] _).alloc _, Blk.new' _ [_, _, _, _, _, _] _ (by simp), ?_⟩
    · exact Try_reds_below hgr3 (((Below.refl _ _).alloc (Nat.le_refl _) _).alloc (by simp) _) hgl3
    · exact (by repeat (first | (with_reducible exact Below.refl _ _) | (with_reducible exact Below.refl _ _) | (with_reducible refine Below.setCell ?_ (by first | omega | (simp; done) | (simp; omega)) _) | (with_reducible refine Below.alloc ?_ (by first | omega | (simp; done) | (simp; omega)) _) | (with_reducible refine Below.drew ?_) | (with_reducible refine Below.trans ?_ (hb3.mono (by first | omega | (simp; done) | (simp; omega)))) | (with_reducible refine Below.trans ?_ (hb2.mono (by first | omega | (simp; done) | (simp; omega)))) | (with_reducible refine Below.trans ?_ (hb1.mono (by first | omega | (simp; done) | (simp; omega))))))
  case round =>
    obtain ⟨k, hk, rfl, hok, hrg, hgw, hbj, hbz, hbel⟩ := hrel
    have hbs := hbel.size
    have lj := hbj.lt
    have lz := hbz.lt
    by_cases hlt : k < L.length
    · obtain ⟨r, hrk⟩ : ∃ r, L[k]? = some r := ⟨_, List.getElem?_eq_getElem hlt⟩
      have hmem := List.mem_of_getElem? hrk
      have hfit := (HALL1.out r hmem).1
      have q : ∀ j v, r.cells[j]? = some v → wr.cell? ⟨g, k * 6 + j, none⟩ = some v := fun j v h => by have := hrg k r hrk j v h; rwa [Nat.zero_add] at this
      have q0 := q 0 _ rfl
      rw [Nat.add_zero] at q0
      have q1 := q 1 _ rfl
      have q2 := q 2 _ rfl
      have q3 := q 3 _ rfl
      have q4 := q 4 _ rfl
      have q5 := q 5 _ rfl
      clear q
      have hkl : (k : Int) < (len : Int) := by have := HL.out; omega
      have HK := Lib.hid hk; clear hk
      have HLT := Lib.hid hlt; clear hlt
      have HR := Lib.hid hrk; clear hrk
      have HO := Lib.hid hok; clear hok
      have HRG := Lib.hid hrg; clear hrg
      go_wp2_with fail
      refine (Try_Right r _ hfit.2.2.1 hfit.2.2.2).mono ?_; rintro e w4 ⟨rfl, hb4⟩
      have s4 := hb4.size
      simp only [World.size_alloc] at s4
      have bel4 : Below w.heap.size w w4 := (by repeat (first | (with_reducible exact Below.refl _ _) | (with_reducible exact Below.refl _ _) | (with_reducible refine Below.setCell ?_ (by first | omega | (simp; done) | (simp; omega)) _) | (with_reducible refine Below.alloc ?_ (by first | omega | (simp; done) | (simp; omega)) _) | (with_reducible refine Below.drew ?_) | (with_reducible refine Below.trans ?_ (hb4.mono (by first | omega | (simp; done) | (simp; omega)))) | (with_reducible refine Below.trans ?_ (hbel.mono (by first | omega | (simp; done) | (simp; omega))))))
      have hrg4 : TryRedsAt w4 g 0 L := Try_reds_below (Try_reds_below HRG.out ((Below.refl _ _).alloc (Nat.le_refl _) _) hgw) hb4 (by simp; omega)
      have hbj4 := (hbj.alloc _).ext hb4
      have hbz4 := (hbz.alloc _).ext hb4
      cases hv : r.ok with
      | true =>
        go_wp2_with fail
        go_roundw
        case rel =>
          refine ⟨k + 1, HLT.out, by go_num, fun j r' hj h => ?_, hrg4, by omega, hbj4, hbz4, bel4⟩
          by_cases e : j = k
          · subst e; rw [HR.out] at h; cases h; exact hv
          · exact HO.out j r' (by omega) h
        case measure => have := HLT.out; have := HL.out; simp [intOf]; omega
      | false =>
        have hj := (joined_bad hmem hv).symm.trans HJ.out
        simp only [Red.zero, Prod.mk.injEq, Red.mk.injEq] at hj
        obtain ⟨⟨rfl, rfl, rfl, rfl, rfl⟩, rfl⟩ := hj
        have o0 := hbj4.cell 0 rfl
        have o1 := hbj4.cell 1 rfl
        have o2 := hbj4.cell 2 rfl
        have o3 := hbj4.cell 3 rfl
        have o4 := hbj4.cell 4 rfl
        have o5 := hbj4.cell 5 rfl
        clear hv
        go_wp2
        go_ret
        exact ⟨rfl, (by repeat (first | (with_reducible exact Below.refl _ _) | (with_reducible exact Below.refl _ _) | (with_reducible refine Below.setCell ?_ (by first | omega | (simp; done) | (simp; omega)) _) | (with_reducible refine Below.alloc ?_ (by first | omega | (simp; done) | (simp; omega)) _) | (with_reducible refine Below.drew ?_) | (with_reducible refine Below.trans ?_ (bel4.mono (by first | omega | (simp; done) | (simp; omega))))))⟩
    · have hkl : k = L.length := by omega
      subst hkl
      have hall : L.all Red.ok = true := List.all_eq_true.2 fun r hr => by
        obtain ⟨j, hj, e⟩ := List.mem_iff_getElem.1 hr
        exact hok j r hj (by rw [List.getElem?_eq_getElem hj, e])
      have hkl : ¬ ((L.length : Int) < (len : Int)) := by have := HL.out; omega
      have HO := Lib.hid hok; clear hok
      have HA := Lib.hid hall; clear hall
      have HRG := Lib.hid hrg; clear hrg
      clear hk hlt
      go_wp2_with fail
      go_loopw [46, 7] (fun ix ov wr => TryJoinsRel2 w L g w3.heap.size [.int .i64 jc, .int .i64 jn, .int .i64 (hi js), .int .u64 (lo js), .int .i64 jl, .int .i64 jm] ix ov wr) (fun ix _ _ => len - (intOf ix).toNat)
      case atStart =>
        refine ⟨0, false, Red.zero, Nat.zero_le _, rfl, rfl, (fun h => by cases h), fun _ => ⟨rfl, Red.zero_fine, Red.zero_blank⟩, HRG.out, hgw, hbj, ?_, hbel⟩
        have := hbz
        simpa only [Red.zero, Red.cells, hi_zero, lo_zero] using this
      case round =>
        obtain ⟨k, ov, want, hk, rfl, rfl, hov, hwant, hrg, hgw, hbj, hbz, hbel⟩ := hrel
        have hbs := hbel.size
        have lj := hbj.lt
        have lz := hbz.lt
        have o0 := hbj.cell 0 rfl
        have o1 := hbj.cell 1 rfl
        have o2 := hbj.cell 2 rfl
        have o3 := hbj.cell 3 rfl
        have o4 := hbj.cell 4 rfl
        have o5 := hbj.cell 5 rfl
        have p0 := hbz.cell 0 rfl
        have p1 := hbz.cell 1 rfl
        have p2 := hbz.cell 2 rfl
        have p3 := hbz.cell 3 rfl
        have p4 := hbz.cell 4 rfl
        have p5 := hbz.cell 5 rfl
        have m0 := hbz.frozen 0
        have m1 := hbz.frozen 1
        have m2 := hbz.frozen 2
        have m3 := hbz.frozen 3
        have m4 := hbz.frozen 4
        have m5 := hbz.frozen 5
        by_cases hlt : k < L.length
        · obtain ⟨r, hrk⟩ : ∃ r, L[k]? = some r := ⟨_, List.getElem?_eq_getElem hlt⟩
          have hmem := List.mem_of_getElem? hrk
          have hrok : r.ok = true := HO.out k r hlt hrk
          have hrf := Red.fine_of hrok
          have hrc := (HALL1.out r hmem).2
          have hdrop : L.drop k = r :: L.drop (k + 1) := by
            rw [List.getElem?_eq_getElem hlt] at hrk; cases hrk
            exact List.drop_eq_getElem_cons hlt
          have q : ∀ j v, r.cells[j]? = some v → wr.cell? ⟨g, k * 6 + j, none⟩ = some v := fun j v h => by have := hrg k r hrk j v h; rwa [Nat.zero_add] at this
          have q0 := q 0 _ rfl
          rw [Nat.add_zero] at q0
          have q1 := q 1 _ rfl
          have q2 := q 2 _ rfl
          have q3 := q 3 _ rfl
          have q4 := q 4 _ rfl
          have q5 := q 5 _ rfl
          clear q
          have hkl : (k : Int) < (len : Int) := by have := HL.out; omega
          have HK := Lib.hid hk; clear hk
          have HLT := Lib.hid hlt; clear hlt
          have HR := Lib.hid hrk; clear hrk
          have HD := Lib.hid hdrop; clear hdrop
          have HRK := Lib.hid hrok; clear hrok
          have HRF := Lib.hid hrf; clear hrf
          have HRC := Lib.hid hrc; clear hrc
          have HOV := Lib.hid hov; clear hov
          have HW := Lib.hid hwant; clear hwant
          have HRG2 := Lib.hid hrg; clear hrg
          cases ov with
          | true =>
            go_wp2_with fail
            go_roundw
            case rel =>
              refine ⟨k + 1, true, want, HLT.out, by go_num, rfl, HOV.out, (fun h => by cases h), ?_, by simp; omega, hbj.alloc _, hbz.alloc _, (by repeat (first | (with_reducible exact Below.refl _ _) | (with_reducible exact Below.refl _ _) | (with_reducible refine Below.setCell ?_ (by first | omega | (simp; done) | (simp; omega)) _) | (with_reducible refine Below.alloc ?_ (by first | omega | (simp; done) | (simp; omega)) _) | (with_reducible refine Below.drew ?_) | (with_reducible refine Below.trans ?_ (hbel.mono (by first | omega | (simp; done) | (simp; omega))))))⟩
              exact Try_reds_below HRG2.out ((Below.refl _ _).alloc (Nat.le_refl _) _) hgw
            case measure => have := HLT.out; have := HL.out; simp [intOf]; omega
          | false =>
            obtain ⟨hj, hf, hbl⟩ := HW.out rfl
            have hadd : IntKind.i64.wrap (want.c + r.c) = want.c + r.c := by
              have h1 := hf; have h2 := HRF.out; unfold Red.fine at h1 h2; rw [i64_wrap_def]; omega
            have hadd2 : IntKind.i64.wrap (want.n + r.n) = want.n + r.n := by
              have h1 := hf; have h2 := HRF.out; unfold Red.fine at h1 h2; rw [i64_wrap_def]; omega
            have HJ2 := Lib.hid hj; clear hj
            have HF := Lib.hid hf; clear hf
            have HB := Lib.hid hbl; clear hbl
            have HA2 := Lib.hid hadd2; clear hadd2
            by_cases hover : 1073741824 < want.c + r.c
            · go_wp2_with fail
              go_roundw
              case rel =>
                refine ⟨k + 1, true, want, HLT.out, by go_num, rfl, fun _ => ?_, (fun h => by cases h), ?_, by simp; omega, hbj.alloc _, hbz.alloc _, (by repeat (first | (with_reducible exact Below.refl _ _) | (with_reducible exact Below.refl _ _) | (with_reducible refine Below.setCell ?_ (by first | omega | (simp; done) | (simp; omega)) _) | (with_reducible refine Below.alloc ?_ (by first | omega | (simp; done) | (simp; omega)) _) | (with_reducible refine Below.drew ?_) | (with_reducible refine Below.trans ?_ (hbel.mono (by first | omega | (simp; done) | (simp; omega))))))⟩
                · rw [HJ2.out, HD.out, joinL, if_pos (by omega)]
                · exact Try_reds_below HRG2.out ((Below.refl _ _).alloc (Nat.le_refl _) _) hgw
              case measure => have := HLT.out; have := HL.out; simp [intOf]; omega
            · go_wp2_with fail
              (with_reducible refine (Try_rBoth want.c want.n want.s want.l want.m r.c r.n r.s r.l r.m _ (Red.fine_n HF.out) (Red.fine_n HRF.out) hadd HA2.out (fun h => Red.ok_zero HRK.out HRC.out h) (fun h => Red.blank_at HB.out h)).mono ?_); rintro e w4 ⟨rfl, hb4⟩; obtain ⟨hc4, hf4, hs4⟩ := after hb4
              simp only [World.size_alloc] at hs4
              have bel4 : Below w.heap.size w w4 := (by repeat (first | (with_reducible exact Below.refl _ _) | (with_reducible exact Below.refl _ _) | (with_reducible refine Below.setCell ?_ (by first | omega | (simp; done) | (simp; omega)) _) | (with_reducible refine Below.alloc ?_ (by first | omega | (simp; done) | (simp; omega)) _) | (with_reducible refine Below.drew ?_) | (with_reducible refine Below.trans ?_ (hb4.mono (by first | omega | (simp; done) | (simp; omega)))) | (with_reducible refine Below.trans ?_ (hbel.mono (by first | omega | (simp; done) | (simp; omega))))))
              have hrg4 : TryRedsAt w4 g 0 L := Try_reds_below (Try_reds_below HRG2.out ((Below.refl _ _).alloc (Nat.le_refl _) _) hgw) hb4 (by simp; omega)
              have hbj4 := (hbj.alloc _).ext hb4
              have hbz4 := (hbz.alloc _).ext hb4
              have lt_w4_0_0 : w3.heap.size < w4.heap.size := by omega
              have lt_w4_0_1 : w3.heap.size < w4.heap.size + 1 := by omega
              have lt_w4_1_0 : w3.heap.size + 1 < w4.heap.size := by omega
              have lt_w4_1_1 : w3.heap.size + 1 < w4.heap.size + 1 := by omega
              go_wp2_with fail
              go_roundw
              case rel =>
                refine ⟨k + 1, false, want.both r, HLT.out, by go_num, rfl, (fun h => by cases h), fun _ => ⟨?_, Red.both_fine HF.out HRF.out (by omega), Red.both_blank HB.out (Red.fine_n HF.out) (Red.fine_n HRF.out)⟩, ?_, by simp; omega, ?_, ?_, ?_⟩
                · rw [HJ2.out, HD.out, joinL, if_neg (by omega)]
                · refine Try_reds_below hrg4 (B := w3.heap.size) ?_ (by omega)
                  exact (by repeat (first | (with_reducible exact Below.refl _ _) | (with_reducible exact Below.refl _ _) | (with_reducible refine Below.setCell ?_ (by first | omega | (simp; done) | (simp; omega)) _) | (with_reducible refine Below.alloc ?_ (by first | omega | (simp; done) | (simp; omega)) _) | (with_reducible refine Below.drew ?_)))
                · exact (((((hbj4.other (by omega) _ _).other (by omega) _ _).other (by omega) _ _).other (by omega) _ _).other (by omega) _ _).other (by omega) _ _
                · exact (((((hbz4.set 0 _).set 1 _).set 2 _).set 3 _).set 4 _).set 5 _
                · exact (by repeat (first | (with_reducible exact Below.refl _ _) | (with_reducible exact Below.refl _ _) | (with_reducible refine Below.setCell ?_ (by first | omega | (simp; done) | (simp; omega)) _) | (with_reducible refine Below.alloc ?_ (by first | omega | (simp; done) | (simp; omega)) _) | (with_reducible refine Below.drew ?_) | (with_reducible refine Below.trans ?_ (bel4.mono (by first | omega | (simp; done) | (simp; omega))))))
              case measure => have := HLT.out; have := HL.out; simp [intOf]; omega
        · have hkl : k = L.length := by omega
          subst hkl
          have hkl : ¬ ((L.length : Int) < (len : Int)) := by have := HL.out; omega
          clear hk hlt hrg
          cases ov with
          | true =>
            have hj : joined L = (Red.zero, 5) := by unfold joined; rw [if_pos HA.out, hov rfl]
            have hj := hj.symm.trans HJ.out
            simp only [Red.zero, Prod.mk.injEq, Red.mk.injEq] at hj
            obtain ⟨⟨rfl, rfl, rfl, rfl, rfl⟩, rfl⟩ := hj
            clear hov hwant
            go_wp2
            go_ret
            exact ⟨rfl, (by repeat (first | (with_reducible exact Below.refl _ _) | (with_reducible exact Below.refl _ _) | (with_reducible refine Below.setCell ?_ (by first | omega | (simp; done) | (simp; omega)) _) | (with_reducible refine Below.alloc ?_ (by first | omega | (simp; done) | (simp; omega)) _) | (with_reducible refine Below.drew ?_) | (with_reducible refine Below.trans ?_ (hbel.mono (by first | omega | (simp; done) | (simp; omega))))))⟩
          | false =>
            obtain ⟨h1, _, _⟩ := hwant rfl
            have hj : joined L = (want, 0) := by unfold joined; rw [if_pos HA.out, h1, List.drop_length]; rfl
            have hj := hj.symm.trans HJ.out
            obtain ⟨wc, wn, ws, wl, wm⟩ := want
            simp only [Prod.mk.injEq, Red.mk.injEq] at hj
            obtain ⟨⟨rfl, rfl, rfl, rfl, rfl⟩, rfl⟩ := hj
            clear hov hwant h1
            go_wp2
            go_ret
            exact ⟨rfl, (by repeat (first | (with_reducible exact Below.refl _ _) | (with_reducible exact Below.refl _ _) | (with_reducible refine Below.setCell ?_ (by first | omega | (simp; done) | (simp; omega)) _) | (with_reducible refine Below.alloc ?_ (by first | omega | (simp; done) | (simp; omega)) _) | (with_reducible refine Below.drew ?_) | (with_reducible refine Below.trans ?_ (hbel.mono (by first | omega | (simp; done) | (simp; omega))))))⟩

set_option maxRecDepth 8000 in
set_option maxHeartbeats 8000000 in
theorem Try_MonoidJoins_many (a : Option Addr) (len cap : Nat) (l : List Red) (w : World) (hin : TryRedsIn w a len cap l) (hpos : 0 < len) (h50 : 50 < len) :
    Calls Try.prog 4 #[.slice a len cap] w fun e w' => e = .returned (.bool true) ∧ Below w.heap.size w w' := by
  obtain ⟨hlc, hl63, hlen, hsome, hnone, hall⟩ := hin
  obtain ⟨b, o, rfl, hb, hat⟩ := hsome hpos
  obtain ⟨i0, hi0, hz0, hz1, hz2⟩ := info_parts Try_info24
  have hi1 : (len : Int) ≤ (cap : Int) := by omega
  have hi2 : (50 : Int) < (len : Int) := by omega
  have hi3 : (50 : Int) ≤ (cap : Int) := by omega
  have HLEN := Lib.hid hlen; clear hlen
  have HALL := Lib.hid hall; clear hall
  have HAT := Lib.hid hat; clear hat
  have H50 := Lib.hid h50; clear h50
  have HC := Lib.hid hlc; clear hlc
  have HP := Lib.hid hpos; clear hpos
  clear hsome hnone
  go_enter Try.func4, Try.ntmps4
  go_wp2_with fail
  refine (Try_wakes _).mono ?_; rintro e w1 ⟨rfl, hb1⟩
  have s1 := hb1.size
  have hlt1 : b < w1.heap.size := Nat.lt_of_lt_of_le hb s1
  have hat1 := Try_reds_take 50 (Try_reds_below (Try_reds_below HAT.out hb1 hb) ((Below.refl _ _).alloc (Nat.le_refl _) (.cells #[] 24)) hlt1)
  have hlk : (l.take 50).length = 50 := by rw [List.length_take, HLEN.out]; have := HP.out; have := H50.out; omega
  have hall1 : ∀ r ∈ l.take 50, r.fits ∧ r.canon := fun r hr => HALL.out r (List.mem_of_mem_take hr)
  generalize l.take 50 = L at hat1 hlk hall1
  have HL := Lib.hid hlk; clear hlk
  have HALL1 := Lib.hid hall1; clear hall1
  have HAT1 := Lib.hid hat1; clear hat1
  have HKP : 0 < 50 := by have := HP.out; have := H50.out; omega
  have HKC : 50 ≤ cap := by have := HC.out; have := H50.out; omega
  have KB : 50 ≤ 50 := by have := H50.out; omega
  go_wp2_with (at_builtin; refine wpList_append_grows _ rfl (.tmp 14) (.tmp 19) 34 rfl 24 i0 _ 6 48 Try.underlying34 hi0 hz0 hz1 hz2 rfl (by decide) (some ⟨w1.heap.size, 0, none⟩) 0 0 [] rfl (by simp) rfl (by simp) ⟨b, o, none⟩ 50 cap (L.flatMap Red.cells) rfl (by rw [Try_reds_len, HL.out]) (fun j u hu => by rw [Addr.add_mid]; exact Try_reds_cells L o HAT1.out j u hu) (Try_reds_one L) (by omega) (by unfold maxLen; omega) (by omega) ?_; intro v' w2 hown hgrow; simp only [Nat.zero_add, List.nil_append] at hown; obtain ⟨g, cap', rfl, hg, hgl, hgc, hgr⟩ := Try_reds_own hown HKP; clear hown)
  have hb2 := below_grown hgrow
  clear hgrow
  have s2 := hb2.size
  simp only [World.size_alloc] at s2 hg
  have HGR := Lib.hid hgr; clear hgr
  (with_reducible refine (Try_Join' g 0 50 cap' L _ HL.out (by omega) hgl HGR.out (fun r hr => (HALL1.out r hr).1)).mono ?_)
  rintro e w3 ⟨rfl, hb3⟩
  have s3 := hb3.size
  obtain ⟨hc3, hf3, _⟩ := after hb3
  have hgr3 := Try_reds_below HGR.out hb3 hgl
  have hgl3 : g < w3.heap.size := Nat.lt_of_lt_of_le hgl s3
  have hsz : (joined L).1.cells.toArray = #[.int .i64 (joined L).1.c, .int .i64 (joined L).1.n, .int .i64 (hi (joined L).1.s), .int .u64 (lo (joined L).1.s), .int .i64 (joined L).1.l, .int .i64 (joined L).1.m] := rfl
  rw [hsz]
  clear hsz
  generalize hJ : joined L = J
  obtain ⟨⟨jc, jn, js, jl, jm⟩, je⟩ := J
  have HJ := Lib.hid hJ; clear hJ
  have z1 := hi_zero
  have z2 := lo_zero
  have H1 := Lib.hid HAT1; clear HAT1 HAT
  simp only at hc3 ⊢
  clear hc3 hf3
  go_wp2_with fail
  go_loopw [29] (fun ix wr => TryJoinsRel w L g w3.heap.size [.int .i64 jc, .int .i64 jn, .int .i64 (hi js), .int .u64 (lo js), .int .i64 jl, .int .i64 jm] ix wr) (fun ix _ => 50 - (intOf ix).toNat)
  case atStart =>
    refine ⟨0, Nat.zero_le _, rfl, fun j r hj => by omega, ?_, by simp; omega, (Blk.new _ [_, _, _, _, _, _] _).alloc _, Blk.new' _ [_, _, _, _, _, _] _ (by simp), ?_⟩
    · exact Try_reds_below hgr3 (((Below.refl _ _).alloc (Nat.le_refl _) _).alloc (by simp) _) hgl3
    · exact (by repeat (first | (with_reducible exact Below.refl _ _) | (with_reducible exact Below.refl _ _) | (with_reducible refine Below.setCell ?_ (by first | omega | (simp; done) | (simp; omega)) _) | (with_reducible refine Below.alloc ?_ (by first | omega | (simp; done) | (simp; omega)) _) | (with_reducible refine Below.drew ?_) | (with_reducible refine Below.trans ?_ (hb3.mono (by first | omega | (simp; done) | (simp; omega)))) | (with_reducible refine Below.trans ?_ (hb2.mono (by first | omega | (simp; done) | (simp; omega)))) | (with_reducible refine Below.trans ?_ (hb1.mono (by first | omega | (simp; done) | (simp; omega))))))
  case round =>
    obtain ⟨k, hk, rfl, hok, hrg, hgw, hbj, hbz, hbel⟩ := hrel
    have hbs := hbel.size
    have lj := hbj.lt
    have lz := hbz.lt
    by_cases hlt : k < L.length
    · obtain ⟨r, hrk⟩ : ∃ r, L[k]? = some r := ⟨_, List.getElem?_eq_getElem hlt⟩
      have hmem := List.mem_of_getElem? hrk
      have hfit := (HALL1.out r hmem).1
      have q : ∀ j v, r.cells[j]? = some v → wr.cell? ⟨g, k * 6 + j, none⟩ = some v := fun j v h => by have := hrg k r hrk j v h; rwa [Nat.zero_add] at this
      have q0 := q 0 _ rfl
      rw [Nat.add_zero] at q0
      have q1 := q 1 _ rfl
      have q2 := q 2 _ rfl
      have q3 := q 3 _ rfl
      have q4 := q 4 _ rfl
      have q5 := q 5 _ rfl
      clear q
      have hkl : (k : Int) < (50 : Int) := by have := HL.out; omega
      have HK := Lib.hid hk; clear hk
      have HLT := Lib.hid hlt; clear hlt
      have HR := Lib.hid hrk; clear hrk
      have HO := Lib.hid hok; clear hok
      have HRG := Lib.hid hrg; clear hrg
      go_wp2_with fail
      refine (Try_Right r _ hfit.2.2.1 hfit.2.2.2).mono ?_; rintro e w4 ⟨rfl, hb4⟩
      have s4 := hb4.size
      simp only [World.size_alloc] at s4
      have bel4 : Below w.heap.size w w4 := (by repeat (first | (with_reducible exact Below.refl _ _) | (with_reducible exact Below.refl _ _) | (with_reducible refine Below.setCell ?_ (by first | omega | (simp; done) | (simp; omega)) _) | (with_reducible refine Below.alloc ?_ (by first | omega | (simp; done) | (simp; omega)) _) | (with_reducible refine Below.drew ?_) | (with_reducible refine Below.trans ?_ (hb4.mono (by first | omega | (simp; done) | (simp; omega)))) | (with_reducible refine Below.trans ?_ (hbel.mono (by first | omega | (simp; done) | (simp; omega))))))
      have hrg4 : TryRedsAt w4 g 0 L := Try_reds_below (Try_reds_below HRG.out ((Below.refl _ _).alloc (Nat.le_refl _) _) hgw) hb4 (by simp; omega)
      have hbj4 := (hbj.alloc _).ext hb4
      have hbz4 := (hbz.alloc _).ext hb4
      cases hv : r.ok with
      | true =>
        go_wp2_with fail
        go_roundw
        case rel =>
          refine ⟨k + 1, HLT.out, by go_num, fun j r' hj h => ?_, hrg4, by omega, hbj4, hbz4, bel4⟩
          by_cases e : j = k
          · subst e; rw [HR.out] at h; cases h; exact hv
          · exact HO.out j r' (by omega) h
        case measure => have := HLT.out; have := HL.out; simp [intOf]; omega
      | false =>
        have hj := (joined_bad hmem hv).symm.trans HJ.out
        simp only [Red.zero, Prod.mk.injEq, Red.mk.injEq] at hj
        obtain ⟨⟨rfl, rfl, rfl, rfl, rfl⟩, rfl⟩ := hj
        have o0 := hbj4.cell 0 rfl
        have o1 := hbj4.cell 1 rfl
        have o2 := hbj4.cell 2 rfl
        have o3 := hbj4.cell 3 rfl
        have o4 := hbj4.cell 4 rfl
        have o5 := hbj4.cell 5 rfl
        clear hv
        go_wp2
        go_ret
        exact ⟨rfl, (by repeat (first | (with_reducible exact Below.refl _ _) | (with_reducible exact Below.refl _ _) | (with_reducible refine Below.setCell ?_ (by first | omega | (simp; done) | (simp; omega)) _) | (with_reducible refine Below.alloc ?_ (by first | omega | (simp; done) | (simp; omega)) _) | (with_reducible refine Below.drew ?_) | (with_reducible refine Below.trans ?_ (bel4.mono (by first | omega | (simp; done) | (simp; omega))))))⟩
    · have hkl : k = L.length := by omega
      subst hkl
      have hall : L.all Red.ok = true := List.all_eq_true.2 fun r hr => by
        obtain ⟨j, hj, e⟩ := List.mem_iff_getElem.1 hr
        exact hok j r hj (by rw [List.getElem?_eq_getElem hj, e])
      have hkl : ¬ ((L.length : Int) < (50 : Int)) := by have := HL.out; omega
      have HO := Lib.hid hok; clear hok
      have HA := Lib.hid hall; clear hall
      have HRG := Lib.hid hrg; clear hrg
      clear hk hlt
      go_wp2_with fail
      go_loopw [46, 7] (fun ix ov wr => TryJoinsRel2 w L g w3.heap.size [.int .i64 jc, .int .i64 jn, .int .i64 (hi js), .int .u64 (lo js), .int .i64 jl, .int .i64 jm] ix ov wr) (fun ix _ _ => 50 - (intOf ix).toNat)
      case atStart =>
        refine ⟨0, false, Red.zero, Nat.zero_le _, rfl, rfl, (fun h => by cases h), fun _ => ⟨rfl, Red.zero_fine, Red.zero_blank⟩, HRG.out, hgw, hbj, ?_, hbel⟩
        have := hbz
        simpa only [Red.zero, Red.cells, hi_zero, lo_zero] using this
      case round =>
        obtain ⟨k, ov, want, hk, rfl, rfl, hov, hwant, hrg, hgw, hbj, hbz, hbel⟩ := hrel
        have hbs := hbel.size
        have lj := hbj.lt
        have lz := hbz.lt
        have o0 := hbj.cell 0 rfl
        have o1 := hbj.cell 1 rfl
        have o2 := hbj.cell 2 rfl
        have o3 := hbj.cell 3 rfl
        have o4 := hbj.cell 4 rfl
        have o5 := hbj.cell 5 rfl
        have p0 := hbz.cell 0 rfl
        have p1 := hbz.cell 1 rfl
        have p2 := hbz.cell 2 rfl
        have p3 := hbz.cell 3 rfl
        have p4 := hbz.cell 4 rfl
        have p5 := hbz.cell 5 rfl
        have m0 := hbz.frozen 0
        have m1 := hbz.frozen 1
        have m2 := hbz.frozen 2
        have m3 := hbz.frozen 3
        have m4 := hbz.frozen 4
        have m5 := hbz.frozen 5
        by_cases hlt : k < L.length
        · obtain ⟨r, hrk⟩ : ∃ r, L[k]? = some r := ⟨_, List.getElem?_eq_getElem hlt⟩
          have hmem := List.mem_of_getElem? hrk
          have hrok : r.ok = true := HO.out k r hlt hrk
          have hrf := Red.fine_of hrok
          have hrc := (HALL1.out r hmem).2
          have hdrop : L.drop k = r :: L.drop (k + 1) := by
            rw [List.getElem?_eq_getElem hlt] at hrk; cases hrk
            exact List.drop_eq_getElem_cons hlt
          have q : ∀ j v, r.cells[j]? = some v → wr.cell? ⟨g, k * 6 + j, none⟩ = some v := fun j v h => by have := hrg k r hrk j v h; rwa [Nat.zero_add] at this
          have q0 := q 0 _ rfl
          rw [Nat.add_zero] at q0
          have q1 := q 1 _ rfl
          have q2 := q 2 _ rfl
          have q3 := q 3 _ rfl
          have q4 := q 4 _ rfl
          have q5 := q 5 _ rfl
          clear q
          have hkl : (k : Int) < (50 : Int) := by have := HL.out; omega
          have HK := Lib.hid hk; clear hk
          have HLT := Lib.hid hlt; clear hlt
          have HR := Lib.hid hrk; clear hrk
          have HD := Lib.hid hdrop; clear hdrop
          have HRK := Lib.hid hrok; clear hrok
          have HRF := Lib.hid hrf; clear hrf
          have HRC := Lib.hid hrc; clear hrc
          have HOV := Lib.hid hov; clear hov
          have HW := Lib.hid hwant; clear hwant
          have HRG2 := Lib.hid hrg; clear hrg
          cases ov with
          | true =>
            go_wp2_with fail
            go_roundw
            case rel =>
              refine ⟨k + 1, true, want, HLT.out, by go_num, rfl, HOV.out, (fun h => by cases h), ?_, by simp; omega, hbj.alloc _, hbz.alloc _, (by repeat (first | (with_reducible exact Below.refl _ _) | (with_reducible exact Below.refl _ _) | (with_reducible refine Below.setCell ?_ (by first | omega | (simp; done) | (simp; omega)) _) | (with_reducible refine Below.alloc ?_ (by first | omega | (simp; done) | (simp; omega)) _) | (with_reducible refine Below.drew ?_) | (with_reducible refine Below.trans ?_ (hbel.mono (by first | omega | (simp; done) | (simp; omega))))))⟩
              exact Try_reds_below HRG2.out ((Below.refl _ _).alloc (Nat.le_refl _) _) hgw
            case measure => have := HLT.out; have := HL.out; simp [intOf]; omega
          | false =>
            obtain ⟨hj, hf, hbl⟩ := HW.out rfl
            have hadd : IntKind.i64.wrap (want.c + r.c) = want.c + r.c := by
              have h1 := hf; have h2 := HRF.out; unfold Red.fine at h1 h2; rw [i64_wrap_def]; omega
            have hadd2 : IntKind.i64.wrap (want.n + r.n) = want.n + r.n := by
              have h1 := hf; have h2 := HRF.out; unfold Red.fine at h1 h2; rw [i64_wrap_def]; omega
            have HJ2 := Lib.hid hj; clear hj
            have HF := Lib.hid hf; clear hf
            have HB := Lib.hid hbl; clear hbl
            have HA2 := Lib.hid hadd2; clear hadd2
            by_cases hover : 1073741824 < want.c + r.c
            · go_wp2_with fail
              go_roundw
              case rel =>
                refine ⟨k + 1, true, want, HLT.out, by go_num, rfl, fun _ => ?_, (fun h => by cases h), ?_, by simp; omega, hbj.alloc _, hbz.alloc _, (by repeat (first | (with_reducible exact Below.refl _ _) | (with_reducible exact Below.refl _ _) | (with_reducible refine Below.setCell ?_ (by first | omega | (simp; done) | (simp; omega)) _) | (with_reducible refine Below.alloc ?_ (by first | omega | (simp; done) | (simp; omega)) _) | (with_reducible refine Below.drew ?_) | (with_reducible refine Below.trans ?_ (hbel.mono (by first | omega | (simp; done) | (simp; omega))))))⟩
                · rw [HJ2.out, HD.out, joinL, if_pos (by omega)]
                · exact Try_reds_below HRG2.out ((Below.refl _ _).alloc (Nat.le_refl _) _) hgw
              case measure => have := HLT.out; have := HL.out; simp [intOf]; omega
            · go_wp2_with fail
              (with_reducible refine (Try_rBoth want.c want.n want.s want.l want.m r.c r.n r.s r.l r.m _ (Red.fine_n HF.out) (Red.fine_n HRF.out) hadd HA2.out (fun h => Red.ok_zero HRK.out HRC.out h) (fun h => Red.blank_at HB.out h)).mono ?_); rintro e w4 ⟨rfl, hb4⟩; obtain ⟨hc4, hf4, hs4⟩ := after hb4
              simp only [World.size_alloc] at hs4
              have bel4 : Below w.heap.size w w4 := (by repeat (first | (with_reducible exact Below.refl _ _) | (with_reducible exact Below.refl _ _) | (with_reducible refine Below.setCell ?_ (by first | omega | (simp; done) | (simp; omega)) _) | (with_reducible refine Below.alloc ?_ (by first | omega | (simp; done) | (simp; omega)) _) | (with_reducible refine Below.drew ?_) | (with_reducible refine Below.trans ?_ (hb4.mono (by first | omega | (simp; done) | (simp; omega)))) | (with_reducible refine Below.trans ?_ (hbel.mono (by first | omega | (simp; done) | (simp; omega))))))
              have hrg4 : TryRedsAt w4 g 0 L := Try_reds_below (Try_reds_below HRG2.out ((Below.refl _ _).alloc (Nat.le_refl _) _) hgw) hb4 (by simp; omega)
              have hbj4 := (hbj.alloc _).ext hb4
              have hbz4 := (hbz.alloc _).ext hb4
              have lt_w4_0_0 : w3.heap.size < w4.heap.size := by omega
              have lt_w4_0_1 : w3.heap.size < w4.heap.size + 1 := by omega
              have lt_w4_1_0 : w3.heap.size + 1 < w4.heap.size := by omega
              have lt_w4_1_1 : w3.heap.size + 1 < w4.heap.size + 1 := by omega
              go_wp2_with fail
              go_roundw
              case rel =>
                refine ⟨k + 1, false, want.both r, HLT.out, by go_num, rfl, (fun h => by cases h), fun _ => ⟨?_, Red.both_fine HF.out HRF.out (by omega), Red.both_blank HB.out (Red.fine_n HF.out) (Red.fine_n HRF.out)⟩, ?_, by simp; omega, ?_, ?_, ?_⟩
                · rw [HJ2.out, HD.out, joinL, if_neg (by omega)]
                · refine Try_reds_below hrg4 (B := w3.heap.size) ?_ (by omega)
                  exact (by repeat (first | (with_reducible exact Below.refl _ _) | (with_reducible exact Below.refl _ _) | (with_reducible refine Below.setCell ?_ (by first | omega | (simp; done) | (simp; omega)) _) | (with_reducible refine Below.alloc ?_ (by first | omega | (simp; done) | (simp; omega)) _) | (with_reducible refine Below.drew ?_)))
                · exact (((((hbj4.other (by omega) _ _).other (by omega) _ _).other (by omega) _ _).other (by omega) _ _).other (by omega) _ _).other (by omega) _ _
                · exact (((((hbz4.set 0 _).set 1 _).set 2 _).set 3 _).set 4 _).set 5 _
                · exact (by repeat (first | (with_reducible exact Below.refl _ _) | (with_reducible exact Below.refl _ _) | (with_reducible refine Below.setCell ?_ (by first | omega | (simp; done) | (simp; omega)) _) | (with_reducible refine Below.alloc ?_ (by first | omega | (simp; done) | (simp; omega)) _) | (with_reducible refine Below.drew ?_) | (with_reducible refine Below.trans ?_ (bel4.mono (by first | omega | (simp; done) | (simp; omega))))))
              case measure => have := HLT.out; have := HL.out; simp [intOf]; omega
        · have hkl : k = L.length := by omega
          subst hkl
          have hkl : ¬ ((L.length : Int) < (50 : Int)) := by have := HL.out; omega
          clear hk hlt hrg
          cases ov with
          | true =>
            have hj : joined L = (Red.zero, 5) := by unfold joined; rw [if_pos HA.out, hov rfl]
            have hj := hj.symm.trans HJ.out
            simp only [Red.zero, Prod.mk.injEq, Red.mk.injEq] at hj
            obtain ⟨⟨rfl, rfl, rfl, rfl, rfl⟩, rfl⟩ := hj
            clear hov hwant
            go_wp2
            go_ret
            exact ⟨rfl, (by repeat (first | (with_reducible exact Below.refl _ _) | (with_reducible exact Below.refl _ _) | (with_reducible refine Below.setCell ?_ (by first | omega | (simp; done) | (simp; omega)) _) | (with_reducible refine Below.alloc ?_ (by first | omega | (simp; done) | (simp; omega)) _) | (with_reducible refine Below.drew ?_) | (with_reducible refine Below.trans ?_ (hbel.mono (by first | omega | (simp; done) | (simp; omega))))))⟩
          | false =>
            obtain ⟨h1, _, _⟩ := hwant rfl
            have hj : joined L = (want, 0) := by unfold joined; rw [if_pos HA.out, h1, List.drop_length]; rfl
            have hj := hj.symm.trans HJ.out
            obtain ⟨wc, wn, ws, wl, wm⟩ := want
            simp only [Prod.mk.injEq, Red.mk.injEq] at hj
            obtain ⟨⟨rfl, rfl, rfl, rfl, rfl⟩, rfl⟩ := hj
            clear hov hwant h1
            go_wp2
            go_ret
            exact ⟨rfl, (by repeat (first | (with_reducible exact Below.refl _ _) | (with_reducible exact Below.refl _ _) | (with_reducible refine Below.setCell ?_ (by first | omega | (simp; done) | (simp; omega)) _) | (with_reducible refine Below.alloc ?_ (by first | omega | (simp; done) | (simp; omega)) _) | (with_reducible refine Below.drew ?_) | (with_reducible refine Below.trans ?_ (hbel.mono (by first | omega | (simp; done) | (simp; omega))))))⟩

end Go.Proofs.Ytdebmifjfemcjaa
