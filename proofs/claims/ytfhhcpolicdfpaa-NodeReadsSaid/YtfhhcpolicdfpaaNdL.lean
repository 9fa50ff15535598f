/-
  Layer 14: Decode, walked.
-/
import Derived.Test.YtfhhcpolicdfpaaNdK
namespace Go.Dav
set_option linter.unusedVariables false
set_option linter.unusedSimpArgs false
open Go Go.RowKit
/-- What is read before it is looked at: the node, and whether it was all there. -/
def rawN (s : TkSt) : NodeD × Bool :=
  if s.num 1 = 1 then (⟨true, (sevI (min ((s.next 1).num 1) 7) [] ((s.next 1).next 1)).1, []⟩, (sevI (min ((s.next 1).num 1) 7) [] ((s.next 1).next 1)).2.2)
  else (⟨false, [], (sevK (min ((s.next 1).num 1) 7) [] ((s.next 1).next 1)).1⟩, (sevK (min ((s.next 1).num 1) 7) [] ((s.next 1).next 1)).2.2)
def goodN (s : TkSt) : Bool := (rawN s).2 && (nodeOk (rawN s).1 && decide (nodeBytes (rawN s).1 = s.l))
def emptyN : NodeD := ⟨false, [], []⟩
def decN (s : TkSt) : NodeD := if goodN s then (rawN s).1 else emptyN
def decE (s : TkSt) : Int := if goodN s then 0 else 240
theorem ItemsS.s {W : World} {S : Nat → Prop} {a : Option Addr} {n c : Nat} {l : List ItemD} (h : ItemsS W S a n c l) : ItemsS W (fun b => b < W.heap.size) a n c l :=
  ⟨h.hlen, h.hcap, h.hmax, h.hfew, fun k x hk => by
    obtain ⟨b, o, ka, kl, kc, va, vl, vc, h1, h2, h3, c0, c1, c2, c3, h4, h5, h6⟩ := h.hat k x hk
    exact ⟨b, o, ka, kl, kc, va, vl, vc, h1, h2, h2, c0, c1, c2, c3, h4.at_.s, h5.at_.s, h6⟩, h.hnil⟩
theorem KidsS.s {W : World} {S : Nat → Prop} {a : Option Addr} {n c : Nat} {l : List KidD} (h : KidsS W S a n c l) : KidsS W (fun b => b < W.heap.size) a n c l :=
  ⟨h.hlen, h.hcap, h.hmax, h.hfew, fun k x hk => by
    obtain ⟨b, o, ka, kl, kc, h1, h2, h3, c0, c1, c2, c3, c4, c5, c6, c7, h4, h5, h6⟩ := h.hat k x hk
    exact ⟨b, o, ka, kl, kc, h1, h2, h2, c0, c1, c2, c3, c4, c5, c6, c7, h4.at_.s, h5, h6⟩, h.hnil⟩
theorem ItemsS.nil_ {W : World} {S : Nat → Prop} : ItemsS W S none 0 0 [] := ⟨rfl, Nat.le_refl _, by unfold maxLen; omega, by omega, fun k x hx => by simp at hx, fun _ => rfl⟩
theorem KidsS.nil_ {W : World} {S : Nat → Prop} : KidsS W S none 0 0 [] := ⟨rfl, Nat.le_refl _, by unfold maxLen; omega, by omega, fun k x hx => by simp at hx, fun _ => rfl⟩
theorem ItemsS.mono {W : World} {S T : Nat → Prop} {a : Option Addr} {n c : Nat} {l : List ItemD} (h : ItemsS W S a n c l) (hst : ∀ b, S b → T b) : ItemsS W T a n c l :=
  ⟨h.hlen, h.hcap, h.hmax, h.hfew, fun k x hk => by
    obtain ⟨b, o, ka, kl, kc, va, vl, vc, h1, h2, h3, c0, c1, c2, c3, h4, h5, h6⟩ := h.hat k x hk
    exact ⟨b, o, ka, kl, kc, va, vl, vc, h1, h2, hst b h3, c0, c1, c2, c3, h4.mono hst, h5.mono hst, h6⟩, h.hnil⟩
theorem KidsS.mono {W : World} {S T : Nat → Prop} {a : Option Addr} {n c : Nat} {l : List KidD} (h : KidsS W S a n c l) (hst : ∀ b, S b → T b) : KidsS W T a n c l :=
  ⟨h.hlen, h.hcap, h.hmax, h.hfew, fun k x hk => by
    obtain ⟨b, o, ka, kl, kc, h1, h2, h3, c0, c1, c2, c3, c4, c5, c6, c7, h4, h5, h6⟩ := h.hat k x hk
    exact ⟨b, o, ka, kl, kc, h1, h2, hst b h3, c0, c1, c2, c3, c4, c5, c6, c7, h4.mono hst, h5, h6⟩, h.hnil⟩
theorem NodeS.s {W : World} {S : Nat → Prop} {ia ka : Option Addr} {il ic kl kc : Nat} {n : NodeD} (h : NodeS W S ia il ic ka kl kc n) : NodeS W (fun b => b < W.heap.size) ia il ic ka kl kc n := ⟨h.items.s, h.kids.s⟩
theorem NodeS.mono {W : World} {S T : Nat → Prop} {ia ka : Option Addr} {il ic kl kc : Nat} {n : NodeD} (h : NodeS W S ia il ic ka kl kc n) (hst : ∀ b, S b → T b) : NodeS W T ia il ic ka kl kc n := ⟨h.items.mono hst, h.kids.mono hst⟩
/-- A node is handed back, in new memory and in that of its bytes; and an error. -/
def GivesNode (w : World) (S : Nat → Prop) (N : NodeD) (err : Int) (e : Ending) (w' : World) : Prop :=
  ∃ ia il ic ka kl kc, e = .returned (.tuple #[.agg #[.bool N.leaf, .slice ia il ic, .slice ka kl kc], .int .i64 err]) ∧ NodeS w' (fun b => S b ∨ w.heap.size ≤ b) ia il ic ka kl kc N ∧ Below w.heap.size w w'
end Go.Dav
namespace Go.Proofs.Ytfhhcpolicdfpaa
set_option linter.unusedVariables false
set_option linter.unusedSimpArgs false
open Go.RowKit Go.Dav
attribute [local go_sem] Gives GivesC ite_val ite_val_true

set_option maxRecDepth 8000 in
set_option maxHeartbeats 16000000 in
theorem Try_Decode (S : Nat → Prop) (a : Option Addr) (n c : Nat) (l : List UInt8) (w : World) (hB : BytesS w S a n c l) (hf : plainA a) (hS : ∀ b, S b → b < w.heap.size) :
    Calls Try.prog 13 #[.slice a n c] w (GivesNode w S (decN ⟨a, n, c, l, true⟩) (decE ⟨a, n, c, l, true⟩)) := by
  obtain ⟨wb, hwb⟩ : ∃ wb, ((((w.alloc (.cells #[.bool false, .slice none 0 0, .slice none 0 0] 28)).alloc (.cells #[.slice a n c] 22)).alloc (.cells #[.bool true] 4)).alloc (.cells #[TryTakeV (w.heap.size + 1) (w.heap.size + 1 + 1)] 62)).alloc (.cells #[TryNumV (w.heap.size + 1 + 1 + 1)] 63) = wb := ⟨_, rfl⟩
  have hb0 : Below w.heap.size w wb := by rw [← hwb]; exact (by repeat (first | (with_reducible exact Below.refl _ _) | (with_reducible exact Below.refl _ _) | (with_reducible refine Below.setCell ?_ (by first | omega | (simp; done) | (simp; omega)) _) | (with_reducible refine Below.alloc ?_ (by first | omega | (simp; done) | (simp; omega)) _) | (with_reducible refine Below.drew ?_) | (with_reducible refine below_drewN ?_ _)))
  have hsz : wb.heap.size = w.heap.size + 5 := by rw [← hwb]; simp
  have B0 : Blk wb w.heap.size [.bool false, .slice none 0 0, .slice none 0 0] 28 := by rw [← hwb]; exact ((((Blk.new w _ _).alloc _).alloc _).alloc _).alloc _
  have B1 : Blk wb (w.heap.size + 1) [.slice a n c] 22 := by rw [← hwb]; exact (((Blk.new' _ [_] _ (by simp)).alloc _).alloc _).alloc _
  have B2 : Blk wb (w.heap.size + 1 + 1) [.bool true] 4 := by rw [← hwb]; exact ((Blk.new' _ [_] _ (by simp)).alloc _).alloc _
  have B3 : Blk wb (w.heap.size + 1 + 1 + 1) [TryTakeV (w.heap.size + 1) (w.heap.size + 1 + 1)] 62 := by rw [← hwb]; exact (Blk.new' _ [_] _ (by simp)).alloc _
  have B4 : Blk wb (w.heap.size + 1 + 1 + 1 + 1) [TryNumV (w.heap.size + 1 + 1 + 1)] 63 := by rw [← hwb]; exact Blk.new' _ [_] _ (by simp)
  obtain ⟨s, hs⟩ : ∃ s : TkSt, (⟨a, n, c, l, true⟩ : TkSt) = s := ⟨_, rfl⟩
  have hst : StAt 22 4 wb S (w.heap.size + 1) (w.heap.size + 1 + 1) s := by rw [← hs]; exact ⟨B1, B2, hB.ext hb0, hf⟩
  have hap : TryApart S (w.heap.size + 1 + 1 + 1) (w.heap.size + 1 + 1 + 1 + 1) (w.heap.size + 1) (w.heap.size + 1 + 1) := ⟨fun b h => by have := hS b h; unfold TwoS; omega, by omega, by unfold TwoS; omega, by unfold TwoS; omega⟩
  have hd : TryDecAt S (w.heap.size + 1 + 1 + 1) (w.heap.size + 1 + 1 + 1 + 1) (w.heap.size + 1) (w.heap.size + 1 + 1) w.heap.size 28 wb s [.bool false, .slice none 0 0, .slice none 0 0] wb := ⟨hst, B3, B4, B0, OnlyS.refl _ _⟩
  have hp : ¬ TwoS (w.heap.size + 1) (w.heap.size + 1 + 1) w.heap.size := by unfold TwoS; omega
  have hsl : s.l = l := by rw [← hs]
  have HBB := Lib.hid (hB.ext hb0)
  have HS := Lib.hid hS
  have HB0 := Lib.hid hb0
  have HSZ := Lib.hid hsz
  have HAP := Lib.hid hap
  have HD := Lib.hid hd
  have HP := Lib.hid hp
  have HSL := Lib.hid hsl
  have hk1 : s.num 1 ≤ 255 := numOf_one_le _ (bytes_len s 1)
  have hm1 : (s.next 1).num 1 ≤ 255 := numOf_one_le _ (bytes_len (s.next 1) 1)
  have hk2 : ((s.num 1 : Nat) : Int) ≤ 255 := by omega
  have hm2 : (((s.next 1).num 1 : Nat) : Int) ≤ 255 := by omega
  have hwm : IntKind.i64.wrap (((s.next 1).num 1 : Nat) : Int) = (((s.next 1).num 1 : Nat) : Int) := by rw [i64_wrap_def]; omega
  have hent := fun args W => Try_en_take args W
  have henn := fun args W => Try_en_num args W
  rw [hs]
  unfold TryTakeV TryNumV at hwb
  have HF := Lib.hid hf
  clear hB hf hS hb0 hsz B0 B1 B2 B3 B4 hst hap hd hp hsl hs
  go_enter Try.func13, Try.ntmps13
  go_wp2_with fail
  clear hwb
  refine' wp_region_chain (fun c => TryDecAt S (w.heap.size + 1 + 1 + 1) (w.heap.size + 1 + 1 + 1 + 1) (w.heap.size + 1) (w.heap.size + 1 + 1) w.heap.size 28 wb ([s, s.next 1, (s.next 1).next 1].getD c s) [.bool false, .slice none 0 0, .slice none 0 0]) [1, 3] [_, _, _, _, _, _, _] (by kernel_rfl) (by kernel_rfl) (fun c W W' h hb => h.ext hb) (HD.out) ?main1
  case main1 =>
    refine wpChain_det (by decide) (by decide) (by rfl) (fun cc W hlo hhi hI => ?_) ?_
    · have q2 := hI.nm.cells; unfold TryNumV at q2; go_simp; refine ⟨Below.refl _ _, ?_⟩; rfl
    simp only [Act.put, List.setIfInBounds_toArray, List.set_cons_zero, List.set_cons_succ]
    refine wpChain_writes (by decide) (by rfl) (fun W hI => ?_) ?_
    · have hI := (show TryDecAt S (w.heap.size + 1 + 1 + 1) (w.heap.size + 1 + 1 + 1 + 1) (w.heap.size + 1) (w.heap.size + 1 + 1) w.heap.size 28 wb s [.bool false, .slice none 0 0, .slice none 0 0] W from hI); go_simp; refine (Try_num_1 hI HAP.out HP.out).mono ?_; rintro e w' ⟨rfl, h2⟩; refine ⟨?_, h2⟩; rfl
    simp only [Act.put, List.setIfInBounds_toArray, List.set_cons_zero, List.set_cons_succ]
    refine wpChain_det (by decide) (by decide) (by rfl) (fun cc W hlo hhi hI => ?_) ?_
    · have q2 := hI.nm.cells; unfold TryNumV at q2; go_simp; refine ⟨Below.refl _ _, ?_⟩; rfl
    simp only [Act.put, List.setIfInBounds_toArray, List.set_cons_zero, List.set_cons_succ]
    refine wpChain_writes (by decide) (by rfl) (fun W hI => ?_) ?_
    · have hI := (show TryDecAt S (w.heap.size + 1 + 1 + 1) (w.heap.size + 1 + 1 + 1 + 1) (w.heap.size + 1) (w.heap.size + 1 + 1) w.heap.size 28 wb (s.next 1) [.bool false, .slice none 0 0, .slice none 0 0] W from hI); go_simp; refine (Try_num_1 hI HAP.out HP.out).mono ?_; rintro e w' ⟨rfl, h2⟩; refine ⟨?_, h2⟩; rfl
    simp only [Act.put, List.setIfInBounds_toArray, List.set_cons_zero, List.set_cons_succ]
    refine wpChain_det (by decide) (by decide) (by rfl) (fun cc W hlo hhi hI => ?_) ?_
    · go_simp; refine ⟨Below.refl _ _, ?_⟩; rfl
    simp only [Act.put, List.setIfInBounds_toArray, List.set_cons_zero, List.set_cons_succ]
    refine wpChain_det (by decide) (by decide) (by rfl) (fun cc W hlo hhi hI => ?_) ?_
    · go_simp; refine ⟨Below.refl _ _, ?_⟩; rfl
    simp only [Act.put, List.setIfInBounds_toArray, List.set_cons_zero, List.set_cons_succ]
    refine wpChain_det (by decide) (by decide) (by rfl) (fun cc W hlo hhi hI => ?_) ?_
    · go_simp; refine ⟨Below.refl _ _, ?_⟩; rfl
    simp only [Act.put, List.setIfInBounds_toArray, List.set_cons_zero, List.set_cons_succ]
    refine wpChain_end fun W4 hI4 => ?_
    have HD4 := Lib.hid (show TryDecAt S (w.heap.size + 1 + 1 + 1) (w.heap.size + 1 + 1 + 1 + 1) (w.heap.size + 1) (w.heap.size + 1 + 1) w.heap.size 28 wb ((s.next 1).next 1) [.bool false, .slice none 0 0, .slice none 0 0] W4 from hI4)
    clear hI4
    obtain ⟨mn, hmn⟩ : ∃ m, min ((s.next 1).num 1) 7 = m := ⟨_, rfl⟩
    have HMN := Lib.hid hmn
    have hmi : min (((s.next 1).num 1 : Nat) : Int) 7 = (mn : Int) := by omega
    have HMI := Lib.hid hmi
    have HM7 := Lib.hid (show mn ≤ 7 by omega)
    clear hmn hmi
    have hlow : ∀ b, TwoS (w.heap.size + 1) (w.heap.size + 1 + 1) b → w.heap.size ≤ b := fun b h => by unfold TwoS at h; omega
    have HLOW := Lib.hid hlow
    have HBL4 := Lib.hid (show Below w.heap.size w W4 from HB0.out.trans (HD4.out.only.below (by have := HSZ.out; omega) hlow))
    have hs4 : w.heap.size + 5 ≤ W4.heap.size := by have := HD4.out.only.size; have := HSZ.out; omega
    have HS4 := Lib.hid hs4
    clear hlow hs4
    by_cases hkd : s.num 1 = 1
    · have hkb : (((s.num 1 : Nat) : Int) == 1) = true := by rw [beq_iff_eq]; omega
      have HKD := Lib.hid hkd
      clear hkd
      by_cases h7 : (s.next 1).num 1 ≤ 7
      · have h7' : (((s.next 1).num 1 : Nat) : Int) ≤ 7 := by omega
        have hmm : (mn : Int) = (((s.next 1).num 1 : Nat) : Int) := by have := HMI.out; omega
        obtain ⟨R, hR⟩ : ∃ R, sevI mn [] ((s.next 1).next 1) = R := ⟨_, rfl⟩
        have hbx : Below W4.heap.size W4 (W4.alloc (.cells #[.bool true, .slice none 0 0, .slice none 0 0] 28)) := (Below.refl _ _).alloc (Nat.le_refl _) _
        have hsev : Calls Try.prog 35 #[.int .i64 (((s.next 1).num 1 : Nat) : Int), .func (.func 36) #[] #[.pointer (some ⟨w.heap.size + 1 + 1 + 1, 0, none⟩), .pointer (some ⟨w.heap.size + 1 + 1 + 1 + 1, 0, none⟩), .pointer (some ⟨w.heap.size + 1 + 1, 0, none⟩)]] (W4.alloc (.cells #[.bool true, .slice none 0 0, .slice none 0 0] 28)) (TryGivesItems S (w.heap.size + 1) (w.heap.size + 1 + 1) (W4.alloc (.cells #[.bool true, .slice none 0 0, .slice none 0 0] 28)) R) := by
          have h := Try_sevItem S (w.heap.size + 1 + 1 + 1) (w.heap.size + 1 + 1 + 1 + 1) (w.heap.size + 1) (w.heap.size + 1 + 1) mn ((s.next 1).next 1) (W4.alloc (.cells #[.bool true, .slice none 0 0, .slice none 0 0] 28)) (HD4.out.st.ext hbx) (HD4.out.tk.ext hbx) (HD4.out.nm.ext hbx) HAP.out (fun b h => by have := HS.out b h; have := HS4.out; simp; omega) HM7.out
          rw [hR, hmm] at h
          exact h
        have HSEV := Lib.hid hsev
        have HRAW := Lib.hid (show rawN s = (⟨true, R.1, []⟩, R.2.2) by unfold rawN; rw [if_pos HKD.out, HMN.out, hR])
        have HX5 := Lib.hid (Blk.new W4 [.bool true, .slice none 0 0, .slice none 0 0] 28)
        have HBX := Lib.hid hbx
        clear hsev hR hbx hmm h7
        go_wp2_with fail
        (with_reducible refine HSEV.out.mono ?_); rintro e W6 ⟨ra, rn, rc, rfl, hIS, hst6, ho6⟩
        have h4 := HS4.out
        have hx6 := HX5.out.onlyS ho6 (by unfold TwoS; omega)
        have c6 := hx6.cells
        have m6 := hx6.marks
        have l6 := hx6.lt
        have r6 := hst6.hO.cells
        have n6 := hst6.hO.marks
        obtain ⟨W7, hW7⟩ : ∃ W7, (W6.setCell ⟨W4.heap.size, 1, none⟩ (.slice ra rn rc)).setCell ⟨w.heap.size + 1 + 1, 0, none⟩ (.bool R.2.2) = W7 := ⟨_, rfl⟩
        have hx7 : Blk W7 W4.heap.size [.bool true, .slice ra rn rc, .slice none 0 0] 28 := by rw [← hW7]; exact (hx6.set 1 _).other (by omega) 0 _
        have hz7 : Blk W7 (w.heap.size + 1 + 1) [.bool R.2.2] 4 := by rw [← hW7]; exact (hst6.hO.other (by omega) 1 _).set 0 _
        have ho7 : OnlyS (fun b => b = W4.heap.size ∨ b = (w.heap.size + 1 + 1)) W6 W7 := by rw [← hW7]; exact ((OnlyS.refl _ W6).set _ _ _ (.inl rfl)).set _ _ _ (.inr rfl)
        have h06 : Blk W6 w.heap.size [.bool false, .slice none 0 0, .slice none 0 0] 28 := (HD4.out.x.ext HBX.out).onlyS ho6 HP.out
        have h07 : Blk W7 w.heap.size [.bool false, .slice none 0 0, .slice none 0 0] 28 := h06.onlyS ho7 (by omega)
        have hlt6 : W4.heap.size + 1 ≤ W6.heap.size := by have := ho6.size; simpa using this
        have hn7 : NodeS W7 (fun b => S b ∨ (W4.alloc (.cells #[.bool true, .slice none 0 0, .slice none 0 0] 28)).heap.size ≤ b) ra rn rc none 0 0 ⟨true, R.1, []⟩ := (show NodeS W6 _ ra rn rc none 0 0 ⟨true, R.1, []⟩ from ⟨hIS, KidsS.nil_⟩).same ho7.size fun b h1 h2 => ho7.block b h2 (by
          rcases h1 with h1 | h1
          · have := HS.out b h1; omega
          · simp at h1; omega)
        have HBL7 := Lib.hid (show Below w.heap.size w W7 from (HBL4.out.trans (HBX.out.mono (by omega))).trans ((ho6.below (n := w.heap.size) (by simp; omega) HLOW.out).trans (ho7.below (n := w.heap.size) (by omega) fun k h => by omega)))
        have HX7 := Lib.hid hx7
        have HZ7 := Lib.hid hz7
        have H07 := Lib.hid h07
        have HN7 := Lib.hid hn7
        have HB7 := Lib.hid (show BytesS W7 S a n c l from HBB.out.same (by have := HBL7.out.size; have := ho7.size; have := HD4.out.only.size; have := HBX.out.size; have := ho6.size; omega) fun b h1 h2 => by
          have hb := HS.out b h1
          exact (HBL7.out.block b hb).trans (HB0.out.block b hb).symm)
        have hE : Calls Try.prog 14 #[.agg #[.bool true, .slice ra rn rc, .slice none 0 0]] W7 (GivesEnc W7 ⟨true, R.1, []⟩) := Try_Encode ⟨true, R.1, []⟩ ra none rn rc 0 0 _ W7 hn7.s (fun b h => h)
        obtain ⟨M, hM⟩ : ∃ M : NodeD, ⟨true, R.1, []⟩ = M := ⟨_, rfl⟩
        rw [hM] at hE HRAW HN7
        have HML := Lib.hid (show M.leaf = true by rw [← hM])
        have HE := Lib.hid hE
        obtain ⟨okq, hok⟩ : ∃ b, R.2.2 = b := ⟨_, rfl⟩
        rw [hok] at HRAW HZ7 hW7 ⊢
        have c7 := HX7.out.cells
        have l7 := HX7.out.lt
        clear hIS hst6 ho6 hx6 hx7 hz7 ho7 h06 h07 hn7 hE hM hok hlt6
        go_wp2_with fail
        clear hW7 c6 m6 l6 r6 n6
        (with_reducible refine HE.out.mono ?_); rintro e W8 ⟨oa, on, oc, rfl, hOB, hb8⟩
        have HOB := Lib.hid hOB
        have HBL8 := Lib.hid (show Below w.heap.size w W8 from HBL7.out.trans (hb8.mono HBL7.out.size))
        have HX8 := Lib.hid (HX7.out.ext hb8)
        have HZ8 := Lib.hid (HZ7.out.ext hb8)
        have H08 := Lib.hid (H07.out.ext hb8)
        have HN8 := Lib.hid (HN7.out.ext hb8)
        have HB8 := Lib.hid (HB7.out.ext hb8)
        have z8 := HZ8.out.cells
        have x8 := H08.out.cells
        have y8 := H08.out.marks
        have t8 := H08.out.lt
        have u8 := HZ8.out.lt
        clear c7 l7 hOB hb8
        cases okq with
        | false =>
          have HG := Lib.hid (show goodN s = false by unfold goodN; rw [HRAW.out]; rfl)
          go_wp2
          refine bodyPost_ret (v := .tuple #[.agg #[.bool false, .slice none 0 0, .slice none 0 0], .int .i64 240]) (by simp [results, Try.results13, go_sem, x8]) rfl ⟨none, 0, 0, none, 0, 0, ?_, ?_, ?_⟩
          · unfold decN decE; rw [HG.out]; rfl
          · unfold decN; rw [HG.out]; exact ⟨ItemsS.nil_, KidsS.nil_⟩
          · have h := HBL8.out; exact (by repeat (first | (with_reducible exact Below.refl _ _) | (with_reducible exact Below.refl _ _) | (with_reducible refine Below.setCell ?_ (by first | omega | (simp; done) | (simp; omega)) _) | (with_reducible refine Below.alloc ?_ (by first | omega | (simp; done) | (simp; omega)) _) | (with_reducible refine Below.drew ?_) | (with_reducible refine below_drewN ?_ _) | (with_reducible refine Below.trans ?_ (h.mono (by first | omega | (simp; done) | (simp; omega))))))
        | true =>
          cases hnk : nodeOk M with
          | false =>
            have e0 := nodeE_240 hnk
            have HG := Lib.hid (show goodN s = false by unfold goodN; rw [HRAW.out]; dsimp only; rw [hnk]; rfl)
            clear hnk
            go_wp2
            refine bodyPost_ret (v := .tuple #[.agg #[.bool false, .slice none 0 0, .slice none 0 0], .int .i64 240]) (by simp [results, Try.results13, go_sem, x8]) rfl ⟨none, 0, 0, none, 0, 0, ?_, ?_, ?_⟩
            · unfold decN decE; rw [HG.out]; rfl
            · unfold decN; rw [HG.out]; exact ⟨ItemsS.nil_, KidsS.nil_⟩
            · have h := HBL8.out; exact (by repeat (first | (with_reducible exact Below.refl _ _) | (with_reducible exact Below.refl _ _) | (with_reducible refine Below.setCell ?_ (by first | omega | (simp; done) | (simp; omega)) _) | (with_reducible refine Below.alloc ?_ (by first | omega | (simp; done) | (simp; omega)) _) | (with_reducible refine Below.drew ?_) | (with_reducible refine below_drewN ?_ _) | (with_reducible refine Below.trans ?_ (h.mono (by first | omega | (simp; done) | (simp; omega))))))
          | true =>
            have e0 := nodeE_0 hnk
            have hq := Try_bytesEqual oa a on oc n c _ _ W8 HOB.out.at_ HB8.out.at_
            rw [if_pos hnk] at hq
            obtain ⟨bq, hbq⟩ : ∃ b, decide (nodeBytes M = l) = b := ⟨_, rfl⟩
            rw [hbq] at hq
            have HQ := Lib.hid hq
            have HG := Lib.hid (show goodN s = bq by unfold goodN; rw [HRAW.out]; dsimp only; rw [hnk, HSL.out, hbq]; simp)
            clear hnk hq hbq
            go_wp2_with fail
            (with_reducible refine HQ.out.mono ?_); rintro e W9 ⟨rfl, hb9⟩
            have HBL9 := Lib.hid (HBL8.out.trans (hb9.mono HBL8.out.size))
            have HX9 := Lib.hid (HX8.out.ext hb9)
            have H09 := Lib.hid (H08.out.ext hb9)
            have HN9 := Lib.hid (HN8.out.ext hb9)
            have x9 := H09.out.cells
            have y9 := H09.out.marks
            have t9 := H09.out.lt
            have w9 := HX9.out.cells
            have v9 := HX9.out.lt
            clear z8 x8 y8 t8 u8 hb9
            cases bq with
            | false =>
              go_wp2
              refine bodyPost_ret (v := .tuple #[.agg #[.bool false, .slice none 0 0, .slice none 0 0], .int .i64 240]) (by simp [results, Try.results13, go_sem, x9]) rfl ⟨none, 0, 0, none, 0, 0, ?_, ?_, ?_⟩
              · unfold decN decE; rw [HG.out]; rfl
              · unfold decN; rw [HG.out]; exact ⟨ItemsS.nil_, KidsS.nil_⟩
              · have h := HBL9.out; exact (by repeat (first | (with_reducible exact Below.refl _ _) | (with_reducible exact Below.refl _ _) | (with_reducible refine Below.setCell ?_ (by first | omega | (simp; done) | (simp; omega)) _) | (with_reducible refine Below.alloc ?_ (by first | omega | (simp; done) | (simp; omega)) _) | (with_reducible refine Below.drew ?_) | (with_reducible refine below_drewN ?_ _) | (with_reducible refine Below.trans ?_ (h.mono (by first | omega | (simp; done) | (simp; omega))))))
            | true =>
              go_wp2
              have hne : W4.heap.size ≠ w.heap.size := by have := HS4.out; omega
              refine bodyPost_ret (v := .tuple #[.agg #[.bool true, .slice ra rn rc, .slice none 0 0], .int .i64 0]) (by simp [results, Try.results13, go_sem, x9]) rfl ⟨ra, rn, rc, none, 0, 0, ?_, ?_, ?_⟩
              · unfold decN decE
                rw [HG.out, if_pos rfl, if_pos rfl, HRAW.out]
                dsimp only
                rw [HML.out]
              · unfold decN
                rw [HG.out, if_pos rfl, HRAW.out]
                refine (NodeS.same HN9.out ?_ fun b h1 h2 => ?_).mono fun b h => ?_
                · simp
                · have : b ≠ w.heap.size := by
                    rcases h1 with h1 | h1
                    · have := HS.out b h1; omega
                    · simp at h1; have := HS4.out; omega
                  exact (((OnlyS.refl (fun b => b = w.heap.size) W9).set _ _ _ rfl).set _ _ _ rfl).set _ _ _ rfl |>.block b h2 this
                · rcases h with h | h
                  · exact .inl h
                  · simp at h; have := HS4.out; exact .inr (by omega)
              · have h := HBL9.out; exact (by repeat (first | (with_reducible exact Below.refl _ _) | (with_reducible exact Below.refl _ _) | (with_reducible refine Below.setCell ?_ (by first | omega | (simp; done) | (simp; omega)) _) | (with_reducible refine Below.alloc ?_ (by first | omega | (simp; done) | (simp; omega)) _) | (with_reducible refine Below.drew ?_) | (with_reducible refine below_drewN ?_ _) | (with_reducible refine Below.trans ?_ (h.mono (by first | omega | (simp; done) | (simp; omega))))))
      · have h7' : 7 < (((s.next 1).num 1 : Nat) : Int) := by omega
        have hmm : (mn : Int) = 7 := by have := HMI.out; omega
        obtain ⟨R, hR⟩ : ∃ R, sevI mn [] ((s.next 1).next 1) = R := ⟨_, rfl⟩
        have hbx : Below W4.heap.size W4 (W4.alloc (.cells #[.bool true, .slice none 0 0, .slice none 0 0] 28)) := (Below.refl _ _).alloc (Nat.le_refl _) _
        have hsev : Calls Try.prog 35 #[.int .i64 7, .func (.func 36) #[] #[.pointer (some ⟨w.heap.size + 1 + 1 + 1, 0, none⟩), .pointer (some ⟨w.heap.size + 1 + 1 + 1 + 1, 0, none⟩), .pointer (some ⟨w.heap.size + 1 + 1, 0, none⟩)]] (W4.alloc (.cells #[.bool true, .slice none 0 0, .slice none 0 0] 28)) (TryGivesItems S (w.heap.size + 1) (w.heap.size + 1 + 1) (W4.alloc (.cells #[.bool true, .slice none 0 0, .slice none 0 0] 28)) R) := by
          have h := Try_sevItem S (w.heap.size + 1 + 1 + 1) (w.heap.size + 1 + 1 + 1 + 1) (w.heap.size + 1) (w.heap.size + 1 + 1) mn ((s.next 1).next 1) (W4.alloc (.cells #[.bool true, .slice none 0 0, .slice none 0 0] 28)) (HD4.out.st.ext hbx) (HD4.out.tk.ext hbx) (HD4.out.nm.ext hbx) HAP.out (fun b h => by have := HS.out b h; have := HS4.out; simp; omega) HM7.out
          rw [hR, hmm] at h
          exact h
        have HSEV := Lib.hid hsev
        have HRAW := Lib.hid (show rawN s = (⟨true, R.1, []⟩, R.2.2) by unfold rawN; rw [if_pos HKD.out, HMN.out, hR])
        have HX5 := Lib.hid (Blk.new W4 [.bool true, .slice none 0 0, .slice none 0 0] 28)
        have HBX := Lib.hid hbx
        clear hsev hR hbx hmm h7
        go_wp2_with fail
        (with_reducible refine HSEV.out.mono ?_); rintro e W6 ⟨ra, rn, rc, rfl, hIS, hst6, ho6⟩
        have h4 := HS4.out
        have hx6 := HX5.out.onlyS ho6 (by unfold TwoS; omega)
        have c6 := hx6.cells
        have m6 := hx6.marks
        have l6 := hx6.lt
        have r6 := hst6.hO.cells
        have n6 := hst6.hO.marks
        obtain ⟨W7, hW7⟩ : ∃ W7, (W6.setCell ⟨W4.heap.size, 1, none⟩ (.slice ra rn rc)).setCell ⟨w.heap.size + 1 + 1, 0, none⟩ (.bool R.2.2) = W7 := ⟨_, rfl⟩
        have hx7 : Blk W7 W4.heap.size [.bool true, .slice ra rn rc, .slice none 0 0] 28 := by rw [← hW7]; exact (hx6.set 1 _).other (by omega) 0 _
        have hz7 : Blk W7 (w.heap.size + 1 + 1) [.bool R.2.2] 4 := by rw [← hW7]; exact (hst6.hO.other (by omega) 1 _).set 0 _
        have ho7 : OnlyS (fun b => b = W4.heap.size ∨ b = (w.heap.size + 1 + 1)) W6 W7 := by rw [← hW7]; exact ((OnlyS.refl _ W6).set _ _ _ (.inl rfl)).set _ _ _ (.inr rfl)
        have h06 : Blk W6 w.heap.size [.bool false, .slice none 0 0, .slice none 0 0] 28 := (HD4.out.x.ext HBX.out).onlyS ho6 HP.out
        have h07 : Blk W7 w.heap.size [.bool false, .slice none 0 0, .slice none 0 0] 28 := h06.onlyS ho7 (by omega)
        have hlt6 : W4.heap.size + 1 ≤ W6.heap.size := by have := ho6.size; simpa using this
        have hn7 : NodeS W7 (fun b => S b ∨ (W4.alloc (.cells #[.bool true, .slice none 0 0, .slice none 0 0] 28)).heap.size ≤ b) ra rn rc none 0 0 ⟨true, R.1, []⟩ := (show NodeS W6 _ ra rn rc none 0 0 ⟨true, R.1, []⟩ from ⟨hIS, KidsS.nil_⟩).same ho7.size fun b h1 h2 => ho7.block b h2 (by
          rcases h1 with h1 | h1
          · have := HS.out b h1; omega
          · simp at h1; omega)
        have HBL7 := Lib.hid (show Below w.heap.size w W7 from (HBL4.out.trans (HBX.out.mono (by omega))).trans ((ho6.below (n := w.heap.size) (by simp; omega) HLOW.out).trans (ho7.below (n := w.heap.size) (by omega) fun k h => by omega)))
        have HX7 := Lib.hid hx7
        have HZ7 := Lib.hid hz7
        have H07 := Lib.hid h07
        have HN7 := Lib.hid hn7
        have HB7 := Lib.hid (show BytesS W7 S a n c l from HBB.out.same (by have := HBL7.out.size; have := ho7.size; have := HD4.out.only.size; have := HBX.out.size; have := ho6.size; omega) fun b h1 h2 => by
          have hb := HS.out b h1
          exact (HBL7.out.block b hb).trans (HB0.out.block b hb).symm)
        have hE : Calls Try.prog 14 #[.agg #[.bool true, .slice ra rn rc, .slice none 0 0]] W7 (GivesEnc W7 ⟨true, R.1, []⟩) := Try_Encode ⟨true, R.1, []⟩ ra none rn rc 0 0 _ W7 hn7.s (fun b h => h)
        obtain ⟨M, hM⟩ : ∃ M : NodeD, ⟨true, R.1, []⟩ = M := ⟨_, rfl⟩
        rw [hM] at hE HRAW HN7
        have HML := Lib.hid (show M.leaf = true by rw [← hM])
        have HE := Lib.hid hE
        obtain ⟨okq, hok⟩ : ∃ b, R.2.2 = b := ⟨_, rfl⟩
        rw [hok] at HRAW HZ7 hW7 ⊢
        have c7 := HX7.out.cells
        have l7 := HX7.out.lt
        clear hIS hst6 ho6 hx6 hx7 hz7 ho7 h06 h07 hn7 hE hM hok hlt6
        go_wp2_with fail
        clear hW7 c6 m6 l6 r6 n6
        (with_reducible refine HE.out.mono ?_); rintro e W8 ⟨oa, on, oc, rfl, hOB, hb8⟩
        have HOB := Lib.hid hOB
        have HBL8 := Lib.hid (show Below w.heap.size w W8 from HBL7.out.trans (hb8.mono HBL7.out.size))
        have HX8 := Lib.hid (HX7.out.ext hb8)
        have HZ8 := Lib.hid (HZ7.out.ext hb8)
        have H08 := Lib.hid (H07.out.ext hb8)
        have HN8 := Lib.hid (HN7.out.ext hb8)
        have HB8 := Lib.hid (HB7.out.ext hb8)
        have z8 := HZ8.out.cells
        have x8 := H08.out.cells
        have y8 := H08.out.marks
        have t8 := H08.out.lt
        have u8 := HZ8.out.lt
        clear c7 l7 hOB hb8
        cases okq with
        | false =>
          have HG := Lib.hid (show goodN s = false by unfold goodN; rw [HRAW.out]; rfl)
          go_wp2
          refine bodyPost_ret (v := .tuple #[.agg #[.bool false, .slice none 0 0, .slice none 0 0], .int .i64 240]) (by simp [results, Try.results13, go_sem, x8]) rfl ⟨none, 0, 0, none, 0, 0, ?_, ?_, ?_⟩
          · unfold decN decE; rw [HG.out]; rfl
          · unfold decN; rw [HG.out]; exact ⟨ItemsS.nil_, KidsS.nil_⟩
          · have h := HBL8.out; exact (by repeat (first | (with_reducible exact Below.refl _ _) | (with_reducible exact Below.refl _ _) | (with_reducible refine Below.setCell ?_ (by first | omega | (simp; done) | (simp; omega)) _) | (with_reducible refine Below.alloc ?_ (by first | omega | (simp; done) | (simp; omega)) _) | (with_reducible refine Below.drew ?_) | (with_reducible refine below_drewN ?_ _) | (with_reducible refine Below.trans ?_ (h.mono (by first | omega | (simp; done) | (simp; omega))))))
        | true =>
          cases hnk : nodeOk M with
          | false =>
            have e0 := nodeE_240 hnk
            have HG := Lib.hid (show goodN s = false by unfold goodN; rw [HRAW.out]; dsimp only; rw [hnk]; rfl)
            clear hnk
            go_wp2
            refine bodyPost_ret (v := .tuple #[.agg #[.bool false, .slice none 0 0, .slice none 0 0], .int .i64 240]) (by simp [results, Try.results13, go_sem, x8]) rfl ⟨none, 0, 0, none, 0, 0, ?_, ?_, ?_⟩
            · unfold decN decE; rw [HG.out]; rfl
            · unfold decN; rw [HG.out]; exact ⟨ItemsS.nil_, KidsS.nil_⟩
            · have h := HBL8.out; exact (by repeat (first | (with_reducible exact Below.refl _ _) | (with_reducible exact Below.refl _ _) | (with_reducible refine Below.setCell ?_ (by first | omega | (simp; done) | (simp; omega)) _) | (with_reducible refine Below.alloc ?_ (by first | omega | (simp; done) | (simp; omega)) _) | (with_reducible refine Below.drew ?_) | (with_reducible refine below_drewN ?_ _) | (with_reducible refine Below.trans ?_ (h.mono (by first | omega | (simp; done) | (simp; omega))))))
          | true =>
            have e0 := nodeE_0 hnk
            have hq := Try_bytesEqual oa a on oc n c _ _ W8 HOB.out.at_ HB8.out.at_
            rw [if_pos hnk] at hq
            obtain ⟨bq, hbq⟩ : ∃ b, decide (nodeBytes M = l) = b := ⟨_, rfl⟩
            rw [hbq] at hq
            have HQ := Lib.hid hq
            have HG := Lib.hid (show goodN s = bq by unfold goodN; rw [HRAW.out]; dsimp only; rw [hnk, HSL.out, hbq]; simp)
            clear hnk hq hbq
            go_wp2_with fail
            (with_reducible refine HQ.out.mono ?_); rintro e W9 ⟨rfl, hb9⟩
            have HBL9 := Lib.hid (HBL8.out.trans (hb9.mono HBL8.out.size))
            have HX9 := Lib.hid (HX8.out.ext hb9)
            have H09 := Lib.hid (H08.out.ext hb9)
            have HN9 := Lib.hid (HN8.out.ext hb9)
            have x9 := H09.out.cells
            have y9 := H09.out.marks
            have t9 := H09.out.lt
            have w9 := HX9.out.cells
            have v9 := HX9.out.lt
            clear z8 x8 y8 t8 u8 hb9
            cases bq with
            | false =>
              go_wp2
              refine bodyPost_ret (v := .tuple #[.agg #[.bool false, .slice none 0 0, .slice none 0 0], .int .i64 240]) (by simp [results, Try.results13, go_sem, x9]) rfl ⟨none, 0, 0, none, 0, 0, ?_, ?_, ?_⟩
              · unfold decN decE; rw [HG.out]; rfl
              · unfold decN; rw [HG.out]; exact ⟨ItemsS.nil_, KidsS.nil_⟩
              · have h := HBL9.out; exact (by repeat (first | (with_reducible exact Below.refl _ _) | (with_reducible exact Below.refl _ _) | (with_reducible refine Below.setCell ?_ (by first | omega | (simp; done) | (simp; omega)) _) | (with_reducible refine Below.alloc ?_ (by first | omega | (simp; done) | (simp; omega)) _) | (with_reducible refine Below.drew ?_) | (with_reducible refine below_drewN ?_ _) | (with_reducible refine Below.trans ?_ (h.mono (by first | omega | (simp; done) | (simp; omega))))))
            | true =>
              go_wp2
              have hne : W4.heap.size ≠ w.heap.size := by have := HS4.out; omega
              refine bodyPost_ret (v := .tuple #[.agg #[.bool true, .slice ra rn rc, .slice none 0 0], .int .i64 0]) (by simp [results, Try.results13, go_sem, x9]) rfl ⟨ra, rn, rc, none, 0, 0, ?_, ?_, ?_⟩
              · unfold decN decE
                rw [HG.out, if_pos rfl, if_pos rfl, HRAW.out]
                dsimp only
                rw [HML.out]
              · unfold decN
                rw [HG.out, if_pos rfl, HRAW.out]
                refine (NodeS.same HN9.out ?_ fun b h1 h2 => ?_).mono fun b h => ?_
                · simp
                · have : b ≠ w.heap.size := by
                    rcases h1 with h1 | h1
                    · have := HS.out b h1; omega
                    · simp at h1; have := HS4.out; omega
                  exact (((OnlyS.refl (fun b => b = w.heap.size) W9).set _ _ _ rfl).set _ _ _ rfl).set _ _ _ rfl |>.block b h2 this
                · rcases h with h | h
                  · exact .inl h
                  · simp at h; have := HS4.out; exact .inr (by omega)
              · have h := HBL9.out; exact (by repeat (first | (with_reducible exact Below.refl _ _) | (with_reducible exact Below.refl _ _) | (with_reducible refine Below.setCell ?_ (by first | omega | (simp; done) | (simp; omega)) _) | (with_reducible refine Below.alloc ?_ (by first | omega | (simp; done) | (simp; omega)) _) | (with_reducible refine Below.drew ?_) | (with_reducible refine below_drewN ?_ _) | (with_reducible refine Below.trans ?_ (h.mono (by first | omega | (simp; done) | (simp; omega))))))
    · have hkb : (((s.num 1 : Nat) : Int) == 1) = false := by rw [beq_eq_false_iff_ne]; omega
      have HKD := Lib.hid hkd
      clear hkd
      by_cases h7 : (s.next 1).num 1 ≤ 7
      · have h7' : (((s.next 1).num 1 : Nat) : Int) ≤ 7 := by omega
        have hmm : (mn : Int) = (((s.next 1).num 1 : Nat) : Int) := by have := HMI.out; omega
        obtain ⟨R, hR⟩ : ∃ R, sevK mn [] ((s.next 1).next 1) = R := ⟨_, rfl⟩
        have hbx : Below W4.heap.size W4 (W4.alloc (.cells #[.bool false, .slice none 0 0, .slice none 0 0] 28)) := (Below.refl _ _).alloc (Nat.le_refl _) _
        have hsev : Calls Try.prog 37 #[.int .i64 (((s.next 1).num 1 : Nat) : Int), .func (.func 38) #[] #[.pointer (some ⟨w.heap.size + 1 + 1 + 1, 0, none⟩), .pointer (some ⟨w.heap.size + 1 + 1 + 1 + 1, 0, none⟩), .pointer (some ⟨w.heap.size + 1 + 1, 0, none⟩)]] (W4.alloc (.cells #[.bool false, .slice none 0 0, .slice none 0 0] 28)) (TryGivesKids S (w.heap.size + 1) (w.heap.size + 1 + 1) (W4.alloc (.cells #[.bool false, .slice none 0 0, .slice none 0 0] 28)) R) := by
          have h := Try_sevKid S (w.heap.size + 1 + 1 + 1) (w.heap.size + 1 + 1 + 1 + 1) (w.heap.size + 1) (w.heap.size + 1 + 1) mn ((s.next 1).next 1) (W4.alloc (.cells #[.bool false, .slice none 0 0, .slice none 0 0] 28)) (HD4.out.st.ext hbx) (HD4.out.tk.ext hbx) (HD4.out.nm.ext hbx) HAP.out (fun b h => by have := HS.out b h; have := HS4.out; simp; omega) HM7.out
          rw [hR, hmm] at h
          exact h
        have HSEV := Lib.hid hsev
        have HRAW := Lib.hid (show rawN s = (⟨false, [], R.1⟩, R.2.2) by unfold rawN; rw [if_neg HKD.out, HMN.out, hR])
        have HX5 := Lib.hid (Blk.new W4 [.bool false, .slice none 0 0, .slice none 0 0] 28)
        have HBX := Lib.hid hbx
        clear hsev hR hbx hmm h7
        go_wp2_with fail
        (with_reducible refine HSEV.out.mono ?_); rintro e W6 ⟨ra, rn, rc, rfl, hIS, hst6, ho6⟩
        have h4 := HS4.out
        have hx6 := HX5.out.onlyS ho6 (by unfold TwoS; omega)
        have c6 := hx6.cells
        have m6 := hx6.marks
        have l6 := hx6.lt
        have r6 := hst6.hO.cells
        have n6 := hst6.hO.marks
        obtain ⟨W7, hW7⟩ : ∃ W7, (W6.setCell ⟨W4.heap.size, 2, none⟩ (.slice ra rn rc)).setCell ⟨w.heap.size + 1 + 1, 0, none⟩ (.bool R.2.2) = W7 := ⟨_, rfl⟩
        have hx7 : Blk W7 W4.heap.size [.bool false, .slice none 0 0, .slice ra rn rc] 28 := by rw [← hW7]; exact (hx6.set 2 _).other (by omega) 0 _
        have hz7 : Blk W7 (w.heap.size + 1 + 1) [.bool R.2.2] 4 := by rw [← hW7]; exact (hst6.hO.other (by omega) 2 _).set 0 _
        have ho7 : OnlyS (fun b => b = W4.heap.size ∨ b = (w.heap.size + 1 + 1)) W6 W7 := by rw [← hW7]; exact ((OnlyS.refl _ W6).set _ _ _ (.inl rfl)).set _ _ _ (.inr rfl)
        have h06 : Blk W6 w.heap.size [.bool false, .slice none 0 0, .slice none 0 0] 28 := (HD4.out.x.ext HBX.out).onlyS ho6 HP.out
        have h07 : Blk W7 w.heap.size [.bool false, .slice none 0 0, .slice none 0 0] 28 := h06.onlyS ho7 (by omega)
        have hlt6 : W4.heap.size + 1 ≤ W6.heap.size := by have := ho6.size; simpa using this
        have hn7 : NodeS W7 (fun b => S b ∨ (W4.alloc (.cells #[.bool false, .slice none 0 0, .slice none 0 0] 28)).heap.size ≤ b) none 0 0 ra rn rc ⟨false, [], R.1⟩ := (show NodeS W6 _ none 0 0 ra rn rc ⟨false, [], R.1⟩ from ⟨ItemsS.nil_, hIS⟩).same ho7.size fun b h1 h2 => ho7.block b h2 (by
          rcases h1 with h1 | h1
          · have := HS.out b h1; omega
          · simp at h1; omega)
        have HBL7 := Lib.hid (show Below w.heap.size w W7 from (HBL4.out.trans (HBX.out.mono (by omega))).trans ((ho6.below (n := w.heap.size) (by simp; omega) HLOW.out).trans (ho7.below (n := w.heap.size) (by omega) fun k h => by omega)))
        have HX7 := Lib.hid hx7
        have HZ7 := Lib.hid hz7
        have H07 := Lib.hid h07
        have HN7 := Lib.hid hn7
        have HB7 := Lib.hid (show BytesS W7 S a n c l from HBB.out.same (by have := HBL7.out.size; have := ho7.size; have := HD4.out.only.size; have := HBX.out.size; have := ho6.size; omega) fun b h1 h2 => by
          have hb := HS.out b h1
          exact (HBL7.out.block b hb).trans (HB0.out.block b hb).symm)
        have hE : Calls Try.prog 14 #[.agg #[.bool false, .slice none 0 0, .slice ra rn rc]] W7 (GivesEnc W7 ⟨false, [], R.1⟩) := Try_Encode ⟨false, [], R.1⟩ none ra 0 0 rn rc _ W7 hn7.s (fun b h => h)
        obtain ⟨M, hM⟩ : ∃ M : NodeD, ⟨false, [], R.1⟩ = M := ⟨_, rfl⟩
        rw [hM] at hE HRAW HN7
        have HML := Lib.hid (show M.leaf = false by rw [← hM])
        have HE := Lib.hid hE
        obtain ⟨okq, hok⟩ : ∃ b, R.2.2 = b := ⟨_, rfl⟩
        rw [hok] at HRAW HZ7 hW7 ⊢
        have c7 := HX7.out.cells
        have l7 := HX7.out.lt
        clear hIS hst6 ho6 hx6 hx7 hz7 ho7 h06 h07 hn7 hE hM hok hlt6
        go_wp2_with fail
        clear hW7 c6 m6 l6 r6 n6
        (with_reducible refine HE.out.mono ?_); rintro e W8 ⟨oa, on, oc, rfl, hOB, hb8⟩
        have HOB := Lib.hid hOB
        have HBL8 := Lib.hid (show Below w.heap.size w W8 from HBL7.out.trans (hb8.mono HBL7.out.size))
        have HX8 := Lib.hid (HX7.out.ext hb8)
        have HZ8 := Lib.hid (HZ7.out.ext hb8)
        have H08 := Lib.hid (H07.out.ext hb8)
        have HN8 := Lib.hid (HN7.out.ext hb8)
        have HB8 := Lib.hid (HB7.out.ext hb8)
        have z8 := HZ8.out.cells
        have x8 := H08.out.cells
        have y8 := H08.out.marks
        have t8 := H08.out.lt
        have u8 := HZ8.out.lt
        clear c7 l7 hOB hb8
        cases okq with
        | false =>
          have HG := Lib.hid (show goodN s = false by unfold goodN; rw [HRAW.out]; rfl)
          go_wp2
          refine bodyPost_ret (v := .tuple #[.agg #[.bool false, .slice none 0 0, .slice none 0 0], .int .i64 240]) (by simp [results, Try.results13, go_sem, x8]) rfl ⟨none, 0, 0, none, 0, 0, ?_, ?_, ?_⟩
          · unfold decN decE; rw [HG.out]; rfl
          · unfold decN; rw [HG.out]; exact ⟨ItemsS.nil_, KidsS.nil_⟩
          · have h := HBL8.out; exact (by repeat (first | (with_reducible exact Below.refl _ _) | (with_reducible exact Below.refl _ _) | (with_reducible refine Below.setCell ?_ (by first | omega | (simp; done) | (simp; omega)) _) | (with_reducible refine Below.alloc ?_ (by first | omega | (simp; done) | (simp; omega)) _) | (with_reducible refine Below.drew ?_) | (with_reducible refine below_drewN ?_ _) | (with_reducible refine Below.trans ?_ (h.mono (by first | omega | (simp; done) | (simp; omega))))))
        | true =>
          cases hnk : nodeOk M with
          | false =>
            have e0 := nodeE_240 hnk
            have HG := Lib.hid (show goodN s = false by unfold goodN; rw [HRAW.out]; dsimp only; rw [hnk]; rfl)
            clear hnk
            go_wp2
            refine bodyPost_ret (v := .tuple #[.agg #[.bool false, .slice none 0 0, .slice none 0 0], .int .i64 240]) (by simp [results, Try.results13, go_sem, x8]) rfl ⟨none, 0, 0, none, 0, 0, ?_, ?_, ?_⟩
            · unfold decN decE; rw [HG.out]; rfl
            · unfold decN; rw [HG.out]; exact ⟨ItemsS.nil_, KidsS.nil_⟩
            · have h := HBL8.out; exact (by repeat (first | (with_reducible exact Below.refl _ _) | (with_reducible exact Below.refl _ _) | (with_reducible refine Below.setCell ?_ (by first | omega | (simp; done) | (simp; omega)) _) | (with_reducible refine Below.alloc ?_ (by first | omega | (simp; done) | (simp; omega)) _) | (with_reducible refine Below.drew ?_) | (with_reducible refine below_drewN ?_ _) | (with_reducible refine Below.trans ?_ (h.mono (by first | omega | (simp; done) | (simp; omega))))))
          | true =>
            have e0 := nodeE_0 hnk
            have hq := Try_bytesEqual oa a on oc n c _ _ W8 HOB.out.at_ HB8.out.at_
            rw [if_pos hnk] at hq
            obtain ⟨bq, hbq⟩ : ∃ b, decide (nodeBytes M = l) = b := ⟨_, rfl⟩
            rw [hbq] at hq
            have HQ := Lib.hid hq
            have HG := Lib.hid (show goodN s = bq by unfold goodN; rw [HRAW.out]; dsimp only; rw [hnk, HSL.out, hbq]; simp)
            clear hnk hq hbq
            go_wp2_with fail
            (with_reducible refine HQ.out.mono ?_); rintro e W9 ⟨rfl, hb9⟩
            have HBL9 := Lib.hid (HBL8.out.trans (hb9.mono HBL8.out.size))
            have HX9 := Lib.hid (HX8.out.ext hb9)
            have H09 := Lib.hid (H08.out.ext hb9)
            have HN9 := Lib.hid (HN8.out.ext hb9)
            have x9 := H09.out.cells
            have y9 := H09.out.marks
            have t9 := H09.out.lt
            have w9 := HX9.out.cells
            have v9 := HX9.out.lt
            clear z8 x8 y8 t8 u8 hb9
            cases bq with
            | false =>
              go_wp2
              refine bodyPost_ret (v := .tuple #[.agg #[.bool false, .slice none 0 0, .slice none 0 0], .int .i64 240]) (by simp [results, Try.results13, go_sem, x9]) rfl ⟨none, 0, 0, none, 0, 0, ?_, ?_, ?_⟩
              · unfold decN decE; rw [HG.out]; rfl
              · unfold decN; rw [HG.out]; exact ⟨ItemsS.nil_, KidsS.nil_⟩
              · have h := HBL9.out; exact (by repeat (first | (with_reducible exact Below.refl _ _) | (with_reducible exact Below.refl _ _) | (with_reducible refine Below.setCell ?_ (by first | omega | (simp; done) | (simp; omega)) _) | (with_reducible refine Below.alloc ?_ (by first | omega | (simp; done) | (simp; omega)) _) | (with_reducible refine Below.drew ?_) | (with_reducible refine below_drewN ?_ _) | (with_reducible refine Below.trans ?_ (h.mono (by first | omega | (simp; done) | (simp; omega))))))
            | true =>
              go_wp2
              have hne : W4.heap.size ≠ w.heap.size := by have := HS4.out; omega
              refine bodyPost_ret (v := .tuple #[.agg #[.bool false, .slice none 0 0, .slice ra rn rc], .int .i64 0]) (by simp [results, Try.results13, go_sem, x9]) rfl ⟨none, 0, 0, ra, rn, rc, ?_, ?_, ?_⟩
              · unfold decN decE
                rw [HG.out, if_pos rfl, if_pos rfl, HRAW.out]
                dsimp only
                rw [HML.out]
              · unfold decN
                rw [HG.out, if_pos rfl, HRAW.out]
                refine (NodeS.same HN9.out ?_ fun b h1 h2 => ?_).mono fun b h => ?_
                · simp
                · have : b ≠ w.heap.size := by
                    rcases h1 with h1 | h1
                    · have := HS.out b h1; omega
                    · simp at h1; have := HS4.out; omega
                  exact (((OnlyS.refl (fun b => b = w.heap.size) W9).set _ _ _ rfl).set _ _ _ rfl).set _ _ _ rfl |>.block b h2 this
                · rcases h with h | h
                  · exact .inl h
                  · simp at h; have := HS4.out; exact .inr (by omega)
              · have h := HBL9.out; exact (by repeat (first | (with_reducible exact Below.refl _ _) | (with_reducible exact Below.refl _ _) | (with_reducible refine Below.setCell ?_ (by first | omega | (simp; done) | (simp; omega)) _) | (with_reducible refine Below.alloc ?_ (by first | omega | (simp; done) | (simp; omega)) _) | (with_reducible refine Below.drew ?_) | (with_reducible refine below_drewN ?_ _) | (with_reducible refine Below.trans ?_ (h.mono (by first | omega | (simp; done) | (simp; omega))))))
      · have h7' : 7 < (((s.next 1).num 1 : Nat) : Int) := by omega
        have hmm : (mn : Int) = 7 := by have := HMI.out; omega
        obtain ⟨R, hR⟩ : ∃ R, sevK mn [] ((s.next 1).next 1) = R := ⟨_, rfl⟩
        have hbx : Below W4.heap.size W4 (W4.alloc (.cells #[.bool false, .slice none 0 0, .slice none 0 0] 28)) := (Below.refl _ _).alloc (Nat.le_refl _) _
        have hsev : Calls Try.prog 37 #[.int .i64 7, .func (.func 38) #[] #[.pointer (some ⟨w.heap.size + 1 + 1 + 1, 0, none⟩), .pointer (some ⟨w.heap.size + 1 + 1 + 1 + 1, 0, none⟩), .pointer (some ⟨w.heap.size + 1 + 1, 0, none⟩)]] (W4.alloc (.cells #[.bool false, .slice none 0 0, .slice none 0 0] 28)) (TryGivesKids S (w.heap.size + 1) (w.heap.size + 1 + 1) (W4.alloc (.cells #[.bool false, .slice none 0 0, .slice none 0 0] 28)) R) := by
          have h := Try_sevKid S (w.heap.size + 1 + 1 + 1) (w.heap.size + 1 + 1 + 1 + 1) (w.heap.size + 1) (w.heap.size + 1 + 1) mn ((s.next 1).next 1) (W4.alloc (.cells #[.bool false, .slice none 0 0, .slice none 0 0] 28)) (HD4.out.st.ext hbx) (HD4.out.tk.ext hbx) (HD4.out.nm.ext hbx) HAP.out (fun b h => by have := HS.out b h; have := HS4.out; simp; omega) HM7.out
          rw [hR, hmm] at h
          exact h
        have HSEV := Lib.hid hsev
        have HRAW := Lib.hid (show rawN s = (⟨false, [], R.1⟩, R.2.2) by unfold rawN; rw [if_neg HKD.out, HMN.out, hR])
        have HX5 := Lib.hid (Blk.new W4 [.bool false, .slice none 0 0, .slice none 0 0] 28)
        have HBX := Lib.hid hbx
        clear hsev hR hbx hmm h7
        go_wp2_with fail
        (with_reducible refine HSEV.out.mono ?_); rintro e W6 ⟨ra, rn, rc, rfl, hIS, hst6, ho6⟩
        have h4 := HS4.out
        have hx6 := HX5.out.onlyS ho6 (by unfold TwoS; omega)
        have c6 := hx6.cells
        have m6 := hx6.marks
        have l6 := hx6.lt
        have r6 := hst6.hO.cells
        have n6 := hst6.hO.marks
        obtain ⟨W7, hW7⟩ : ∃ W7, (W6.setCell ⟨W4.heap.size, 2, none⟩ (.slice ra rn rc)).setCell ⟨w.heap.size + 1 + 1, 0, none⟩ (.bool R.2.2) = W7 := ⟨_, rfl⟩
        have hx7 : Blk W7 W4.heap.size [.bool false, .slice none 0 0, .slice ra rn rc] 28 := by rw [← hW7]; exact (hx6.set 2 _).other (by omega) 0 _
        have hz7 : Blk W7 (w.heap.size + 1 + 1) [.bool R.2.2] 4 := by rw [← hW7]; exact (hst6.hO.other (by omega) 2 _).set 0 _
        have ho7 : OnlyS (fun b => b = W4.heap.size ∨ b = (w.heap.size + 1 + 1)) W6 W7 := by rw [← hW7]; exact ((OnlyS.refl _ W6).set _ _ _ (.inl rfl)).set _ _ _ (.inr rfl)
        have h06 : Blk W6 w.heap.size [.bool false, .slice none 0 0, .slice none 0 0] 28 := (HD4.out.x.ext HBX.out).onlyS ho6 HP.out
        have h07 : Blk W7 w.heap.size [.bool false, .slice none 0 0, .slice none 0 0] 28 := h06.onlyS ho7 (by omega)
        have hlt6 : W4.heap.size + 1 ≤ W6.heap.size := by have := ho6.size; simpa using this
        have hn7 : NodeS W7 (fun b => S b ∨ (W4.alloc (.cells #[.bool false, .slice none 0 0, .slice none 0 0] 28)).heap.size ≤ b) none 0 0 ra rn rc ⟨false, [], R.1⟩ := (show NodeS W6 _ none 0 0 ra rn rc ⟨false, [], R.1⟩ from ⟨ItemsS.nil_, hIS⟩).same ho7.size fun b h1 h2 => ho7.block b h2 (by
          rcases h1 with h1 | h1
          · have := HS.out b h1; omega
          · simp at h1; omega)
        have HBL7 := Lib.hid (show Below w.heap.size w W7 from (HBL4.out.trans (HBX.out.mono (by omega))).trans ((ho6.below (n := w.heap.size) (by simp; omega) HLOW.out).trans (ho7.below (n := w.heap.size) (by omega) fun k h => by omega)))
        have HX7 := Lib.hid hx7
        have HZ7 := Lib.hid hz7
        have H07 := Lib.hid h07
        have HN7 := Lib.hid hn7
        have HB7 := Lib.hid (show BytesS W7 S a n c l from HBB.out.same (by have := HBL7.out.size; have := ho7.size; have := HD4.out.only.size; have := HBX.out.size; have := ho6.size; omega) fun b h1 h2 => by
          have hb := HS.out b h1
          exact (HBL7.out.block b hb).trans (HB0.out.block b hb).symm)
        have hE : Calls Try.prog 14 #[.agg #[.bool false, .slice none 0 0, .slice ra rn rc]] W7 (GivesEnc W7 ⟨false, [], R.1⟩) := Try_Encode ⟨false, [], R.1⟩ none ra 0 0 rn rc _ W7 hn7.s (fun b h => h)
        obtain ⟨M, hM⟩ : ∃ M : NodeD, ⟨false, [], R.1⟩ = M := ⟨_, rfl⟩
        rw [hM] at hE HRAW HN7
        have HML := Lib.hid (show M.leaf = false by rw [← hM])
        have HE := Lib.hid hE
        obtain ⟨okq, hok⟩ : ∃ b, R.2.2 = b := ⟨_, rfl⟩
        rw [hok] at HRAW HZ7 hW7 ⊢
        have c7 := HX7.out.cells
        have l7 := HX7.out.lt
        clear hIS hst6 ho6 hx6 hx7 hz7 ho7 h06 h07 hn7 hE hM hok hlt6
        go_wp2_with fail
        clear hW7 c6 m6 l6 r6 n6
        (with_reducible refine HE.out.mono ?_); rintro e W8 ⟨oa, on, oc, rfl, hOB, hb8⟩
        have HOB := Lib.hid hOB
        have HBL8 := Lib.hid (show Below w.heap.size w W8 from HBL7.out.trans (hb8.mono HBL7.out.size))
        have HX8 := Lib.hid (HX7.out.ext hb8)
        have HZ8 := Lib.hid (HZ7.out.ext hb8)
        have H08 := Lib.hid (H07.out.ext hb8)
        have HN8 := Lib.hid (HN7.out.ext hb8)
        have HB8 := Lib.hid (HB7.out.ext hb8)
        have z8 := HZ8.out.cells
        have x8 := H08.out.cells
        have y8 := H08.out.marks
        have t8 := H08.out.lt
        have u8 := HZ8.out.lt
        clear c7 l7 hOB hb8
        cases okq with
        | false =>
          have HG := Lib.hid (show goodN s = false by unfold goodN; rw [HRAW.out]; rfl)
          go_wp2
          refine bodyPost_ret (v := .tuple #[.agg #[.bool false, .slice none 0 0, .slice none 0 0], .int .i64 240]) (by simp [results, Try.results13, go_sem, x8]) rfl ⟨none, 0, 0, none, 0, 0, ?_, ?_, ?_⟩
          · unfold decN decE; rw [HG.out]; rfl
          · unfold decN; rw [HG.out]; exact ⟨ItemsS.nil_, KidsS.nil_⟩
          · have h := HBL8.out; exact (by repeat (first | (with_reducible exact Below.refl _ _) | (with_reducible exact Below.refl _ _) | (with_reducible refine Below.setCell ?_ (by first | omega | (simp; done) | (simp; omega)) _) | (with_reducible refine Below.alloc ?_ (by first | omega | (simp; done) | (simp; omega)) _) | (with_reducible refine Below.drew ?_) | (with_reducible refine below_drewN ?_ _) | (with_reducible refine Below.trans ?_ (h.mono (by first | omega | (simp; done) | (simp; omega))))))
        | true =>
          cases hnk : nodeOk M with
          | false =>
            have e0 := nodeE_240 hnk
            have HG := Lib.hid (show goodN s = false by unfold goodN; rw [HRAW.out]; dsimp only; rw [hnk]; rfl)
            clear hnk
            go_wp2
            refine bodyPost_ret (v := .tuple #[.agg #[.bool false, .slice none 0 0, .slice none 0 0], .int .i64 240]) (by simp [results, Try.results13, go_sem, x8]) rfl ⟨none, 0, 0, none, 0, 0, ?_, ?_, ?_⟩
            · unfold decN decE; rw [HG.out]; rfl
            · unfold decN; rw [HG.out]; exact ⟨ItemsS.nil_, KidsS.nil_⟩
            · have h := HBL8.out; exact (by repeat (first | (with_reducible exact Below.refl _ _) | (with_reducible exact Below.refl _ _) | (with_reducible refine Below.setCell ?_ (by first | omega | (simp; done) | (simp; omega)) _) | (with_reducible refine Below.alloc ?_ (by first | omega | (simp; done) | (simp; omega)) _) | (with_reducible refine Below.drew ?_) | (with_reducible refine below_drewN ?_ _) | (with_reducible refine Below.trans ?_ (h.mono (by first | omega | (simp; done) | (simp; omega))))))
          | true =>
            have e0 := nodeE_0 hnk
            have hq := Try_bytesEqual oa a on oc n c _ _ W8 HOB.out.at_ HB8.out.at_
            rw [if_pos hnk] at hq
            obtain ⟨bq, hbq⟩ : ∃ b, decide (nodeBytes M = l) = b := ⟨_, rfl⟩
            rw [hbq] at hq
            have HQ := Lib.hid hq
            have HG := Lib.hid (show goodN s = bq by unfold goodN; rw [HRAW.out]; dsimp only; rw [hnk, HSL.out, hbq]; simp)
            clear hnk hq hbq
            go_wp2_with fail
            (with_reducible refine HQ.out.mono ?_); rintro e W9 ⟨rfl, hb9⟩
            have HBL9 := Lib.hid (HBL8.out.trans (hb9.mono HBL8.out.size))
            have HX9 := Lib.hid (HX8.out.ext hb9)
            have H09 := Lib.hid (H08.out.ext hb9)
            have HN9 := Lib.hid (HN8.out.ext hb9)
            have x9 := H09.out.cells
            have y9 := H09.out.marks
            have t9 := H09.out.lt
            have w9 := HX9.out.cells
            have v9 := HX9.out.lt
            clear z8 x8 y8 t8 u8 hb9
            cases bq with
            | false =>
              go_wp2
              refine bodyPost_ret (v := .tuple #[.agg #[.bool false, .slice none 0 0, .slice none 0 0], .int .i64 240]) (by simp [results, Try.results13, go_sem, x9]) rfl ⟨none, 0, 0, none, 0, 0, ?_, ?_, ?_⟩
              · unfold decN decE; rw [HG.out]; rfl
              · unfold decN; rw [HG.out]; exact ⟨ItemsS.nil_, KidsS.nil_⟩
              · have h := HBL9.out; exact (by repeat (first | (with_reducible exact Below.refl _ _) | (with_reducible exact Below.refl _ _) | (with_reducible refine Below.setCell ?_ (by first | omega | (simp; done) | (simp; omega)) _) | (with_reducible refine Below.alloc ?_ (by first | omega | (simp; done) | (simp; omega)) _) | (with_reducible refine Below.drew ?_) | (with_reducible refine below_drewN ?_ _) | (with_reducible refine Below.trans ?_ (h.mono (by first | omega | (simp; done) | (simp; omega))))))
            | true =>
              go_wp2
              have hne : W4.heap.size ≠ w.heap.size := by have := HS4.out; omega
              refine bodyPost_ret (v := .tuple #[.agg #[.bool false, .slice none 0 0, .slice ra rn rc], .int .i64 0]) (by simp [results, Try.results13, go_sem, x9]) rfl ⟨none, 0, 0, ra, rn, rc, ?_, ?_, ?_⟩
              · unfold decN decE
                rw [HG.out, if_pos rfl, if_pos rfl, HRAW.out]
                dsimp only
                rw [HML.out]
              · unfold decN
                rw [HG.out, if_pos rfl, HRAW.out]
                refine (NodeS.same HN9.out ?_ fun b h1 h2 => ?_).mono fun b h => ?_
                · simp
                · have : b ≠ w.heap.size := by
                    rcases h1 with h1 | h1
                    · have := HS.out b h1; omega
                    · simp at h1; have := HS4.out; omega
                  exact (((OnlyS.refl (fun b => b = w.heap.size) W9).set _ _ _ rfl).set _ _ _ rfl).set _ _ _ rfl |>.block b h2 this
                · rcases h with h | h
                  · exact .inl h
                  · simp at h; have := HS4.out; exact .inr (by omega)
              · have h := HBL9.out; exact (by repeat (first | (with_reducible exact Below.refl _ _) | (with_reducible exact Below.refl _ _) | (with_reducible refine Below.setCell ?_ (by first | omega | (simp; done) | (simp; omega)) _) | (with_reducible refine Below.alloc ?_ (by first | omega | (simp; done) | (simp; omega)) _) | (with_reducible refine Below.drew ?_) | (with_reducible refine below_drewN ?_ _) | (with_reducible refine Below.trans ?_ (h.mono (by first | omega | (simp; done) | (simp; omega))))))
end Go.Proofs.Ytfhhcpolicdfpaa
