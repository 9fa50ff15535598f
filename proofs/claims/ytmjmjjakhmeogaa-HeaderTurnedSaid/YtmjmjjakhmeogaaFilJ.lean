/-
  Layer 10: set, Light, Refuse, New, walked.
-/
import Derived.Test.YtmjmjjakhmeogaaFilI
namespace Go.Proofs.Ytmjmjjakhmeogaa
set_option linter.unusedVariables false
set_option linter.unusedSimpArgs false
open Go.RowKit Go.Dav
attribute [local go_sem] Gives ite_val ite_val_true

theorem Try_New (w : World) : Calls Try.prog 16 #[] w fun e w' => e = .returned (.agg #[.slice none 0 0, .slice none 0 0, .int .i64 (-1), .int .i64 (-1), .bool false]) ∧ Below w.heap.size w w' := by
  go_enter Try.func16, Try.ntmps16
  go_wp2
  refine bodyPost_ret (v := .agg #[.slice none 0 0, .slice none 0 0, .int .i64 (-1), .int .i64 (-1), .bool false]) (by simp [results, Try.results16, go_sem]) rfl ⟨rfl, (by repeat (first | (with_reducible exact Below.refl _ _) | (with_reducible exact Below.refl _ _) | (with_reducible refine Below.setCell ?_ (by first | omega | (simp; done) | (simp; omega)) _) | (with_reducible refine Below.alloc ?_ (by first | omega | (simp; done) | (simp; omega)) _) | (with_reducible refine Below.drew ?_) | (with_reducible refine below_drewN ?_ _)))⟩

theorem none_at {W : World} {S : Nat → Prop} : FileS W S none 0 0 none 0 0 FileD.none := ⟨BytesS.nil_, LooseS.nil_, by unfold I64' FileD.none; simp, by unfold I64' FileD.none; simp⟩

set_option maxRecDepth 8000 in
set_option maxHeartbeats 4000000 in
theorem Try_set (F : FileD) (fa la : Option Addr) (fl fc ll lc kdo : Nat) (cap : Array Value) (g : FileD → FileD) (w : World) (S : Nat → Prop) (hF : FileS w S fa fl fc la ll lc F) (hS : ∀ b, S b → b < w.heap.size) (hdo : TryDoes w S kdo cap g) (hen : ∀ args W, (callFunc kdo args).run Try.prog W = .ok (Next.enter kdo args) W) :
    Calls Try.prog 61 #[.agg #[.slice fa fl fc, .slice la ll lc, .int .i64 F.fuse, .int .i64 F.fault, .bool F.off], .func (.func kdo) #[] cap] w (GivesFile w S (F.set g).1 (F.set g).2) := by
  have hW : Below w.heap.size w ((w.alloc (.cells [.slice fa fl fc, .slice la ll lc, .int .i64 F.fuse, .int .i64 F.fault, .bool F.off].toArray 25)).alloc (.cells #[.slice none 0 0, .slice none 0 0, .int .i64 0, .int .i64 0, .bool false] 25)) := (by repeat (first | (with_reducible exact Below.refl _ _) | (with_reducible exact Below.refl _ _) | (with_reducible refine Below.setCell ?_ (by first | omega | (simp; done) | (simp; omega)) _) | (with_reducible refine Below.alloc ?_ (by first | omega | (simp; done) | (simp; omega)) _) | (with_reducible refine Below.drew ?_) | (with_reducible refine below_drewN ?_ _)))
  have HFF := Lib.hid (hF.at_.ext hW)
  have HF := Lib.hid hF
  have HDO := Lib.hid hdo
  have HSS := Lib.hid hS
  clear hF hW hdo hS
  cases hr : F.right with
  | false =>
    have herr : F.err = 200 := by unfold FileD.err; rw [if_neg (by rw [hr]; decide)]
    have HV := Lib.hid (show F.set g = (F, 200) by unfold FileD.set; rw [if_neg (by rw [hr]; decide)])
    go_enter Try.func61, Try.ntmps61
    go_wp2_with fail
    refine (Try_Check F fa la fl fc ll lc _ HFF.out).mono ?_; rintro e w1 ⟨rfl, hb1⟩
    obtain ⟨hc1, hf1, hs1⟩ := after hb1
    simp only [World.size_alloc] at hs1
    have lt_w1_0_0 : w.heap.size < w1.heap.size := by omega
    have lt_w1_0_1 : w.heap.size < w1.heap.size + 1 := by omega
    have B1 := (Blk.new' (w.alloc (.cells [.slice fa fl fc, .slice la ll lc, .int .i64 F.fuse, .int .i64 F.fault, .bool F.off].toArray 25)) [_, _, _, _, _] 25 (p := w.heap.size + 1) (by simp)).ext hb1
    have bel : Below w.heap.size w w1 := (by repeat (first | (with_reducible exact Below.refl _ _) | (with_reducible exact Below.refl _ _) | (with_reducible refine Below.setCell ?_ (by first | omega | (simp; done) | (simp; omega)) _) | (with_reducible refine Below.alloc ?_ (by first | omega | (simp; done) | (simp; omega)) _) | (with_reducible refine Below.drew ?_) | (with_reducible refine below_drewN ?_ _) | (with_reducible refine Below.trans ?_ (hb1.mono (by first | omega | (simp; done) | (simp; omega))))))
    have HR := Lib.hid ((HF.out.mono (T := Or S w1) fun b h => Or.inl h).ext bel)
    rw [herr]
    have hr2 := ((((B1.set 0 (.slice fa fl fc)).set 1 (.slice la ll lc)).set 2 (.int .i64 (F).fuse)).set 3 (.int .i64 (F).fault)).set 4 (.bool (F).off)
    have c2 := hr2.cells
    have m2 := B1.marks
    have q2 := B1.cells
    have lB := B1.lt
    simp only [List.set_cons_zero, List.set_cons_succ] at c2
    go_wp2
    rw [HV.out]
    refine bodyPost_ret (v := .tuple #[.agg #[.slice fa fl fc, .slice la ll lc, .int .i64 (F).fuse, .int .i64 (F).fault, .bool (F).off], .int .i64 (200)]) (by simp [results, Try.results61, go_sem, c2]) rfl ⟨fa, fl, fc, la, ll, lc, rfl, ?_, ?_⟩
    · refine ((HR.out).same (Only.size (p := w.heap.size + 1) (by repeat (first | (with_reducible exact Only.refl _ _) | (with_reducible refine Only.set ?_ _ _) | (with_reducible refine Only.alloc ?_ _) | (with_reducible refine Only.drew ?_)))) (fun b h hlt => Only.block (p := w.heap.size + 1) (by repeat (first | (with_reducible exact Only.refl _ _) | (with_reducible refine Only.set ?_ _ _) | (with_reducible refine Only.alloc ?_ _) | (with_reducible refine Only.drew ?_))) b hlt ?_)).mono (T := Or S w) (fun b h => ?_)
      · rcases h with h | h
        · have := HSS.out b h; omega
        · (try simp at h); omega
      · rcases h with h | h
        · exact .inl h
        · exact .inr (by (try simp at h); omega)
    · exact (by repeat (first | (with_reducible exact Below.refl _ _) | (with_reducible exact Below.refl _ _) | (with_reducible refine Below.setCell ?_ (by first | omega | (simp; done) | (simp; omega)) _) | (with_reducible refine Below.alloc ?_ (by first | omega | (simp; done) | (simp; omega)) _) | (with_reducible refine Below.drew ?_) | (with_reducible refine below_drewN ?_ _) | (with_reducible refine Below.trans ?_ (bel.mono (by first | omega | (simp; done) | (simp; omega))))))
  | true =>
    have herr : F.err = 0 := by unfold FileD.err; rw [if_pos hr]
    go_enter Try.func61, Try.ntmps61
    go_wp2_with fail
    refine (Try_Check F fa la fl fc ll lc _ HFF.out).mono ?_; rintro e w1 ⟨rfl, hb1⟩
    obtain ⟨hc1, hf1, hs1⟩ := after hb1
    simp only [World.size_alloc] at hs1
    have lt_w1_0_0 : w.heap.size < w1.heap.size := by omega
    have lt_w1_0_1 : w.heap.size < w1.heap.size + 1 := by omega
    have B1 := (Blk.new' (w.alloc (.cells [.slice fa fl fc, .slice la ll lc, .int .i64 F.fuse, .int .i64 F.fault, .bool F.off].toArray 25)) [_, _, _, _, _] 25 (p := w.heap.size + 1) (by simp)).ext hb1
    have bel : Below w.heap.size w w1 := (by repeat (first | (with_reducible exact Below.refl _ _) | (with_reducible exact Below.refl _ _) | (with_reducible refine Below.setCell ?_ (by first | omega | (simp; done) | (simp; omega)) _) | (with_reducible refine Below.alloc ?_ (by first | omega | (simp; done) | (simp; omega)) _) | (with_reducible refine Below.drew ?_) | (with_reducible refine below_drewN ?_ _) | (with_reducible refine Below.trans ?_ (hb1.mono (by first | omega | (simp; done) | (simp; omega))))))
    rw [herr]
    have hp := Blk.new w1 [.slice fa fl fc, .slice la ll lc, .int .i64 F.fuse, .int .i64 F.fault, .bool F.off] 97
    go_wp2_with fail
    refine (Try_off w1.heap.size _ _ _ _ _ _ hp).mono ?_; rintro e wX ⟨rfl, rfl⟩
    by_cases hoff : F.off = true
    · have HV := Lib.hid (show F.set g = (F, 10) by unfold FileD.set; rw [if_pos hr, if_pos hoff])
      have HOFF := Lib.hid hoff; clear hoff
      rw [if_pos HOFF.out]
      have bel2 : Below w.heap.size w (w1.alloc (.cells [.slice fa fl fc, .slice la ll lc, .int .i64 F.fuse, .int .i64 F.fault, .bool F.off].toArray 97)) := (by repeat (first | (with_reducible exact Below.refl _ _) | (with_reducible exact Below.refl _ _) | (with_reducible refine Below.setCell ?_ (by first | omega | (simp; done) | (simp; omega)) _) | (with_reducible refine Below.alloc ?_ (by first | omega | (simp; done) | (simp; omega)) _) | (with_reducible refine Below.drew ?_) | (with_reducible refine below_drewN ?_ _) | (with_reducible refine Below.trans ?_ (bel.mono (by first | omega | (simp; done) | (simp; omega))))))
      have HR := Lib.hid ((HF.out.mono (T := Or S w1) fun b h => Or.inl h).ext bel2)
      have B1 := B1.alloc (.cells [.slice fa fl fc, .slice la ll lc, .int .i64 F.fuse, .int .i64 F.fault, .bool F.off].toArray 97)
      have hr2 := ((((B1.set 0 (.slice fa fl fc)).set 1 (.slice la ll lc)).set 2 (.int .i64 (F).fuse)).set 3 (.int .i64 (F).fault)).set 4 (.bool (F).off)
      have c2 := hr2.cells
      have m2 := B1.marks
      have q2 := B1.cells
      have lB := B1.lt
      simp only [List.set_cons_zero, List.set_cons_succ] at c2
      go_wp2
      rw [HV.out]
      refine bodyPost_ret (v := .tuple #[.agg #[.slice fa fl fc, .slice la ll lc, .int .i64 (F).fuse, .int .i64 (F).fault, .bool (F).off], .int .i64 (10)]) (by simp [results, Try.results61, go_sem, c2]) rfl ⟨fa, fl, fc, la, ll, lc, rfl, ?_, ?_⟩
      · refine ((HR.out).same (Only.size (p := w.heap.size + 1) (by repeat (first | (with_reducible exact Only.refl _ _) | (with_reducible refine Only.set ?_ _ _) | (with_reducible refine Only.alloc ?_ _) | (with_reducible refine Only.drew ?_)))) (fun b h hlt => Only.block (p := w.heap.size + 1) (by repeat (first | (with_reducible exact Only.refl _ _) | (with_reducible refine Only.set ?_ _ _) | (with_reducible refine Only.alloc ?_ _) | (with_reducible refine Only.drew ?_))) b hlt ?_)).mono (T := Or S w) (fun b h => ?_)
        · rcases h with h | h
          · have := HSS.out b h; omega
          · (try simp at h); omega
        · rcases h with h | h
          · exact .inl h
          · exact .inr (by (try simp at h); omega)
      · exact (by repeat (first | (with_reducible exact Below.refl _ _) | (with_reducible exact Below.refl _ _) | (with_reducible refine Below.setCell ?_ (by first | omega | (simp; done) | (simp; omega)) _) | (with_reducible refine Below.alloc ?_ (by first | omega | (simp; done) | (simp; omega)) _) | (with_reducible refine Below.drew ?_) | (with_reducible refine below_drewN ?_ _) | (with_reducible refine Below.trans ?_ (bel.mono (by first | omega | (simp; done) | (simp; omega))))))
    · have HV := Lib.hid (show F.set g = (g F, 0) by unfold FileD.set; rw [if_pos hr, if_neg hoff])
      have HOFF := Lib.hid hoff; clear hoff
      rw [if_neg HOFF.out]
      have bel2 : Below w.heap.size w (w1.alloc (.cells [.slice fa fl fc, .slice la ll lc, .int .i64 F.fuse, .int .i64 F.fault, .bool F.off].toArray 97)) := (by repeat (first | (with_reducible exact Below.refl _ _) | (with_reducible exact Below.refl _ _) | (with_reducible refine Below.setCell ?_ (by first | omega | (simp; done) | (simp; omega)) _) | (with_reducible refine Below.alloc ?_ (by first | omega | (simp; done) | (simp; omega)) _) | (with_reducible refine Below.drew ?_) | (with_reducible refine below_drewN ?_ _) | (with_reducible refine Below.trans ?_ (bel.mono (by first | omega | (simp; done) | (simp; omega))))))
      have HD := Lib.hid (HDO.out _ w1.heap.size fa la fl fc ll lc F bel2 (by omega) hp HF.out hr)
      have B1 := B1.alloc (.cells [.slice fa fl fc, .slice la ll lc, .int .i64 F.fuse, .int .i64 F.fault, .bool F.off].toArray 97)
      go_wp2_with fail
      refine HD.out.mono ?_; rintro e w5 ⟨rfl, ga, gl, gc, ma, ml, mc, hp6, hR6, ho6⟩
      have hB5 : Below w.heap.size w w5 := below_only bel2 ho6 (by simp; omega) (by omega)
      have B1 := B1.only ho6 (by omega)
      have s5 := ho6.size
      simp only [World.size_alloc] at s5
      have HR := Lib.hid hR6
      clear hR6
      obtain ⟨F6, hF6⟩ : ∃ F6, F6 = g F := ⟨_, rfl⟩
      rw [← hF6] at HV HR hp6
      clear hF6
      have cG := hp6.cells
      have lG := hp6.lt
      have nGB : w1.heap.size ≠ w.heap.size + 1 := by omega
      have hr2 := ((((B1.set 0 (.slice ga gl gc)).set 1 (.slice ma ml mc)).set 2 (.int .i64 (F6).fuse)).set 3 (.int .i64 (F6).fault)).set 4 (.bool (F6).off)
      have c2 := hr2.cells
      have m2 := B1.marks
      have q2 := B1.cells
      have lB := B1.lt
      simp only [List.set_cons_zero, List.set_cons_succ] at c2
      go_wp2
      rw [HV.out]
      refine bodyPost_ret (v := .tuple #[.agg #[.slice ga gl gc, .slice ma ml mc, .int .i64 (F6).fuse, .int .i64 (F6).fault, .bool (F6).off], .int .i64 (0)]) (by simp [results, Try.results61, go_sem, c2]) rfl ⟨ga, gl, gc, ma, ml, mc, rfl, ?_, ?_⟩
      · refine ((HR.out).same (Only.size (p := w.heap.size + 1) (by repeat (first | (with_reducible exact Only.refl _ _) | (with_reducible refine Only.set ?_ _ _) | (with_reducible refine Only.alloc ?_ _) | (with_reducible refine Only.drew ?_)))) (fun b h hlt => Only.block (p := w.heap.size + 1) (by repeat (first | (with_reducible exact Only.refl _ _) | (with_reducible refine Only.set ?_ _ _) | (with_reducible refine Only.alloc ?_ _) | (with_reducible refine Only.drew ?_))) b hlt ?_)).mono (T := Or S w) (fun b h => ?_)
        · rcases h with h | h
          · have := HSS.out b h; omega
          · (try simp at h); omega
        · rcases h with h | h
          · exact .inl h
          · exact .inr (by (try simp at h); omega)
      · exact (by repeat (first | (with_reducible exact Below.refl _ _) | (with_reducible exact Below.refl _ _) | (with_reducible refine Below.setCell ?_ (by first | omega | (simp; done) | (simp; omega)) _) | (with_reducible refine Below.alloc ?_ (by first | omega | (simp; done) | (simp; omega)) _) | (with_reducible refine Below.drew ?_) | (with_reducible refine below_drewN ?_ _) | (with_reducible refine Below.trans ?_ (hB5.mono (by first | omega | (simp; done) | (simp; omega))))))
theorem Try_enter62 (args : Array Value) (W : World) : (callFunc 62 args).run Try.prog W = .ok (Next.enter 62 args) W := by kernel_rfl
theorem Try_enter63 (args : Array Value) (W : World) : (callFunc 63 args).run Try.prog W = .ok (Next.enter 63 args) W := by kernel_rfl

theorem max_i64 {n : Int} (h : I64' n) : I64' (max n (-1)) := by unfold I64' at *; omega

theorem file_through {w W W' : World} {S : Nat → Prop} {fa la : Option Addr} {fl fc ll lc p : Nat} {F : FileD} (h : FileS w S fa fl fc la ll lc F) (hS : ∀ b, S b → b < w.heap.size) (hb : Below w.heap.size w W) (hp : w.heap.size ≤ p) (ho : Only p W W') : FileS W' (Or S W) fa fl fc la ll lc F :=
  ((h.ext hb).same ho.size fun b h1 h2 => ho.block b h2 (by have := hS b h1; omega)).mono fun b h => Or.inl h

set_option maxHeartbeats 1000000 in
theorem Try_light1 (n : Int) (q : Nat) (w : World) (S : Nat → Prop) (hS : ∀ b, S b → b < w.heap.size) (hn : I64' n) (hq : Blk w q [.int .i64 n] 3) : TryDoes w S 62 #[.pointer (some ⟨q, 0, none⟩)] (fun G => { G with fuse := max n (-1) }) := by
  intro W p fa la fl fc ll lc F hb hp hpb hF hr
  have hq2 := hq.ext hb
  have cq := hq2.cells
  have cp := hpb.cells
  have mp := hpb.marks
  have lp := hpb.lt
  have HF := Lib.hid hF
  have HB := Lib.hid hb
  have HPB := Lib.hid hpb
  have HSS := Lib.hid hS
  have HN := Lib.hid hn
  clear hb hF hpb hS
  show Calls Try.prog 62 #[.pointer (some ⟨p, 0, none⟩), .pointer (some ⟨q, 0, none⟩)] W _
  by_cases hneg : -1 ≤ n
  · have e : max n (-1) = n := by omega
    simp only [e]
    clear e
    go_enter Try.func62, Try.ntmps62
    go_wp2
    go_end0
    have hx := (file_through HF.out HSS.out HB.out hp ((by repeat (first | (with_reducible exact Only.refl _ _) | (with_reducible refine Only.set ?_ _ _) | (with_reducible refine Only.alloc ?_ _) | (with_reducible refine Only.drew ?_))) : Only p W (W.setCell ⟨p, 2, none⟩ (.int .i64 n))))
    exact ⟨rfl, fa, fl, fc, la, ll, lc, HPB.out.set 2 (.int .i64 n), ⟨hx.firm, hx.loose, HN.out, hx.fault⟩, (by repeat (first | (with_reducible exact Only.refl _ _) | (with_reducible refine Only.set ?_ _ _) | (with_reducible refine Only.alloc ?_ _) | (with_reducible refine Only.drew ?_)))⟩
  · have e : max n (-1) = -1 := by omega
    have hneg2 : n ≤ -1 := by omega
    have hneg3 : n < -1 := by omega
    have HN := Lib.hid (show I64' (-1) by unfold I64'; omega)
    simp only [e]
    clear e hneg
    go_enter Try.func62, Try.ntmps62
    go_wp2
    go_end0
    have hx := (file_through HF.out HSS.out HB.out hp ((by repeat (first | (with_reducible exact Only.refl _ _) | (with_reducible refine Only.set ?_ _ _) | (with_reducible refine Only.alloc ?_ _) | (with_reducible refine Only.drew ?_))) : Only p W (W.setCell ⟨p, 2, none⟩ (.int .i64 (-1)))))
    exact ⟨rfl, fa, fl, fc, la, ll, lc, HPB.out.set 2 (.int .i64 (-1)), ⟨hx.firm, hx.loose, HN.out, hx.fault⟩, (by repeat (first | (with_reducible exact Only.refl _ _) | (with_reducible refine Only.set ?_ _ _) | (with_reducible refine Only.alloc ?_ _) | (with_reducible refine Only.drew ?_)))⟩

set_option maxHeartbeats 1000000 in
theorem Try_refuse1 (n : Int) (q : Nat) (w : World) (S : Nat → Prop) (hS : ∀ b, S b → b < w.heap.size) (hn : I64' n) (hq : Blk w q [.int .i64 n] 3) : TryDoes w S 63 #[.pointer (some ⟨q, 0, none⟩)] (fun G => { G with fault := max n (-1) }) := by
  intro W p fa la fl fc ll lc F hb hp hpb hF hr
  have hq2 := hq.ext hb
  have cq := hq2.cells
  have cp := hpb.cells
  have mp := hpb.marks
  have lp := hpb.lt
  have HF := Lib.hid hF
  have HB := Lib.hid hb
  have HPB := Lib.hid hpb
  have HSS := Lib.hid hS
  have HN := Lib.hid hn
  clear hb hF hpb hS
  show Calls Try.prog 63 #[.pointer (some ⟨p, 0, none⟩), .pointer (some ⟨q, 0, none⟩)] W _
  by_cases hneg : -1 ≤ n
  · have e : max n (-1) = n := by omega
    simp only [e]
    clear e
    go_enter Try.func63, Try.ntmps63
    go_wp2
    go_end0
    have hx := (file_through HF.out HSS.out HB.out hp ((by repeat (first | (with_reducible exact Only.refl _ _) | (with_reducible refine Only.set ?_ _ _) | (with_reducible refine Only.alloc ?_ _) | (with_reducible refine Only.drew ?_))) : Only p W (W.setCell ⟨p, 3, none⟩ (.int .i64 n))))
    exact ⟨rfl, fa, fl, fc, la, ll, lc, HPB.out.set 3 (.int .i64 n), ⟨hx.firm, hx.loose, hx.fuse, HN.out⟩, (by repeat (first | (with_reducible exact Only.refl _ _) | (with_reducible refine Only.set ?_ _ _) | (with_reducible refine Only.alloc ?_ _) | (with_reducible refine Only.drew ?_)))⟩
  · have e : max n (-1) = -1 := by omega
    have hneg2 : n ≤ -1 := by omega
    have hneg3 : n < -1 := by omega
    have HN := Lib.hid (show I64' (-1) by unfold I64'; omega)
    simp only [e]
    clear e hneg
    go_enter Try.func63, Try.ntmps63
    go_wp2
    go_end0
    have hx := (file_through HF.out HSS.out HB.out hp ((by repeat (first | (with_reducible exact Only.refl _ _) | (with_reducible refine Only.set ?_ _ _) | (with_reducible refine Only.alloc ?_ _) | (with_reducible refine Only.drew ?_))) : Only p W (W.setCell ⟨p, 3, none⟩ (.int .i64 (-1)))))
    exact ⟨rfl, fa, fl, fc, la, ll, lc, HPB.out.set 3 (.int .i64 (-1)), ⟨hx.firm, hx.loose, hx.fuse, HN.out⟩, (by repeat (first | (with_reducible exact Only.refl _ _) | (with_reducible refine Only.set ?_ _ _) | (with_reducible refine Only.alloc ?_ _) | (with_reducible refine Only.drew ?_)))⟩

set_option maxRecDepth 8000 in
set_option maxHeartbeats 4000000 in
theorem Try_Light (F : FileD) (fa la : Option Addr) (fl fc ll lc : Nat) (n : Int) (w : World) (S : Nat → Prop) (hF : FileS w S fa fl fc la ll lc F) (hS : ∀ b, S b → b < w.heap.size) (hn : I64' n) :
    Calls Try.prog 32 #[.agg #[.slice fa fl fc, .slice la ll lc, .int .i64 F.fuse, .int .i64 F.fault, .bool F.off], .int .i64 n] w (GivesFile w S (F.light n).1 (F.light n).2) := by
  have hW : Below w.heap.size w (((w.alloc (.cells [.slice fa fl fc, .slice la ll lc, .int .i64 F.fuse, .int .i64 F.fault, .bool F.off].toArray 25)).alloc (.cells #[.int .i64 n] 3)).alloc (.cells #[.slice none 0 0, .slice none 0 0, .int .i64 0, .int .i64 0, .bool false] 25)) := (by repeat (first | (with_reducible exact Below.refl _ _) | (with_reducible exact Below.refl _ _) | (with_reducible refine Below.setCell ?_ (by first | omega | (simp; done) | (simp; omega)) _) | (with_reducible refine Below.alloc ?_ (by first | omega | (simp; done) | (simp; omega)) _) | (with_reducible refine Below.drew ?_) | (with_reducible refine below_drewN ?_ _)))
  have hq := (Blk.new' (w.alloc (.cells [.slice fa fl fc, .slice la ll lc, .int .i64 F.fuse, .int .i64 F.fault, .bool F.off].toArray 25)) [.int .i64 n] 3 (p := w.heap.size + 1) (by simp)).alloc (o := (.cells #[.slice none 0 0, .slice none 0 0, .int .i64 0, .int .i64 0, .bool false] 25))
  have B0 := Blk.new' ((w.alloc (.cells [.slice fa fl fc, .slice la ll lc, .int .i64 F.fuse, .int .i64 F.fault, .bool F.off].toArray 25)).alloc (.cells #[.int .i64 n] 3)) [.slice none 0 0, .slice none 0 0, .int .i64 0, .int .i64 0, .bool false] 25 (p := w.heap.size + 1 + 1) (by simp)
  have hD := Try_light1 n (w.heap.size + 1) _ S (fun b h => by have := hS b h; simp; omega) hn hq
  have HC := Lib.hid (Try_set F fa la fl fc ll lc _ _ _ _ S (hF.ext hW) (fun b h => by have := hS b h; simp; omega) hD Try_enter62)
  have HW := Lib.hid hW
  have HB0 := Lib.hid B0
  have HSS := Lib.hid hS
  clear hF hS hW hq hD B0
  go_enter Try.func32, Try.ntmps32
  go_wp2_with fail
  obtain ⟨F7, e7, hV⟩ : ∃ F7 e7, F.light n = (F7, e7) := ⟨_, _, rfl⟩
  have HC2 := HC.out
  rw [show F.set _ = (F7, e7) from hV] at HC2
  have HV := Lib.hid hV
  clear hV HC
  refine HC2.mono ?_; rintro e w1 ⟨ga, gl, gc, ma, ml, mc, rfl, hR, hb1⟩
  clear HC2
  have B1 := HB0.out.ext hb1
  have s1 := hb1.size
  simp only [World.size_alloc] at s1
  have bel : Below w.heap.size w w1 := (by repeat (first | (with_reducible exact Below.refl _ _) | (with_reducible exact Below.refl _ _) | (with_reducible refine Below.setCell ?_ (by first | omega | (simp; done) | (simp; omega)) _) | (with_reducible refine Below.alloc ?_ (by first | omega | (simp; done) | (simp; omega)) _) | (with_reducible refine Below.drew ?_) | (with_reducible refine below_drewN ?_ _) | (with_reducible refine Below.trans ?_ (hb1.mono (by first | omega | (simp; done) | (simp; omega))))))
  have HR := Lib.hid hR; clear hR
  have hr2 := ((((B1.set 0 (.slice ga gl gc)).set 1 (.slice ma ml mc)).set 2 (.int .i64 (F7).fuse)).set 3 (.int .i64 (F7).fault)).set 4 (.bool (F7).off)
  have c2 := hr2.cells
  have m2 := B1.marks
  have q2 := B1.cells
  have lB := B1.lt
  simp only [List.set_cons_zero, List.set_cons_succ] at c2
  go_wp2
  rw [HV.out]
  refine bodyPost_ret (v := .tuple #[.agg #[.slice ga gl gc, .slice ma ml mc, .int .i64 (F7).fuse, .int .i64 (F7).fault, .bool (F7).off], .int .i64 (e7)]) (by simp [results, Try.results32, go_sem, c2]) rfl ⟨ga, gl, gc, ma, ml, mc, rfl, ?_, ?_⟩
  · refine ((HR.out).same (Only.size (p := w.heap.size + 1 + 1) (by repeat (first | (with_reducible exact Only.refl _ _) | (with_reducible refine Only.set ?_ _ _) | (with_reducible refine Only.alloc ?_ _) | (with_reducible refine Only.drew ?_)))) (fun b h hlt => Only.block (p := w.heap.size + 1 + 1) (by repeat (first | (with_reducible exact Only.refl _ _) | (with_reducible refine Only.set ?_ _ _) | (with_reducible refine Only.alloc ?_ _) | (with_reducible refine Only.drew ?_))) b hlt ?_)).mono (T := Or S w) (fun b h => ?_)
    · rcases h with h | h
      · have := HSS.out b h; omega
      · (try simp at h); omega
    · rcases h with h | h
      · exact .inl h
      · exact .inr (by (try simp at h); omega)
  · exact (by repeat (first | (with_reducible exact Below.refl _ _) | (with_reducible exact Below.refl _ _) | (with_reducible refine Below.setCell ?_ (by first | omega | (simp; done) | (simp; omega)) _) | (with_reducible refine Below.alloc ?_ (by first | omega | (simp; done) | (simp; omega)) _) | (with_reducible refine Below.drew ?_) | (with_reducible refine below_drewN ?_ _) | (with_reducible refine Below.trans ?_ (bel.mono (by first | omega | (simp; done) | (simp; omega))))))

set_option maxRecDepth 8000 in
set_option maxHeartbeats 4000000 in
theorem Try_Refuse (F : FileD) (fa la : Option Addr) (fl fc ll lc : Nat) (n : Int) (w : World) (S : Nat → Prop) (hF : FileS w S fa fl fc la ll lc F) (hS : ∀ b, S b → b < w.heap.size) (hn : I64' n) :
    Calls Try.prog 34 #[.agg #[.slice fa fl fc, .slice la ll lc, .int .i64 F.fuse, .int .i64 F.fault, .bool F.off], .int .i64 n] w (GivesFile w S (F.refuse n).1 (F.refuse n).2) := by
  have hW : Below w.heap.size w (((w.alloc (.cells [.slice fa fl fc, .slice la ll lc, .int .i64 F.fuse, .int .i64 F.fault, .bool F.off].toArray 25)).alloc (.cells #[.int .i64 n] 3)).alloc (.cells #[.slice none 0 0, .slice none 0 0, .int .i64 0, .int .i64 0, .bool false] 25)) := (by repeat (first | (with_reducible exact Below.refl _ _) | (with_reducible exact Below.refl _ _) | (with_reducible refine Below.setCell ?_ (by first | omega | (simp; done) | (simp; omega)) _) | (with_reducible refine Below.alloc ?_ (by first | omega | (simp; done) | (simp; omega)) _) | (with_reducible refine Below.drew ?_) | (with_reducible refine below_drewN ?_ _)))
  have hq := (Blk.new' (w.alloc (.cells [.slice fa fl fc, .slice la ll lc, .int .i64 F.fuse, .int .i64 F.fault, .bool F.off].toArray 25)) [.int .i64 n] 3 (p := w.heap.size + 1) (by simp)).alloc (o := (.cells #[.slice none 0 0, .slice none 0 0, .int .i64 0, .int .i64 0, .bool false] 25))
  have B0 := Blk.new' ((w.alloc (.cells [.slice fa fl fc, .slice la ll lc, .int .i64 F.fuse, .int .i64 F.fault, .bool F.off].toArray 25)).alloc (.cells #[.int .i64 n] 3)) [.slice none 0 0, .slice none 0 0, .int .i64 0, .int .i64 0, .bool false] 25 (p := w.heap.size + 1 + 1) (by simp)
  have hD := Try_refuse1 n (w.heap.size + 1) _ S (fun b h => by have := hS b h; simp; omega) hn hq
  have HC := Lib.hid (Try_set F fa la fl fc ll lc _ _ _ _ S (hF.ext hW) (fun b h => by have := hS b h; simp; omega) hD Try_enter63)
  have HW := Lib.hid hW
  have HB0 := Lib.hid B0
  have HSS := Lib.hid hS
  clear hF hS hW hq hD B0
  go_enter Try.func34, Try.ntmps34
  go_wp2_with fail
  obtain ⟨F7, e7, hV⟩ : ∃ F7 e7, F.refuse n = (F7, e7) := ⟨_, _, rfl⟩
  have HC2 := HC.out
  rw [show F.set _ = (F7, e7) from hV] at HC2
  have HV := Lib.hid hV
  clear hV HC
  refine HC2.mono ?_; rintro e w1 ⟨ga, gl, gc, ma, ml, mc, rfl, hR, hb1⟩
  clear HC2
  have B1 := HB0.out.ext hb1
  have s1 := hb1.size
  simp only [World.size_alloc] at s1
  have bel : Below w.heap.size w w1 := (by repeat (first | (with_reducible exact Below.refl _ _) | (with_reducible exact Below.refl _ _) | (with_reducible refine Below.setCell ?_ (by first | omega | (simp; done) | (simp; omega)) _) | (with_reducible refine Below.alloc ?_ (by first | omega | (simp; done) | (simp; omega)) _) | (with_reducible refine Below.drew ?_) | (with_reducible refine below_drewN ?_ _) | (with_reducible refine Below.trans ?_ (hb1.mono (by first | omega | (simp; done) | (simp; omega))))))
  have HR := Lib.hid hR; clear hR
  have hr2 := ((((B1.set 0 (.slice ga gl gc)).set 1 (.slice ma ml mc)).set 2 (.int .i64 (F7).fuse)).set 3 (.int .i64 (F7).fault)).set 4 (.bool (F7).off)
  have c2 := hr2.cells
  have m2 := B1.marks
  have q2 := B1.cells
  have lB := B1.lt
  simp only [List.set_cons_zero, List.set_cons_succ] at c2
  go_wp2
  rw [HV.out]
  refine bodyPost_ret (v := .tuple #[.agg #[.slice ga gl gc, .slice ma ml mc, .int .i64 (F7).fuse, .int .i64 (F7).fault, .bool (F7).off], .int .i64 (e7)]) (by simp [results, Try.results34, go_sem, c2]) rfl ⟨ga, gl, gc, ma, ml, mc, rfl, ?_, ?_⟩
  · refine ((HR.out).same (Only.size (p := w.heap.size + 1 + 1) (by repeat (first | (with_reducible exact Only.refl _ _) | (with_reducible refine Only.set ?_ _ _) | (with_reducible refine Only.alloc ?_ _) | (with_reducible refine Only.drew ?_)))) (fun b h hlt => Only.block (p := w.heap.size + 1 + 1) (by repeat (first | (with_reducible exact Only.refl _ _) | (with_reducible refine Only.set ?_ _ _) | (with_reducible refine Only.alloc ?_ _) | (with_reducible refine Only.drew ?_))) b hlt ?_)).mono (T := Or S w) (fun b h => ?_)
    · rcases h with h | h
      · have := HSS.out b h; omega
      · (try simp at h); omega
    · rcases h with h | h
      · exact .inl h
      · exact .inr (by (try simp at h); omega)
  · exact (by repeat (first | (with_reducible exact Below.refl _ _) | (with_reducible exact Below.refl _ _) | (with_reducible refine Below.setCell ?_ (by first | omega | (simp; done) | (simp; omega)) _) | (with_reducible refine Below.alloc ?_ (by first | omega | (simp; done) | (simp; omega)) _) | (with_reducible refine Below.drew ?_) | (with_reducible refine below_drewN ?_ _) | (with_reducible refine Below.trans ?_ (bel.mono (by first | omega | (simp; done) | (simp; omega))))))
end Go.Proofs.Ytmjmjjakhmeogaa
