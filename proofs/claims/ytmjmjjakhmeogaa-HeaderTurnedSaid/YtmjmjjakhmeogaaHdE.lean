/-
  Layer 12: the reference's block of a header, walked: the same bytes.
-/
import Derived.Test.YtmjmjjakhmeogaaHdD
import Derived.Laws.Cover3
namespace Go.Dav
set_option linter.unusedVariables false
set_option linter.unusedSimpArgs false
open Go Go.RowKit
theorem wpList_run {P : Program} {ops : Array Oper} {rest : List Oper} {o : Oper} {a : Act} {w w' : World} {v : Value} {Q : Exit → Act → World → Prop} (hgd : o.guard = none) (hr : (execOp a.eval o).run P w = .ok (.value v) w') (h : wpList P ops Q rest (a.put o.dst v) w') : wpList P ops Q (o :: rest) a w := by
  refine wpList_plain hgd fun K hK => ?_
  unfold Oper.wp
  rw [hr]
  exact hK _ _ h
theorem run_load_cells {P : Program} (w : World) (ad : Addr) (ty : TypeId) (cs : List Value) (d : TypeDesc) (hc : ∀ j v, cs[j]? = some v → w.cell? (ad.add j) = some v)
    (hu : P.underlying ty = some d) (hd : (match d with | .struct _ | .array _ _ => true | _ => false) = true) (hi : (P.info? ty).map (·.size) = some cs.length) :
    (loadVar ty ad).run P w = .ok (.agg cs.toArray) w := by
  have hl : (loadCells ad cs.length).run P w = .ok cs.toArray w := run_loadCells_list (P := P) w ad cs hc
  cases hq : P.info? ty with
  | none => simp [hq] at hi
  | some i =>
    have hs : i.size = cs.length := by simpa [hq] using hi
    have hagg : (isAgg ty).run P w = .ok true w := by
      unfold isAgg
      rw [Sem.run_bind, run_underlying hu w]
      cases d <;> simp_all
    simp [loadVar, Sem.run_bind, hagg, sizeOf, typeInfo, hq, hs, hl]
theorem exec_load_cells {P : Program} {o : Oper} {a : Act} (w : World) (ad : Addr) (ty : TypeId) (x : Operand) (ho : o.op = .load ty x) (hx : a.eval x = .pointer (some ad)) (cs : List Value) (d : TypeDesc) (hc : ∀ j v, cs[j]? = some v → w.cell? (ad.add j) = some v)
    (hu : P.underlying ty = some d) (hd : (match d with | .struct _ | .array _ _ => true | _ => false) = true) (hi : (P.info? ty).map (·.size) = some cs.length) :
    (execOp a.eval o).run P w = .ok (.value (.agg cs.toArray)) w := by
  unfold execOp
  simp only [ho, hx, Instr.loadAt, Instr.sureAddr, Sem.run_bind, Sem.run_pure, Result.andThen_ok, run_load_cells w ad ty cs d hc hu hd hi]
theorem firm_bytes {e : Nat} {S : Nat → Prop} {n : Nat} {v : Value} {l : List UInt8} {W : World} (h : FirmOf e S n v l W) (hm : l.length ≤ 140737488355328) : ∃ a c, v = .slice a l.length c ∧ BytesAt W a l.length c l := by
  rcases h with ⟨a, h1, h2, h3⟩ | h
  · exact ⟨a, _, h1, (BytesS.of_cells h2 (Nat.le_refl _) (by unfold maxLen; omega) hm h3).at_⟩
  · obtain ⟨a, c, h1, h2, h3, h4, h5⟩ := own_cells h
    exact ⟨a, c, h1, (BytesS.of_cells h5 h2 h3 hm h4).at_⟩
theorem cells_of_blk {W : World} {p t : Nat} {l : List UInt8} (h : Blk W p (u8s l) t) : CellsS W (fun b => b = p) (some ⟨p, 0, none⟩) l.length (u8s l) :=
  ⟨u8s_len l, fun k v hk => ⟨p, 0, rfl, h.lt, rfl, by rw [Nat.zero_add]; exact h.cell k hk⟩⟩
end Go.Dav
namespace Go.Proofs.Ytmjmjjakhmeogaa
set_option linter.unusedVariables false
set_option linter.unusedSimpArgs false
open Go.RowKit Go.Dav
attribute [local go_sem] Gives ite_val ite_val_true

theorem Try_row64 {W : World} {B g a : Nat} {v : Value} (h : W.ownsRow B 5 1 v (crcLay (bodyOf g a) ++ [165]).length (u8s (crcLay (bodyOf g a) ++ [165]))) : ∃ ad c, v = .slice (some ad) 64 c ∧ ∀ j u, (u8s (blockOf g a))[j]? = some u → W.cell? (ad.add j) = some u := by
  obtain ⟨a', c, h1, _, _, _, h5⟩ := own_cells h
  have hl : (crcLay (bodyOf g a) ++ [165]).length = 64 := blockOf_len g a
  rw [hl] at h1 h5
  obtain ⟨b, o, e, _⟩ := h5.at_ 0 _ (List.getElem?_eq_getElem (by rw [u8s_len, hl]; omega))
  subst e
  exact ⟨_, c, h1, h5.from_⟩
theorem Try_infoU8b : ∃ i, Try.prog.info? 5 = some i ∧ i.zero = some (.int .u8 0) ∧ i.size = 1 ∧ i.bytes = 1 := info_parts (by kernel_rfl)
set_option maxRecDepth 100000 in
set_option maxHeartbeats 8000000 in
theorem Try_refBlock (g a : Nat) (w : World) (hg : g < 18446744073709551616) (ha : a < 524288) : Calls Try.prog 38 #[.agg #[.int .u64 (g : Int), .int .i64 (a : Int)]] w fun e w' => e = .returned (.agg (u8s (blockOf g a)).toArray) ∧ Below w.heap.size w w' := by
  obtain ⟨W0, hW0⟩ : ∃ W0, (w.alloc (.cells #[.int .u64 (g : Int), .int .i64 (a : Int)] 56)).alloc (.cells #[.int .u8 0, .int .u8 0, .int .u8 0, .int .u8 0, .int .u8 0, .int .u8 0, .int .u8 0, .int .u8 0, .int .u8 0, .int .u8 0, .int .u8 0, .int .u8 0, .int .u8 0, .int .u8 0, .int .u8 0, .int .u8 0, .int .u8 0, .int .u8 0, .int .u8 0, .int .u8 0, .int .u8 0, .int .u8 0, .int .u8 0, .int .u8 0, .int .u8 0, .int .u8 0, .int .u8 0, .int .u8 0, .int .u8 0, .int .u8 0, .int .u8 0, .int .u8 0, .int .u8 0, .int .u8 0, .int .u8 0, .int .u8 0, .int .u8 0, .int .u8 0, .int .u8 0, .int .u8 0, .int .u8 0, .int .u8 0, .int .u8 0, .int .u8 0, .int .u8 0, .int .u8 0, .int .u8 0, .int .u8 0, .int .u8 0, .int .u8 0, .int .u8 0, .int .u8 0, .int .u8 0, .int .u8 0, .int .u8 0, .int .u8 0, .int .u8 0, .int .u8 0, .int .u8 0, .int .u8 0, .int .u8 0, .int .u8 0, .int .u8 0, .int .u8 0] 57) = W0 := ⟨_, rfl⟩
  have hs0 : W0.heap.size = w.heap.size + 1 + 1 := by rw [← hW0]; simp
  have HS0 := Lib.hid hs0
  clear hs0
  have hb2 : Blk W0 (w.heap.size + 1) (u8s (List.replicate 64 0)) 57 := by rw [← hW0]; exact Blk.new' _ _ _ (by simp)
  have bel0 : Below w.heap.size w W0 := by rw [← hW0]; exact (by repeat (first | (with_reducible exact Below.refl _ _) | (with_reducible exact Below.refl _ _) | (with_reducible refine Below.setCell ?_ (by first | omega | (simp; done) | (simp; omega)) _) | (with_reducible refine Below.alloc ?_ (by first | omega | (simp; done) | (simp; omega)) _) | (with_reducible refine Below.drew ?_) | (with_reducible refine below_drewN ?_ _)))
  have hb1 : Blk W0 w.heap.size [.int .u64 (g : Int), .int .i64 (a : Int)] 56 := by rw [← hW0]; exact (Blk.new w _ _).alloc _
  have HW0 := Lib.hid hW0
  have HB2 := Lib.hid hb2
  have HB1 := Lib.hid hb1
  have BEL0 := Lib.hid bel0
  have HG := Lib.hid hg
  have HA := Lib.hid ha
  have HWR := Lib.hid (show IntKind.u64.wrap (a : Int) = (a : Int) by rw [IntKind.wrap_u64]; omega)
  have q1 := hb1.cells
  have l1 := hb1.lt
  have aX := (Below.refl _ W0).alloc (Nat.le_refl _) (.cells #[.int .u8 1] 5)
  have HAX := Lib.hid aX
  have hk1 := Blk.new W0 [.int .u8 1] 5
  have HK1 := Lib.hid hk1
  clear hW0 hb2 bel0 hb1 hg ha aX hk1
  go_enter Try.func38, Try.ntmps38
  go_wp2_with fail
  rw [HW0.out]
  go_wp2_with fail
  refine (Try_high g 8 (W0.alloc (.cells #[.int .u8 1] 5)) (by omega) HG.out).mono ?_
  rintro e w1 ⟨p, rfl, hp, hk, hb⟩
  have HK := Lib.hid hk
  have hf1 := firm_of_blk (B := W0.heap.size) (l := [1]) (HK1.out.ext hb)
  rw [show (some (⟨W0.heap.size, 0, none⟩ : Addr)) = some ⟨w.heap.size + 1 + 1, 0, none⟩ by rw [HS0.out]] at hf1
  have HF1 := Lib.hid hf1
  clear hf1
  have HB21 := Lib.hid ((HB2.out.ext HAX.out).ext hb)
  have HB11 := Lib.hid ((HB1.out.ext HAX.out).ext hb)
  have s1 := hb.size
  simp only [World.size_alloc] at s1
  have BEL1 := Lib.hid (BEL0.out.trans ((HAX.out.trans (hb.mono HAX.out.size)).mono BEL0.out.size))
  have HS1 := Lib.hid (show W0.heap.size ≤ w1.heap.size by omega)
  clear hk hb hp q1 l1 HK1 HB1 HB2 s1
  go_wp2_with (at_builtin; refine wpList_append_firm rfl (.tmp 4) (.tmp 7) 22 rfl Try_elemU8 _ W0.heap.size HS1.out _ [1] rfl HF1.out (fun b => b = p) (some ⟨p, 0, none⟩) 8 8 (highOf g 8) rfl (by have h := cells_of_blk HK.out; rw [highOf_len] at h; exact h) (fun h => by cases h) (by omega) (by simp) ?_; intro v2 w2 hown2 hgr2; have HO2 := Lib.hid hown2; have HB22 := Lib.hid (hgr2.blk HB21.out (by decide)); have b12 := hgr2.blk HB11.out (by decide); have q2 := b12.cells; have l2 := b12.lt; have HB12 := Lib.hid b12; have BEL2 := Lib.hid (BEL1.out.trans ((hgr2.below HS1.out).mono BEL0.out.size)); have HS2 := Lib.hid (Nat.le_trans HS1.out hgr2.size); clear hown2 hgr2 b12 HF1 HB21 HB11)
  go_wp2_with fail
  rw [HWR.out]
  refine (Try_high a 4 w2 (by omega) (by have := HA.out; omega)).mono ?_
  rintro e w3 ⟨p4, rfl, hp, hk, hb⟩
  have HK4 := Lib.hid hk
  have HO3 := Lib.hid (FirmOf.ext (S := fun b => b = p) (n := W0.heap.size) (.inr HO2.out) hb)
  have HB23 := Lib.hid (HB22.out.ext hb)
  have BEL3 := Lib.hid (BEL2.out.trans (hb.mono BEL2.out.size))
  have HS3 := Lib.hid (Nat.le_trans HS2.out hb.size)
  have HH4 := Lib.hid (show ([1] ++ highOf g 8).length + 4 ≤ 140737488355328 by rw [List.length_append, highOf_len]; show 1 + 8 + 4 ≤ 140737488355328; omega)
  have HC4 := Lib.hid (show CellsS w3 (fun b => b = p4) (some ⟨p4, 0, none⟩) 4 (u8s (highOf a 4)) by have h := cells_of_blk HK4.out; rw [highOf_len] at h; exact h)
  clear hk hp hb q2 l2 HO2 HB22 HB12 BEL2 HS2
  go_wp2_with (first | (at_builtin; refine wpList_run rfl (run_append_op rfl rfl rfl HR5.out) ?_; clear HR5) | (at_builtin; refine wpList_append_firm rfl (.tmp 9) (.tmp 13) 22 rfl Try_elemU8 _ W0.heap.size HS3.out _ ([1] ++ highOf g 8) rfl HO3.out (fun b => b = p4) (some ⟨p4, 0, none⟩) 4 4 (highOf a 4) rfl HC4.out (fun h => by cases h) (by omega) HH4.out ?_; intro v4 w4 hown4 hgr4; have e4 : ([1] ++ highOf g 8 ++ highOf a 4) = headOf g a := rfl; rw [e4] at hown4; have HO4 := Lib.hid hown4; have HB24 := Lib.hid (hgr4.blk HB23.out (by decide)); have BEL4 := Lib.hid (BEL3.out.trans ((hgr4.below HS3.out).mono BEL0.out.size)); have HS4 := Lib.hid (Nat.le_trans HS3.out hgr4.size); clear hown4 hgr4 HO3 HB23 BEL3 HS3 e4; obtain ⟨v5, w5, hr5, hf5, hg5⟩ := firm_zeros (P := Try.prog) (W := w4) 22 3 22 5 _ .i64 Try.underlying22 Try.underlying3 Try_infoU8b.choose_spec.1 Try_infoU8b.choose_spec.2.1 Try_infoU8b.choose_spec.2.2.1 Try_infoU8b.choose_spec.2.2.2 (fun _ => False) W0.heap.size HS4.out v4 (headOf g a) (.inr HO4.out) 46 (by rw [headOf_len]; omega); have HF5 := Lib.hid hf5; have HB25 := Lib.hid (hg5.blk HB24.out (by decide)); have BEL5 := Lib.hid (BEL4.out.trans ((hg5.below HS4.out).mono BEL0.out.size)); have HS5 := Lib.hid (Nat.le_trans HS4.out hg5.size); have e5 : headOf g a ++ List.replicate 46 0 = bodyOf g a := rfl; rw [e5] at hf5; have HF5 := Lib.hid hf5; obtain ⟨a5, c5, hv5, hb5⟩ := firm_bytes hf5 (by rw [bodyOf_len]; omega); rw [bodyOf_len] at hv5 hb5; subst hv5; have HBY := Lib.hid hb5; have HR5 := Lib.hid hr5; clear hf5 hg5 e5 hb5 hr5))
  have hA : Calls Try.prog 66 #[.int .u32 0, .slice a5 59 c5] w5 _ := Try_refMore 0 a5 59 c5 (bodyOf g a) (by omega) w5 HBY.out
  rw [show 4294967295 - crcOf (4294967295 - 0) (bodyOf g a) = crcSum (bodyOf g a) from rfl] at hA
  with_reducible refine hA.mono ?_
  rintro e w6 ⟨rfl, hb6⟩
  have HB6 := Lib.hid hb6
  clear hA hb6
  go_wp2_with fail
  refine (Try_refLaid (crcSum (bodyOf g a)) (crcSum_lt _) w6).mono ?_
  rintro e w7 ⟨p7, rfl, hp, hk, hb⟩
  have bb := HB6.out.trans (hb.mono HB6.out.size)
  have HF7 := Lib.hid (HF5.out.ext bb)
  have HC7 := Lib.hid (show CellsS w7 (fun b => b = p7) (some ⟨p7, 0, none⟩) 4 (u8s (crcFour (crcSum (bodyOf g a)))) from cells_of_blk hk)
  have HB27 := Lib.hid (HB25.out.ext bb)
  have BEL7 := Lib.hid (BEL5.out.trans (bb.mono BEL5.out.size))
  have HS7 := Lib.hid (Nat.le_trans HS5.out bb.size)
  have HH7 := Lib.hid (show (bodyOf g a).length + 4 ≤ 140737488355328 by rw [bodyOf_len]; omega)
  have HH8 := Lib.hid (show (crcLay (bodyOf g a)).length + 1 ≤ 140737488355328 by rw [crcLay_len, bodyOf_len]; omega)
  clear hk hb hp bb HB6 HF5 HBY HB25 BEL5 HS5
  go_wp2_with (first | (at_builtin; refine wpList_append_firm rfl (.tmp 17) (.tmp 20) 22 rfl Try_elemU8 _ W0.heap.size HS7.out _ (bodyOf g a) rfl HF7.out (fun b => b = p7) (some ⟨p7, 0, none⟩) 4 4 (crcFour (crcSum (bodyOf g a))) rfl HC7.out (fun h => by cases h) (by omega) HH7.out ?_; intro v8 w8 hown8 hgr8; have e8 : bodyOf g a ++ crcFour (crcSum (bodyOf g a)) = crcLay (bodyOf g a) := rfl; rw [e8] at hown8; have a8 := (Below.refl _ w8).alloc (Nat.le_refl _) (.cells #[.int .u8 165] 5); have HF8 := Lib.hid (FirmOf.ext (S := fun _ => False) (n := W0.heap.size) (.inr hown8) a8); have HC8 := Lib.hid (cells_one (S := fun b => b = w8.heap.size) (g := w8.heap.size) (v := .int .u8 165) rfl (by simp) (Blk.new w8 [.int .u8 165] 5 |>.cell 0 rfl)); have hs8 := hgr8.size; have HS8 := Lib.hid (Nat.le_trans (Nat.le_trans HS7.out hs8) a8.size); have HB28 := Lib.hid ((hgr8.blk HB27.out (by decide)).alloc (.cells #[.int .u8 165] 5)); have BEL8 := Lib.hid ((BEL7.out.trans ((hgr8.below HS7.out).mono BEL0.out.size)).trans (a8.mono (Nat.le_trans (Nat.le_trans BEL0.out.size HS7.out) hs8))); clear hown8 hgr8 e8 a8 hs8 HF7) | (at_builtin; refine wpList_append_firm rfl (.tmp 22) (.tmp 23) 22 rfl Try_elemU8 _ W0.heap.size HS8.out _ (crcLay (bodyOf g a)) rfl HF8.out (fun b => b = w8.heap.size) (some ⟨w8.heap.size, 0, none⟩) 1 1 [165] rfl HC8.out (fun h => by cases h) (by omega) HH8.out ?_; intro v9 w9 hown9 hgr9; have HB29 := Lib.hid (hgr9.blk HB28.out (by decide)); have BEL9 := Lib.hid (BEL8.out.trans ((hgr9.below HS8.out).mono BEL0.out.size)); obtain ⟨a9, c9, hv9, hc9⟩ := Try_row64 hown9; subst hv9; have HC9 := Lib.hid hc9; have hAA := fun W => run_arrayAt (P := Try.prog) (w := W) 57 5 64 (some a9) 64 c9 Try.underlying57 (Nat.le_refl _); clear hown9 hgr9 hc9 HF8) | (refine wpList_run rfl (exec_load_cells _ a9 57 (.tmp 25) rfl rfl (u8s (blockOf g a)) _ HC9.out Try.underlying57 rfl (by rw [Try_size64, u8s_len, blockOf_len])) ?_; clear hAA) | (refine wpList_store_row rfl 57 (.tmp 2) (.tmp 26) rfl (w.heap.size + 1) (u8s (blockOf g a)).toArray rfl rfl 57 (u8s (List.replicate 64 0)).toArray HB29.out (Try_size64_of (blockOf_len g a)) (by simp [u8s_len, blockOf_len]) (u8s_all _) ?_))
  refine bodyPost_ret (results_cell_row rfl _ _ (w.heap.size + 1) 57 (u8s (blockOf g a)).toArray (0, 0) _ rfl (blk_row HB29.out) Try.underlying57 rfl (Try_size64_of (blockOf_len g a))) rfl ⟨rfl, ?_⟩
  exact below_only BEL9.out (only_row _ _ _) BEL9.out.size (by omega)
end Go.Proofs.Ytmjmjjakhmeogaa
