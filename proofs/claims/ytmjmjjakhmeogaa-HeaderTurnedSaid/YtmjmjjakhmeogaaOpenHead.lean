/-
  How the statements' arguments are opened: headers, blocks of 64 bytes.
-/
import Derived.Test.YtmjmjjakhmeogaaRows
import Derived.Test.YtmjmjjakhmeogaaOpenFile
import Derived.Test.YtmjmjjakhmeogaaOpenArr
import Derived.Test.YtmjmjjakhmeogaaLawHA
import Derived.Lib.SmallJoins
namespace Go.Proofs.Ytmjmjjakhmeogaa
set_option linter.unusedVariables false
set_option linter.unusedSimpArgs false
open Go.ChangeShapes Go.WideShapes Go.ChangeAt Go.RowKit Go.Joins Go.Dav Go.Deep
section
variable {H : Type} {enc : TypeId × Value → H} {w : World} {base : Nat} {spare : Nat → Bool} {held : Bool}
theorem u64_wf {x : Int} (h : (Lit.int .u64 x).wf = true) : 0 ≤ x ∧ x < 18446744073709551616 := by
  have h1 : IntKind.u64.min ≤ x ∧ x ≤ IntKind.u64.max := by simpa [Lit.wf] using h
  rw [show IntKind.u64.min = 0 from rfl, show IntKind.u64.max = 18446744073709551615 from rfl] at h1
  omega
theorem u8_wf {x : Int} (h : (Lit.int .u8 x).wf = true) : 0 ≤ x ∧ x < 256 := by
  have h1 : IntKind.u8.min ≤ x ∧ x ≤ IntKind.u8.max := by simpa [Lit.wf] using h
  rw [show IntKind.u8.min = 0 from rfl, show IntKind.u8.max = 255 from rfl] at h1
  omega
theorem u32_wf {x : Int} (h : (Lit.int .u32 x).wf = true) : 0 ≤ x ∧ x < 4294967296 := by
  have h1 : IntKind.u32.min ≤ x ∧ x ≤ IntKind.u32.max := by simpa [Lit.wf] using h
  rw [show IntKind.u32.min = 0 from rfl, show IntKind.u32.max = 4294967295 from rfl] at h1
  omega
set_option maxRecDepth 100000 in
theorem Try_head_open {r : Reach} {b0 : Nat} {v : Value} {d : DataW H} {p : List MemPlace} (hv : Value.okWide Try.prog w r b0 56 v) (h : DataW.Trod enc Try.prog w base spare held 56 v d p) :
    ∃ h : HeadD, v = .agg #[.int .u64 (h.gen : Int), .int .i64 h.at_] ∧ h.Fits := by
  obtain ⟨z0, z1, u0, u1, fv, rfl, rfl, rfl, i0, i1⟩ := open_agg2 Try.underlying56 (by kernel_rfl) (by kernel_rfl) hv h
  obtain ⟨x0, f0, _, v0⟩ := DataW.trod_int Try.underlying54 i0
  obtain ⟨x1, f1, _, v1⟩ := DataW.trod_int Try.underlying3 i1
  simp only [List.cons.injEq, and_true] at f0 f1
  subst f0 f1
  obtain ⟨h1, h2⟩ := u64_wf v0
  obtain ⟨g, rfl⟩ := Int.eq_ofNat_of_zero_le h1
  exact ⟨⟨g, x1⟩, rfl, by show g < _; omega, i64_wf v1⟩
set_option maxRecDepth 100000 in
theorem Try_block_open {r : Reach} {b0 : Nat} {v : Value} {d : DataW H} {p : List MemPlace} (hv : Value.okWide Try.prog w r b0 57 v) (h : DataW.Trod enc Try.prog w base spare held 57 v d p) :
    ∃ l : List UInt8, v = .agg (u8s l).toArray ∧ l.length = 64 := by
  obtain ⟨zs, rfl, hzl, hzw⟩ := open_arr_ints Try.underlying57 Try.underlying5 (by kernel_rfl) (by kernel_rfl) hv h
  refine ⟨zs.map fun z => UInt8.ofNat z.toNat, ?_, by simpa using hzl⟩
  congr 1
  congr 1
  unfold u8s
  rw [List.map_map]
  refine List.map_congr_left fun z hz => ?_
  obtain ⟨i, hi⟩ := List.getElem?_of_mem hz
  obtain ⟨h1, h2⟩ := u8_wf (hzw i z hi)
  simp only [Function.comp, UInt8.toNat_ofNat']
  congr 1
  omega
end
end Go.Proofs.Ytmjmjjakhmeogaa
