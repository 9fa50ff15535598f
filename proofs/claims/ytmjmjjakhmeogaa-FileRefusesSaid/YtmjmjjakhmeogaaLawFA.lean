/-
  Layer 10, the statements: files that lie apart from the call's own boxes; the look whether the layer works at all.
-/
import Derived.Test.YtmjmjjakhmeogaaFilY
namespace Go.Dav
set_option linter.unusedVariables false
set_option linter.unusedSimpArgs false
open Go Go.RowKit

/-- Below the heap's end, and none of the blocks of l. -/
def Free (l : List Nat) (W : World) (b : Nat) : Prop := b < W.heap.size ∧ b ∉ l
theorem BytesS.lt_ {W : World} {S : Nat → Prop} {a : Option Addr} {len cap : Nat} {l : List UInt8} (h : BytesS W S a len cap l) : BytesS W (fun b => S b ∧ b < W.heap.size) a len cap l :=
  ⟨h.at_, fun k x hk => by
    obtain ⟨b, o, h1, h2, _⟩ := h.at_.hat k x hk
    obtain ⟨b', o', h1', h3⟩ := h.in_ k x hk
    rw [h1] at h1'; cases h1'
    exact ⟨b, o, h1, h3, h2⟩⟩
theorem LooseS.lt_ {W : World} {S : Nat → Prop} {a : Option Addr} {len cap : Nat} {L : List (List UInt8)} (h : LooseS W S a len cap L) : LooseS W (fun b => S b ∧ b < W.heap.size) a len cap L :=
  ⟨h.hlen, h.hcap, h.hmax, h.hfew, fun k p hk => by
    obtain ⟨b, o, pa, pl, pc, h1, h2, h3, h4, h5⟩ := h.hat k p hk
    exact ⟨b, o, pa, pl, pc, h1, h2, ⟨h3, h2⟩, h4, h5.lt_⟩, h.hnil⟩
theorem FileS.lt_ {W : World} {S : Nat → Prop} {fa la : Option Addr} {fl fc ll lc : Nat} {F : FileD} (h : FileS W S fa fl fc la ll lc F) : FileS W (fun b => S b ∧ b < W.heap.size) fa fl fc la ll lc F :=
  ⟨h.firm.lt_, h.loose.lt_, h.fuse, h.fault⟩

/-- A file whose bytes lie in none of the blocks of l. -/
def FileIn (W : World) (l : List Nat) (fa : Option Addr) (fl fc : Nat) (la : Option Addr) (ll lc : Nat) (F : FileD) : Prop := FileS W (Free l W) fa fl fc la ll lc F
section
variable {W W' : World} {l : List Nat} {fa la : Option Addr} {fl fc ll lc : Nat} {F : FileD}
theorem FileIn.of_file (h : FileAt W fa fl fc la ll lc F) : FileIn W [] fa fl fc la ll lc F := h.s.mono fun b hb => ⟨hb, by simp⟩
theorem FileIn.ext (h : FileIn W l fa fl fc la ll lc F) (hb : Below W.heap.size W W') : FileIn W' l fa fl fc la ll lc F :=
  (FileS.ext h hb).mono fun b k => ⟨Nat.lt_of_lt_of_le k.1 hb.size, k.2⟩
theorem FileIn.alloc (h : FileIn W l fa fl fc la ll lc F) (o : Obj) : FileIn (W.alloc o) (W.heap.size :: l) fa fl fc la ll lc F := by
  refine (FileS.ext h ((Below.refl _ W).alloc (Nat.le_refl _) o)).mono fun b k => ⟨by have := k.1; simp; omega, fun hm => ?_⟩
  rcases List.mem_cons.1 hm with e | e
  · have := k.1; omega
  · exact k.2 e
theorem FileIn.alloc' (h : FileIn W l fa fl fc la ll lc F) (o : Obj) : FileIn (W.alloc o) l fa fl fc la ll lc F := h.ext ((Below.refl _ W).alloc (Nat.le_refl _) o)
theorem FileIn.only {p : Nat} (h : FileIn W l fa fl fc la ll lc F) (k : Only p W W') (hp : p ∈ l) : FileIn W' l fa fl fc la ll lc F :=
  (FileS.same h k.size fun b hb hlt => k.block b hlt fun e => hb.2 (e ▸ hp)).mono fun b hb => ⟨Nat.lt_of_lt_of_le hb.1 k.size, hb.2⟩
theorem FileIn.less {l' : List Nat} (h : FileIn W l fa fl fc la ll lc F) (hs : ∀ x ∈ l', x ∈ l) : FileIn W l' fa fl fc la ll lc F := FileS.mono h fun b hb => ⟨hb.1, fun hm => hb.2 (hs b hm)⟩
/-- What an operation on it hands back. -/
theorem FileIn.of_or {w0 : World} (h : FileS W (Or (Free l w0) w0) fa fl fc la ll lc F) (hl : ∀ x ∈ l, x < w0.heap.size) : FileIn W l fa fl fc la ll lc F :=
  h.lt_.mono fun b hb => ⟨hb.2, fun hm => by
    rcases hb.1 with k | k
    · exact k.2 hm
    · have := hl b hm; omega⟩
theorem FileIn.none_ (W : World) (l : List Nat) : FileIn W l none 0 0 none 0 0 FileD.none := ⟨BytesS.nil_, LooseS.nil_, by unfold I64' FileD.none; simp, by unfold I64' FileD.none; simp⟩
theorem Free.lt {b : Nat} (h : Free l W b) : b < W.heap.size := h.1
end
theorem Blk.five {W : World} {p : Nat} {x0 x1 x2 x3 x4 : Value} {t : TypeId} (h : Blk W p [x0, x1, x2, x3, x4] t) (y0 y1 y2 y3 y4 : Value) :
    Blk (((((W.setCell ⟨p, 0, none⟩ y0).setCell ⟨p, 1, none⟩ y1).setCell ⟨p, 2, none⟩ y2).setCell ⟨p, 3, none⟩ y3).setCell ⟨p, 4, none⟩ y4) p [y0, y1, y2, y3, y4] t := ((((h.set 0 y0).set 1 y1).set 2 y2).set 3 y3).set 4 y4
theorem Only.five (W : World) (p : Nat) (y0 y1 y2 y3 y4 : Value) : Only p W (((((W.setCell ⟨p, 0, none⟩ y0).setCell ⟨p, 1, none⟩ y1).setCell ⟨p, 2, none⟩ y2).setCell ⟨p, 3, none⟩ y3).setCell ⟨p, 4, none⟩ y4) :=
  (((((Only.refl p W).set 0 y0).set 1 y1).set 2 y2).set 3 y3).set 4 y4
/-- Bytes laid out in a block of their own. -/
theorem bytes_blk {W : World} {p n : Nat} {x : List UInt8} {t : TypeId} (h : Blk W p (u8s x) t) (hn : x.length = n) (hm : n ≤ 140737488355328) : BytesS W (fun b => b = p) (some ⟨p, 0, none⟩) n n x :=
  BytesS.of_cells ⟨by rw [u8s_len, hn], fun k v hk => ⟨p, 0, rfl, h.lt, rfl, by rw [Nat.zero_add]; exact h.cell k hk⟩⟩ (Nat.le_refl _) (by unfold maxLen; omega) hm (fun e => by cases e)
theorem bools_blk {W : World} {p n : Nat} {x : List Bool} {t : TypeId} (h : Blk W p (x.map Value.bool) t) (hn : x.length = n) (hm : n ≤ 140737488355328) : BoolsAt W (some ⟨p, 0, none⟩) n n x :=
  ⟨hn, Nat.le_refl _, hm, fun k b hk => ⟨p, 0, rfl, h.lt, by rw [Nat.zero_add]; exact h.cell k (by simp [hk])⟩⟩
end Go.Dav
namespace Go.Proofs.Ytmjmjjakhmeogaa
set_option linter.unusedVariables false
set_option linter.unusedSimpArgs false
open Go.RowKit Go.Dav
attribute [local go_sem] Gives ite_val ite_val_true

def Tryg1 : FileD := ⟨[], [[1, 2]], -1, -1, false⟩
def Tryg2 : FileD := ⟨[1, 2], [], -1, -1, false⟩
def Tryg3 : FileD := ⟨[1, 2], [[4]], -1, -1, false⟩
def Tryg4 : FileD := ⟨[1, 2], [[4], [5, 6]], -1, -1, false⟩
def Tryg5 : FileD := ⟨[1, 2, 0, 5, 6], [], -1, -1, false⟩
def Tryg6 : FileD := ⟨[], [], -2, 0, false⟩
theorem Trywk : FileD.none.append [1, 2] = (Tryg1, 0) ∧ Tryg1.sync = (Tryg2, 0) ∧ Tryg2.append [4] = (Tryg3, 0) ∧ Tryg3.append [5, 6] = (Tryg4, 0) ∧ Tryg4.read 1 3 = ([2, 4, 5], 0) ∧ Tryg4.crash [false, true] (-1) 0 = (Tryg5, 0) ∧ (if Tryg4.right = true then (Tryg4.many : Int) else 0) = 5 ∧ Tryg6.err = 200 := by
  refine ⟨rfl, rfl, rfl, rfl, rfl, rfl, rfl, rfl⟩
end Go.Proofs.Ytmjmjjakhmeogaa
