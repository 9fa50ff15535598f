/-
  Files, in plain: bytes that stay, pieces that may be lost; what each operation makes of them.
-/
import Derived.Test.YtdebmifjfemcjaaBlk
import Derived.Laws.AppendOwn
import Derived.Test.YtdebmifjfemcjaaRet
namespace Go.Dav
set_option linter.unusedVariables false
set_option linter.unusedSimpArgs false
open Go Go.RowKit

/-- Fits an int64. -/
def I64' (n : Int) : Prop := -9223372036854775808 ≤ n ∧ n ≤ 9223372036854775807

structure FileD where
  firm : List UInt8
  loose : List (List UInt8)
  fuse : Int
  fault : Int
  off : Bool

/-- How many bytes the first k pieces have. -/
def sumTo (L : List (List UInt8)) (k : Nat) : Nat := ((L.take k).map List.length).sum
theorem sumTo_zero (L : List (List UInt8)) : sumTo L 0 = 0 := by simp [sumTo]
theorem sumTo_succ {L : List (List UInt8)} {k : Nat} {p : List UInt8} (h : L[k]? = some p) : sumTo L (k + 1) = sumTo L k + p.length := by
  unfold sumTo
  rw [List.take_add_one, h]
  simp
def FileD.many (F : FileD) : Nat := F.firm.length + (F.loose.map List.length).sum
theorem sumTo_all (L : List (List UInt8)) : sumTo L L.length = (L.map List.length).sum := by simp [sumTo]
theorem sumTo_mono (L : List (List UInt8)) (k : Nat) : sumTo L k ≤ (L.map List.length).sum := by
  have h : (L.map List.length).sum = sumTo L k + ((L.drop k).map List.length).sum := by
    unfold sumTo; rw [← List.sum_append, ← List.map_append, List.take_append_drop]
  omega
def FileD.all (F : FileD) : List UInt8 := F.firm ++ F.loose.flatten
theorem FileD.all_length (F : FileD) : F.all.length = F.many := by simp [FileD.all, FileD.many, List.length_flatten]
/-- No piece is empty. -/
def FileD.full (F : FileD) : Bool := F.loose.all fun p => !p.isEmpty
def FileD.right (F : FileD) : Bool := F.full && decide (-1 ≤ F.fuse) && decide (-1 ≤ F.fault) && (!F.off || decide (F.fuse = -1)) && decide (F.many ≤ 524288)
/-- What 'length' answers. -/
def FileD.len (F : FileD) : Int := if F.full = true ∧ F.many ≤ 524288 then (F.many : Int) else -1
/-- What 'Check' answers. -/
def FileD.err (F : FileD) : Int := if F.right = true then 0 else 200

theorem FileD.right_spec {F : FileD} : F.right = true ↔ F.full = true ∧ -1 ≤ F.fuse ∧ -1 ≤ F.fault ∧ (F.off = true → F.fuse = -1) ∧ F.many ≤ 524288 := by
  unfold FileD.right
  cases F.off <;> simp [and_assoc]

/-- The bytes of a slice: where they lie. -/
structure BytesAt (W : World) (a : Option Addr) (len cap : Nat) (l : List UInt8) : Prop where
  hlen : l.length = len
  hcap : len ≤ cap
  hmax : cap ≤ maxLen
  hfew : len ≤ 140737488355328
  hat : ∀ k x, l[k]? = some x → ∃ b o, a = some ⟨b, o, none⟩ ∧ b < W.heap.size ∧ W.cell? ⟨b, o + k, none⟩ = some (.int .u8 (x.toNat : Int))
  hnil : a = none → cap = 0

structure LooseAt (W : World) (a : Option Addr) (len cap : Nat) (L : List (List UInt8)) : Prop where
  hlen : L.length = len
  hcap : len ≤ cap
  hmax : cap ≤ maxLen
  hfew : len ≤ 140737488355328
  hat : ∀ k p, L[k]? = some p → ∃ b o pa pl pc, a = some ⟨b, o, none⟩ ∧ b < W.heap.size ∧ W.cell? ⟨b, o + k, none⟩ = some (.slice pa pl pc) ∧ BytesAt W pa pl pc p
  hnil : a = none → cap = 0

structure FileAt (W : World) (fa : Option Addr) (fl fc : Nat) (la : Option Addr) (ll lc : Nat) (F : FileD) : Prop where
  firm : BytesAt W fa fl fc F.firm
  loose : LooseAt W la ll lc F.loose
  fuse : I64' F.fuse
  fault : I64' F.fault

theorem BytesAt.ext {W W' : World} {a : Option Addr} {len cap : Nat} {l : List UInt8} (h : BytesAt W a len cap l) (hb : Below W.heap.size W W') : BytesAt W' a len cap l :=
  ⟨h.hlen, h.hcap, h.hmax, h.hfew, fun k x hk => by
    obtain ⟨b, o, h1, h2, h3⟩ := h.hat k x hk
    exact ⟨b, o, h1, Nat.lt_of_lt_of_le h2 hb.size, by rw [hb.cell (p := ⟨b, o + k, none⟩) h2]; exact h3⟩, h.hnil⟩
theorem LooseAt.ext {W W' : World} {a : Option Addr} {len cap : Nat} {L : List (List UInt8)} (h : LooseAt W a len cap L) (hb : Below W.heap.size W W') : LooseAt W' a len cap L :=
  ⟨h.hlen, h.hcap, h.hmax, h.hfew, fun k x hk => by
    obtain ⟨b, o, pa, pl, pc, h1, h2, h3, h4⟩ := h.hat k x hk
    exact ⟨b, o, pa, pl, pc, h1, Nat.lt_of_lt_of_le h2 hb.size, by rw [hb.cell (p := ⟨b, o + k, none⟩) h2]; exact h3, h4.ext hb⟩, h.hnil⟩
theorem FileAt.ext {W W' : World} {fa la : Option Addr} {fl fc ll lc : Nat} {F : FileD} (h : FileAt W fa fl fc la ll lc F) (hb : Below W.heap.size W W') : FileAt W' fa fl fc la ll lc F :=
  ⟨h.firm.ext hb, h.loose.ext hb, h.fuse, h.fault⟩

theorem full_take {L : List (List UInt8)} {k : Nat} {p : List UInt8} (h : L[k]? = some p) : ((L.take (k + 1)).all fun p => !p.isEmpty) = ((L.take k).all (fun p => !p.isEmpty) && !p.isEmpty) := by
  rw [List.take_add_one, h, List.all_append]; simp

theorem FileD.len_neg {F : FileD} : F.len < 0 ↔ ¬ (F.full = true ∧ F.many ≤ 524288) := by
  unfold FileD.len
  split
  · rename_i h; simp [h]
  · rename_i h; simp [h]
theorem FileD.right_len {F : FileD} : F.right = true ↔ -1 ≤ F.fuse ∧ -1 ≤ F.fault ∧ (F.off = true → F.fuse = -1) ∧ 0 ≤ F.len := by
  rw [FileD.right_spec]
  have := F.len_neg
  constructor
  · rintro ⟨h1, h2, h3, h4, h5⟩
    exact ⟨h2, h3, h4, by simp [h1, h5] at this; exact this⟩
  · rintro ⟨h2, h3, h4, h5⟩
    have h6 : F.full = true ∧ F.many ≤ 524288 := by
      apply Classical.byContradiction
      intro h
      have := this.2 h
      omega
    exact ⟨h6.1, h2, h3, h4, h6.2⟩

/-- Two files are one, part by part. -/
def FileD.one (F G : FileD) : Bool := decide (F.fuse = G.fuse) && (decide (F.fault = G.fault) && (decide (F.off = G.off) && (decide (F.firm = G.firm) && decide (F.loose = G.loose))))
theorem FileD.one_spec {F G : FileD} : F.one G = true ↔ F = G := by
  cases F; cases G
  simp [FileD.one]
  constructor
  · rintro ⟨h1, h2, h3, h4, h5⟩; exact ⟨h4, h5, h1, h2, h3⟩
  · rintro ⟨h1, h2, h3, h4, h5⟩; exact ⟨h3, h4, h5, h1, h2⟩
theorem FileD.one_self (F : FileD) : F.one F = true := FileD.one_spec.2 rfl
/-- What is asked ahead of an operation that brings so many bytes, and what it comes to. -/
def FileD.asked (F : FileD) (more : Int) : FileD × Int :=
  if F.off = true then (F, 10)
  else if 524288 - (F.many : Int) < more then (F, 8)
  else if F.fault = 0 then ({ F with fault := -1 }, 9)
  else if F.fuse = 0 then ({ F with fault := if 0 < F.fault then F.fault - 1 else F.fault, fuse := -1, off := true }, 10)
  else ({ F with fault := if 0 < F.fault then F.fault - 1 else F.fault, fuse := if 0 < F.fuse then F.fuse - 1 else F.fuse }, 0)
/-- What an operation comes to. -/
def FileD.op (F : FileD) (more : Int) (g : FileD → FileD) : FileD × Int :=
  if F.right = true then (if (F.asked more).2 = 0 then (g (F.asked more).1, 0) else F.asked more) else (F, 200)
def FileD.append (F : FileD) (b : List UInt8) : FileD × Int :=
  if F.right = true ∧ b = [] then (F, 2) else F.op b.length fun G => { G with loose := G.loose ++ [b] }
def FileD.sync (F : FileD) : FileD × Int := F.op 0 fun G => { G with firm := G.all, loose := [] }
def FileD.set (F : FileD) (g : FileD → FileD) : FileD × Int :=
  if F.right = true then (if F.off = true then (F, 10) else (g F, 0)) else (F, 200)
def FileD.light (F : FileD) (n : Int) : FileD × Int := F.set fun G => { G with fuse := max n (-1) }
def FileD.refuse (F : FileD) (n : Int) : FileD × Int := F.set fun G => { G with fault := max n (-1) }
def FileD.none : FileD := ⟨[], [], -1, -1, false⟩

/-- Where bytes may lie: in the blocks that S names. -/
def BytesIn (S : Nat → Prop) (a : Option Addr) (l : List UInt8) : Prop := ∀ (k : Nat) (x : UInt8), l[k]? = some x → ∃ b o : Nat, a = some ⟨b, o, none⟩ ∧ S b
structure BytesS (W : World) (S : Nat → Prop) (a : Option Addr) (len cap : Nat) (l : List UInt8) : Prop where
  at_ : BytesAt W a len cap l
  in_ : BytesIn S a l
structure LooseS (W : World) (S : Nat → Prop) (a : Option Addr) (len cap : Nat) (L : List (List UInt8)) : Prop where
  hlen : L.length = len
  hcap : len ≤ cap
  hmax : cap ≤ maxLen
  hfew : len ≤ 140737488355328
  hat : ∀ k p, L[k]? = some p → ∃ b o pa pl pc, a = some ⟨b, o, none⟩ ∧ b < W.heap.size ∧ S b ∧ W.cell? ⟨b, o + k, none⟩ = some (.slice pa pl pc) ∧ BytesS W S pa pl pc p
  hnil : a = none → cap = 0
structure FileS (W : World) (S : Nat → Prop) (fa : Option Addr) (fl fc : Nat) (la : Option Addr) (ll lc : Nat) (F : FileD) : Prop where
  firm : BytesS W S fa fl fc F.firm
  loose : LooseS W S la ll lc F.loose
  fuse : I64' F.fuse
  fault : I64' F.fault

theorem LooseS.at_ {W : World} {S : Nat → Prop} {a : Option Addr} {len cap : Nat} {L : List (List UInt8)} (h : LooseS W S a len cap L) : LooseAt W a len cap L :=
  ⟨h.hlen, h.hcap, h.hmax, h.hfew, fun k p hk => by
    obtain ⟨b, o, pa, pl, pc, h1, h2, _, h3, h4⟩ := h.hat k p hk
    exact ⟨b, o, pa, pl, pc, h1, h2, h3, h4.at_⟩, h.hnil⟩
theorem FileS.at_ {W : World} {S : Nat → Prop} {fa la : Option Addr} {fl fc ll lc : Nat} {F : FileD} (h : FileS W S fa fl fc la ll lc F) : FileAt W fa fl fc la ll lc F :=
  ⟨h.firm.at_, h.loose.at_, h.fuse, h.fault⟩
theorem BytesS.same {W W' : World} {S : Nat → Prop} {a : Option Addr} {len cap : Nat} {l : List UInt8} (h : BytesS W S a len cap l) (hs : W.heap.size ≤ W'.heap.size) (hb : ∀ b, S b → b < W.heap.size → W'.heap[b]? = W.heap[b]?) : BytesS W' S a len cap l :=
  ⟨⟨h.at_.hlen, h.at_.hcap, h.at_.hmax, h.at_.hfew, fun k x hk => by
    obtain ⟨b, o, h1, h2, h3⟩ := h.at_.hat k x hk
    obtain ⟨b', o', h1', h4⟩ := h.in_ k x hk
    rw [h1] at h1'; cases h1'
    exact ⟨b, o, h1, by omega, (World.cell?_of_block (hb b h4 h2)).trans h3⟩, h.at_.hnil⟩, h.in_⟩
theorem LooseS.same {W W' : World} {S : Nat → Prop} {a : Option Addr} {len cap : Nat} {L : List (List UInt8)} (h : LooseS W S a len cap L) (hs : W.heap.size ≤ W'.heap.size) (hb : ∀ b, S b → b < W.heap.size → W'.heap[b]? = W.heap[b]?) : LooseS W' S a len cap L :=
  ⟨h.hlen, h.hcap, h.hmax, h.hfew, fun k p hk => by
    obtain ⟨b, o, pa, pl, pc, h1, h2, h3, h4, h5⟩ := h.hat k p hk
    exact ⟨b, o, pa, pl, pc, h1, by omega, h3, (World.cell?_of_block (hb b h3 h2)).trans h4, h5.same hs hb⟩, h.hnil⟩
theorem FileS.same {W W' : World} {S : Nat → Prop} {fa la : Option Addr} {fl fc ll lc : Nat} {F : FileD} (h : FileS W S fa fl fc la ll lc F) (hs : W.heap.size ≤ W'.heap.size) (hb : ∀ b, S b → b < W.heap.size → W'.heap[b]? = W.heap[b]?) : FileS W' S fa fl fc la ll lc F :=
  ⟨h.firm.same hs hb, h.loose.same hs hb, h.fuse, h.fault⟩
theorem BytesS.ext {W W' : World} {S : Nat → Prop} {a : Option Addr} {len cap : Nat} {l : List UInt8} (h : BytesS W S a len cap l) (hb : Below W.heap.size W W') : BytesS W' S a len cap l := h.same hb.size fun b _ h2 => hb.block b h2
theorem LooseS.ext {W W' : World} {S : Nat → Prop} {a : Option Addr} {len cap : Nat} {L : List (List UInt8)} (h : LooseS W S a len cap L) (hb : Below W.heap.size W W') : LooseS W' S a len cap L := h.same hb.size fun b _ h2 => hb.block b h2
theorem FileS.ext {W W' : World} {S : Nat → Prop} {fa la : Option Addr} {fl fc ll lc : Nat} {F : FileD} (h : FileS W S fa fl fc la ll lc F) (hb : Below W.heap.size W W') : FileS W' S fa fl fc la ll lc F := h.same hb.size fun b _ h2 => hb.block b h2
theorem BytesIn.mono {S T : Nat → Prop} {a : Option Addr} {l : List UInt8} (h : BytesIn S a l) (hst : ∀ b, S b → T b) : BytesIn T a l := fun k x hk => by
  obtain ⟨b, o, h1, h2⟩ := h k x hk
  exact ⟨b, o, h1, hst b h2⟩
theorem BytesS.mono {W : World} {S T : Nat → Prop} {a : Option Addr} {len cap : Nat} {l : List UInt8} (h : BytesS W S a len cap l) (hst : ∀ b, S b → T b) : BytesS W T a len cap l := ⟨h.at_, h.in_.mono hst⟩
theorem LooseS.mono {W : World} {S T : Nat → Prop} {a : Option Addr} {len cap : Nat} {L : List (List UInt8)} (h : LooseS W S a len cap L) (hst : ∀ b, S b → T b) : LooseS W T a len cap L :=
  ⟨h.hlen, h.hcap, h.hmax, h.hfew, fun k p hk => by
    obtain ⟨b, o, pa, pl, pc, h1, h2, h3, h4, h5⟩ := h.hat k p hk
    exact ⟨b, o, pa, pl, pc, h1, h2, hst b h3, h4, h5.mono hst⟩, h.hnil⟩
theorem FileS.mono {W : World} {S T : Nat → Prop} {fa la : Option Addr} {fl fc ll lc : Nat} {F : FileD} (h : FileS W S fa fl fc la ll lc F) (hst : ∀ b, S b → T b) : FileS W T fa fl fc la ll lc F :=
  ⟨h.firm.mono hst, h.loose.mono hst, h.fuse, h.fault⟩
theorem BytesAt.s {W : World} {a : Option Addr} {len cap : Nat} {l : List UInt8} (h : BytesAt W a len cap l) : BytesS W (fun b => b < W.heap.size) a len cap l :=
  ⟨h, fun k x hk => by obtain ⟨b, o, h1, h2, _⟩ := h.hat k x hk; exact ⟨b, o, h1, h2⟩⟩
theorem LooseAt.s {W : World} {a : Option Addr} {len cap : Nat} {L : List (List UInt8)} (h : LooseAt W a len cap L) : LooseS W (fun b => b < W.heap.size) a len cap L :=
  ⟨h.hlen, h.hcap, h.hmax, h.hfew, fun k p hk => by
    obtain ⟨b, o, pa, pl, pc, h1, h2, h3, h4⟩ := h.hat k p hk
    exact ⟨b, o, pa, pl, pc, h1, h2, h2, h3, h4.s⟩, h.hnil⟩
theorem FileAt.s {W : World} {fa la : Option Addr} {fl fc ll lc : Nat} {F : FileD} (h : FileAt W fa fl fc la ll lc F) : FileS W (fun b => b < W.heap.size) fa fl fc la ll lc F :=
  ⟨h.firm.s, h.loose.s, h.fuse, h.fault⟩
theorem BytesS.nil_ {W : World} {S : Nat → Prop} : BytesS W S none 0 0 [] := ⟨⟨rfl, Nat.le_refl _, by unfold maxLen; omega, by omega, fun k x hk => by simp at hk, fun _ => rfl⟩, fun k x hk => by simp at hk⟩
theorem LooseS.nil_ {W : World} {S : Nat → Prop} : LooseS W S none 0 0 [] := ⟨rfl, Nat.le_refl _, by unfold maxLen; omega, by omega, fun k x hk => by simp at hk, fun _ => rfl⟩

/-- The blocks of S, and what a call that began in w has made. -/
def Or (S : Nat → Prop) (w : World) (b : Nat) : Prop := S b ∨ w.heap.size ≤ b
/-- A file and an error are handed back. -/
def GivesFile (w : World) (S : Nat → Prop) (F : FileD) (err : Int) (e : Ending) (w' : World) : Prop :=
  ∃ fa fl fc la ll lc, e = .returned (.tuple #[.agg #[.slice fa fl fc, .slice la ll lc, .int .i64 F.fuse, .int .i64 F.fault, .bool F.off], .int .i64 err]) ∧ FileS w' (Or S w) fa fl fc la ll lc F ∧ Below w.heap.size w w'

theorem BytesAt.nil_ {W : World} : BytesAt W none 0 0 [] := ⟨rfl, Nat.le_refl _, by unfold maxLen; omega, by omega, fun k x hk => by simp at hk, fun _ => rfl⟩
theorem LooseAt.nil_ {W : World} : LooseAt W none 0 0 [] := ⟨rfl, Nat.le_refl _, by unfold maxLen; omega, by omega, fun k x hk => by simp at hk, fun _ => rfl⟩
end Go.Dav
