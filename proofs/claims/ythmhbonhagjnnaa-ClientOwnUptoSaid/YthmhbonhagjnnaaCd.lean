/- Procedures: instructions as the document reads them; the program's tables say the same. -/
import Derived.Test.YthmhbonhagjnnaaVa
import Derived.KernelRfl
namespace Go.Proofs.Ythmhbonhagjnnaa
open Go.RowKit
set_option linter.unusedVariables false
set_option linter.unusedSimpArgs false

/-- At, Op, A, B, Imm. -/
abbrev Instr := Int × Int × Int × Int × Int
def InstrE : Enc Instr := ⟨5, fun x => [.int .i64 x.1, .int .i64 x.2.1, .int .i64 x.2.2.1, .int .i64 x.2.2.2.1, .int .i64 x.2.2.2.2], fun _ => rfl, fun x u hu => by simp at hu; rcases hu with rfl | rfl | rfl | rfl | rfl <;> rfl⟩
def formT : List Int := [0, 9, 5, 5, 5, 5, 4, 3, 3, 3, 3, 3, 3, 3, 3, 3, 3, 3, 3, 5, 3, 3, 16, 17, 1, 4, 7, 7]
def okOp (op : Int) : Bool := decide (0 ≤ op ∧ op < 28)
def formS (op : Int) : Int := if okOp op then formT.getD op.toNat 0 else 0
def sizeT : List (Int × Int) := [(1, 1), (2, 1), (4, 1), (8, 2), (16, 2)]
def sizeK (f : Int) (l : List (Int × Int)) : Int := l.foldl (fun n p => if bitI .and .i64 f p.1 = 0 then n else n + p.2) 1
def sizeR (op : Int) : Int :=
  if op = 0 then 1 else if op = 6 ∨ op = 24 ∨ op = 25 then 2 else if op = 2 ∨ op = 3 ∨ op = 4 ∨ op = 5 ∨ op = 19 ∨ op = 22 then 3
  else if op = 1 ∨ op = 23 ∨ op = 26 ∨ op = 27 then 4 else if 7 ≤ op ∧ op ≤ 21 then 3 else 0
def firstR (op : Int) : Bool := decide (op ≠ 0 ∧ op ≠ 6 ∧ op ≠ 22 ∧ op ≠ 25)
def twoR (op : Int) : Bool := decide (7 ≤ op ∧ op ≤ 18 ∨ op = 20 ∨ op = 21 ∨ op = 26 ∨ op = 27)
def wideR (op : Int) : Int := sizeR op - 1 - (if firstR op then 1 else 0) - (if twoR op then 1 else 0)
def jumpR (op : Int) : Bool := decide (op = 22 ∨ op = 23)
structure FormOk (op f : Int) : Prop where
  a : bitI .and .i64 f 1 ≠ 0 ↔ firstR op = true
  b : bitI .and .i64 f 2 ≠ 0 ↔ twoR op = true
  y : bitI .and .i64 f 4 ≠ 0 ↔ wideR op = 1
  h : bitI .and .i64 f 8 ≠ 0 ↔ op = 1
  j : bitI .and .i64 f 16 ≠ 0 ↔ op = 22 ∨ op = 23
  size : sizeK f sizeT = sizeR op
theorem nat28 {op : Int} (h : okOp op = true) : ∃ n : Nat, op = n ∧ n < 28 := by
  simp only [okOp, decide_eq_true_eq] at h
  exact ⟨op.toNat, by omega, by omega⟩
instance {op f : Int} : Decidable (FormOk op f) := decidable_of_iff ((bitI .and .i64 f 1 ≠ 0 ↔ firstR op = true) ∧ (bitI .and .i64 f 2 ≠ 0 ↔ twoR op = true) ∧ (bitI .and .i64 f 4 ≠ 0 ↔ wideR op = 1) ∧ (bitI .and .i64 f 8 ≠ 0 ↔ op = 1) ∧ (bitI .and .i64 f 16 ≠ 0 ↔ op = 22 ∨ op = 23) ∧ sizeK f sizeT = sizeR op)
  ⟨fun ⟨a, b, c, d, e, f⟩ => ⟨a, b, c, d, e, f⟩, fun ⟨a, b, c, d, e, f⟩ => ⟨a, b, c, d, e, f⟩⟩
theorem form_all : ∀ n : _root_.Fin 28, FormOk (n.1 : Int) (formS n.1) := by decide
theorem form_ok {op : Int} (h : okOp op = true) : FormOk op (formS op) := by
  obtain ⟨n, rfl, hn⟩ := nat28 h
  exact form_all ⟨n, hn⟩
theorem form_get {n : Nat} (h : n < 28) : formT[n]? = some (formS n) := by
  have : okOp (n : Int) = true := by simp [okOp]; omega
  simp only [formS, this, if_true, Int.toNat_natCast, List.getD_eq_getElem?_getD]
  rw [List.getElem?_eq_getElem (by simpa [formT] using h)]; rfl
theorem form_cell {n : Nat} (h : n < 28) : (#[Value.int .i64 0, .int .i64 9, .int .i64 5, .int .i64 5, .int .i64 5, .int .i64 5, .int .i64 4, .int .i64 3, .int .i64 3, .int .i64 3, .int .i64 3, .int .i64 3, .int .i64 3, .int .i64 3, .int .i64 3, .int .i64 3, .int .i64 3, .int .i64 3, .int .i64 3, .int .i64 5, .int .i64 3, .int .i64 3, .int .i64 16, .int .i64 17, .int .i64 1, .int .i64 4, .int .i64 7, .int .i64 7])[0 + n * 1]? = some (.int .i64 (formS n)) := by
  have h1 : ∀ n : _root_.Fin 28, (#[Value.int .i64 0, .int .i64 9, .int .i64 5, .int .i64 5, .int .i64 5, .int .i64 5, .int .i64 4, .int .i64 3, .int .i64 3, .int .i64 3, .int .i64 3, .int .i64 3, .int .i64 3, .int .i64 3, .int .i64 3, .int .i64 3, .int .i64 3, .int .i64 3, .int .i64 3, .int .i64 5, .int .i64 3, .int .i64 3, .int .i64 16, .int .i64 17, .int .i64 1, .int .i64 4, .int .i64 7, .int .i64 7]).toList = formT.map (Value.int .i64) := fun _ => rfl
  rw [← Array.getElem?_toList, h1 ⟨n, h⟩, Nat.zero_add, Nat.mul_one, List.getElem?_map, form_get h]; rfl
theorem size_ok (op : Int) : okOp op = decide (sizeR op ≠ 0) := by
  cases h : okOp op with
  | true =>
    obtain ⟨n, rfl, hn⟩ := nat28 h
    have : ∀ n : _root_.Fin 28, sizeR (n.1 : Int) ≠ 0 := by decide
    simp [this ⟨n, hn⟩]
  | false =>
    simp only [okOp, decide_eq_false_iff_not] at h
    have : sizeR op = 0 := by
      unfold sizeR
      rw [if_neg (by omega), if_neg (by omega), if_neg (by omega), if_neg (by omega), if_neg (by omega)]
    simp [this]
theorem sizeR_rng (op : Int) : 0 ≤ sizeR op ∧ sizeR op ≤ 4 := by
  unfold sizeR; repeat (first | omega | split)
theorem size_z {op : Int} (h : okOp op = false) : sizeR op = 0 := by
  have := size_ok op
  rw [h] at this
  simpa using this.symm
theorem size_table : ∀ (k : Nat) (p : Int × Int), sizeT[k]? = some p → (#[Value.int .i64 1, .int .i64 1, .int .i64 2, .int .i64 1, .int .i64 4, .int .i64 1, .int .i64 8, .int .i64 2, .int .i64 16, .int .i64 2].extract (k * 2) (k * 2 + 2)).toList = [.int .i64 p.1, .int .i64 p.2]
  | 0, p, h => by cases h; rfl
  | 1, p, h => by cases h; rfl
  | 2, p, h => by cases h; rfl
  | 3, p, h => by cases h; rfl
  | 4, p, h => by cases h; rfl
  | n + 5, p, h => by simp [sizeT] at h
theorem sizeK_step {f : Int} {k : Nat} {p : Int × Int} (h : sizeT[k]? = some p) : sizeK f (sizeT.take (k + 1)) = if bitI .and .i64 f p.1 = 0 then sizeK f (sizeT.take k) else sizeK f (sizeT.take k) + p.2 := by
  unfold sizeK
  rw [List.take_add_one, h, List.foldl_append]; rfl
theorem sizeK_rng {f : Int} : ∀ k, 1 ≤ sizeK f (sizeT.take k) ∧ sizeK f (sizeT.take k) ≤ 8
  | 0 => by simp [sizeK]
  | 1 => by simp only [sizeK, sizeT, List.take, List.foldl]; repeat (first | omega | split)
  | 2 => by simp only [sizeK, sizeT, List.take, List.foldl]; repeat (first | omega | split)
  | 3 => by simp only [sizeK, sizeT, List.take, List.foldl]; repeat (first | omega | split)
  | 4 => by simp only [sizeK, sizeT, List.take, List.foldl]; repeat (first | omega | split)
  | n + 5 => by simp only [sizeK, sizeT, List.take, List.take_nil, List.foldl]; repeat (first | omega | split)
def badR (x : Instr) : Bool := decide ((firstR x.2.1 = true ∧ (x.2.2.1 < 0 ∨ 8 ≤ x.2.2.1)) ∨ (twoR x.2.1 = true ∧ (x.2.2.2.1 < 0 ∨ 8 ≤ x.2.2.2.1)) ∨ (x.2.1 = 19 ∧ x.2.2.2.2 ≠ 8 ∧ x.2.2.2.2 ≠ 16 ∧ x.2.2.2.2 ≠ 32))
def badX (x : Instr) : Bool := decide ((x.2.2.1 < 0 ∨ 8 ≤ x.2.2.1) ∨ (x.2.2.2.1 < 0 ∨ 8 ≤ x.2.2.2.1) ∨ (x.2.1 = 19 ∧ x.2.2.2.2 ≠ 8 ∧ x.2.2.2.2 ≠ 16 ∧ x.2.2.2.2 ≠ 32))
def placeB (n : Nat) (op : Int) : Nat := n + 1 + (if firstR op then 1 else 0)
def placeI (n : Nat) (op : Int) : Nat := placeB n op + (if twoR op then 1 else 0)
def immR (b : List Int) (n : Nat) (op : Int) : Int :=
  if wideR op < 1 then 0 else if wideR op = 2 then
    (if op = 1 ∧ 32768 ≤ b.getD (placeI n op) 0 + 256 * b.getD (placeI n op + 1) 0 then b.getD (placeI n op) 0 + 256 * b.getD (placeI n op + 1) 0 - 65536 else b.getD (placeI n op) 0 + 256 * b.getD (placeI n op + 1) 0)
  else b.getD (placeI n op) 0
def readR (b : List Int) (n : Nat) (op : Int) : Instr := (n, op, if firstR op then b.getD (n + 1) 0 else 0, if twoR op then b.getD (placeB n op) 0 else 0, immR b n op)
def zeroI : Instr := (0, 0, 0, 0, 0)
def oneR (b : List Int) (at_ : Int) : Instr × Int × Int :=
  if at_ < 0 ∨ (b.length : Int) ≤ at_ then (zeroI, 0, 130)
  else if sizeR (b.getD at_.toNat 0) = 0 ∨ (b.length : Int) - at_ < sizeR (b.getD at_.toNat 0) then (zeroI, 0, 130)
  else if badR (readR b at_.toNat (b.getD at_.toNat 0)) then (zeroI, 0, 132)
  else (readR b at_.toNat (b.getD at_.toNat 0), at_ + sizeR (b.getD at_.toNat 0), 0)
theorem two_first {op : Int} (h : twoR op = true) : firstR op = true := by
  simp only [twoR, firstR, decide_eq_true_eq] at *; omega
theorem wide_all : ∀ n : _root_.Fin 28, (0 ≤ wideR (n.1 : Int) ∧ wideR (n.1 : Int) ≤ 2) ∧ (wideR (n.1 : Int) ≠ 1 → (n.1 : Int) ≠ 1 → ¬ ((n.1 : Int) = 22 ∨ (n.1 : Int) = 23) → wideR (n.1 : Int) = 0) := by decide
theorem wide_rng {op : Int} (h : okOp op = true) : 0 ≤ wideR op ∧ wideR op ≤ 2 := by
  obtain ⟨n, rfl, hn⟩ := nat28 h
  exact (wide_all ⟨n, hn⟩).1
theorem wide_zero {op : Int} (h : okOp op = true) : wideR op ≠ 1 → op ≠ 1 → ¬ (op = 22 ∨ op = 23) → wideR op = 0 := by
  obtain ⟨n, rfl, hn⟩ := nat28 h
  exact (wide_all ⟨n, hn⟩).2
theorem wide_two {op : Int} (h : op = 22 ∨ op = 23) : wideR op = 2 := by
  rcases h with rfl | rfl <;> decide
theorem size_sum (op : Int) : sizeR op = 1 + (if firstR op then 1 else 0) + (if twoR op then 1 else 0) + wideR op := by
  unfold wideR; omega
theorem short_or {a b : Int} (ha : 0 ≤ a ∧ a ≤ 255) (hb : 0 ≤ b ∧ b ≤ 255) : bitI .or .u16 a (shlI .u16 b 8) = a + 256 * b := by
  obtain ⟨x, rfl⟩ : ∃ x : Nat, a = x := ⟨a.toNat, by omega⟩
  obtain ⟨y, rfl⟩ : ∃ y : Nat, b = y := ⟨b.toNat, by omega⟩
  have h1 : shlI .u16 (y : Int) 8 = ((y * 256 : Nat) : Int) := by
    have : (2 : Int) ^ min (8 : Int).toNat IntKind.u16.bits = 256 := by decide
    rw [shlI, this, IntWalk.u16_in _ (by omega)]; omega
  rw [h1]
  have h2 : (x ||| y * 256) = y * 256 + x := by
    have := Nat.shiftLeft_add_eq_or_of_lt (b := x) (i := 8) (by omega) y
    rw [Nat.shiftLeft_eq] at this
    rw [Nat.or_comm]; exact this.symm
  have h3 : ((BitVec.ofInt IntKind.u16.bits (x : Int)) ||| (BitVec.ofInt IntKind.u16.bits ((y * 256 : Nat) : Int))).toNat = y * 256 + x := by
    simp only [BitVec.toNat_or, BitVec.ofInt_natCast, BitVec.toNat_ofNat]
    rw [Nat.mod_eq_of_lt (show x < 2 ^ IntKind.u16.bits by simp only [IntKind.bits]; omega), Nat.mod_eq_of_lt (show y * 256 < 2 ^ IntKind.u16.bits by simp only [IntKind.bits]; omega), h2]
  simp only [bitI, h3]
  rw [IntWalk.u16_in _ (by omega)]; omega
theorem short_i16 {a b : Int} (ha : 0 ≤ a ∧ a ≤ 255) (hb : 0 ≤ b ∧ b ≤ 255) : IntKind.wrap .i64 (IntKind.wrap .i16 (bitI .or .u16 a (shlI .u16 b 8))) = if 32768 ≤ a + 256 * b then a + 256 * b - 65536 else a + 256 * b := by
  rw [short_or ha hb]
  have : IntKind.i16.wrap (a + 256 * b) = if 32768 ≤ a + 256 * b then a + 256 * b - 65536 else a + 256 * b := by
    have e : IntKind.i16.wrap (a + 256 * b) = ((a + 256 * b) + 32768) % 65536 - 32768 := by simp [IntKind.wrap, IntKind.bits, IntKind.signed]; omega
    rw [e]; split <;> omega
  rw [this, IntWalk.i64_in]
  split <;> omega
theorem short_u16 {a b : Int} (ha : 0 ≤ a ∧ a ≤ 255) (hb : 0 ≤ b ∧ b ≤ 255) : IntKind.wrap .i64 (bitI .or .u16 a (shlI .u16 b 8)) = a + 256 * b := by
  rw [short_or ha hb, IntWalk.i64_in _ (by omega)]
theorem one_out {b : List Int} {p : Int} (h : p < 0 ∨ (b.length : Int) ≤ p) : oneR b p = (zeroI, 0, 130) := by
  unfold oneR; rw [if_pos h]
theorem one_at {b : List Int} {n : Nat} {x : Int} (hx : b[n]? = some x) : oneR b n =
    if sizeR x = 0 ∨ (b.length : Int) - n < sizeR x then (zeroI, 0, 130) else if badR (readR b n x) then (zeroI, 0, 132) else (readR b n x, n + sizeR x, 0) := by
  have hn := (List.getElem?_eq_some_iff.1 hx).1
  unfold oneR
  rw [if_neg (by omega), Int.toNat_natCast, List.getD_eq_getElem?_getD, hx]; rfl
theorem first1 : firstR 1 = true := by decide
theorem two1 : twoR 1 = false := by decide
theorem wide1 : wideR 1 = 2 := by decide
theorem getD_of {b : List Int} {n : Nat} {x : Int} (hx : b[n]? = some x) : b.getD n 0 = x := by rw [List.getD_eq_getElem?_getD, hx]; rfl
theorem badX_read {b : List Int} (hB : ∀ x ∈ b, 0 ≤ x ∧ x ≤ 255) (n : Nat) (op : Int) : badX (readR b n op) = badR (readR b n op) := by
  unfold badX badR readR
  dsimp only
  congr 1
  cases firstR op <;> cases twoR op <;> simp
end Go.Proofs.Ythmhbonhagjnnaa
