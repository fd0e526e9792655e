/- Small lemmas that all walks over this translation share: cells of new blocks, returned values, worlds that keep what lay below. -/
import Derived.Test.YtokfgdpmbmnijaaGreatDoorProg
import Derived.WalkKit
import Derived.WalkSpells
import Derived.Lib.Hide
import Derived.Deep.QuietTactic
import Derived.BigQuiet
import Derived.Below
namespace Go.Proofs.YtokfgdpmbmnijaaGreatDoor
open Go.RowKit

theorem ret_int {k : IntKind} {a b : Int} (h : a = b) : Ending.returned (.int k a) = .returned (.int k b) := by rw [h]
theorem ret_int2 {k l : IntKind} {a b c d : Int} (h : a = b) (h' : c = d) : Ending.returned (.tuple #[.int k a, .int l c]) = .returned (.tuple #[.int k b, .int l d]) := by rw [h, h']
/-- The i-th cell of a new block. -/
theorem cell_at (w : World) (cs : Array Value) (t : TypeId) (i : Nat) (v : Value) (h : cs[i]? = some v) :
    (w.alloc (.cells cs t)).cell? ⟨w.heap.size, i, none⟩ = some v := by
  simp only [World.alloc, World.cell?, Array.getElem?_push_size, h]
  rfl
theorem cell_old (w : World) (o : Obj) (a : Addr) (h : a.block < w.heap.size) : (w.alloc o).cell? a = w.cell? a :=
  ((Below.refl w.heap.size w).alloc (Nat.le_refl _) o).cell h
theorem below_alloc (w : World) (o : Obj) : Below w.heap.size w (w.alloc o) := (Below.refl _ w).alloc (Nat.le_refl _) o
/-- Two steps, each of which keeps all that there was. -/
theorem below_two {a b c : World} (h : Below a.heap.size a b) (k : Below b.heap.size b c) : Below a.heap.size a c := h.trans (k.mono h.size)
theorem below_drewN {B : Nat} {a w : World} (h : Below B a w) (n : Nat) : Below B a (w.drewN n) := ⟨h.os, h.tape, h.output, h.size, h.block⟩

/-- A world in which all that lay in w lies as it lay. -/
structure Later (w : World) where
  val : World
  is : Below w.heap.size w val
instance (w : World) : Nonempty (Later w) := ⟨⟨w, Below.refl _ _⟩⟩
/-- A region that draws its order, each operation of which yields one and the same value in every later world: one walk in the text's order serves every order. -/
theorem wp_region_later {P : Program} {id : Nat} {Q : Exit → Act → World → Prop} {a : Act} {w : World} {l : List Oper} (hm : P.follows .mixedOrders = true) (hB : Region.lexB .any l.toArray = true)
    (h : wpQuiet P l.toArray (fun w' => ∃ x : Later w, w' = x.val) (fun a' => ∀ x : Later w, Q .normal a' x.val) l a) : (Code.region id l.toArray true).wp P Q a w :=
  wp_region_quiet (C := fun w' => ∃ x : Later w, w' = x.val) hm hB ⟨⟨{ w with drawn := w.drawn + 1 }, ⟨rfl, rfl, rfl, Nat.le_refl _, fun _ _ => rfl⟩⟩, rfl⟩
    (by
      have e : (fun a' => ∀ w', (∃ x : Later w, w' = x.val) → Q .normal a' w') = (fun a' => ∀ x : Later w, Q .normal a' x.val) := by
        funext a'
        exact propext ⟨fun h x => h _ ⟨x, rfl⟩, fun h w' ⟨x, hx⟩ => by rw [hx]; exact h x⟩
      simpa only [List.size_toArray, e] using h)
/-- A callee's contract in such a region. -/
theorem Calls.later {P : Program} {f : FuncId} {args : Array Value} {w : World} {x : Later w} {v : Value}
    (h : Calls P f args x.val fun e w' => e = .returned v ∧ Below x.val.heap.size x.val w') : Calls P f args x.val fun e w'' => e = .returned v ∧ ∃ y : Later w, w'' = y.val :=
  h.mono fun _ w' ⟨he, hw⟩ => ⟨he, ⟨w', x.is.trans (hw.mono x.is.size)⟩, rfl⟩
theorem Calls.later_same {P : Program} {f : FuncId} {args : Array Value} {w : World} {x : Later w} {v : Value}
    (h : Calls P f args x.val fun e w' => e = .returned v ∧ x.val = w') : Calls P f args x.val fun e w'' => e = .returned v ∧ ∃ y : Later w, w'' = y.val :=
  h.mono fun _ _ ⟨he, hw⟩ => ⟨he, x, hw.symm⟩
theorem Later.new {w : World} {cs : Array Value} {t : TypeId} (x : Later (w.alloc (.cells cs t))) (i : Nat) (v : Value) (h : cs[i]? = some v) : x.val.cell? ⟨w.heap.size, i, none⟩ = some v :=
  (x.is.cell (p := ⟨w.heap.size, i, none⟩) (by simp)).trans (cell_at w cs t i v h)
theorem Later.cell {w : World} (x : Later w) {p : Addr} (hp : p.block < w.heap.size) : x.val.cell? p = w.cell? p := x.is.cell hp
theorem cell_alloc_eq (w : World) (cs : Array Value) (t : TypeId) (b i : Nat) (hb : b = w.heap.size) : (w.alloc (.cells cs t)).cell? ⟨b, i, none⟩ = cs[i]? := by
  subst hb
  simp only [World.alloc, World.cell?, Array.getElem?_push_size]
  rfl
theorem cell_alloc_ne (w : World) (o : Obj) (b i : Nat) (hb : b < w.heap.size) : (w.alloc o).cell? ⟨b, i, none⟩ = w.cell? ⟨b, i, none⟩ := cell_old w o _ hb
theorem frozen_alloc_eq (w : World) (cs : Array Value) (t : TypeId) (b i : Nat) (hb : b = w.heap.size) : (w.alloc (.cells cs t)).frozen? ⟨b, i, none⟩ = false := by
  subst hb
  simp only [World.alloc, World.frozen?, Array.getElem?_push_size]
  simp
theorem frozen_alloc_ne (w : World) (o : Obj) (b i : Nat) (hb : b < w.heap.size) : (w.alloc o).frozen? ⟨b, i, none⟩ = w.frozen? ⟨b, i, none⟩ := ((Below.refl w.heap.size w).alloc (Nat.le_refl _) o).frozen hb

/-- A new block's cells and marks in a later world. -/
theorem new_cell {w w1 : World} {cs : Array Value} {t : TypeId} (hb : Below (w.alloc (.cells cs t)).heap.size (w.alloc (.cells cs t)) w1) (i : Nat) (v : Value) (h : cs[i]? = some v) : w1.cell? ⟨w.heap.size, i, none⟩ = some v :=
  (hb.cell (p := ⟨w.heap.size, i, none⟩) (by simp)).trans (cell_at w cs t i v h)
theorem new_free {w w1 : World} {cs : Array Value} {t : TypeId} (hb : Below (w.alloc (.cells cs t)).heap.size (w.alloc (.cells cs t)) w1) (i : Nat) : w1.frozen? ⟨w.heap.size, i, none⟩ = false :=
  (hb.frozen (p := ⟨w.heap.size, i, none⟩) (by simp)).trans (frozen_alloc_eq w cs t _ i rfl)
theorem new_lt {w w1 : World} {o : Obj} (hb : Below (w.alloc o).heap.size (w.alloc o) w1) : w.heap.size < w1.heap.size := by have := hb.size; simp at this; omega
theorem below_set {w W : World} {k : Nat} {u : Value} (h : Below w.heap.size w W) : Below w.heap.size w (W.setCell ⟨w.heap.size, k, none⟩ u) := h.setCell (p := ⟨w.heap.size, k, none⟩) (Nat.le_refl _) u
end Go.Proofs.YtokfgdpmbmnijaaGreatDoor
/- Plain functions on data: what the packages term, ratio, days and text compute. No program in sight. -/
namespace Go.Proofs.YtokfgdpmbmnijaaGreatDoor

/-- A node: op, A, B, and the value's Num and Den. -/
structure Nd where
  op : Int
  a : Int
  b : Int
  num : Int
  den : Int

def i64ok (n : Int) : Prop := -9223372036854775808 ≤ n ∧ n ≤ 9223372036854775807
def Nd.ok (n : Nd) : Prop := i64ok n.op ∧ i64ok n.a ∧ i64ok n.b ∧ i64ok n.num ∧ i64ok n.den
def Nd.zero : Nd := ⟨0, 0, 0, 0, 0⟩
/-- The k-th node of a row. -/
def nd (t : List Nd) (k : Nat) : Nd := (t[k]?).getD Nd.zero

/-- What an op makes: 0 nothing, 1 a number, 2 a contract. -/
def makesN (k : Nat) : Int := if k = 0 then 0 else if k ≤ 8 then 1 else if k ≤ 17 then 2 else 0
/-- How many terms stand below an op. -/
def manyN (k : Nat) : Nat :=
  match k with
  | 3 => 1 | 4 => 2 | 5 => 2 | 6 => 2 | 7 => 2 | 8 => 2 | 11 => 1 | 12 => 2 | 13 => 2 | 14 => 1 | 15 => 4 | 16 => 2 | 17 => 1 | _ => 0
/-- The sort of the i-th term below an op. -/
def belowN (k i : Nat) : Int :=
  match k, i with
  | 3, 0 => 1 | 4, 0 => 1 | 4, 1 => 1 | 5, 0 => 1 | 5, 1 => 1 | 6, 0 => 1 | 6, 1 => 1 | 7, 0 => 1 | 7, 1 => 1 | 8, 0 => 1 | 8, 1 => 1
  | 11, 0 => 2 | 12, 0 => 2 | 12, 1 => 2 | 13, 0 => 1 | 13, 1 => 2 | 14, 0 => 2
  | 15, 0 => 1 | 15, 1 => 1 | 15, 2 => 2 | 15, 3 => 2 | 16, 0 => 2 | 16, 1 => 2 | 17, 0 => 2 | _, _ => 0
/-- The number of an op; 18: it is none. -/
def opN (op : Int) : Nat := if 0 ≤ op ∧ op < 18 then op.toNat else 18
def makes (op : Int) : Int := makesN (opN op)
def many (op : Int) : Nat := manyN (opN op)
def belowS (op : Int) (i : Nat) : Int := belowN (opN op) i
theorem opN_in {op : Int} (h1 : 0 ≤ op) (h2 : op < 18) : opN op = op.toNat := if_pos ⟨h1, h2⟩
theorem opN_out {op : Int} (h : op < 0 ∨ 18 ≤ op) : opN op = 18 := if_neg (by omega)
theorem opN_le (op : Int) : opN op ≤ 18 := by unfold opN; split <;> omega
theorem manyN_le (k : Nat) : manyN k ≤ 4 := by unfold manyN; split <;> omega
theorem many_le (op : Int) : many op ≤ 4 := manyN_le _

/-- The place behind so many terms, by what finds the place behind one. -/
def endK (rec : Nat → Option Nat) : Nat → Nat → Option Nat
  | 0, at_ => some at_
  | k + 1, at_ => (rec at_).bind (endK rec k)
/-- The place behind the term at a place, if one begins there. -/
def endF (t : List Nd) : Nat → Nat → Option Nat
  | 0, _ => none
  | f + 1, at_ => if t.length ≤ at_ ∨ makes (nd t at_).op = 0 then none else endK (endF t f) (many (nd t at_).op) (at_ + 1)
def endAt (t : List Nd) (at_ : Nat) : Option Nat := endF t (t.length + 1) at_
def endI (t : List Nd) (at_ : Nat) : Int := match endAt t at_ with | none => -1 | some e => e

theorem endK_gt {rec : Nat → Option Nat} (h : ∀ a b, rec a = some b → a < b) : ∀ k a b, endK rec k a = some b → a ≤ b
  | 0, a, b, e => by simp [endK] at e; omega
  | k + 1, a, b, e => by
    simp only [endK, Option.bind_eq_some_iff] at e
    obtain ⟨c, e1, e2⟩ := e
    have := h _ _ e1
    have := endK_gt h k _ _ e2
    omega
theorem endF_gt (t : List Nd) : ∀ f a b, endF t f a = some b → a < b
  | 0, a, b, e => by simp [endF] at e
  | f + 1, a, b, e => by
    simp only [endF] at e
    split at e
    · simp at e
    · have := endK_gt (endF_gt t f) _ _ _ e; omega
theorem endK_congr {r s : Nat → Option Nat} {m : Nat} (hg : ∀ a b, r a = some b → a < b) (h : ∀ a, m ≤ a → r a = s a) : ∀ k a, m ≤ a → endK r k a = endK s k a
  | 0, _, _ => rfl
  | k + 1, a, ha => by
    simp only [endK]
    rw [← h a ha]
    cases e : r a with
    | none => rfl
    | some b => exact endK_congr hg h k b (by have := hg a b e; omega)
/-- With fuel enough the answer does not hang on it. -/
theorem endF_fuel (t : List Nd) : ∀ f g a, t.length < f + a → t.length < g + a → endF t f a = endF t g a
  | 0, 0, _, _, _ => rfl
  | 0, g + 1, a, h, _ => by simp only [endF]; rw [if_pos (.inl (by omega))]
  | f + 1, 0, a, _, h => by simp only [endF]; rw [if_pos (.inl (by omega))]
  | f + 1, g + 1, a, hf, hg => by
    simp only [endF]
    split
    · rfl
    · exact endK_congr (endF_gt t f) (m := a + 1) (fun b hb => endF_fuel t f g b (by omega) (by omega)) _ _ (by omega)
theorem endAt_eq (t : List Nd) (a : Nat) : endAt t a = if t.length ≤ a ∨ makes (nd t a).op = 0 then none else endK (endAt t) (many (nd t a).op) (a + 1) := by
  unfold endAt
  rw [endF]
  split
  · rfl
  · exact endK_congr (endF_gt t _) (m := a + 1) (fun b hb => endF_fuel t _ _ b (by omega) (by omega)) _ _ (by omega)
theorem endAt_gt {t : List Nd} {a b : Nat} (h : endAt t a = some b) : a < b := endF_gt t _ _ _ h
theorem endK_le {t : List Nd} {rec : Nat → Option Nat} (h : ∀ a b, rec a = some b → b ≤ t.length) : ∀ k a b, a ≤ t.length → endK rec k a = some b → b ≤ t.length
  | 0, a, b, ha, e => by simp [endK] at e; omega
  | k + 1, a, b, ha, e => by
    simp only [endK, Option.bind_eq_some_iff] at e
    obtain ⟨c, e1, e2⟩ := e
    exact endK_le h k c b (h _ _ e1) e2
theorem endF_le (t : List Nd) : ∀ f a b, endF t f a = some b → b ≤ t.length
  | 0, a, b, e => by simp [endF] at e
  | f + 1, a, b, e => by
    simp only [endF] at e
    split at e
    · simp at e
    · rename_i h; simp only [not_or] at h; exact endK_le (endF_le t f) _ _ _ (by omega) e
theorem endAt_le {t : List Nd} {a b : Nat} (h : endAt t a = some b) : b ≤ t.length := endF_le t _ _ _ h
theorem endK_succ (rec : Nat → Option Nat) : ∀ k a, endK rec (k + 1) a = (endK rec k a).bind rec
  | 0, a => by simp [endK]
  | k + 1, a => by
    rw [endK]
    cases e : rec a with
    | none => simp [endK, e]
    | some b => simp only [Option.bind_some]; rw [endK_succ rec k b]; simp [endK, e]
theorem endI_none {t : List Nd} {a : Nat} (h : endAt t a = none) : endI t a = -1 := by unfold endI; rw [h]
theorem endI_some {t : List Nd} {a b : Nat} (h : endAt t a = some b) : endI t a = b := by unfold endI; rw [h]
theorem endI_cases (t : List Nd) (a : Nat) : (endI t a = -1 ∧ endAt t a = none) ∨ (∃ b : Nat, endI t a = b ∧ endAt t a = some b ∧ a < b ∧ b ≤ t.length) := by
  cases h : endAt t a with
  | none => exact .inl ⟨endI_none h, rfl⟩
  | some b => exact .inr ⟨b, endI_some h, rfl, endAt_gt h, endAt_le h⟩
end Go.Proofs.YtokfgdpmbmnijaaGreatDoor
