/- What chattel/cash answers: the contracts of its functions. -/
import Derived.Test.YtokfgdpmbmnijaaGreatDoorWo
import Derived.RangeFuncNested
import Derived.RangeFuncBound
import Derived.RangeFuncCalls
import Derived.RangeFuncLeaves
import Derived.Shelf.Abstract
import Derived.OwnWalkIn
import Derived.TacticsInMore
import Derived.LoopNIn
import Derived.LoopIn
import Derived.Shelf.RegionOpen
namespace Go.Proofs.YtokfgdpmbmnijaaGreatDoor
open Go.RowKit

def curName (k : Nat) : ByteArray :=
  match k with
  | 0 => ⟨#[69, 85, 82]⟩ | 1 => ⟨#[85, 83, 68]⟩ | 2 => ⟨#[71, 66, 80]⟩ | 3 => ⟨#[74, 80, 89]⟩
  | 4 => ⟨#[67, 72, 70]⟩ | 5 => ⟨#[83, 69, 75]⟩ | 6 => ⟨#[75, 87, 68]⟩ | 7 => ⟨#[88, 65, 85]⟩ | _ => ⟨#[]⟩
def curDigits (k : Nat) : Int := match k with | 3 => 0 | 6 => 3 | 7 => 6 | _ => 2
structure CurTab (w : World) : Prop where
  name : ∀ k : Nat, k < 8 → w.cell? ⟨3, k * 2, none⟩ = some (.string (curName k))
  digits : ∀ k : Nat, k < 8 → w.cell? ⟨3, k * 2 + 1, none⟩ = some (.int .i64 (curDigits k))
  size : 3 < w.heap.size

set_option maxHeartbeats 400000 in
theorem cash_is (n : Int) (w : World) :
    Calls Tryz.prog 157 #[.int .i64 n] w fun e w' => e = .returned (.bool (decide (0 ≤ n ∧ n < 8))) ∧ w = w' := by
  go_enter Tryz.func157, Tryz.ntmps157
  go_wp2 <;> (go_ret; simp [*]) <;> omega

set_option maxHeartbeats 400000 in
theorem cash_Name (n : Int) (w : World) (h1 : 0 ≤ n) (h2 : n < 8) (hc : CurTab w) :
    Calls Tryz.prog 126 #[.int .i64 n] w fun e w' => e = .returned (.tuple #[.string (curName n.toNat), .int .i64 0]) ∧ w = w' := by
  have h3 := hc.name n.toNat (by omega)
  have h4 : decide (0 ≤ n ∧ n < 8) = true := by simp; omega
  go_enter Tryz.func126, Tryz.ntmps126
  go_wp2_with (go_at_call 157; refine (cash_is _ _).mono ?_; rintro e w' ⟨rfl, rfl⟩)
  go_ret2
  exact ⟨rfl, rfl⟩

set_option maxHeartbeats 400000 in
theorem cash_Name_no (n : Int) (w : World) (h : n < 0 ∨ 8 ≤ n) :
    Calls Tryz.prog 126 #[.int .i64 n] w fun e w' => e = .returned (.tuple #[.string ⟨#[]⟩, .int .i64 10]) ∧ w = w' := by
  have h4 : decide (0 ≤ n ∧ n < 8) = false := by simp; omega
  go_enter Tryz.func126, Tryz.ntmps126
  go_wp2_with (go_at_call 157; refine (cash_is _ _).mono ?_; rintro e w' ⟨rfl, rfl⟩)
  go_ret2
  exact ⟨rfl, rfl⟩

set_option maxHeartbeats 400000 in
theorem cash_Of1 (nm s : ByteArray) (d : Int) (a : Addr) (w : World) (h : w.cell? a = some (.string s)) (ha : a.block < w.heap.size) :
    Calls Tryz.prog 186 #[.agg #[.string nm, .int .i64 d], .pointer (some a)] w fun e w' => e = .returned (.bool (nm.toList == s.toList)) ∧ Below w.heap.size w w' := by
  go_enter Tryz.func186, Tryz.ntmps186
  go_wp2
  go_ret
  exact ⟨rfl, (Below.refl _ w).alloc (Nat.le_refl _) _⟩

/-- The place of a currency's name; 8: it has none. -/
def curAt (s : ByteArray) : Nat := ((List.range 8).find? fun k => (curName k).toList == s.toList).getD 8

theorem curAt_of (s : ByteArray) (k : Nat) (hk : k < 8) (hn : ∀ j, j < k → ((curName j).toList == s.toList) = false) (h : ((curName k).toList == s.toList) = true) : curAt s = k := by
  unfold curAt
  have : (List.range 8).find? (fun k => (curName k).toList == s.toList) = some k := by
    rw [List.find?_range_eq_some]
    exact ⟨h, by simpa using hk, fun j hj => by simp [hn j hj]⟩
  rw [this]; rfl
theorem curAt_no (s : ByteArray) (hn : ∀ j, j < 8 → ((curName j).toList == s.toList) = false) : curAt s = 8 := by
  unfold curAt
  have : (List.range 8).find? (fun k => (curName k).toList == s.toList) = none := by
    rw [List.find?_range_eq_none]
    exact fun j hj => by simp [hn j hj]
  rw [this]; rfl
theorem curAt_le (s : ByteArray) : curAt s ≤ 8 := by
  unfold curAt
  cases h : (List.range 8).find? (fun k => (curName k).toList == s.toList) with
  | none => simp
  | some k => have := List.mem_of_find?_eq_some h; simp at this; simp; omega
theorem CurTab.below {w w' : World} (h : CurTab w) (hb : Below w.heap.size w w') : CurTab w' :=
  ⟨fun k hk => (hb.cell (p := ⟨3, k * 2, none⟩) h.size).trans (h.name k hk),
   fun k hk => (hb.cell (p := ⟨3, k * 2 + 1, none⟩) h.size).trans (h.digits k hk), Nat.lt_of_lt_of_le h.size hb.size⟩

def curIx (s : ByteArray) : Int := if curAt s = 8 then -1 else curAt s
def curOf (s : ByteArray) : Int := if curAt s = 8 then 0 else curAt s
def curErr (s : ByteArray) : Int := if curAt s = 8 then 16 else 0
theorem curIx_of (s : ByteArray) (k : Nat) (hk : k < 8) (hn : ∀ j, j < k → ((curName j).toList == s.toList) = false) (h : ((curName k).toList == s.toList) = true) : curIx s = k := by
  unfold curIx; rw [curAt_of s k hk hn h, if_neg (by omega)]
theorem curIx_no (s : ByteArray) (hn : ∀ j, j < 8 → ((curName j).toList == s.toList) = false) : curIx s = -1 := by
  unfold curIx; rw [curAt_no s hn, if_pos rfl]
theorem cur_cases (s : ByteArray) : (curIx s < 0 ∧ curOf s = 0 ∧ curErr s = 16) ∨ (0 ≤ curIx s ∧ curIx s < 8 ∧ curOf s = curIx s ∧ curErr s = 0) := by
  have := curAt_le s
  unfold curIx curOf curErr
  by_cases h : curAt s = 8
  · left; simp [h]
  · right; simp [h]; omega

set_option maxHeartbeats 400000 in
theorem cash_IndexFunc (s : ByteArray) (a : Addr) (w : World) (h : w.cell? a = some (.string s)) (ha : a.block < w.heap.size) (hc : CurTab w) :
    Calls Tryz.prog 185 #[.slice (some ⟨3, 0, none⟩) 8 8, .func (.func 186) #[] #[.pointer (some a)]] w
      fun e w' => e = .returned (.int .i64 (curIx s)) ∧ Below w.heap.size w w' := by
  go_enter Tryz.func185, Tryz.ntmps185
  go_wp2
  go_loopw [8] (fun i wr => ∃ k : Nat, k ≤ 8 ∧ i = .int .i64 k ∧ (∀ j, j < k → ((curName j).toList == s.toList) = false) ∧ Below w.heap.size w wr)
    (fun i _ => 8 - (intOf i).toNat)
  case atStart => exact ⟨0, by omega, rfl, by simp, Below.refl _ _⟩
  case round =>
    obtain ⟨k, hk, rfl, hn, hb⟩ := hrel
    by_cases hlt : k < 8
    · have c1 : wr.cell? ⟨3, k * 2, none⟩ = some (.string (curName k)) := (hb.cell (p := ⟨3, k * 2, none⟩) hc.size).trans (hc.name k hlt)
      have c2 : wr.cell? ⟨3, k * 2 + 1, none⟩ = some (.int .i64 (curDigits k)) := (hb.cell (p := ⟨3, k * 2 + 1, none⟩) hc.size).trans (hc.digits k hlt)
      have HA : Hid (wr.cell? a = some (.string s)) := (hb.cell ha).trans h
      have hsz := hb.size
      have HN := Lib.hid hn
      clear hn
      cases hq : ((curName k).toList == s.toList)
      · have HQ := Lib.hid hq
        clear hq
        go_wp2_with (go_at_call 186; refine (cash_Of1 _ s _ _ _ HA.out (by omega)).mono ?_; rintro e w1 ⟨rfl, hb1⟩; rw [HQ.out])
        go_roundw
        case rel =>
          refine ⟨k + 1, by omega, by go_num, ?_, hb.trans (hb1.mono hsz)⟩
          intro j hj
          by_cases hjk : j = k
          · subst hjk; exact HQ.out
          · exact HN.out j (by omega)
        case measure => simp [intOf]; omega
      · have HQ := Lib.hid hq
        clear hq
        go_wp2_with (go_at_call 186; refine (cash_Of1 _ s _ _ _ HA.out (by omega)).mono ?_; rintro e w1 ⟨rfl, hb1⟩; rw [HQ.out])
        go_ret
        refine ⟨?_, hb.trans (hb1.mono hsz)⟩
        exact ret_int (curIx_of s k hlt HN.out HQ.out).symm
    · obtain rfl : k = 8 := by omega
      clear hlt
      have HN := Lib.hid hn
      clear hn
      go_wp2
      go_ret
      refine ⟨?_, hb⟩
      exact ret_int (curIx_no s HN.out).symm

set_option maxHeartbeats 400000 in
theorem cash_Of (s : ByteArray) (w : World) (hc : CurTab w) :
    Calls Tryz.prog 163 #[.string s] w
      fun e w' => e = .returned (.tuple #[.int .i64 (curOf s), .int .i64 (curErr s)]) ∧ Below w.heap.size w w' := by
  have hle := curAt_le s
  have hb0 : Below w.heap.size w (w.alloc (.cells #[.string s] 9)) := (Below.refl _ w).alloc (Nat.le_refl _) _
  have hc1 : CurTab (w.alloc (.cells #[.string s] 9)) := hc.below hb0
  have ha : (w.alloc (.cells #[.string s] 9)).cell? ⟨w.heap.size, 0, none⟩ = some (.string s) := cell_at _ _ _ _ _ rfl
  go_enter Tryz.func163, Tryz.ntmps163
  go_wp2_with (go_at_call 185; refine (cash_IndexFunc s _ _ ha (by simp) hc1).mono ?_; rintro e w1 ⟨rfl, hb1⟩)
  all_goals
    go_ret2
    rcases cur_cases s with ⟨k1, k2, k3⟩ | ⟨k1, k2, k3, k4⟩
    · first | omega | exact ⟨ret_int2 k2.symm k3.symm, below_two hb0 hb1⟩
    · first | omega | exact ⟨ret_int2 k3.symm k4.symm, below_two hb0 hb1⟩
end Go.Proofs.YtokfgdpmbmnijaaGreatDoor
/- What chattel/term's of, Sort and end answer. -/
namespace Go.Proofs.YtokfgdpmbmnijaaGreatDoor
open Go.RowKit

structure ShapeTab (w : World) : Prop where
  makes : ∀ k : Nat, k < 18 → w.cell? ⟨2, k * 6, none⟩ = some (.int .i64 (makesN k))
  many : ∀ k : Nat, k < 18 → w.cell? ⟨2, k * 6 + 1, none⟩ = some (.int .i64 (manyN k))
  below : ∀ k i : Nat, k < 18 → i < 4 → w.cell? ⟨2, k * 6 + 2 + i, none⟩ = some (.int .i64 (belowN k i))
  size : 2 < w.heap.size

def shapeV (k : Nat) : Value := .agg #[.int .i64 (makesN k), .int .i64 (manyN k), .int .i64 (belowN k 0), .int .i64 (belowN k 1), .int .i64 (belowN k 2), .int .i64 (belowN k 3)]

set_option maxHeartbeats 400000 in
theorem term_of_in (op : Int) (w : World) (h1 : 0 ≤ op) (h2 : op < 18) (hs : ShapeTab w) :
    Calls Tryz.prog 100 #[.int .i64 op] w fun e w' => e = .returned (shapeV op.toNat) ∧ Below w.heap.size w w' := by
  have hz := hs.size
  have c0 := hs.makes op.toNat (by omega)
  have c1 := hs.many op.toNat (by omega)
  have c2 : w.cell? ⟨2, op.toNat * 6 + 2, none⟩ = _ := hs.below op.toNat 0 (by omega) (by omega)
  have c3 : w.cell? ⟨2, op.toNat * 6 + 3, none⟩ = _ := hs.below op.toNat 1 (by omega) (by omega)
  have c4 : w.cell? ⟨2, op.toNat * 6 + 4, none⟩ = _ := hs.below op.toNat 2 (by omega) (by omega)
  have c5 : w.cell? ⟨2, op.toNat * 6 + 5, none⟩ = _ := hs.below op.toNat 3 (by omega) (by omega)
  go_enter Tryz.func100, Tryz.ntmps100
  go_wp2
  exact bodyPost_ret (v := shapeV op.toNat) (by simp [results, Tryz.results100, go_sem, shapeV]) rfl ⟨rfl, below_alloc _ _⟩

set_option maxHeartbeats 400000 in
theorem term_of_out (op : Int) (w : World) (h : op < 0 ∨ 18 ≤ op) :
    Calls Tryz.prog 100 #[.int .i64 op] w fun e w' => e = .returned (shapeV 18) ∧ Below w.heap.size w w' := by
  rcases h with h | h
  · go_enter Tryz.func100, Tryz.ntmps100
    go_wp2
    exact bodyPost_ret (v := shapeV 18) (by simp [results, Tryz.results100, go_sem, shapeV, makesN, manyN, belowN]) rfl ⟨rfl, below_alloc _ _⟩
  · have h' : ¬ op < 0 := by omega
    go_enter Tryz.func100, Tryz.ntmps100
    go_wp2
    exact bodyPost_ret (v := shapeV 18) (by simp [results, Tryz.results100, go_sem, shapeV, makesN, manyN, belowN]) rfl ⟨rfl, below_alloc _ _⟩

/-- 'of': an op's shape. -/
theorem term_of (op : Int) (w : World) (hs : ShapeTab w) :
    Calls Tryz.prog 100 #[.int .i64 op] w fun e w' => e = .returned (.agg #[.int .i64 (makes op), .int .i64 (many op), .int .i64 (belowS op 0), .int .i64 (belowS op 1), .int .i64 (belowS op 2), .int .i64 (belowS op 3)]) ∧ Below w.heap.size w w' := by
  unfold makes many belowS
  by_cases h : 0 ≤ op ∧ op < 18
  · rw [opN_in h.1 h.2]; exact term_of_in op w h.1 h.2 hs
  · rw [opN_out (by omega)]; exact term_of_out op w (by omega)

@[go_sem] theorem run_shape_makes (x0 x1 x2 x3 x4 x5 : Value) (w : World) : (Instr.field 149 (.agg #[x0, x1, x2, x3, x4, x5]) 0).run Tryz.prog w = .ok x0 w := by kernel_rfl
@[go_sem] theorem run_shape_many (x0 x1 x2 x3 x4 x5 : Value) (w : World) : (Instr.field 149 (.agg #[x0, x1, x2, x3, x4, x5]) 1).run Tryz.prog w = .ok x1 w := by kernel_rfl
@[go_sem] theorem run_shape_below (x0 x1 x2 x3 x4 x5 : Value) (w : World) : (Instr.field 149 (.agg #[x0, x1, x2, x3, x4, x5]) 2).run Tryz.prog w = .ok (.agg #[x2, x3, x4, x5]) w := by kernel_rfl

set_option maxHeartbeats 400000 in
/-- 'Sort': what an op makes. -/
theorem term_Sort (op : Int) (w : World) (hs : ShapeTab w) :
    Calls Tryz.prog 88 #[.int .i64 op] w fun e w' => e = .returned (.int .i64 (makes op)) ∧ Below w.heap.size w w' := by
  go_enter Tryz.func88, Tryz.ntmps88
  go_wp2_with (go_at_call 100; refine (term_of _ _ hs).mono ?_; rintro e w1 ⟨rfl, hb1⟩)
  go_ret
  exact ⟨rfl, hb1⟩

theorem ShapeTab.below_ {w w' : World} (h : ShapeTab w) (hb : Below w.heap.size w w') : ShapeTab w' :=
  ⟨fun k hk => (hb.cell (p := ⟨2, k * 6, none⟩) h.size).trans (h.makes k hk),
   fun k hk => (hb.cell (p := ⟨2, k * 6 + 1, none⟩) h.size).trans (h.many k hk),
   fun k i hk hi => (hb.cell (p := ⟨2, k * 6 + 2 + i, none⟩) h.size).trans (h.below k i hk hi), Nat.lt_of_lt_of_le h.size hb.size⟩

theorem ShapeTab.kept_ {w w' : World} (h : ShapeTab w) (hb : Below w.heap.size w w') : ShapeTab w' := h.below_ hb

/-- A row of nodes in memory. -/
structure NodesIn (w : World) (b o : Nat) (t : List Nd) : Prop where
  blk : b < w.heap.size
  c0 : ∀ k, k < t.length → w.cell? ⟨b, o + k * 5, none⟩ = some (.int .i64 (nd t k).op)
  c1 : ∀ k, k < t.length → w.cell? ⟨b, o + k * 5 + 1, none⟩ = some (.int .i64 (nd t k).a)
  c2 : ∀ k, k < t.length → w.cell? ⟨b, o + k * 5 + 2, none⟩ = some (.int .i64 (nd t k).b)
  c3 : ∀ k, k < t.length → w.cell? ⟨b, o + k * 5 + 3, none⟩ = some (.int .i64 (nd t k).num)
  c4 : ∀ k, k < t.length → w.cell? ⟨b, o + k * 5 + 4, none⟩ = some (.int .i64 (nd t k).den)
/-- What a slice of nodes reads as. -/
structure Nodes (w : World) (p : Option Addr) (t : List Nd) : Prop where
  len : t.length ≤ 1099511627776
  ok : ∀ k, k < t.length → (nd t k).ok
  at_ : t ≠ [] → ∃ b o, p = some ⟨b, o, none⟩ ∧ NodesIn w b o t
theorem NodesIn.below_ {w w' : World} {b o : Nat} {t : List Nd} (h : NodesIn w b o t) (hb : Below w.heap.size w w') : NodesIn w' b o t :=
  ⟨Nat.lt_of_lt_of_le h.blk hb.size, fun k hk => (hb.cell (p := ⟨b, o + k * 5, none⟩) h.blk).trans (h.c0 k hk),
   fun k hk => (hb.cell (p := ⟨b, o + k * 5 + 1, none⟩) h.blk).trans (h.c1 k hk),
   fun k hk => (hb.cell (p := ⟨b, o + k * 5 + 2, none⟩) h.blk).trans (h.c2 k hk),
   fun k hk => (hb.cell (p := ⟨b, o + k * 5 + 3, none⟩) h.blk).trans (h.c3 k hk),
   fun k hk => (hb.cell (p := ⟨b, o + k * 5 + 4, none⟩) h.blk).trans (h.c4 k hk)⟩
theorem Nodes.below_ {w w' : World} {p : Option Addr} {t : List Nd} (h : Nodes w p t) (hb : Below w.heap.size w w') : Nodes w' p t :=
  ⟨h.len, h.ok, fun ht => let ⟨b, o, e, hn⟩ := h.at_ ht; ⟨b, o, e, hn.below_ hb⟩⟩

set_option maxHeartbeats 400000 in
/-- 'end' at a place behind all. -/
theorem term_end_out (p : Option Addr) (n c a : Nat) (w : World) (hn : n ≤ a) :
    Calls Tryz.prog 55 #[.slice p n c, .int .i64 a] w fun e w' => e = .returned (.int .i64 (-1)) ∧ Below w.heap.size w w' := by
  go_enter Tryz.func55, Tryz.ntmps55
  go_wp2_with fail
  go_ret
  exact ⟨rfl, Below.refl _ _⟩

theorem nodes_mem {w : World} {p : Option Addr} {t : List Nd} (h : Nodes w p t) {k : Nat} (hk : k < t.length) : ∃ b o, p = some ⟨b, o, none⟩ ∧ NodesIn w b o t :=
  h.at_ (by intro e; rw [e] at hk; simp at hk)
/-- What the loop of 'end' comes to when a term below does not end. -/
theorem endI_stop {t : List Nd} {a k nx : Nat} (h1 : a < t.length) (h2 : makes (nd t a).op ≠ 0) (hk : k < many (nd t a).op) (hx : endK (endAt t) k (a + 1) = some nx) (hs : endAt t nx = none) : endI t a = -1 := by
  apply endI_none
  rw [endAt_eq, if_neg (by simp only [not_or]; exact ⟨by omega, h2⟩)]
  have : ∀ j, endK (endAt t) (k + 1 + j) (a + 1) = none := by
    intro j
    induction j with
    | zero => rw [Nat.add_zero, endK_succ, hx]; exact hs
    | succ j ih => rw [← Nat.add_assoc, endK_succ, ih]; rfl
  have := this (many (nd t a).op - (k + 1))
  rwa [show k + 1 + (many (nd t a).op - (k + 1)) = many (nd t a).op from by omega] at this
theorem endI_all {t : List Nd} {a nx : Nat} (h1 : a < t.length) (h2 : makes (nd t a).op ≠ 0) (hx : endK (endAt t) (many (nd t a).op) (a + 1) = some nx) : endI t a = nx := by
  apply endI_some
  rw [endAt_eq, if_neg (by simp only [not_or]; exact ⟨by omega, h2⟩)]
  exact hx

set_option maxHeartbeats 1000000 in
theorem term_end_step (p : Option Addr) (c : Nat) (t : List Nd) (m : Nat)
    (ih : ∀ (a : Nat) (w : World), t.length ≤ a + m → a ≤ t.length → ShapeTab w → Nodes w p t →
      Calls Tryz.prog 55 #[.slice p t.length c, .int .i64 a] w fun e w' => e = .returned (.int .i64 (endI t a)) ∧ Below w.heap.size w w')
    (a : Nat) (w : World) (hm : t.length ≤ a + (m + 1)) (h1 : a < t.length) (hs : ShapeTab w) (hn : Nodes w p t) :
      Calls Tryz.prog 55 #[.slice p t.length c, .int .i64 a] w fun e w' => e = .returned (.int .i64 (endI t a)) ∧ Below w.heap.size w w' := by
  have hlen := hn.len
  obtain ⟨b, o, rfl, hin⟩ := nodes_mem hn h1
  have c0 := hin.c0 a h1
  have hz := hin.blk
  have IH := Lib.hid ih
  clear ih
  generalize hop : (nd t a).op = op at c0
  have HOP := Lib.hid hop
  clear hop
  by_cases hmk : makes op = 0
  · have hmb : (makes op == 0) = true := by simp [hmk]
    have HE : Hid (endI t a = -1) := endI_none (by rw [endAt_eq, if_pos (.inr (by rw [HOP.out]; exact hmk))])
    have HN := Lib.hid hn
    clear hmk hn
    go_enter Tryz.func55, Tryz.ntmps55
    go_wp2_with (go_at_call 88; refine (term_Sort _ _ hs).mono ?_; rintro e w1 ⟨rfl, hb1⟩)
    go_ret
    exact ⟨ret_int HE.out.symm, hb1⟩
  · have hmb : (makes op == 0) = false := by simp [hmk]
    have HM : Hid (makes (nd t a).op ≠ 0) := by show makes _ ≠ 0; rw [HOP.out]; exact hmk
    have hmy := many_le op
    clear hmk
    go_enter Tryz.func55, Tryz.ntmps55
    go_wp2_with fail
    refine (term_Sort _ _ hs).mono ?_
    rintro e w1 ⟨rfl, hb1⟩
    have c1 := (hin.below_ hb1).c0 a h1
    have hz1 := hb1.size
    have HS1 := Lib.hid (hs.below_ hb1)
    rw [HOP.out] at c1
    go_wp2_with fail
    refine (term_of _ _ HS1.out).mono ?_
    rintro e w2 ⟨rfl, hb2⟩
    have hb12 := below_two hb1 hb2
    clear hb1 hb2 hz1 c1 HS1
    have hz2 := hb12.size
    go_wp2_with fail
    go_loopw [5, 28] (fun x i wr => ∃ (nx k : Nat), x = .int .i64 nx ∧ i = .int .i64 k ∧ k ≤ many op ∧ a < nx ∧ nx ≤ t.length ∧ Hid (endK (endAt t) k (a + 1) = some nx) ∧ Below w.heap.size w wr)
      (fun _ i _ => many op - (intOf i).toNat)
    case atStart => exact ⟨a + 1, 0, by go_num, rfl, by omega, by omega, by omega, rfl, hb12⟩
    case round =>
      obtain ⟨nx, k, rfl, rfl, hk, hx1, hx2, hx, hb⟩ := hrel
      have hzr := hb.size
      by_cases hlt : k < many op
      · have HS := Lib.hid (hs.below_ hb)
        have HNr := Lib.hid (hn.below_ hb)
        clear hs hn hin hb12 hz2
        rcases endI_cases t nx with ⟨e1, e2⟩ | ⟨nx', e1, e2, e3, e4⟩
        · have HE := Lib.hid e1
          have HR : Hid (endI t a = -1) := endI_stop h1 HM.out (by rw [HOP.out]; exact hlt) hx.out e2
          clear e1 e2
          go_wp2_with (go_at_call 55; refine (IH.out nx _ (by omega) hx2 HS.out HNr.out).mono ?_; rintro e w3 ⟨rfl, hb3⟩; rw [HE.out])
          go_ret
          exact ⟨ret_int HR.out.symm, below_two hb hb3⟩
        · have HE := Lib.hid e1
          have HX : Hid (endK (endAt t) (k + 1) (a + 1) = some nx') := by show _ = _; rw [endK_succ, hx.out]; exact e2
          clear e1 e2
          go_wp2_with (go_at_call 55; refine (IH.out nx _ (by omega) hx2 HS.out HNr.out).mono ?_; rintro e w3 ⟨rfl, hb3⟩; rw [HE.out])
          go_roundw
          case rel => exact ⟨nx', k + 1, rfl, by go_num, by omega, by omega, e4, HX, below_two hb hb3⟩
          case measure => simp [intOf]; omega
      · have HR : Hid (endI t a = nx) := endI_all h1 HM.out (by rw [HOP.out, show many op = k from by omega]; exact hx.out)
        clear hs hn hin hb12 hz2
        go_wp2
        go_ret
        exact ⟨ret_int HR.out.symm, hb⟩

/-- 'end': the place behind the term at a place. -/
theorem term_end (p : Option Addr) (c : Nat) (t : List Nd) (a : Nat) (w : World) (ha : a ≤ t.length) (hs : ShapeTab w) (hn : Nodes w p t) :
    Calls Tryz.prog 55 #[.slice p t.length c, .int .i64 a] w fun e w' => e = .returned (.int .i64 (endI t a)) ∧ Below w.heap.size w w' := by
  have main : ∀ (m a : Nat) (w : World), t.length ≤ a + m → a ≤ t.length → ShapeTab w → Nodes w p t →
      Calls Tryz.prog 55 #[.slice p t.length c, .int .i64 a] w fun e w' => e = .returned (.int .i64 (endI t a)) ∧ Below w.heap.size w w' := by
    have hout : ∀ (a : Nat) (w : World), t.length ≤ a → Calls Tryz.prog 55 #[.slice p t.length c, .int .i64 a] w fun e w' => e = .returned (.int .i64 (endI t a)) ∧ Below w.heap.size w w' := by
      intro a w h
      have : endI t a = -1 := endI_none (by rw [endAt_eq, if_pos (.inl h)])
      rw [this]
      exact term_end_out p _ c a w h
    intro m
    induction m with
    | zero => intro a w h _ _ _; exact hout a w (by omega)
    | succ m ih =>
      intro a w h hle hs hn
      by_cases hlt : a < t.length
      · exact term_end_step p c t m ih a w h hlt hs hn
      · exact hout a w (by omega)
  exact main t.length a w (by omega) ha hs hn
end Go.Proofs.YtokfgdpmbmnijaaGreatDoor
/- What chattel/ratio's abs, common and Check answer. -/
namespace Go.Proofs.YtokfgdpmbmnijaaGreatDoor
open Go.RowKit

set_option maxHeartbeats 400000 in
theorem ratio_abs (n : Int) (w : World) (h : i64ok n) :
    Calls Tryz.prog 148 #[.int .i64 n] w fun e w' => e = .returned (.int .u64 n.natAbs) ∧ w = w' := by
  obtain ⟨h1, h2⟩ := h
  by_cases h0 : n < 0
  · have e : IntKind.u64.wrap (-IntKind.u64.wrap n) = n.natAbs := by rw [IntKind.wrap_u64, IntKind.wrap_u64]; omega
    go_enter Tryz.func148, Tryz.ntmps148
    go_wp2
    go_ret
    exact ⟨rfl, rfl⟩
  · have e : n = n.natAbs := by omega
    go_enter Tryz.func148, Tryz.ntmps148
    clear e
    go_wp2
    go_ret
    exact ⟨ret_int (by omega), rfl⟩

set_option maxHeartbeats 400000 in
theorem ratio_common (a b : Nat) (w : World) (ha : a < 18446744073709551616) (hb : b < 18446744073709551616) :
    Calls Tryz.prog 147 #[.int .u64 a, .int .u64 b] w fun e w' => e = .returned (.int .u64 (Nat.gcd a b)) ∧ Below w.heap.size w w' := by
  go_enter Tryz.func147, Tryz.ntmps147
  go_wp2
  go_loopw [0, 1] (fun x y wr => ∃ (c d : Nat), x = .int .u64 c ∧ y = .int .u64 d ∧ c < 18446744073709551616 ∧ d < 18446744073709551616 ∧ Hid (Nat.gcd c d = Nat.gcd a b) ∧ Below w.heap.size w wr)
    (fun _ y _ => (intOf y).toNat)
  case atStart => exact ⟨a, b, rfl, rfl, ha, hb, rfl, Below.refl _ _⟩
  case round =>
    obtain ⟨c, d, rfl, rfl, hc, hd, hg, hbel⟩ := hrel
    by_cases h0 : d = 0
    · subst h0
      go_wp2
      go_ret
      exact ⟨ret_int (by rw [← hg.out]; simp), hbel⟩
    · have hne : ((d : Int) == 0) = false := by simp; omega
      have hlt : c % d < d := Nat.mod_lt _ (by omega)
      go_wp2
      go_quiet (fail)
      go_wp2
      go_roundw
      case rel => exact ⟨d, c % d, rfl, by simp, hd, by omega, by show _ = _; rw [← hg.out, Nat.gcd_comm d, ← Nat.gcd_rec, Nat.gcd_comm], below_drewN hbel _⟩
      case measure => simp [intOf]; omega

/-- What is wrong with a ratio: 0 nothing, 12 a division by nought, 13 its form. -/
def ratioErr (num den : Int) : Int :=
  if den = 0 then 12 else if den < 0 ∨ num = -9223372036854775808 ∨ Nat.gcd num.natAbs den.natAbs ≠ 1 then 13 else 0

set_option maxHeartbeats 1000000 in
theorem ratio_Check (num den : Int) (w : World) (h1 : i64ok num) (h2 : i64ok den) :
    Calls Tryz.prog 105 #[.agg #[.int .i64 num, .int .i64 den]] w fun e w' => e = .returned (.int .i64 (ratioErr num den)) ∧ Below w.heap.size w w' := by
  by_cases d0 : den = 0
  · subst d0
    go_enter Tryz.func105, Tryz.ntmps105
    go_wp2
    go_ret
    exact ⟨rfl, below_alloc _ _⟩
  · have hd0 : (den == 0) = false := by simp [d0]
    have hL0 : ∀ x : Later (w.alloc (.cells #[.int .i64 num, .int .i64 den] 46)), x.val.cell? ⟨w.heap.size, 0, none⟩ = some (.int .i64 num) := fun x => x.new 0 _ rfl
    have hL1 : ∀ x : Later (w.alloc (.cells #[.int .i64 num, .int .i64 den] 46)), x.val.cell? ⟨w.heap.size, 1, none⟩ = some (.int .i64 den) := fun x => x.new 1 _ rfl
    by_cases dneg : den < 0
    · have HR : Hid (ratioErr num den = 13) := by show _ = _; unfold ratioErr; rw [if_neg d0, if_pos (.inl dneg)]
      clear d0
      go_enter Tryz.func105, Tryz.ntmps105
      go_wp2
      refine wp_region_later (by kernel_rfl) (by kernel_rfl) ?_
      repeat (go_big_quiet_step (fail))
      refine wpQuiet_nil ?_
      rintro ⟨w1, hb1⟩
      go_wp2
      go_ret
      exact ⟨ret_int HR.out.symm, below_two (below_alloc _ _) hb1⟩
    · have hdn : decide (den < 0) = false := by simpa using dneg
      by_cases nl : num = -9223372036854775808
      · have hnl : (num == -9223372036854775808) = true := by simp [nl]
        have HR : Hid (ratioErr num den = 13) := by show _ = _; unfold ratioErr; rw [if_neg d0, if_pos (.inr (.inl nl))]
        clear d0 nl
        go_enter Tryz.func105, Tryz.ntmps105
        go_wp2
        refine wp_region_later (by kernel_rfl) (by kernel_rfl) ?_
        repeat (go_big_quiet_step (fail))
        refine wpQuiet_nil ?_
        rintro ⟨w1, hb1⟩
        go_wp2
        go_ret
        exact ⟨ret_int HR.out.symm, below_two (below_alloc _ _) hb1⟩
      · have hnl : (num == -9223372036854775808) = false := by simp [nl]
        have h3 : num.natAbs < 18446744073709551616 := by have := h1.1; have := h1.2; omega
        have h4 : den.natAbs < 18446744073709551616 := by have := h2.1; have := h2.2; omega
        by_cases hg : Nat.gcd num.natAbs den.natAbs = 1
        · have hgb : (((Nat.gcd num.natAbs den.natAbs : Nat) : Int) != 1) = false := by simp [hg]
          have HR : Hid (ratioErr num den = 0) := by show _ = _; unfold ratioErr; rw [if_neg d0, if_neg (by simp [dneg, nl, hg])]
          clear d0 nl hg
          go_enter Tryz.func105, Tryz.ntmps105
          go_wp2
          refine wp_region_later (by kernel_rfl) (by kernel_rfl) ?_
          repeat (go_big_quiet_step (first | (go_at_call 148; exact Calls.later_same (ratio_abs _ _ (by assumption))) | (go_at_call 147; exact Calls.later (ratio_common _ _ _ h3 h4))))
          refine wpQuiet_nil ?_
          rintro ⟨w1, hb1⟩
          go_wp2
          go_ret
          exact ⟨ret_int HR.out.symm, below_two (below_alloc _ _) hb1⟩
        · have hgb : (((Nat.gcd num.natAbs den.natAbs : Nat) : Int) != 1) = true := by simp; omega
          have HR : Hid (ratioErr num den = 13) := by show _ = _; unfold ratioErr; rw [if_neg d0, if_pos (.inr (.inr hg))]
          clear d0 nl hg
          go_enter Tryz.func105, Tryz.ntmps105
          go_wp2
          refine wp_region_later (by kernel_rfl) (by kernel_rfl) ?_
          repeat (go_big_quiet_step (first | (go_at_call 148; exact Calls.later_same (ratio_abs _ _ (by assumption))) | (go_at_call 147; exact Calls.later (ratio_common _ _ _ h3 h4))))
          refine wpQuiet_nil ?_
          rintro ⟨w1, hb1⟩
          go_wp2
          go_ret
          exact ⟨ret_int HR.out.symm, below_two (below_alloc _ _) hb1⟩
end Go.Proofs.YtokfgdpmbmnijaaGreatDoor
/- What chattel/term's fields (and what it calls), and slices.ContainsFunc with it, answer. -/
namespace Go.Proofs.YtokfgdpmbmnijaaGreatDoor
open Go.RowKit

def ndV (n : Nd) : Value := .agg #[.int .i64 n.op, .int .i64 n.a, .int .i64 n.b, .int .i64 n.num, .int .i64 n.den]

/-- Whether a node's fields are within limits, and it has no value. -/
def fitsB (la lb : Int) (n : Nd) : Bool := decide (0 ≤ n.a) && decide (n.a ≤ la) && decide (0 ≤ n.b) && decide (n.b ≤ lb) && (n.num == 0 && n.den == 0)

set_option maxHeartbeats 1000000 in
theorem term_fits (la lb op a b num den : Int) (w : World) :
    Calls Tryz.prog 142 #[.agg #[.int .i64 la, .int .i64 lb], .agg #[.int .i64 op, .int .i64 a, .int .i64 b, .int .i64 num, .int .i64 den]] w
      fun e w' => e = .returned (.bool (fitsB la lb ⟨op, a, b, num, den⟩)) ∧ Below w.heap.size w w' := by
  go_enter Tryz.func142, Tryz.ntmps142
  go_wp2
  all_goals
    go_ret
    refine ⟨?_, below_two (below_alloc _ _) (below_alloc _ _)⟩
    simp [fitsB, *]
  all_goals omega

/-- Whether a node is a number that may be. -/
def numberB (n : Nd) : Bool := n.a == 0 && n.b == 0 && ratioErr n.num n.den == 0

set_option maxHeartbeats 1000000 in
theorem term_number (op a b num den : Int) (w : World) (h1 : i64ok num) (h2 : i64ok den) :
    Calls Tryz.prog 143 #[.agg #[.int .i64 op, .int .i64 a, .int .i64 b, .int .i64 num, .int .i64 den]] w
      fun e w' => e = .returned (.bool (numberB ⟨op, a, b, num, den⟩)) ∧ Below w.heap.size w w' := by
  go_enter Tryz.func143, Tryz.ntmps143
  go_wp2_with (go_at_call 105; refine (ratio_Check _ _ _ h1 h2).mono ?_; rintro e w1 ⟨rfl, hb1⟩)
  all_goals
    go_ret
    refine ⟨?_, ?_⟩
    · simp [numberB, *]
    · first | exact below_two (below_alloc _ _) hb1 | exact below_alloc _ _

/-- Whether a node's fields may be. -/
def fieldsB (n : Nd) : Bool :=
  bif n.op == 1 then numberB n else bif n.op == 2 || n.op == 16 then fitsB 63 0 n else bif n.op == 10 then fitsB 7 0 n
  else bif n.op == 14 then fitsB 73048 0 n else bif n.op == 17 then fitsB 63 73048 n else fitsB 0 0 n

set_option maxHeartbeats 1000000 in
theorem term_fields (op a b num den : Int) (w : World) (h1 : i64ok num) (h2 : i64ok den) :
    Calls Tryz.prog 98 #[.agg #[.int .i64 op, .int .i64 a, .int .i64 b, .int .i64 num, .int .i64 den]] w
      fun e w' => e = .returned (.bool (fieldsB ⟨op, a, b, num, den⟩)) ∧ Below w.heap.size w w' := by
  go_enter Tryz.func98, Tryz.ntmps98
  go_wp2_with (first
    | (go_at_call 143; refine (term_number _ _ _ _ _ _ h1 h2).mono ?_; rintro e w1 ⟨rfl, hb1⟩)
    | (go_at_call 142; refine (term_fits _ _ _ _ _ _ _ _).mono ?_; rintro e w1 ⟨rfl, hb1⟩))
  all_goals
    go_ret
    refine ⟨?_, below_two (below_alloc _ _) hb1⟩
    simp [fieldsB, *]

set_option maxHeartbeats 400000 in
theorem term_Of1 (n : Nd) (w : World) (h : n.ok) :
    Calls Tryz.prog 97 #[.agg #[.int .i64 n.op, .int .i64 n.a, .int .i64 n.b, .int .i64 n.num, .int .i64 n.den]] w
      fun e w' => e = .returned (.bool (!fieldsB n)) ∧ Below w.heap.size w w' := by
  obtain ⟨_, _, _, h1, h2⟩ := h
  go_enter Tryz.func97, Tryz.ntmps97
  go_wp2_with (go_at_call 98; refine (term_fields _ _ _ _ _ _ h1 h2).mono ?_; rintro e w1 ⟨rfl, hb1⟩)
  go_ret
  exact ⟨rfl, below_two (below_alloc _ _) hb1⟩

/-- Whether all nodes' fields may be. -/
def allFields (t : List Nd) : Bool := (List.range t.length).all fun k => fieldsB (nd t k)
def IxPost (t : List Nd) (w : World) (e : Ending) (w' : World) : Prop := ∃ m : Int, e = .returned (.int .i64 m) ∧ decide (0 ≤ m) = (!allFields t) ∧ Below w.heap.size w w'

set_option maxHeartbeats 1000000 in
theorem nodes_IndexFunc (p : Option Addr) (c : Nat) (t : List Nd) (w : World) (hn : Nodes w p t) :
    Calls Tryz.prog 141 #[.slice p t.length c, .func (.func 97) #[] #[]] w (IxPost t w) := by
  have hlen := hn.len
  have HN := Lib.hid hn
  clear hn
  go_enter Tryz.func141, Tryz.ntmps141
  go_wp2
  go_loopw [8] (fun i wr => ∃ k : Nat, k ≤ t.length ∧ i = .int .i64 k ∧ Hid (∀ j, j < k → fieldsB (nd t j) = true) ∧ Below w.heap.size w wr)
    (fun i _ => t.length - (intOf i).toNat)
  case atStart => exact ⟨0, by omega, rfl, fun j hj => absurd hj (by omega), Below.refl _ _⟩
  case round =>
    obtain ⟨k, hk, rfl, hf, hb⟩ := hrel
    by_cases hlt : k < t.length
    · obtain ⟨b, o, rfl, hin0⟩ := nodes_mem HN.out hlt
      have hin := hin0.below_ hb
      have c0 := hin.c0 k hlt
      have c1 := hin.c1 k hlt
      have c2 := hin.c2 k hlt
      have c3 := hin.c3 k hlt
      have c4 := hin.c4 k hlt
      have HO := Lib.hid (HN.out.ok k hlt)
      clear hin hin0
      generalize hg : nd t k = n at c0 c1 c2 c3 c4 HO
      have HG := Lib.hid hg
      clear hg
      cases hq : fieldsB n
      · have HQ := Lib.hid hq
        clear hq
        go_wp2_with (go_at_call 97; refine (term_Of1 n _ HO.out).mono ?_; rintro e w1 ⟨rfl, hb1⟩; rw [HQ.out])
        go_ret
        refine ⟨k, rfl, ?_, below_two hb hb1⟩
        have : allFields t = false := by
          unfold allFields
          rw [List.all_eq_false]
          exact ⟨k, List.mem_range.2 hlt, by rw [HG.out, HQ.out]; simp⟩
        rw [this]; simp
      · have HQ := Lib.hid hq
        clear hq
        go_wp2_with (go_at_call 97; refine (term_Of1 n _ HO.out).mono ?_; rintro e w1 ⟨rfl, hb1⟩; rw [HQ.out])
        go_roundw
        case rel =>
          refine ⟨k + 1, by omega, by go_num, ?_, below_two hb hb1⟩
          intro j hj
          by_cases hjk : j = k
          · subst hjk; rw [HG.out]; exact HQ.out
          · exact hf.out j (by omega)
        case measure => simp [intOf]; omega
    · obtain rfl : k = t.length := by omega
      clear hlt
      go_wp2
      go_ret
      refine ⟨-1, rfl, ?_, hb⟩
      have : allFields t = true := by
        unfold allFields
        rw [List.all_eq_true]
        exact fun j hj => hf.out j (List.mem_range.1 hj)
      rw [this]; simp

set_option maxHeartbeats 400000 in
theorem nodes_ContainsFunc (p : Option Addr) (c : Nat) (t : List Nd) (w : World) (hn : Nodes w p t) :
    Calls Tryz.prog 96 #[.slice p t.length c, .func (.func 97) #[] #[]] w
      fun e w' => e = .returned (.bool (!allFields t)) ∧ Below w.heap.size w w' := by
  have HN := Lib.hid hn
  clear hn
  go_enter Tryz.func96, Tryz.ntmps96
  go_wp2_with (go_at_call 141; refine (nodes_IndexFunc p c t _ HN.out).mono ?_; rintro e w1 ⟨m, rfl, hm, hb1⟩)
  go_ret
  exact ⟨by simp, hb1⟩
end Go.Proofs.YtokfgdpmbmnijaaGreatDoor
/- Words for ranges over functions: what a round keeps ('Kept'), and small lemmas on it. -/
namespace Go.Proofs.YtokfgdpmbmnijaaGreatDoor
open Go.RowKit

/-- The blocks of S lie as they lay. -/
structure Kept (S : Nat → Prop) (w w' : World) : Prop where
  os : w'.os = w.os
  tape : w'.tape = w.tape
  output : w'.output = w.output
  size : w.heap.size ≤ w'.heap.size
  block : ∀ k, S k → w'.heap[k]? = w.heap[k]?
theorem Kept.refl (S : Nat → Prop) (w : World) : Kept S w w := ⟨rfl, rfl, rfl, Nat.le_refl _, fun _ _ => rfl⟩
theorem Kept.trans {S : Nat → Prop} {a b c : World} (h : Kept S a b) (k : Kept S b c) : Kept S a c :=
  ⟨k.os.trans h.os, k.tape.trans h.tape, k.output.trans h.output, Nat.le_trans h.size k.size, fun i hi => (k.block i hi).trans (h.block i hi)⟩
theorem Kept.cell {S : Nat → Prop} {w w' : World} (h : Kept S w w') {p : Addr} (hp : S p.block) : w'.cell? p = w.cell? p := World.cell?_of_block (w := w) (h.block p.block hp)
theorem Kept.frozen {S : Nat → Prop} {w w' : World} (h : Kept S w w') {p : Addr} (hp : S p.block) : w'.frozen? p = w.frozen? p := World.frozen?_of_block (w := w) (h.block p.block hp)
theorem Kept.below {S : Nat → Prop} {w w' : World} (h : Kept S w w') {n : Nat} (hn : ∀ k, k < n → S k) : Below n w w' :=
  ⟨h.os, h.tape, h.output, h.size, fun k hk => h.block k (hn k hk)⟩
/-- What keeps all that there was keeps S's blocks, if they were there. -/
theorem Kept.of_below {S : Nat → Prop} {w w' : World} {n : Nat} (h : Below n w w') (hS : ∀ k, S k → k < n) : Kept S w w' :=
  ⟨h.os, h.tape, h.output, h.size, fun k hk => h.block k (hS k hk)⟩
theorem Kept.setCell {S : Nat → Prop} {a w : World} (h : Kept S a w) {p : Addr} (hp : ¬ S p.block) (u : Value) : Kept S a (w.setCell p u) :=
  h.trans ⟨rfl, rfl, rfl, by simp [World.setCell], fun k hk => Below.heap_setCell _ _ _ _ (fun e => hp (e ▸ hk))⟩
/-- The law's own turn of a block from n on, which is none of S. -/
theorem Kept.putObj {S : Nat → Prop} {n : Nat} (hS : ∀ k, S k → k < n) (W : World) (l : Nat) (o o' : Obj) (hl : n ≤ l) (h : W.heap[l]? = some o) (_ : o.isCells = false) (_ : o.isWalk = false) : Kept S W (W.putObj l o') :=
  have g := grownBy_putObj' W l o'
  ⟨g.os, g.tape, g.output, g.size, fun k hk => g.block k (by have := hS k hk; have := (Array.getElem?_eq_some_iff.1 h).1; omega) (fun e => by cases e; have := hS _ hk; omega)⟩
theorem keepsOthers_of_below {w w' : World} (h : Below w.heap.size w w') : KeepsOthers w w' :=
  ⟨h.size, fun k _ hk _ => (h.block k (Array.getElem?_eq_some_iff.1 hk).1).trans hk⟩
/-- What an iterator's own callee does, its premises abide. -/
theorem abides_below {β : Type} {B : Nat} {J : β → World → Prop} (h : AbidesFrom B J) {s : β} {w w' : World} (hs : J s w) (hb : Below w.heap.size w w') : J s w' :=
  h s w w' none hs ⟨hb.os, hb.tape, hb.output, hb.size, fun k hk _ => hb.block k hk⟩ (fun r e => by cases e)

theorem abides_below' {β : Type} {B : Nat} {J : β → World → Prop} (h : AbidesFrom B J) {s : β} {w w' : World} (hs : J s w) (_ : B ≤ w.heap.size) (hb : Below w.heap.size w w') : J s w' := abides_below h hs hb

/-- What has come when k rounds are over: f 0, .., f (k - 1). -/
def upto {α : Type} (f : Nat → α) (k : Nat) : List α := (List.range k).map f
theorem upto_succ {α : Type} (f : Nat → α) (k : Nat) : upto f (k + 1) = upto f k ++ [f k] := by simp [upto, List.range_succ]
theorem upto_length {α : Type} (f : Nat → α) (k : Nat) : (upto f k).length = k := by simp [upto]

/-- The marks that ranges over functions have left: each names a block of its own from B on, below 'hi', with no deferred call. -/
def Marks (B : Nat) : Nat → List Deferred → World → Prop
  | _, [], _ => True
  | hi, d :: ds, w => ∃ D, d.target = .collected D ∧ D < hi ∧ B ≤ D ∧ w.heap[D]? = some (.deferred (some [])) ∧ Marks B D ds w
theorem Marks.mono {B : Nat} : ∀ {ds : List Deferred} {hi hi' : Nat} {w : World}, Marks B hi ds w → hi ≤ hi' → Marks B hi' ds w
  | [], _, _, _, _, _ => trivial
  | _ :: _, _, _, _, ⟨D, h1, h2, h3, h4, h5⟩, hh => ⟨D, h1, by omega, h3, h4, h5⟩
/-- What leaves the blocks below 'hi' alone leaves the marks alone. -/
theorem Marks.kept {B : Nat} : ∀ {ds : List Deferred} {hi : Nat} {w w' : World}, Marks B hi ds w → (∀ D, D < hi → B ≤ D → w.heap[D]? = some (.deferred (some [])) → w'.heap[D]? = some (.deferred (some []))) → Marks B hi ds w'
  | [], _, _, _, _, _ => trivial
  | _ :: _, _, _, _, ⟨D, h1, h2, h3, h4, h5⟩, hh => ⟨D, h1, h2, h3, hh D h2 h3 h4, h5.kept (fun D' a b c => hh D' (by omega) b c)⟩
theorem Marks.others {B hi : Nat} {ds : List Deferred} {w w' : World} (h : Marks B hi ds w) (hk : KeepsOthers w w') : Marks B hi ds w' :=
  h.kept (fun D _ _ e => hk.same D _ e rfl)
theorem leaves_of_marks {P : Program} {fn : Func} {tmps : Array Value} {R : Ending → World → Prop} {n B : Nat} {v : Value} : ∀ (ds : List Deferred) (hi : Nat) (w : World), B ≤ w.heap.size → Marks B hi ds w →
    (∀ w', Below B w w' → (results fn tmps).run P w' = .ok v w' ∧ R (.returned v) w') → LeavesInM Fence.wide n P fn tmps R ds .returning w
  | [], _, w, _, _, h => ⟨v, h w (Below.refl _ _)⟩
  | d :: ds, hi, w, hB, ⟨D, h1, h2, h3, h4, h5⟩, h => by
    refine ⟨by simp, .inl ⟨D, _, h1, run_takeDeferred h4, ?_⟩⟩
    have hb : Below B w (w.putObj D (.deferred none)) := (Below.refl B w).grown (grownBy_putObj' w D _) hB (fun k e => by cases e; exact h3)
    refine leaves_of_marks ds D _ (Nat.le_trans hB hb.size) (h5.kept (fun D' a _ e => by rw [World.putObj_heap_other (by omega)]; exact e)) (fun w' hw' => h w' (hb.trans hw'))
/-- A function's contract from its body, marks and all, by the plain walk. -/
theorem calls_of_wp_m {P : Program} {f : FuncId} {fn : Func} {c : Code} {args : Array Value} {w : World} {R : Ending → World → Prop} (n : Nat) (hf : P.funcs[f]? = some fn) (hb : fn.body = some c)
    (h : c.wp P (bodyPostM Fence.wide n P fn R) { tmps := args ++ Array.replicate (fn.ntmps - args.size) undef, defers := [] } w) : Calls P f args w R :=
  (callsIn_wide (n := n)).1 (callsIn_of_wp_marks hf hb trivial (wpIn_wide.2 h) rfl)
theorem ret_m {P : Program} {fn : Func} {R : Ending → World → Prop} {n B hi : Nat} {a : Act} {w : World} {v : Value} (hB : B ≤ w.heap.size) (hm : Marks B hi a.defers w)
    (h : ∀ w', Below B w w' → (results fn a.tmps).run P w' = .ok v w' ∧ R (.returned v) w') : bodyPostM Fence.wide n P fn R .ret a w := leaves_of_marks a.defers hi w hB hm h
theorem ret_m2 {P : Program} {fn : Func} {R : Ending → World → Prop} {n B hi : Nat} {a : Act} {w : World} {t u : Tmp} {v1 v2 : Value} (hr : fn.results = #[.tmp t, .tmp u]) (h1 : a.tmps.getD t undef = v1) (h2 : a.tmps.getD u undef = v2)
    (hB : B ≤ w.heap.size) (hm : Marks B hi a.defers w) (h : ∀ w', Below B w w' → R (.returned (.tuple #[v1, v2])) w') : bodyPostM Fence.wide n P fn R .ret a w :=
  ret_m hB hm (fun w' hw' => ⟨by rw [results_tmp2 hr, h1, h2], h w' hw'⟩)
theorem ret_m1 {P : Program} {fn : Func} {R : Ending → World → Prop} {n B hi : Nat} {a : Act} {w : World} {t : Tmp} {v1 : Value} (hr : fn.results = #[.tmp t]) (h1 : a.tmps.getD t undef = v1)
    (hB : B ≤ w.heap.size) (hm : Marks B hi a.defers w) (h : ∀ w', Below B w w' → R (.returned v1) w') : bodyPostM Fence.wide n P fn R .ret a w :=
  ret_m hB hm (fun w' hw' => ⟨by rw [results_tmp hr, h1], h w' hw'⟩)

section
variable {P : Program} {ops : Array Oper} {md : Region.Mode} {C : World → Prop} {r n : Nat}
/-- What is quiet is so in a round, too. -/
theorem round_of_quiet {o : Oper} {a : Act} {K : Act → Prop} {K' : Act → World → Prop} {Q' : Exit → Act → World → Prop} {w : World} (hw : C w) (h : ∀ a w', C w' → K a → K' a w') (hh : o.quiet P a C K) :
    o.wpIn (Fence.wide.inRound r) n P a w K' Q' := by
  obtain ⟨v, h1, h2⟩ := hh
  have h3 := h1 w hw
  refine ⟨fun _ _ => trivial, ?_⟩
  have hnd : ∀ c, o.op ≠ .defer c := by
    intro c hc
    unfold Oper.quietAt at h3
    have : ∃ x : Sem Deferred, execOp a.eval o = x.bind (fun d => .pure (.defer d)) := by
      simp only [execOp, hc]
      exact ⟨_, rfl⟩
    obtain ⟨x, hx⟩ := this
    rw [hx] at h3
    rw [show x.bind (fun d => Sem.pure (Next.defer d)) = x >>= (fun d => Sem.pure (Next.defer d)) from rfl, Sem.run_bind] at h3
    generalize x.run P w = y at h3
    cases y <;> simp [Result.andThen, Sem.run, Oper.quietUpon] at h3
  rw [Fence.inRound_round, Oper.semAt_some r _ _ hnd]
  unfold Oper.quietAt at h3
  generalize (execOp a.eval o).run P w = y at *
  cases y with
  | ok x w' =>
    cases x <;> simp only [Oper.quietUpon] at h3
    case value u =>
      obtain ⟨e1, e2⟩ := h3
      rw [e1, e2]
      exact h _ _ hw h2
    case skip =>
      obtain ⟨e1, e2⟩ := h3
      subst e2
      rw [e1]
      exact h _ _ hw h2
    case enter f args =>
      obtain ⟨e1, hc⟩ := h3
      rw [e1]
      rw [Oper.uponIn_enter]
      refine ⟨(fun he => (by cases he)), CallsIn.inRound r ((callsIn_wide.2 hc).mono ?_)⟩
      rintro e w'' ⟨he, hw''⟩
      subst he
      exact h _ _ hw'' h2
  | halt x w' => simp only [Oper.quietUpon] at h3
theorem opIn_of_quiet {i : Nat} {a : Act} {K : Act → Prop} {K' : Act → World → Prop} {Q' : Exit → Act → World → Prop} {w : World} (hC : C w) (h : ∀ a w', C w' → K a → K' a w') (hh : qOp P ops C i K a) :
    wpOpIn (Fence.wide.inRound r) n P ops Q' i K' a w := by
  unfold qOp at hh
  unfold wpOpIn
  split
  · rename_i ho; simp only [ho] at hh; exact h _ _ hC hh
  · rename_i o ho
    simp only [ho] at hh
    split
    · rename_i hw; simp only [hw, if_true] at hh; exact round_of_quiet hC h hh
    · rename_i hw; simp only [hw] at hh; exact ⟨fun _ _ => trivial, h _ _ hC hh⟩
theorem anyIn_of_quiet {Q : Act → Prop} {Q' : Exit → Act → World → Prop} (hQ : ∀ a w, C w → Q a → Q' .normal a w) : ∀ (fuel : Nat) (listed : Array Bool) (a : Act) (w : World), C w →
    wpAnyQ P md ops C Q fuel listed a → wpAnyIn (Fence.wide.inRound r) n P md ops Q' fuel listed a w
  | 0, _, _, _, hw, h => ⟨h.1, hQ _ _ hw h.2⟩
  | fuel + 1, _, _, _, hw, h => ⟨fun h0 => hQ _ _ hw (h.1 h0), fun i hi => opIn_of_quiet hw (fun a' w' hw' => anyIn_of_quiet hQ fuel _ a' w' hw') (h.2 i hi)⟩
end
/-- 'wp_region_later' in a round. -/
theorem wpIn_region_later {P : Program} {r n id : Nat} {Q : Exit → Act → World → Prop} {a : Act} {w : World} {l : List Oper} (hm : P.follows .mixedOrders = true) (hB : Region.lexB .any l.toArray = true)
    (h : wpQuiet P l.toArray (fun w' => ∃ x : Later w, w' = x.val) (fun a' => ∀ x : Later w, Q .normal a' x.val) l a) : (Code.region id l.toArray true).wpIn (Fence.wide.inRound r) n P Q a w := by
  simp only [Region.lexB, Bool.and_eq_true] at hB
  refine wpIn_region_any hm (anyIn_of_quiet (C := fun w' => ∃ x : Later w, w' = x.val) (Q := fun a' => ∀ x : Later w, Q .normal a' x.val) (fun _ w' ⟨x, hx⟩ h => by rw [hx]; exact h x) _ _ _ _
    ⟨⟨{ w with drawn := w.drawn + 1 }, ⟨rfl, rfl, rfl, Nat.le_refl _, fun _ _ => rfl⟩⟩, rfl⟩ ?_)
  have := wpAnyQ_lex (C := fun w' => ∃ x : Later w, w' = x.val) (md := .any) hB.1 l.toArray.toList 0 (Array.replicate l.toArray.size false) a (by simp) (by simpa using hB.2) (by simpa using h)
  simpa using this
end Go.Proofs.YtokfgdpmbmnijaaGreatDoor
/- The iterator term.kids: its contract. -/
namespace Go.Proofs.YtokfgdpmbmnijaaGreatDoor
open Go.RowKit Go.Shelf
attribute [local go_sem] Oper.semAt_some

/-- The place of the i-th term below the node at a place. -/
def kidN (t : List Nd) (a i : Nat) : Nat := (endK (endAt t) i (a + 1)).getD 0

theorem endK_part {rec : Nat → Option Nat} {k a b : Nat} (h : endK rec k a = some b) : ∀ i, i ≤ k → ∃ c, endK rec i a = some c := by
  intro i hi
  cases e : endK rec i a with
  | some c => exact ⟨c, rfl⟩
  | none =>
    have : ∀ j, endK rec (i + j) a = none := by
      intro j
      induction j with
      | zero => exact e
      | succ j ih => rw [← Nat.add_assoc, endK_succ, ih]; rfl
    have := this (k - i)
    rw [show i + (k - i) = k from by omega, h] at this
    cases this
structure KidsOk (t : List Nd) (a : Nat) : Prop where
  lt : a < t.length
  made : makes (nd t a).op ≠ 0
  some_ : ∀ i, i ≤ many (nd t a).op → endK (endAt t) i (a + 1) = some (kidN t a i)
theorem kidsOk {t : List Nd} {a e : Nat} (h : endAt t a = some e) : KidsOk t a := by
  rw [endAt_eq] at h
  split at h
  · cases h
  · rename_i h1
    simp only [not_or] at h1
    refine ⟨by omega, h1.2, fun i hi => ?_⟩
    obtain ⟨c, hc⟩ := endK_part h i hi
    unfold kidN
    rw [hc]; rfl
theorem KidsOk.step {t : List Nd} {a i : Nat} (h : KidsOk t a) (hi : i < many (nd t a).op) : endAt t (kidN t a i) = some (kidN t a (i + 1)) := by
  have h1 := h.some_ (i + 1) (by omega)
  rw [endK_succ, h.some_ i (by omega)] at h1
  exact h1
theorem KidsOk.bounds {t : List Nd} {a i : Nat} (h : KidsOk t a) (hi : i ≤ many (nd t a).op) : a < kidN t a i ∧ kidN t a i ≤ t.length := by
  have h1 := h.some_ i hi
  have h2 := endK_gt (fun a b => endAt_gt) _ _ _ h1
  have h3 := endK_le (fun a b h => endAt_le h) _ _ _ (by have := h.lt; omega) h1
  omega

/-- The number of a term below a node. -/
structure Kid (t : List Nd) (a : Nat) where
  i : Nat
  lt : i < many (nd t a).op

set_option maxHeartbeats 400000 in
theorem term_kids (p : Option Addr) (n c : Nat) (a : Int) (w : World) :
    Calls Tryz.prog 99 #[.slice p n c, .int .i64 a] w fun e w' =>
      e = .returned (.func (.func 144) #[] #[.pointer (some ⟨w.heap.size + 1, 0, none⟩), .pointer (some ⟨w.heap.size, 0, none⟩)]) ∧
      w' = (w.alloc (.cells #[.slice p n c] 22)).alloc (.cells #[.int .i64 a] 3) := by
  go_enter Tryz.func99, Tryz.ntmps99
  go_wp2
  go_ret
  exact ⟨rfl, rfl⟩

set_option maxRecDepth 100000 in
set_option maxHeartbeats 2000000 in
theorem term_kids1 (n : Nat) (l B1 B2 : Nat) (p : Option Addr) (c : Nat) (t : List Nd) (a : Nat) (S : Nat → Prop) (w0 : World) (hs : ShapeTab w0) (hn : Nodes w0 p t) (hk : KidsOk t a)
    (hS0 : ∀ k, k < w0.heap.size → S k) (hS2 : S B2) (J Jx : List (Kid t a) → World → Prop)
    (W : World) (hJ : AbidesFrom W.heap.size J) (hb0 : Below w0.heap.size w0 W) (hSW : ∀ k, S k → k < W.heap.size)
    (hY : ∀ pre x W1, J pre W1 → pre.length < many (nd t a).op → YieldAt Fence.wide (n - 1) Tryz.prog l #[.int .i64 (x.i : Nat), .int .i64 (kidN t a x.i : Nat)] W1 fun e W' =>
      (e = .returned (.bool true) ∧ J (pre ++ [x]) W' ∧ Kept S W1 W') ∨ (e = .returned (.bool false) ∧ Jx (pre ++ [x]) W'))
    (h1 : W.cell? ⟨B1, 0, none⟩ = some (.int .i64 a)) (h2 : W.cell? ⟨B2, 0, none⟩ = some (.slice p t.length c)) (h0 : J [] W) :
    CallsIn Fence.wide n Tryz.prog 144 #[.func (.yield l) #[] #[], .pointer (some ⟨B1, 0, none⟩), .pointer (some ⟨B2, 0, none⟩)] W fun e W' => (∃ v, e = .returned v) ∧
      ((∃ ys : List (Kid t a), ys.map (·.i) = List.range (many (nd t a).op) ∧ J ys W') ∨ (∃ pre : List (Kid t a), (∃ k, k < many (nd t a).op ∧ pre.map (·.i) = List.range (k + 1)) ∧ Jx pre W')) := by
  have hlen := hn.len
  have hlt := hk.lt
  obtain ⟨b, o, rfl, hin⟩ := nodes_mem hn hlt
  have c0 := (hb0.cell (p := ⟨b, o + a * 5, none⟩) hin.blk).trans (hin.c0 a hlt)
  have hbw : b < W.heap.size := Nat.lt_of_lt_of_le hin.blk hb0.size
  obtain ⟨op, hop⟩ : ∃ op, (nd t a).op = op := ⟨_, rfl⟩
  rw [hop] at c0
  have HOP := Lib.hid hop
  clear hop
  refine callsIn_of_wp Tryz.func144 rfl trivial ?_ rfl
  simp only [Tryz.ntmps144, List.size_toArray, List.length_cons, List.length_nil, Nat.reduceAdd, Nat.reduceSub, Array.replicate_succ, Array.replicate_zero, List.push_toArray, List.append_toArray, List.nil_append, List.cons_append]
  have hmy := many_le op
  have HS := Lib.hid hs
  have HN := Lib.hid hn
  have HK := Lib.hid hk
  have HB := Lib.hid hb0
  have HJ := Lib.hid hJ
  have HY := Lib.hid hY
  have HS0 := Lib.hid hS0
  have HSW := Lib.hid hSW
  clear hs hn hk hb0 hJ hY hS0 hSW hin
  gi_wp2_with fail
  refine ⟨trivial, fun h => (by cases h), ?_⟩
  refine (callsIn_wide.2 (term_of _ _ (HS.out.kept_ HB.out))).mono ?_
  rintro e w1 ⟨rfl, hb1⟩
  have hJ1 := abides_below HJ.out h0 hb1
  clear h0 c0
  gi_wp2_with fail
  gi_loopw [4, 15] (fun x i wr => ∃ k : Nat, k ≤ many op ∧ x = .int .i64 (kidN t a k) ∧ i = .int .i64 k ∧ (∃ pre : List (Kid t a), pre.map (·.i) = List.range k ∧ J pre wr) ∧ Kept S W wr)
    (fun _ i _ => many op - (intOf i).toNat)
  case atStart => exact ⟨0, by omega, by simp [kidN, endK], rfl, ⟨[], rfl, hJ1⟩, Kept.of_below hb1 HSW.out⟩
  case round =>
    obtain ⟨k, hk, rfl, rfl, ⟨pre, hpre, hJr⟩, hkr⟩ := hrel
    have HP := Lib.hid hpre
    clear hpre
    by_cases hlt : k < many op
    · have hlt' : k < many (nd t a).op := by rw [HOP.out]; exact hlt
      obtain ⟨fn, tmps, assign, body, hy, hR⟩ := HY.out pre ⟨k, hlt'⟩ wr hJr (by have := congrArg List.length HP.out; simp at this; rw [this]; exact hlt')
      dsimp only at hy
      have HR := Lib.hid hR
      clear hR
      have HP1 : Hid ((pre ++ [(⟨k, hlt'⟩ : Kid t a)]).map (·.i) = List.range (k + 1)) := by show _ = _; rw [List.map_append, HP.out, List.range_succ]; rfl
      gi_wp2_with fail
      refine ⟨fun h => (by cases h), ?_⟩
      refine HR.out.mono ?_
      clear HR hJr
      rintro e W3 (⟨rfl, hJ3, hk3⟩ | ⟨rfl, hJx3⟩)
      · have hk4 := hkr.trans hk3
        have hb4 := HB.out.trans (hk4.below HS0.out)
        have c2 := (hk4.cell (p := ⟨B2, 0, none⟩) hS2).trans h2
        have HE : Hid (endI t (kidN t a k) = kidN t a (k + 1)) := endI_some (HK.out.step hlt')
        have hle := (HK.out.bounds (i := k) (by omega)).2
        have HSk := Lib.hid (HS.out.kept_ hb4)
        have HNk := Lib.hid (HN.out.below_ hb4)
        gi_wp2_with fail
        refine ⟨trivial, fun h => (by cases h), ?_⟩
        refine (callsIn_wide.2 (term_end _ _ _ _ _ hle HSk.out HNk.out)).mono ?_
        rintro e w4 ⟨rfl, hb5⟩
        rw [HE.out]
        have hJ4 := abides_below' HJ.out hJ3 (Nat.le_trans hkr.size hk3.size) hb5
        have hk5 := hk4.trans (Kept.of_below hb5 (fun k hk => Nat.lt_of_lt_of_le (HSW.out k hk) hk4.size))
        clear hJ3 hb5 c2
        gi_wp2_with fail
        go_roundw
        case rel => exact ⟨k + 1, by omega, rfl, by go_num, ⟨_, HP1.out, hJ4⟩, hk5⟩
        case measure => simp [intOf]; omega
      · gi_wp2_with fail
        refine bodyPost_ret (results_none rfl _ _ _) rfl ?_
        exact ⟨⟨_, rfl⟩, .inr ⟨_, ⟨k, hlt', HP1.out⟩, hJx3⟩⟩
    · obtain rfl : k = many op := by omega
      clear hlt
      gi_wp2_with fail
      go_end0
      exact ⟨⟨_, rfl⟩, .inl ⟨pre, HP.out.trans (congrArg (fun o => List.range (many o)) HOP.out.symm), hJr⟩⟩

/-- The contract of what 'kids' hands back: for every body that keeps S's blocks. -/
theorem term_kids_stops (n : Nat) (B1 B2 : Nat) (p : Option Addr) (c : Nat) (t : List Nd) (a : Nat) (S : Nat → Prop) (w0 w : World) (hs : ShapeTab w0) (hn : Nodes w0 p t) (hk : KidsOk t a)
    (hS0 : ∀ k, k < w0.heap.size → S k) (hS1 : S B1) (hS2 : S B2) (hb0 : Below w0.heap.size w0 w) (hSW : ∀ k, S k → k < w.heap.size)
    (h1 : w.cell? ⟨B1, 0, none⟩ = some (.int .i64 a)) (h2 : w.cell? ⟨B2, 0, none⟩ = some (.slice p t.length c)) :
    SeqStopsK Fence.wide n Tryz.prog 144 #[.pointer (some ⟨B1, 0, none⟩), .pointer (some ⟨B2, 0, none⟩)] (fun x : Kid t a => #[Value.int .i64 (x.i : Nat), Value.int .i64 (kidN t a x.i : Nat)]) (Kept S)
      (fun ys => ys.map (·.i) = List.range (many (nd t a).op)) (fun pre => ∃ k, k < many (nd t a).op ∧ pre.map (·.i) = List.range (k + 1)) (many (nd t a).op) w := fun l J Jx W hW hJ _ hY h0 =>
  term_kids1 n l B1 B2 p c t a S w0 hs hn hk hS0 hS2 J Jx W hJ (hb0.trans (hW.mono hb0.size)) (fun k hk => Nat.lt_of_lt_of_le (hSW k hk) hW.size) hY
    ((hW.cell (p := ⟨B1, 0, none⟩) (hSW _ hS1)).trans h1) ((hW.cell (p := ⟨B2, 0, none⟩) (hSW _ hS2)).trans h2) h0
end Go.Proofs.YtokfgdpmbmnijaaGreatDoor
/- The depth of a term: what chattel/term's deep answers. -/
namespace Go.Proofs.YtokfgdpmbmnijaaGreatDoor
open Go.RowKit Go.Shelf
attribute [local go_sem] Oper.semAt_some

/-- The greatest of f 0, .., f (k - 1); nought of none. -/
def maxTo (f : Nat → Nat) : Nat → Nat
  | 0 => 0
  | k + 1 => max (maxTo f k) (f k)
theorem maxTo_congr {f g : Nat → Nat} : ∀ {k : Nat}, (∀ i, i < k → f i = g i) → maxTo f k = maxTo g k
  | 0, _ => rfl
  | k + 1, h => by simp only [maxTo]; rw [maxTo_congr (fun i hi => h i (by omega)), h k (by omega)]
theorem maxTo_le {f : Nat → Nat} {m : Nat} : ∀ {k : Nat}, (∀ i, i < k → f i ≤ m) → maxTo f k ≤ m
  | 0, _ => Nat.zero_le _
  | k + 1, h => by simp only [maxTo]; have := maxTo_le (fun i (hi : i < k) => h i (by omega)); have := h k (by omega); omega
def deepF (t : List Nd) : Nat → Nat → Nat
  | 0, _ => 0
  | f + 1, a => maxTo (fun i => deepF t f (kidN t a i)) (many (nd t a).op) + 1
def deepAt (t : List Nd) (a : Nat) : Nat := deepF t (t.length + 1) a
theorem deepF_fuel (t : List Nd) : ∀ f g a, KidsOk t a → t.length < f + a → t.length < g + a → deepF t f a = deepF t g a
  | 0, _, a, h, hf, _ => by have := h.lt; omega
  | _ + 1, 0, a, h, _, hg => by have := h.lt; omega
  | f + 1, g + 1, a, h, hf, hg => by
    simp only [deepF]
    rw [maxTo_congr]
    intro i hi
    have := h.bounds (i := i) (by omega)
    exact deepF_fuel t f g _ (kidsOk (h.step hi)) (by omega) (by omega)
theorem deepAt_eq {t : List Nd} {a : Nat} (h : KidsOk t a) : deepAt t a = maxTo (fun i => deepAt t (kidN t a i)) (many (nd t a).op) + 1 := by
  unfold deepAt
  rw [deepF]
  rw [maxTo_congr]
  intro i hi
  have := h.bounds (i := i) (by omega)
  exact deepF_fuel t _ _ _ (kidsOk (h.step hi)) (by omega) (by omega)
theorem deepF_le (t : List Nd) : ∀ f a, deepF t f a ≤ f
  | 0, _ => Nat.le_refl _
  | f + 1, a => by simp only [deepF]; have := maxTo_le (f := fun i => deepF t f (kidN t a i)) (k := many (nd t a).op) (fun i _ => deepF_le t f _); omega
theorem deepAt_le (t : List Nd) (a : Nat) : deepAt t a ≤ t.length + 1 := deepF_le t _ a
/-- What has come, as numbers. -/
def maxOf (t : List Nd) (a : Nat) (pre : List (Kid t a)) : Nat := maxTo (fun j => ((pre[j]?).map (fun x => deepAt t (kidN t a x.i))).getD 0) pre.length
theorem maxOf_snoc (t : List Nd) (a : Nat) (pre : List (Kid t a)) (x : Kid t a) : maxOf t a (pre ++ [x]) = max (maxOf t a pre) (deepAt t (kidN t a x.i)) := by
  unfold maxOf
  rw [List.length_append, List.length_singleton, maxTo]
  congr 1
  · exact maxTo_congr (fun i hi => by rw [List.getElem?_append_left hi])
  · simp
theorem maxOf_le (t : List Nd) (a : Nat) (pre : List (Kid t a)) : maxOf t a pre ≤ t.length + 1 := by
  unfold maxOf
  refine maxTo_le (fun i hi => ?_)
  cases pre[i]? with
  | none => simp
  | some x => simp [deepAt_le]
theorem maxOf_all {t : List Nd} {a : Nat} {pre : List (Kid t a)} (h : pre.map (·.i) = List.range (many (nd t a).op)) : maxOf t a pre = maxTo (fun i => deepAt t (kidN t a i)) (many (nd t a).op) := by
  have hl : pre.length = many (nd t a).op := by have := congrArg List.length h; simpa using this
  unfold maxOf
  rw [hl]
  refine maxTo_congr (fun i hi => ?_)
  have : (pre.map (·.i))[i]? = some i := by rw [h]; simp [hi]
  rw [List.getElem?_map] at this
  cases e : pre[i]? with
  | none => rw [e] at this; cases this
  | some x => rw [e] at this; simp only [Option.map_some, Option.some.injEq] at this; simp [this]

/-- What a round of 'deep' has kept when its number is stored. -/
theorem deep_round {w W w1 : World} {t : List Nd} {a : Nat} {p : Option Addr} {c : Nat} {pre : List (Kid t a)} {u : Int} {v0 : Value} {act : Act} (hB : Below w.heap.size w W) (hb1 : Below W.drew.heap.size W.drew w1)
    (l4 : w.heap.size + 4 ≤ W.heap.size)
    (g1 : w1.cell? ⟨w.heap.size + 1, 0, none⟩ = some v0) (g2 : w1.frozen? ⟨w.heap.size + 1, 0, none⟩ = false) (g3 : w1.cell? ⟨w.heap.size, 0, none⟩ = some (.slice p t.length c)) (hu : u = (maxOf t a pre : Nat)) :
    ownPostK (Kept fun k => k < w.heap.size + 4 ∧ ¬k = w.heap.size + 1)
      (fun pre W => (W.cell? ⟨w.heap.size + 1, 0, none⟩ = some (.int .i64 (maxOf t a pre : Nat)) ∧ W.frozen? ⟨w.heap.size + 1, 0, none⟩ = false ∧ W.cell? ⟨w.heap.size, 0, none⟩ = some (.slice p t.length c) ∧ w.heap.size + 4 ≤ W.heap.size) ∧ Below w.heap.size w W)
      (fun _ _ _ => False) pre W Exit.normal act (w1.setCell ⟨w.heap.size + 1, 0, none⟩ (.int .i64 u)) := by
  have hb : Below W.heap.size W w1 := ⟨hb1.os, hb1.tape, hb1.output, hb1.size, hb1.block⟩
  refine ⟨(keepsOthers_of_below hb).trans (KeepsOthers.setCell _ _ _), ?_, ⟨?_, ?_, ?_, ?_⟩, ?_⟩
  · exact (Kept.of_below hb (fun k hk => by have := hk.1; omega)).setCell (fun h => h.2 rfl) _
  · rw [hu]; exact World.cell?_setCell_same' _ _ _ (by rw [g1]; rfl)
  · rw [World.frozen?_setCell]; exact g2
  · exact (World.cell?_of_block (w := w1) (Below.heap_setCell w1 ⟨w.heap.size + 1, 0, none⟩ _ w.heap.size (by simp))).trans g3
  · have := hb.size; simp [World.setCell]; omega
  · exact (hB.trans (hb.mono hB.size)).setCell (by simp) _

set_option maxRecDepth 100000 in
set_option maxHeartbeats 2000000 in
theorem term_deep_step (p : Option Addr) (c : Nat) (t : List Nd) (m : Nat)
    (ih : ∀ (a : Nat) (w : World), t.length ≤ a + m → KidsOk t a → ShapeTab w → Nodes w p t →
      Calls Tryz.prog 101 #[.slice p t.length c, .int .i64 a] w fun e w' => e = .returned (.int .i64 (deepAt t a : Nat)) ∧ Below w.heap.size w w')
    (a : Nat) (w : World) (hm : t.length ≤ a + (m + 1)) (hk : KidsOk t a) (hs : ShapeTab w) (hn : Nodes w p t) :
      Calls Tryz.prog 101 #[.slice p t.length c, .int .i64 a] w fun e w' => e = .returned (.int .i64 (deepAt t a : Nat)) ∧ Below w.heap.size w w' := by
  have hlen := hn.len
  have IH := Lib.hid ih
  have HK := Lib.hid hk
  have HS := Lib.hid hs
  have HN := Lib.hid hn
  clear ih hk hs hn
  refine (callsIn_wide (n := 6)).1 ?_
  refine callsIn_of_wp_marks Tryz.func101 rfl trivial ?_ rfl
  simp only [Tryz.ntmps101, List.size_toArray, List.length_cons, List.length_nil, Nat.reduceAdd, Nat.reduceSub, Array.replicate_succ, Array.replicate_zero, List.push_toArray, List.append_toArray, List.nil_append, List.cons_append]
  gi_wp2_with fail
  refine ⟨trivial, ?_⟩
  refine (callsIn_wide.2 (term_kids _ _ _ _ _)).mono ?_
  rintro e w' ⟨rfl, rfl⟩
  obtain ⟨W0, hW0⟩ : ∃ W0, (((w.alloc (.cells #[.slice p t.length c] 22)).alloc (.cells #[.int .i64 0] 3)).alloc (.cells #[.slice p t.length c] 22)).alloc (.cells #[.int .i64 a] 3) = W0 := ⟨_, rfl⟩
  have hsz : W0.heap.size = w.heap.size + 4 := by rw [← hW0]; simp
  have hbw : Below w.heap.size w W0 := by rw [← hW0]; exact below_two (below_two (below_two (below_alloc _ _) (below_alloc _ _)) (below_alloc _ _)) (below_alloc _ _)
  have hc0 : W0.cell? ⟨w.heap.size, 0, none⟩ = some (.slice p t.length c) := by rw [← hW0]; clear hW0; go_simp
  have hc1 : W0.cell? ⟨w.heap.size + 1, 0, none⟩ = some (.int .i64 0) := by rw [← hW0]; clear hW0; go_simp
  have hf1 : W0.frozen? ⟨w.heap.size + 1, 0, none⟩ = false := by rw [← hW0]; clear hW0; go_simp
  have hc2 : W0.cell? ⟨w.heap.size + 2, 0, none⟩ = some (.slice p t.length c) := by rw [← hW0]; clear hW0; go_simp
  have hc3 : W0.cell? ⟨w.heap.size + 3, 0, none⟩ = some (.int .i64 a) := by rw [← hW0]; clear hW0; go_simp
  rw [hW0]
  clear hW0
  gi_wp2_with fail
  refine wpIn_rangeFunc_ownF rfl (by omega) (gf := 144) (lb := #[.pointer (some ⟨w.heap.size + 3, 0, none⟩), .pointer (some ⟨w.heap.size + 2, 0, none⟩)]) rfl trivial (enters_of Tryz.func144 (by kernel_rfl) rfl)
    (term_kids_stops 5 (w.heap.size + 3) (w.heap.size + 2) p c t a (fun k => k < w.heap.size + 4 ∧ k ≠ w.heap.size + 1) w W0 HS.out HN.out HK.out (fun k hk => ⟨by omega, by omega⟩) ⟨by omega, by omega⟩ ⟨by omega, by omega⟩ hbw (fun k hk => by have := hk.1; omega) hc3 hc2)
    (fun h k => h.trans k) (Kept.putObj (fun k hk => by have := hk.1; omega)) (Below.refl _ _) (fun _ => rfl)
    (fun pre W => (W.cell? ⟨w.heap.size + 1, 0, none⟩ = some (.int .i64 (maxOf t a pre : Nat)) ∧ W.frozen? ⟨w.heap.size + 1, 0, none⟩ = false ∧ W.cell? ⟨w.heap.size, 0, none⟩ = some (.slice p t.length c) ∧ w.heap.size + 4 ≤ W.heap.size) ∧ Below w.heap.size w W)
    (fun _ _ _ => False)
    (OwnFrom.and (Own.from (fun s A B row hs hg hr => ⟨cell_kept hs.1 hg hr, (frozen_kept hs.1 hg hr).trans hs.2.1, cell_kept hs.2.2.1 hg hr, Nat.le_trans hs.2.2.2 hg.size⟩) _) (ownFrom_below (Nat.le_refl _) (by omega)))
    (fun _ _ _ _ _ hs _ _ => hs)
    ⟨⟨hc1, hf1, hc0, by omega⟩, hbw⟩
    (fun x => { tmps := #[.slice p t.length c, .int .i64 a, .pointer (some ⟨w.heap.size, 0, none⟩), undef, .int .i64 0, .pointer (some ⟨w.heap.size + 1, 0, none⟩), undef, .int .i64 (kidN t a x.i : Nat), .slice p t.length c, .int .i64 a,
      .func (.func 144) #[] #[.pointer (some ⟨w.heap.size + 3, 0, none⟩), .pointer (some ⟨w.heap.size + 2, 0, none⟩)], .int .i64 (x.i : Nat), .int .i64 (kidN t a x.i : Nat), undef, undef, undef, undef, undef, undef, undef], defers := [] }) ?assign ?body ?done ?stop
  case assign =>
    intro l x W K hK
    gi_wp2
    exact hK
  case body =>
    rintro l pre x W ⟨⟨h1, h2, h3, h4⟩, hB⟩ _
    have hmx : Tryz.prog.follows .mixedOrders = true := by kernel_rfl
    have hbd := HK.out.bounds (i := x.i) (by have := x.lt; omega)
    have HKx := Lib.hid (kidsOk (HK.out.step x.lt))
    have l1 := World.block_lt_of_cell? W _ h1
    have l0 := World.block_lt_of_cell? W _ h3
    dsimp only at l1 l0
    generalize hk : kidN t a x.i = k at hbd HKx
    have HE : Hid (maxOf t a (pre ++ [x]) = max (maxOf t a pre) (deepAt t k)) := by show _ = _; rw [maxOf_snoc, hk]
    clear hk
    gi_wp2_with fail
    gi_region_with_o (refine ⟨trivial, ?_⟩; gi_at_call 101; refine (CallsIn.inRound l (callsIn_wide.2 (IH.out k _ (by omega) HKx.out (HS.out.below_ hB.drew) (HN.out.below_ hB.drew)))).mono ?_; rintro e w1 ⟨rfl, hb1⟩; have g1 := (hb1.cell (p := ⟨w.heap.size + 1, 0, none⟩) l1).trans h1; have g2 := (hb1.frozen (p := ⟨w.heap.size + 1, 0, none⟩) l1).trans h2; have g3 := (hb1.cell (p := ⟨w.heap.size, 0, none⟩) l0).trans h3)
    all_goals gi_wp2
    all_goals
      refine deep_round hB hb1 h4 g1 g2 g3 ?_
      rw [HE.out]
      omega
  case done =>
    rintro D xs W hD hxs ⟨⟨h1, h2, h3, h4⟩, hB⟩ hK
    have HE : Hid ((deepAt t a : Int) = (maxOf t a xs : Nat) + 1) := by show _ = _; rw [maxOf_all hxs, deepAt_eq HK.out]; rfl
    have hle := maxOf_le t a xs
    clear hxs
    gi_wp2
    refine ⟨by simp, .inl ⟨_, _, rfl, run_takeDeferred hK, ?_⟩⟩
    refine ⟨_, results_tmp rfl _ _ _, ?_⟩
    refine ⟨ret_int HE.out.symm, hB.trans (belowK_b (w := w) (Nat.le_refl _) W D _ _ (by omega) hK rfl rfl)⟩
  case stop =>
    rintro D c pre W _ _ h _
    exact h.elim

/-- 'deep': the depth of the term at a place. -/
theorem term_deep (p : Option Addr) (c : Nat) (t : List Nd) (a : Nat) (w : World) (hk : KidsOk t a) (hs : ShapeTab w) (hn : Nodes w p t) :
    Calls Tryz.prog 101 #[.slice p t.length c, .int .i64 a] w fun e w' => e = .returned (.int .i64 (deepAt t a : Nat)) ∧ Below w.heap.size w w' := by
  have main : ∀ (m a : Nat) (w : World), t.length ≤ a + m → KidsOk t a → ShapeTab w → Nodes w p t →
      Calls Tryz.prog 101 #[.slice p t.length c, .int .i64 a] w fun e w' => e = .returned (.int .i64 (deepAt t a : Nat)) ∧ Below w.heap.size w w' := by
    intro m
    induction m with
    | zero => intro a w h hk _ _; have := hk.lt; omega
    | succ m ih => intro a w h hk hs hn; exact term_deep_step p c t m ih a w h hk hs hn
  exact main t.length a w (by omega) hk hs hn
end Go.Proofs.YtokfgdpmbmnijaaGreatDoor
/- What chattel/term's Of and Check answer. -/
namespace Go.Proofs.YtokfgdpmbmnijaaGreatDoor
open Go.RowKit Go.Shelf
attribute [local go_sem] Oper.semAt_some

/-- Whether what stands below the node at a place is as its op has it. -/
def sortsAt (t : List Nd) (a : Nat) : Bool := (List.range (many (nd t a).op)).all fun i => makes (nd t (kidN t a i)).op == belowS (nd t a).op i
def sortsOk (t : List Nd) : Bool := (List.range t.length).all fun a => sortsAt t a
/-- What is wrong with a term; 0: nothing. -/
def ofE (t : List Nd) : Int :=
  if 64 < t.length then 15 else if t.length = 0 ∨ endI t 0 ≠ t.length then 13 else if allFields t = false then 10
  else if sortsOk t = false then 14 else if 12 < deepAt t 0 then 15 else 0
def ofS (t : List Nd) : Int := if ofE t = 0 then makes (nd t 0).op else 0

/-- In a term a term begins at every place. -/
theorem endAt_inner {t : List Nd} : ∀ (m x e : Nat), t.length ≤ x + m → endAt t x = some e → ∀ b, x ≤ b → b < e → ∃ e', endAt t b = some e'
  | 0, x, e, hm, h, b, h1, h2 => by have := endAt_le h; omega
  | m + 1, x, e, hm, h, b, h1, h2 => by
    by_cases hb : b = x
    · exact ⟨e, by rw [hb]; exact h⟩
    · have h' := h
      rw [endAt_eq] at h'
      split at h'
      · cases h'
      · rename_i hc
        simp only [not_or] at hc
        have key : ∀ k y e, x < y → endK (endAt t) k y = some e → ∀ b, y ≤ b → b < e → ∃ e', endAt t b = some e' := by
          intro k
          induction k with
          | zero => intro y e hy hk b h1 h2; simp [endK] at hk; omega
          | succ k ih =>
            intro y e hy hk b h1 h2
            simp only [endK, Option.bind_eq_some_iff] at hk
            obtain ⟨z, hz, hr⟩ := hk
            have := endAt_gt hz
            by_cases hbz : b < z
            · exact endAt_inner m y z (by omega) hz b h1 hbz
            · exact ih z e (by omega) hr b (by omega) h2
        exact key _ _ _ (by omega) h' b (by omega) h2
theorem whole_kids {t : List Nd} (h : endI t 0 = t.length) {a : Nat} (ha : a < t.length) : KidsOk t a := by
  rcases endI_cases t 0 with ⟨e1, _⟩ | ⟨b, e1, e2, _, _⟩
  · rw [h] at e1; omega
  · obtain rfl : b = t.length := by rw [h] at e1; omega
    obtain ⟨e', he'⟩ := endAt_inner t.length 0 t.length (by omega) e2 a (by omega) ha
    exact kidsOk he'

set_option maxRecDepth 20000 in
set_option maxHeartbeats 400000 in
theorem term_Of_long (p : Option Addr) (c : Nat) (t : List Nd) (w : World) (hl : 64 < t.length) :
    Calls Tryz.prog 53 #[.slice p t.length c] w fun e w' => e = .returned (.tuple #[.int .i64 0, .int .i64 15]) ∧ Below w.heap.size w w' := by
  go_enter Tryz.func53, Tryz.ntmps53
  go_wp2_with fail
  go_step3
  go_wp2_with fail
  rw [Exit.noGoto_ret]
  go_ret2
  exact ⟨rfl, below_alloc _ _⟩

set_option maxRecDepth 20000 in
set_option maxHeartbeats 1000000 in
theorem term_Of_nil (p : Option Addr) (c : Nat) (w : World) :
    Calls Tryz.prog 53 #[.slice p 0 c] w fun e w' => e = .returned (.tuple #[.int .i64 0, .int .i64 13]) ∧ Below w.heap.size w w' := by
  have hL : ∀ x : Later (w.alloc (.cells #[.slice p 0 c] 22)), x.val.cell? ⟨w.heap.size, 0, none⟩ = some (.slice p 0 c) := fun x => x.new 0 _ rfl
  go_enter Tryz.func53, Tryz.ntmps53
  go_wp2_with fail
  go_step3
  go_wp2_with fail
  refine wp_region_later (by kernel_rfl) (by kernel_rfl) ?_
  repeat (go_big_quiet_step (fail))
  refine wpQuiet_nil ?_
  rintro ⟨w1, hb1⟩
  go_wp2_with fail
  rw [Exit.noGoto_ret]
  go_ret2
  exact ⟨rfl, below_two (below_alloc _ _) hb1⟩

set_option maxRecDepth 20000 in
set_option maxHeartbeats 1000000 in
theorem term_Of_form (p : Option Addr) (c : Nat) (t : List Nd) (w : World) (hl : t.length ≤ 64) (h0 : t.length ≠ 0) (he : endI t 0 ≠ t.length) (hs : ShapeTab w) (hn : Nodes w p t) :
    Calls Tryz.prog 53 #[.slice p t.length c] w fun e w' => e = .returned (.tuple #[.int .i64 0, .int .i64 13]) ∧ Below w.heap.size w w' := by
  have hL : ∀ x : Later (w.alloc (.cells #[.slice p t.length c] 22)), x.val.cell? ⟨w.heap.size, 0, none⟩ = some (.slice p t.length c) := fun x => x.new 0 _ rfl
  have hS : ∀ x : Later (w.alloc (.cells #[.slice p t.length c] 22)), ShapeTab x.val := fun x => hs.below_ (below_two (below_alloc _ _) x.is)
  have hN : ∀ x : Later (w.alloc (.cells #[.slice p t.length c] 22)), Nodes x.val p t := fun x => hn.below_ (below_two (below_alloc _ _) x.is)
  have HS := Lib.hid hS
  have HN := Lib.hid hN
  clear hS hN hs hn
  have h0' : ((t.length : Int) == 0) = false := by rw [beq_eq_false_iff_ne]; omega
  have he' : (endI t 0 != (t.length : Int)) = true := by simp [he]
  clear h0 he
  go_enter Tryz.func53, Tryz.ntmps53
  go_wp2_with fail
  go_step3
  go_wp2_with fail
  refine wp_region_later (by kernel_rfl) (by kernel_rfl) ?_
  repeat (go_big_quiet_step ((go_at_call 55; exact Calls.later (term_end p c t 0 _ (by omega) (HS.out _) (HN.out _)))))
  refine wpQuiet_nil ?_
  rintro ⟨w1, hb1⟩
  go_wp2_with fail
  rw [Exit.noGoto_ret]
  go_ret2
  exact ⟨rfl, below_two (below_alloc _ _) hb1⟩

set_option maxRecDepth 20000 in
set_option maxHeartbeats 1000000 in
theorem term_Of_range (p : Option Addr) (c : Nat) (t : List Nd) (w : World) (hl : t.length ≤ 64) (h0 : t.length ≠ 0) (he : endI t 0 = t.length) (hf : allFields t = false) (hs : ShapeTab w) (hn : Nodes w p t) :
    Calls Tryz.prog 53 #[.slice p t.length c] w fun e w' => e = .returned (.tuple #[.int .i64 0, .int .i64 10]) ∧ Below w.heap.size w w' := by
  have hL : ∀ x : Later (w.alloc (.cells #[.slice p t.length c] 22)), x.val.cell? ⟨w.heap.size, 0, none⟩ = some (.slice p t.length c) := fun x => x.new 0 _ rfl
  have hS : ∀ x : Later (w.alloc (.cells #[.slice p t.length c] 22)), ShapeTab x.val := fun x => hs.below_ (below_two (below_alloc _ _) x.is)
  have hN : ∀ x : Later (w.alloc (.cells #[.slice p t.length c] 22)), Nodes x.val p t := fun x => hn.below_ (below_two (below_alloc _ _) x.is)
  have HS := Lib.hid hS
  have HN := Lib.hid hN
  have HF := Lib.hid hf
  clear hS hN hs hn hf
  have h0' : ((t.length : Int) == 0) = false := by rw [beq_eq_false_iff_ne]; omega
  have he' : (endI t 0 != (t.length : Int)) = false := by simp [he]
  clear h0 he
  go_enter Tryz.func53, Tryz.ntmps53
  go_wp2_with fail
  go_step3
  go_wp2_with fail
  refine wp_region_later (by kernel_rfl) (by kernel_rfl) ?_
  repeat (go_big_quiet_step ((go_at_call 55; exact Calls.later (term_end p c t 0 _ (by omega) (HS.out _) (HN.out _)))))
  refine wpQuiet_nil ?_
  rintro ⟨w1, hb1⟩
  have hc1 : w1.cell? ⟨w.heap.size, 0, none⟩ = some (.slice p t.length c) := (Later.mk w1 hb1).new 0 _ rfl
  have HN1 : Hid (Nodes w1 p t) := HN.out ⟨w1, hb1⟩
  clear hL HS HN
  go_wp2_with (go_at_call 96; refine (nodes_ContainsFunc p c t _ HN1.out).mono ?_; rintro e w2 ⟨rfl, hb2⟩; rw [HF.out])
  rw [Exit.noGoto_ret]
  go_ret2
  exact ⟨rfl, below_two (below_two (below_alloc _ _) hb1) hb2⟩
end Go.Proofs.YtokfgdpmbmnijaaGreatDoor
/- What chattel/term's Of and Check answer: the loop over the nodes. -/
namespace Go.Proofs.YtokfgdpmbmnijaaGreatDoor
open Go.RowKit Go.Shelf
attribute [local go_sem] Oper.semAt_some

theorem run_at0 (b0 b1 b2 b3 : Value) (w : World) : (Instr.index 147 (.agg #[b0, b1, b2, b3]) (.int .i64 0)).run Tryz.prog w = .ok b0 w := by kernel_rfl
theorem run_at1 (b0 b1 b2 b3 : Value) (w : World) : (Instr.index 147 (.agg #[b0, b1, b2, b3]) (.int .i64 1)).run Tryz.prog w = .ok b1 w := by kernel_rfl
theorem run_at2 (b0 b1 b2 b3 : Value) (w : World) : (Instr.index 147 (.agg #[b0, b1, b2, b3]) (.int .i64 2)).run Tryz.prog w = .ok b2 w := by kernel_rfl
theorem run_at3 (b0 b1 b2 b3 : Value) (w : World) : (Instr.index 147 (.agg #[b0, b1, b2, b3]) (.int .i64 3)).run Tryz.prog w = .ok b3 w := by kernel_rfl
theorem run_below_at (op : Int) (i : Nat) (hi : i < 4) (w : World) :
    (Instr.index 147 (.agg #[.int .i64 (belowS op 0), .int .i64 (belowS op 1), .int .i64 (belowS op 2), .int .i64 (belowS op 3)]) (.int .i64 i)).run Tryz.prog w = .ok (.int .i64 (belowS op i)) w := by
  obtain rfl | rfl | rfl | rfl : i = 0 ∨ i = 1 ∨ i = 2 ∨ i = 3 := by omega
  · exact run_at0 _ _ _ _ w
  · exact run_at1 _ _ _ _ w
  · exact run_at2 _ _ _ _ w
  · exact run_at3 _ _ _ _ w

/-- The head of the loop of 'Of'. -/
def OfHead (p : Option Addr) (c : Nat) (t : List Nd) (w : World) (E : Nat) (a : Act) (w' : World) : Prop :=
  ∃ (k : Nat) (ds : List Deferred) (u5 u6 u7 u8 u9 u10 u11 u12 u13 u14 u15 u16 u17 u18 u19 u20 u21 u22 u23 u24 u25 u26 u27 u31 u32 u33 u34 u35 u36 u37 u38 u39 u40 u41 u42 u43 u44 u45 u46 u47 u48 u49 u50 u51 u52 u53 u54 u55 u56 u57 u58 u59 u60 u61 u62 u63 u64 u65 u66 : Value), a = { tmps := #[.slice p t.length c, .pointer (some ⟨w.heap.size, 0, none⟩), .int .i64 0, .int .i64 0, .pointer (some ⟨E, 0, none⟩), u5, u6, u7, u8, u9, u10, u11, u12, u13, u14, u15, u16, u17, u18, u19, u20, u21, u22, u23, u24, u25, u26, u27, .slice p t.length c, .int .i64 t.length, .int .i64 k, u31, u32, u33, u34, u35, u36, u37, u38, u39, u40, u41, u42, u43, u44, u45, u46, u47, u48, u49, u50, u51, u52, u53, u54, u55, u56, u57, u58, u59, u60, u61, u62, u63, u64, u65, u66], defers := ds } ∧ k ≤ t.length ∧ Marks w.heap.size w'.heap.size ds w' ∧
    w'.cell? ⟨w.heap.size, 0, none⟩ = some (.slice p t.length c) ∧ w'.cell? ⟨E, 0, none⟩ = some (.int .i64 0) ∧ w'.frozen? ⟨E, 0, none⟩ = false ∧ Below w.heap.size w w' ∧ (∀ j, j < k → sortsAt t j = true)

set_option maxRecDepth 20000 in
set_option maxHeartbeats 2000000 in
theorem term_Of_rest (p : Option Addr) (c : Nat) (t : List Nd) (w : World) (hl : t.length ≤ 64) (h0 : t.length ≠ 0) (he : endI t 0 = t.length) (hf : allFields t = true) (hs : ShapeTab w) (hn : Nodes w p t) :
    Calls Tryz.prog 53 #[.slice p t.length c] w fun e w' => e = .returned (.tuple #[.int .i64 (ofS t), .int .i64 (ofE t)]) ∧ Below w.heap.size w w' := by
  have hL : ∀ x : Later (w.alloc (.cells #[.slice p t.length c] 22)), x.val.cell? ⟨w.heap.size, 0, none⟩ = some (.slice p t.length c) := fun x => x.new 0 _ rfl
  have hS : ∀ x : Later (w.alloc (.cells #[.slice p t.length c] 22)), ShapeTab x.val := fun x => hs.below_ (below_two (below_alloc _ _) x.is)
  have hN : ∀ x : Later (w.alloc (.cells #[.slice p t.length c] 22)), Nodes x.val p t := fun x => hn.below_ (below_two (below_alloc _ _) x.is)
  have HS := Lib.hid hS
  have HN := Lib.hid hN
  have HF := Lib.hid hf
  have HS0 := Lib.hid hs
  have HN0 := Lib.hid hn
  have HE0 := Lib.hid he
  clear hS hN hf hs hn
  have h0' : ((t.length : Int) == 0) = false := by rw [beq_eq_false_iff_ne]; omega
  have he' : (endI t 0 != (t.length : Int)) = false := by simp [he]
  clear he
  refine calls_of_wp_m 6 Tryz.func53 rfl ?_
  simp only [Tryz.ntmps53, List.size_toArray, List.length_cons, List.length_nil, Nat.reduceAdd, Nat.reduceSub, Array.replicate_succ, Array.replicate_zero, List.push_toArray, List.append_toArray, List.nil_append, List.cons_append]
  go_wp2_with fail
  go_step3
  go_wp2_with fail
  refine wp_region_later (by kernel_rfl) (by kernel_rfl) ?_
  repeat (go_big_quiet_step ((go_at_call 55; exact Calls.later (term_end p c t 0 _ (by omega) (HS.out _) (HN.out _)))))
  refine wpQuiet_nil ?_
  rintro ⟨w1, hb1⟩
  have hc1 : w1.cell? ⟨w.heap.size, 0, none⟩ = some (.slice p t.length c) := (Later.mk w1 hb1).new 0 _ rfl
  have HN1 : Hid (Nodes w1 p t) := HN.out ⟨w1, hb1⟩
  have hz1 := hb1.size
  clear hL HS HN h0' he'
  go_wp2_with fail
  refine (nodes_ContainsFunc p c t _ HN1.out).mono ?_
  rintro e w2 ⟨rfl, hb2⟩
  rw [HF.out]
  have hB2 := below_two (below_two (below_alloc w (.cells #[.slice p t.length c] 22)) hb1) hb2
  have hc2 : w2.cell? ⟨w.heap.size, 0, none⟩ = some (.slice p t.length c) := (hb2.cell (p := ⟨w.heap.size, 0, none⟩) (by simp at hz1; dsimp; omega)).trans hc1
  have hz2 : w.heap.size < w2.heap.size := by have := hb2.size; simp at hz1; omega
  clear hb1 hb2 hc1 HN1 hz1
  go_wp2_with fail
  obtain ⟨W3, hW3⟩ : ∃ W3, w2.alloc (.cells #[.int .i64 0] 24) = W3 := ⟨_, rfl⟩
  obtain ⟨E, hE⟩ : ∃ E, w2.heap.size = E := ⟨_, rfl⟩
  have hB3 : Below w.heap.size w W3 := by rw [← hW3]; exact below_two hB2 (below_alloc _ _)
  have hcT : W3.cell? ⟨w.heap.size, 0, none⟩ = some (.slice p t.length c) := by rw [← hW3]; exact (cell_old _ _ _ hz2).trans hc2
  have hcE : W3.cell? ⟨E, 0, none⟩ = some (.int .i64 0) := by rw [← hW3, ← hE]; exact cell_at _ _ _ _ _ rfl
  have hfE : W3.frozen? ⟨E, 0, none⟩ = false := by rw [← hW3, ← hE]; exact frozen_alloc_eq _ _ _ _ _ rfl
  have hEz : w.heap.size < E := by omega
  rw [hW3, hE]
  clear hW3 hE hc2 hB2 hz2
  go_step3
  go_wp2_with fail
  refine wp_loop (OfHead p c t w E) (fun a _ => t.length - (intOf (a.tmps.getD 30 undef)).toNat) ?_ ?_
  · refine ⟨0, [], ?_⟩
    repeat apply Exists.intro
    exact ⟨rfl, by omega, trivial, hcT, hcE, hfE, hB3, fun j hj => absurd hj (by omega)⟩
  · rintro a' w' ⟨k, ds, u5, u6, u7, u8, u9, u10, u11, u12, u13, u14, u15, u16, u17, u18, u19, u20, u21, u22, u23, u24, u25, u26, u27, u31, u32, u33, u34, u35, u36, u37, u38, u39, u40, u41, u42, u43, u44, u45, u46, u47, u48, u49, u50, u51, u52, u53, u54, u55, u56, u57, u58, u59, u60, u61, u62, u63, u64, u65, u66, rfl, hk, hM, hT, hEc, hEf, hB, hso⟩
    have HSO := Lib.hid hso
    clear hso hcT hcE hfE hB3
    by_cases hlt : k < t.length
    · obtain ⟨b, o, rfl, hin0⟩ := nodes_mem HN0.out hlt
      have hin := hin0.below_ hB
      have c0 := hin.c0 k hlt
      have c1 := hin.c1 k hlt
      have c2 := hin.c2 k hlt
      have c3 := hin.c3 k hlt
      have c4 := hin.c4 k hlt
      have hbz := hin.blk
      clear hin hin0
      have lT := World.block_lt_of_cell? w' _ hT
      have lE := World.block_lt_of_cell? w' _ hEc
      dsimp only at lT lE
      generalize hg : nd t k = n at c0 c1 c2 c3 c4
      have HG := Lib.hid hg
      clear hg
      go_wp2_with fail
      refine (term_kids _ _ _ _ _).mono ?_
      rintro e w4 ⟨rfl, rfl⟩
      go_wp2_with fail
      obtain ⟨W5, hW5⟩ : ∃ W5, ((w'.alloc (.cells #[.int .i64 n.op, .int .i64 n.a, .int .i64 n.b, .int .i64 n.num, .int .i64 n.den] 48)).alloc (.cells #[.slice (some ⟨b, o, none⟩) t.length c] 22)).alloc (.cells #[.int .i64 k] 3) = W5 := ⟨_, rfl⟩
      have hz5 : W5.heap.size = w'.heap.size + 3 := by rw [← hW5]; simp
      have hb5 : Below w'.heap.size w' W5 := by rw [← hW5]; exact below_two (below_two (below_alloc _ _) (below_alloc _ _)) (below_alloc _ _)
      have n0 : W5.cell? ⟨w'.heap.size, 0, none⟩ = some (.int .i64 n.op) := by rw [← hW5]; clear hW5 c0 c1 c2 c3 c4; go_simp
      have k1 : W5.cell? ⟨w'.heap.size + 1, 0, none⟩ = some (.slice (some ⟨b, o, none⟩) t.length c) := by rw [← hW5]; clear hW5 c0 c1 c2 c3 c4; go_simp
      have k2 : W5.cell? ⟨w'.heap.size + 1 + 1, 0, none⟩ = some (.int .i64 k) := by rw [← hW5]; clear hW5 c0 c1 c2 c3 c4; go_simp
      have T5 := (hb5.cell (p := ⟨w.heap.size, 0, none⟩) lT).trans hT
      have E5 := (hb5.cell (p := ⟨E, 0, none⟩) lE).trans hEc
      have F5 := (hb5.frozen (p := ⟨E, 0, none⟩) lE).trans hEf
      have B5 := below_two hB (hb5.mono (Nat.le_refl _))
      rw [hW5]
      clear hW5 c0 c1 c2 c3 c4
      have HK := Lib.hid (whole_kids HE0.out hlt)
      refine (wpIn_wide (n := 6)).1 ?_
      refine wpIn_rangeFunc_ownF (n := 6) rfl (by omega) (gf := 144) (lb := #[.pointer (some ⟨w'.heap.size + 1 + 1, 0, none⟩), .pointer (some ⟨w'.heap.size + 1, 0, none⟩)]) rfl trivial (enters_of Tryz.func144 (by kernel_rfl) rfl)
        (term_kids_stops 5 (w'.heap.size + 1 + 1) (w'.heap.size + 1) _ c t k (fun j => j < w'.heap.size + 3) w W5 HS0.out HN0.out HK.out (fun j hj => by have := hB.size; omega) (by omega) (by omega) B5 (fun j hj => by omega) k2 k1)
        (fun h k => h.trans k) (Kept.putObj (fun j hj => by omega)) (Below.refl _ _) (fun _ => rfl)
        (fun pre W => (∀ x ∈ pre, (makes (nd t (kidN t k x.i)).op == belowS n.op x.i) = true) ∧ Below W5.heap.size W5 W)
        (fun jc pre W => jc = .exit 1 ∧ sortsAt t k = false ∧ Kept (fun j => j < w'.heap.size + 3 ∧ j ≠ E) W5 W ∧ W.cell? ⟨E, 0, none⟩ = some (.int .i64 14))
        (OwnFrom.and (ownFrom_pure _ _) (ownFrom_below (Nat.le_refl _) (Nat.le_refl _)))
        (fun jc s A B row hs hg hr => ⟨hs.1, hs.2.1, hs.2.2.1.trans ⟨hg.os, hg.tape, hg.output, hg.size, fun j hj => hg.block j (by have := hs.2.2.1.size; have := hj.1; omega) (fun e => by have := (hr j e.symm).1; have := hj.1; omega)⟩,
          cell_kept hs.2.2.2 hg (fun r e => (hr r e).2)⟩)
        ⟨fun x hx => absurd hx (by simp), Below.refl _ _⟩
        (fun x => { tmps := #[.slice (some ⟨b, o, none⟩) t.length c, .pointer (some ⟨w.heap.size, 0, none⟩), .int .i64 0, .int .i64 0, .pointer (some ⟨E, 0, none⟩), .int .i64 k, .pointer (some ⟨w'.heap.size, 0, none⟩), .int .i64 (x.i : Nat), .int .i64 (kidN t k x.i : Nat), u9, u10, u11, u12, u13, u14, u15, u16, u17, u18, u19, u20, u21, u22, u23, u24, u25, u26, u27, .slice (some ⟨b, o, none⟩) t.length c, .int .i64 t.length, .int .i64 k, .bool true, .int .i64 k, .pointer (some ⟨b, o + k * 5, none⟩), .agg #[.int .i64 n.op, .int .i64 n.a, .int .i64 n.b, .int .i64 n.num, .int .i64 n.den], .slice (some ⟨b, o, none⟩) t.length c, .int .i64 k, .func (.func 144) #[] #[.pointer (some ⟨w'.heap.size + 1 + 1, 0, none⟩), .pointer (some ⟨w'.heap.size + 1, 0, none⟩)], .int .i64 (x.i : Nat), .int .i64 (kidN t k x.i : Nat), u40, u41, u42, u43, u44, u45, u46, u47, u48, u49, u50, u51, u52, u53, u54, u55, u56, u57, u58, u59, u60, u61, u62, u63, u64, u65, u66], defers := [] }) ?assign ?body ?done ?stop
      case assign =>
        intro l x W K hK
        gi_wp2
        exact hK
      case body =>
        rintro l pre x W ⟨hpre, hbW⟩ _
        have hmx : Tryz.prog.follows .mixedOrders = true := by kernel_rfl
        have hw5 : w.heap.size ≤ W5.heap.size := B5.size
        have BW : Below w.heap.size w W := B5.trans (hbW.mono hw5)
        have T6 := (hbW.cell (p := ⟨w.heap.size, 0, none⟩) (by dsimp; omega)).trans T5
        have E6 := (hbW.cell (p := ⟨E, 0, none⟩) (by dsimp; omega)).trans E5
        have F6 := (hbW.frozen (p := ⟨E, 0, none⟩) (by dsimp; omega)).trans F5
        have N6 := (hbW.cell (p := ⟨w'.heap.size, 0, none⟩) (by dsimp; omega)).trans n0
        have hzW := hbW.size
        have hkx := HK.out.bounds (i := x.i) (by have := x.lt; omega)
        have hkn : kidN t k x.i < t.length := (kidsOk (HK.out.step x.lt)).lt
        have hx4 : x.i < 4 := by have := x.lt; have := many_le (nd t k).op; omega
        obtain ⟨b', o', hbo, hin'⟩ := nodes_mem (HN0.out.below_ BW) hkn
        obtain ⟨rfl, rfl⟩ : b = b' ∧ o = o' := by injection hbo with h; injection h with h1 h2; exact ⟨h1, h2⟩
        have K0 := hin'.c0 _ hkn
        have hbl := hin'.blk
        clear hin' hbo
        obtain ⟨kx, hkk⟩ : ∃ kx, kidN t k x.i = kx := ⟨_, rfl⟩
        obtain ⟨ko, hko⟩ : ∃ ko, (nd t kx).op = ko := ⟨_, rfl⟩
        rw [hkk] at K0 hkn ⊢
        rw [hko] at K0
        have HKO := Lib.hid (show (nd t (kidN t k x.i)).op = ko by rw [hkk]; exact hko)
        have hix := run_below_at n.op x.i hx4
        have HP := Lib.hid hpre
        have lE5 : E < W.heap.size := by omega
        have hT7 : ∀ y : Later W, y.val.cell? ⟨w.heap.size, 0, none⟩ = some (.slice (some ⟨b, o, none⟩) t.length c) := fun y => (y.cell (p := ⟨w.heap.size, 0, none⟩) (by dsimp; omega)).trans T6
        have hK7 : ∀ y : Later W, y.val.cell? ⟨b, o + kx * 5, none⟩ = some (.int .i64 ko) := fun y => (y.cell (p := ⟨b, o + kx * 5, none⟩) hbl).trans K0
        have hN7 : ∀ y : Later W, y.val.cell? ⟨w'.heap.size, 0, none⟩ = some (.int .i64 n.op) := fun y => (y.cell (p := ⟨w'.heap.size, 0, none⟩) (by dsimp; omega)).trans N6
        have HS7 : Hid (∀ y : Later W, ShapeTab y.val) := fun y => HS0.out.below_ (BW.trans (y.is.mono BW.size))
        clear hkk hko hpre hkx hx4 T5 E5 F5 n0 k1 k2 B5 hT hEc hEf hB T6 N6 K0
        cases hq : (makes ko == belowS n.op x.i)
        · have hqn : (makes ko != belowS n.op x.i) = true := by simp [bne, hq]
          have HQ := Lib.hid hq
          clear hq
          gi_wp2_with fail
          refine wpIn_region_later hmx (by kernel_rfl) ?_
          repeat (go_big_quiet_step ((first | (go_at_call 88; exact Calls.later (term_Sort _ _ (HS7.out _))) | (go_at_call 100; exact Calls.later (term_of _ _ (HS7.out _))))))
          refine wpQuiet_nil ?_
          rintro ⟨w9, hb9⟩
          have E9 := (hb9.cell (p := ⟨E, 0, none⟩) lE5).trans E6
          have F9 := (hb9.frozen (p := ⟨E, 0, none⟩) lE5).trans F6
          gi_wp2_with fail
          refine ⟨(keepsOthers_of_below hb9).trans (KeepsOthers.setCell _ _ _), rfl, ?_, (Kept.of_below (below_two hbW hb9) (fun j hj => by have := hj.1; omega)).setCell (fun h => h.2 rfl) _, World.cell?_setCell_same' _ _ _ (by rw [E9]; rfl)⟩
          unfold sortsAt
          rw [List.all_eq_false]
          exact ⟨x.i, List.mem_range.2 x.lt, by rw [HKO.out, HG.out, HQ.out]; simp⟩
        · have hqn : (makes ko != belowS n.op x.i) = false := by simp [bne, hq]
          have HQ := Lib.hid hq
          clear hq
          gi_wp2_with fail
          refine wpIn_region_later hmx (by kernel_rfl) ?_
          repeat (go_big_quiet_step ((first | (go_at_call 88; exact Calls.later (term_Sort _ _ (HS7.out _))) | (go_at_call 100; exact Calls.later (term_of _ _ (HS7.out _))))))
          refine wpQuiet_nil ?_
          rintro ⟨w9, hb9⟩
          gi_wp2_with fail
          refine ⟨keepsOthers_of_below hb9, Kept.of_below hb9 (fun j hj => by omega), ?_, below_two hbW hb9⟩
          intro y hy
          rcases List.mem_append.1 hy with hy | hy
          · exact HP.out y hy
          · rw [List.mem_singleton.1 hy, HKO.out]; exact HQ.out
      case done =>
        rintro D xs W hD hxs ⟨hall, hbW⟩ hKD
        have BW : Below w.heap.size w W := B5.trans (hbW.mono B5.size)
        have T6 := (hbW.cell (p := ⟨w.heap.size, 0, none⟩) (by dsimp; omega)).trans T5
        have E6 := (hbW.cell (p := ⟨E, 0, none⟩) (by dsimp; omega)).trans E5
        have F6 := (hbW.frozen (p := ⟨E, 0, none⟩) (by dsimp; omega)).trans F5
        have hDW := (Array.getElem?_eq_some_iff.1 hKD).1
        have hzw := hB.size
        have HM : Hid (Marks w.heap.size W.heap.size ({ target := .collected D, args := #[] } :: ds) W) :=
          ⟨D, rfl, hDW, by omega, hKD, (hM.others ((keepsOthers_of_below hb5).trans (keepsOthers_of_below hbW))).mono (by omega)⟩
        have HSK : Hid (∀ j, j < k + 1 → sortsAt t j = true) := by
          intro j hj
          by_cases hjk : j = k
          · subst hjk
            unfold sortsAt
            rw [List.all_eq_true]
            intro i hi
            have hi' := List.mem_range.1 hi
            have : i ∈ xs.map (·.i) := by rw [hxs]; exact hi
            obtain ⟨y, hy, rfl⟩ := List.mem_map.1 this
            rw [HG.out]
            exact hall y hy
          · exact HSO.out j (by omega)
        clear hall hxs hKD hM T5 E5 F5 n0 k1 k2 hT hEc hEf
        go_wp2_with fail
        refine ⟨⟨k + 1, { target := .collected D, args := #[] } :: ds, ?_⟩, ?_⟩
        · repeat apply Exists.intro
          exact ⟨rfl, by omega, HM.out, T6, E6, F6, BW, HSK.out⟩
        · simp [intOf]; omega
      case stop =>
        rintro D jc pre W hD hpre ⟨rfl, hbad, hkW, hEW⟩ hKD
        have hzw := hB.size
        have BW : Below w.heap.size w W := B5.trans (hkW.below (fun j hj => ⟨by omega, by omega⟩))
        have hDW := (Array.getElem?_eq_some_iff.1 hKD).1
        have HM : Hid (Marks w.heap.size W.heap.size ({ target := .collected D, args := #[] } :: ds) W) := by
          refine ⟨D, rfl, hDW, by omega, hKD, ?_⟩
          refine ((hM.others (keepsOthers_of_below hb5)).kept (fun D' h1 h2 e => (hkW.block D' ⟨by omega, ?_⟩).trans e)).mono (by omega)
          rintro rfl
          unfold World.cell? at E5
          rw [e] at E5
          cases E5
        have HO : Hid (ofE t = 14 ∧ ofS t = 0) := by
          have : sortsOk t = false := by
            unfold sortsOk
            rw [List.all_eq_false]
            exact ⟨k, List.mem_range.2 hlt, by rw [hbad]; simp⟩
          have : ofE t = 14 := by
            unfold ofE
            rw [if_neg (by omega), if_neg (by simp only [not_or, Decidable.not_not]; exact ⟨h0, HE0.out⟩), if_neg (by rw [HF.out]; simp), if_pos this]
          exact ⟨this, by unfold ofS; rw [this]; rfl⟩
        clear hKD hM T5 E5 F5 n0 k1 k2 hT hEc hEf hbad hkW hpre h0
        refine (wpIn_wide (n := 6)).2 ?_
        have hEL : ∀ y : Later W, y.val.cell? ⟨E, 0, none⟩ = some (.int .i64 14) := fun y => (y.cell (p := ⟨E, 0, none⟩) (World.block_lt_of_cell? W _ hEW)).trans hEW
        go_wp2_with fail
        refine wp_region_later (by kernel_rfl) (by kernel_rfl) ?_
        repeat (go_big_quiet_step (fail))
        refine wpQuiet_nil ?_
        rintro ⟨w9, hb9⟩
        go_wp2_with fail
        rw [Exit.noGoto_ret]
        exact ret_m2 (B := w.heap.size) rfl rfl rfl (Nat.le_trans BW.size hb9.size) (HM.out.others (keepsOthers_of_below hb9))
          (fun w'' hw'' => ⟨ret_int2 HO.out.2.symm HO.out.1.symm, (BW.trans (hb9.mono BW.size)).trans hw''⟩)
    · obtain rfl : k = t.length := by omega
      have hso : sortsOk t = true := by
        unfold sortsOk
        rw [List.all_eq_true]
        exact fun j hj => HSO.out j (List.mem_range.1 hj)
      have HK0 := Lib.hid (whole_kids HE0.out (a := 0) (by omega))
      have HSB := Lib.hid (HS0.out.below_ hB)
      have HNB := Lib.hid (HN0.out.below_ hB)
      have hEz' := World.block_lt_of_cell? w' _ hEc
      have hTz' := World.block_lt_of_cell? w' _ hT
      have hdl := deepAt_le t 0
      have HM := Lib.hid hM
      obtain ⟨b, o, rfl, hin0⟩ := nodes_mem HN0.out (show 0 < t.length by omega)
      have HIN := Lib.hid hin0
      have hn0 : 0 < t.length := by omega
      dsimp only at hEz' hTz'
      clear hlt hM hin0
      by_cases hd : 12 < deepAt t 0
      · have HO : Hid (ofE t = 15 ∧ ofS t = 0) := by
          have : ofE t = 15 := by
            unfold ofE
            rw [if_neg (by omega), if_neg (by simp only [not_or, Decidable.not_not]; exact ⟨h0, HE0.out⟩), if_neg (by rw [HF.out]; simp), if_neg (by rw [hso]; simp), if_pos hd]
          exact ⟨this, by unfold ofS; rw [this]; rfl⟩
        clear hso h0
        go_wp2_with fail
        refine (term_deep _ c t 0 _ HK0.out HSB.out HNB.out).mono ?_
        rintro e w9 ⟨rfl, hb9⟩
        go_wp2_with fail
        rw [Exit.noGoto_ret]
        exact ret_m2 (B := w.heap.size) rfl rfl rfl (Nat.le_trans hB.size hb9.size) (HM.out.others (keepsOthers_of_below hb9))
          (fun w'' hw'' => ⟨ret_int2 HO.out.2.symm HO.out.1.symm, (hB.trans (hb9.mono hB.size)).trans hw''⟩)
      · have HO : Hid (ofE t = 0 ∧ ofS t = makes (nd t 0).op) := by
          have : ofE t = 0 := by
            unfold ofE
            rw [if_neg (by omega), if_neg (by simp only [not_or, Decidable.not_not]; exact ⟨h0, HE0.out⟩), if_neg (by rw [HF.out]; simp), if_neg (by rw [hso]; simp), if_neg hd]
          exact ⟨this, by unfold ofS; rw [if_pos this]⟩
        clear hso h0
        go_wp2_with fail
        refine (term_deep _ c t 0 _ HK0.out HSB.out HNB.out).mono ?_
        rintro e w9 ⟨rfl, hb9⟩
        have hB9 : Below w.heap.size w w9 := hB.trans (hb9.mono hB.size)
        have T9 := (hb9.cell (p := ⟨w.heap.size, 0, none⟩) hTz').trans hT
        have C9 : w9.cell? ⟨b, o, none⟩ = some (.int .i64 (nd t 0).op) := by have := (HIN.out.below_ hB9).c0 0 hn0; simpa using this
        have HS9 := Lib.hid (HS0.out.below_ hB9)
        have HM9 := Lib.hid (HM.out.others (keepsOthers_of_below hb9))
        clear hT hb9 hB
        go_wp2_with fail
        refine (term_Sort _ _ HS9.out).mono ?_
        rintro e w10 ⟨rfl, hb10⟩
        go_wp2_with fail
        rw [Exit.noGoto_ret]
        exact ret_m2 (B := w.heap.size) rfl rfl rfl (Nat.le_trans hB9.size hb10.size) (HM9.out.others (keepsOthers_of_below hb10))
          (fun w'' hw'' => ⟨ret_int2 HO.out.2.symm HO.out.1.symm, (hB9.trans (hb10.mono hB9.size)).trans hw''⟩)

/-- 'Of': the sort of a term, or what is wrong with it. -/
theorem term_Of (p : Option Addr) (c : Nat) (t : List Nd) (w : World) (hs : ShapeTab w) (hn : Nodes w p t) :
    Calls Tryz.prog 53 #[.slice p t.length c] w fun e w' => e = .returned (.tuple #[.int .i64 (ofS t), .int .i64 (ofE t)]) ∧ Below w.heap.size w w' := by
  by_cases h1 : 64 < t.length
  · have : ofE t = 15 := by unfold ofE; rw [if_pos h1]
    rw [show ofS t = 0 by unfold ofS; rw [this]; rfl, this]
    exact term_Of_long p c t w h1
  by_cases h2 : t.length = 0
  · have : ofE t = 13 := by unfold ofE; rw [if_neg h1, if_pos (.inl h2)]
    rw [show ofS t = 0 by unfold ofS; rw [this]; rfl, this, h2]
    exact term_Of_nil p c w
  by_cases h3 : endI t 0 = t.length
  · cases h4 : allFields t
    · have : ofE t = 10 := by unfold ofE; rw [if_neg h1, if_neg (by simp only [not_or, Decidable.not_not]; exact ⟨h2, h3⟩), if_pos h4]
      rw [show ofS t = 0 by unfold ofS; rw [this]; rfl, this]
      exact term_Of_range p c t w (by omega) h2 h3 h4 hs hn
    · exact term_Of_rest p c t w (by omega) h2 h3 h4 hs hn
  · have : ofE t = 13 := by unfold ofE; rw [if_neg h1, if_pos (.inr h3)]
    rw [show ofS t = 0 by unfold ofS; rw [this]; rfl, this]
    exact term_Of_form p c t w (by omega) h2 h3 hs hn

/-- What is wrong with a term that has to be a contract. -/
def checkE (t : List Nd) : Int := if ofE t = 0 ∧ ofS t ≠ 2 then 14 else ofE t

set_option maxHeartbeats 400000 in
/-- 'Check'. -/
theorem term_Check (p : Option Addr) (c : Nat) (t : List Nd) (w : World) (hs : ShapeTab w) (hn : Nodes w p t) :
    Calls Tryz.prog 21 #[.slice p t.length c] w fun e w' => e = .returned (.int .i64 (checkE t)) ∧ Below w.heap.size w w' := by
  have HS := Lib.hid hs
  have HN := Lib.hid hn
  clear hs hn
  by_cases h1 : ofE t = 0
  · by_cases h2 : ofS t = 2
    · have HC : Hid (checkE t = ofE t) := by show _ = _; unfold checkE; rw [if_neg (by simp [h2])]
      have b1 : (ofE t == 0) = true := by simp [h1]
      have b2 : (ofS t != 2) = false := by simp [h2]
      clear h1 h2
      go_enter Tryz.func21, Tryz.ntmps21
      go_wp2_with (go_at_call 53; refine (term_Of p c t _ HS.out HN.out).mono ?_; rintro e w1 ⟨rfl, hb1⟩)
      go_ret
      exact ⟨ret_int HC.out.symm, hb1⟩
    · have HC : Hid (checkE t = 14) := by show _ = _; unfold checkE; rw [if_pos ⟨h1, h2⟩]
      have b1 : (ofE t == 0) = true := by simp [h1]
      have b2 : (ofS t != 2) = true := by simp [h2]
      clear h1 h2
      go_enter Tryz.func21, Tryz.ntmps21
      go_wp2_with (go_at_call 53; refine (term_Of p c t _ HS.out HN.out).mono ?_; rintro e w1 ⟨rfl, hb1⟩)
      go_ret
      exact ⟨ret_int HC.out.symm, hb1⟩
  · have HC : Hid (checkE t = ofE t) := by show _ = _; unfold checkE; rw [if_neg (by simp [h1])]
    have b1 : (ofE t == 0) = false := by simp [h1]
    clear h1
    go_enter Tryz.func21, Tryz.ntmps21
    go_wp2_with (go_at_call 53; refine (term_Of p c t _ HS.out HN.out).mono ?_; rintro e w1 ⟨rfl, hb1⟩)
    go_ret
    exact ⟨ret_int HC.out.symm, hb1⟩
end Go.Proofs.YtokfgdpmbmnijaaGreatDoor
