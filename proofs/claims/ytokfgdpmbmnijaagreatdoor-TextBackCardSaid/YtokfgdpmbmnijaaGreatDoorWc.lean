/- The round of Parse's range: a token's place and its text are laid behind the others, in whatever order. -/
import Derived.Test.YtokfgdpmbmnijaaGreatDoorWb
import Derived.BigRegion
import Derived.Test.YtokfgdpmbmnijaaGreatDoorWa
import Derived.Deep.RegionHeld3
import Derived.Shelf.Strings.SlTrimAscii
namespace Go.Proofs.YtokfgdpmbmnijaaGreatDoor
open Go.RowKit

def parseOps : Array Oper := #[{ dst := some 17, op := Op.load 81 (Operand.tmp 5), type := 81, pos := "text.go:226", after := #[], guard := none }, { dst := some 18, op := Op.load 81 (Operand.tmp 5), type := 81, pos := "text.go:226", after := #[{ on := 21, ground := Ground.gcOnly Departure.lateStores }], guard := none }, { dst := some 19, op := Op.load 81 (Operand.tmp 5), type := 81, pos := "text.go:226", after := #[], guard := none }, { dst := some 20, op := Op.nilCheck (Operand.tmp 19), type := 0, pos := "text.go:226", after := #[{ on := 2, ground := Ground.data }], guard := none }, { dst := some 21, op := Op.fieldAddr 86 (Operand.tmp 20) 0, type := 0, pos := "text.go:226", after := #[{ on := 3, ground := Ground.data }], guard := none }, { dst := some 22, op := Op.fieldAddr 84 (Operand.tmp 21) 0, type := 0, pos := "text.go:226", after := #[{ on := 4, ground := Ground.data }], guard := none }, { dst := some 23, op := Op.load 36 (Operand.tmp 22), type := 36, pos := "text.go:226", after := #[{ on := 5, ground := Ground.data }], guard := none }, { dst := some 24, op := Op.move (Operand.tmp 6), type := 3, pos := "text.go:226", after := #[], guard := none }, { dst := some 25, op := Op.buildSlice 36 1 #[(0, Operand.tmp 24)], type := 36, pos := "text.go:226", after := #[{ on := 7, ground := Ground.data }], guard := none }, { dst := some 26, op := Op.call { callee := Callee.builtin Builtin.append, args := #[Operand.tmp 23, Operand.tmp 25], argTypes := #[36, 36] }, type := 36, pos := "text.go:226", after := #[{ on := 6, ground := Ground.data }, { on := 8, ground := Ground.data }], guard := none }, { dst := some 27, op := Op.load 81 (Operand.tmp 5), type := 81, pos := "text.go:226", after := #[], guard := none }, { dst := some 28, op := Op.nilCheck (Operand.tmp 27), type := 0, pos := "text.go:226", after := #[{ on := 10, ground := Ground.data }], guard := none }, { dst := some 29, op := Op.fieldAddr 86 (Operand.tmp 28) 0, type := 0, pos := "text.go:226", after := #[{ on := 11, ground := Ground.data }], guard := none }, { dst := some 30, op := Op.fieldAddr 84 (Operand.tmp 29) 1, type := 0, pos := "text.go:226", after := #[{ on := 12, ground := Ground.data }], guard := none }, { dst := some 31, op := Op.load 82 (Operand.tmp 30), type := 82, pos := "text.go:226", after := #[{ on := 13, ground := Ground.data }], guard := none }, { dst := some 32, op := Op.move (Operand.tmp 7), type := 9, pos := "text.go:226", after := #[], guard := none }, { dst := some 33, op := Op.buildSlice 82 1 #[(0, Operand.tmp 32)], type := 82, pos := "text.go:226", after := #[{ on := 15, ground := Ground.data }], guard := none }, { dst := some 34, op := Op.call { callee := Callee.builtin Builtin.append, args := #[Operand.tmp 31, Operand.tmp 33], argTypes := #[82, 82] }, type := 82, pos := "text.go:226", after := #[{ on := 14, ground := Ground.data }, { on := 16, ground := Ground.data }, { on := 9, ground := Ground.chain }], guard := none }, { dst := some 35, op := Op.nilCheck (Operand.tmp 17), type := 0, pos := "text.go:226", after := #[{ on := 0, ground := Ground.data }, { on := 0, ground := Ground.phase }, { on := 1, ground := Ground.textOnly Departure.lateStores }, { on := 2, ground := Ground.phase }, { on := 3, ground := Ground.phase }, { on := 4, ground := Ground.phase }, { on := 5, ground := Ground.phase }, { on := 6, ground := Ground.phase }, { on := 7, ground := Ground.phase }, { on := 8, ground := Ground.phase }, { on := 9, ground := Ground.phase }, { on := 10, ground := Ground.textOnly Departure.lateStores }, { on := 11, ground := Ground.textOnly Departure.lateStoresUnsure }, { on := 12, ground := Ground.textOnly Departure.lateStoresUnsure }, { on := 13, ground := Ground.textOnly Departure.lateStoresUnsure }, { on := 14, ground := Ground.phase }, { on := 15, ground := Ground.textOnly Departure.lateStores }, { on := 16, ground := Ground.textOnly Departure.lateStoresUnsure }, { on := 17, ground := Ground.phase }], guard := none }, { dst := some 36, op := Op.fieldAddr 86 (Operand.tmp 35) 0, type := 0, pos := "text.go:226", after := #[{ on := 18, ground := Ground.data }, { on := 0, ground := Ground.phase }, { on := 1, ground := Ground.textOnly Departure.lateStores }, { on := 2, ground := Ground.phase }, { on := 3, ground := Ground.phase }, { on := 4, ground := Ground.phase }, { on := 5, ground := Ground.phase }, { on := 6, ground := Ground.phase }, { on := 7, ground := Ground.phase }, { on := 8, ground := Ground.phase }, { on := 9, ground := Ground.phase }, { on := 10, ground := Ground.textOnly Departure.lateStores }, { on := 11, ground := Ground.textOnly Departure.lateStoresUnsure }, { on := 12, ground := Ground.textOnly Departure.lateStoresUnsure }, { on := 13, ground := Ground.textOnly Departure.lateStoresUnsure }, { on := 14, ground := Ground.phase }, { on := 15, ground := Ground.textOnly Departure.lateStores }, { on := 16, ground := Ground.textOnly Departure.lateStoresUnsure }, { on := 17, ground := Ground.phase }], guard := none }, { dst := some 37, op := Op.fieldAddr 84 (Operand.tmp 36) 0, type := 0, pos := "text.go:226", after := #[{ on := 19, ground := Ground.data }, { on := 0, ground := Ground.phase }, { on := 1, ground := Ground.textOnly Departure.lateStores }, { on := 2, ground := Ground.phase }, { on := 3, ground := Ground.phase }, { on := 4, ground := Ground.phase }, { on := 5, ground := Ground.phase }, { on := 6, ground := Ground.phase }, { on := 7, ground := Ground.phase }, { on := 8, ground := Ground.phase }, { on := 9, ground := Ground.phase }, { on := 10, ground := Ground.textOnly Departure.lateStores }, { on := 11, ground := Ground.textOnly Departure.lateStoresUnsure }, { on := 12, ground := Ground.textOnly Departure.lateStoresUnsure }, { on := 13, ground := Ground.textOnly Departure.lateStoresUnsure }, { on := 14, ground := Ground.phase }, { on := 15, ground := Ground.textOnly Departure.lateStores }, { on := 16, ground := Ground.textOnly Departure.lateStoresUnsure }, { on := 17, ground := Ground.phase }], guard := none }, { dst := none, op := Op.store 36 (Operand.tmp 37) (Operand.tmp 26), type := 0, pos := "text.go:226", after := #[{ on := 20, ground := Ground.data }, { on := 9, ground := Ground.data }, { on := 17, ground := Ground.chain }, { on := 0, ground := Ground.phase }, { on := 1, ground := Ground.textOnly Departure.lateStores }, { on := 2, ground := Ground.phase }, { on := 3, ground := Ground.phase }, { on := 4, ground := Ground.phase }, { on := 5, ground := Ground.phase }, { on := 6, ground := Ground.phase }, { on := 7, ground := Ground.phase }, { on := 8, ground := Ground.phase }, { on := 9, ground := Ground.phase }, { on := 10, ground := Ground.textOnly Departure.lateStores }, { on := 11, ground := Ground.textOnly Departure.lateStoresUnsure }, { on := 12, ground := Ground.textOnly Departure.lateStoresUnsure }, { on := 13, ground := Ground.textOnly Departure.lateStoresUnsure }, { on := 14, ground := Ground.phase }, { on := 15, ground := Ground.textOnly Departure.lateStores }, { on := 16, ground := Ground.textOnly Departure.lateStoresUnsure }, { on := 17, ground := Ground.phase }], guard := none }, { dst := some 38, op := Op.nilCheck (Operand.tmp 18), type := 0, pos := "text.go:226", after := #[{ on := 1, ground := Ground.data }, { on := 0, ground := Ground.phase }, { on := 1, ground := Ground.phase }, { on := 2, ground := Ground.phase }, { on := 3, ground := Ground.phase }, { on := 4, ground := Ground.phase }, { on := 5, ground := Ground.phase }, { on := 6, ground := Ground.phase }, { on := 7, ground := Ground.phase }, { on := 8, ground := Ground.phase }, { on := 9, ground := Ground.phase }, { on := 10, ground := Ground.phase }, { on := 11, ground := Ground.phase }, { on := 12, ground := Ground.phase }, { on := 13, ground := Ground.phase }, { on := 14, ground := Ground.phase }, { on := 15, ground := Ground.phase }, { on := 16, ground := Ground.phase }, { on := 17, ground := Ground.phase }, { on := 18, ground := Ground.phase }, { on := 19, ground := Ground.phase }, { on := 20, ground := Ground.phase }, { on := 21, ground := Ground.phase }], guard := none }, { dst := some 39, op := Op.fieldAddr 86 (Operand.tmp 38) 0, type := 0, pos := "text.go:226", after := #[{ on := 22, ground := Ground.data }, { on := 0, ground := Ground.phase }, { on := 1, ground := Ground.phase }, { on := 2, ground := Ground.phase }, { on := 3, ground := Ground.phase }, { on := 4, ground := Ground.phase }, { on := 5, ground := Ground.phase }, { on := 6, ground := Ground.phase }, { on := 7, ground := Ground.phase }, { on := 8, ground := Ground.phase }, { on := 9, ground := Ground.phase }, { on := 10, ground := Ground.phase }, { on := 11, ground := Ground.phase }, { on := 12, ground := Ground.phase }, { on := 13, ground := Ground.phase }, { on := 14, ground := Ground.phase }, { on := 15, ground := Ground.phase }, { on := 16, ground := Ground.phase }, { on := 17, ground := Ground.phase }, { on := 18, ground := Ground.phase }, { on := 19, ground := Ground.phase }, { on := 20, ground := Ground.phase }, { on := 21, ground := Ground.phase }], guard := none }, { dst := some 40, op := Op.fieldAddr 84 (Operand.tmp 39) 1, type := 0, pos := "text.go:226", after := #[{ on := 23, ground := Ground.data }, { on := 0, ground := Ground.phase }, { on := 1, ground := Ground.phase }, { on := 2, ground := Ground.phase }, { on := 3, ground := Ground.phase }, { on := 4, ground := Ground.phase }, { on := 5, ground := Ground.phase }, { on := 6, ground := Ground.phase }, { on := 7, ground := Ground.phase }, { on := 8, ground := Ground.phase }, { on := 9, ground := Ground.phase }, { on := 10, ground := Ground.phase }, { on := 11, ground := Ground.phase }, { on := 12, ground := Ground.phase }, { on := 13, ground := Ground.phase }, { on := 14, ground := Ground.phase }, { on := 15, ground := Ground.phase }, { on := 16, ground := Ground.phase }, { on := 17, ground := Ground.phase }, { on := 18, ground := Ground.phase }, { on := 19, ground := Ground.phase }, { on := 20, ground := Ground.phase }, { on := 21, ground := Ground.phase }], guard := none }, { dst := none, op := Op.store 82 (Operand.tmp 40) (Operand.tmp 34), type := 0, pos := "text.go:226", after := #[{ on := 24, ground := Ground.data }, { on := 17, ground := Ground.data }, { on := 21, ground := Ground.chain }, { on := 0, ground := Ground.phase }, { on := 1, ground := Ground.phase }, { on := 2, ground := Ground.phase }, { on := 3, ground := Ground.phase }, { on := 4, ground := Ground.phase }, { on := 5, ground := Ground.phase }, { on := 6, ground := Ground.phase }, { on := 7, ground := Ground.phase }, { on := 8, ground := Ground.phase }, { on := 9, ground := Ground.phase }, { on := 10, ground := Ground.phase }, { on := 11, ground := Ground.phase }, { on := 12, ground := Ground.phase }, { on := 13, ground := Ground.phase }, { on := 14, ground := Ground.phase }, { on := 15, ground := Ground.phase }, { on := 16, ground := Ground.phase }, { on := 17, ground := Ground.phase }, { on := 18, ground := Ground.phase }, { on := 19, ground := Ground.phase }, { on := 20, ground := Ground.phase }, { on := 21, ground := Ground.phase }], guard := none }]
theorem parseOps_size : parseOps.size = 26 := rfl
theorem parseOps_back : ∀ (i : Nat) (o : Oper), parseOps[i]? = some o → ∀ e ∈ o.after, Region.binds .any e = true → e.on < i := by
  have h : (List.range 26).all (fun i => ((parseOps[i]?).map (fun o => o.after.all (fun e => !Region.binds .any e || decide (e.on < i)))).getD true) = true := by kernel_rfl
  intro i o ho e he hb
  have hi : i < 26 := by
    rcases Nat.lt_or_ge i 26 with h' | h'
    · exact h'
    · rw [Array.getElem?_eq_none (by rw [parseOps_size]; exact h')] at ho; cases ho
  have h1 := List.all_eq_true.1 h i (List.mem_range.2 hi)
  rw [ho] at h1
  simp only [Option.map_some, Option.getD_some, Array.all_eq_true_iff_forall_mem, Bool.or_eq_true, Bool.not_eq_true', decide_eq_true_eq] at h1
  rcases h1 e he with h2 | h2
  · rw [h2] at hb; cases hb
  · exact h2
/-- The slot of an operation that reads alone. -/
def pSlot (j : Nat) : Nat :=
  match j with
  | 0 => 17 | 1 => 18 | 2 => 19 | 3 => 20 | 4 => 21 | 5 => 22 | 6 => 23 | 7 => 24 | 10 => 27 | 11 => 28 | 12 => 29 | 13 => 30 | 14 => 31 | 15 => 32 | 18 => 35 | 19 => 36 | 20 => 37 | 22 => 38 | 23 => 39 | 24 => 40
  | _ => 0
/-- .. and what it yields. -/
def pCst (pb : Nat) (pv xv : Value) (at_ : Nat) (x : ByteArray) (j : Nat) : Value :=
  match j with
  | 6 => pv | 7 => .int .i64 at_ | 13 => .pointer (some ⟨pb, 1, none⟩) | 14 => xv | 15 => .string x | 24 => .pointer (some ⟨pb, 1, none⟩)
  | _ => .pointer (some ⟨pb, 0, none⟩)
structure PInv (W0 : World) (B pbox pb : Nat) (sz : Int) (pv xv : Value) (n : Nat) (ps xs : List Value) (at_ : Nat) (x : ByteArray) (l : Array Bool) (a : Act) (w : World) : Prop where
  lsz : l.size = 26
  asz : a.tmps.size = 86
  t5 : a.tmps.getD 5 undef = .pointer (some ⟨pbox, 0, none⟩)
  t6 : a.tmps.getD 6 undef = .int .i64 at_
  t7 : a.tmps.getD 7 undef = .string x
  det : ∀ j, j < 26 → pSlot j ≠ 0 → l.getD j false = true → a.tmps.getD (pSlot j) undef = pCst pb pv xv at_ x j
  d9 : l.getD 9 false = true → l.getD 6 false = true ∧ l.getD 8 false = true
  d17 : l.getD 17 false = true → l.getD 14 false = true ∧ l.getD 16 false = true
  d21 : l.getD 21 false = true → l.getD 9 false = true ∧ l.getD 17 false = true
  d25 : l.getD 25 false = true → l.getD 21 false = true
  w8 : l.getD 8 false = true → ∃ g, a.tmps.getD 25 undef = .slice (some ⟨g, 0, none⟩) 1 1 ∧ w.cell? ⟨g, 0, none⟩ = some (.int .i64 at_) ∧ W0.heap.size ≤ g
  w16 : l.getD 16 false = true → ∃ g, a.tmps.getD 33 undef = .slice (some ⟨g, 0, none⟩) 1 1 ∧ w.cell? ⟨g, 0, none⟩ = some (.string x) ∧ W0.heap.size ≤ g
  w9 : if l.getD 9 false then w.ownsRow B 3 1 (a.tmps.getD 26 undef) (n + 1) (ps ++ [.int .i64 at_]) else w.ownsRow B 3 1 pv n ps
  w17 : if l.getD 17 false then w.ownsRow B 9 1 (a.tmps.getD 34 undef) (n + 1) (xs ++ [.string x]) else w.ownsRow B 9 1 xv n xs
  pbk : w.heap[pb]? = some (.cells #[if l.getD 21 false then a.tmps.getD 26 undef else pv, if l.getD 25 false then a.tmps.getD 34 undef else xv, .int .i64 sz, .int .i64 0, .int .i64 0, .slice none 0 0] 86 (0, 0))
  box : w.cell? ⟨pbox, 0, none⟩ = some (.pointer (some ⟨pb, 0, none⟩))
  keep : Kept (fun k => k < W0.heap.size ∧ k ≠ pb ∧ some k ≠ pv.ownBlock ∧ some k ≠ xv.ownBlock) W0 w
  oth : KeepsOthers W0 w

theorem getD_set {l : Array Bool} {i j : Nat} (hi : i < l.size) : (l.setIfInBounds i true).getD j false = (if j = i then true else l.getD j false) := by
  simp only [Array.getD_eq_getD_getElem?, Array.getElem?_setIfInBounds]
  by_cases h : j = i
  · subst h; simp [hi]
  · have h' : ¬ i = j := fun e => h e.symm
    simp [h, h']
theorem getV_set {l : Array Value} {i j : Nat} {v : Value} (hi : i < l.size) : (l.setIfInBounds i v).getD j undef = (if j = i then v else l.getD j undef) := by
  simp only [Array.getD_eq_getD_getElem?, Array.getElem?_setIfInBounds]
  by_cases h : j = i
  · subst h; simp [hi]
  · have h' : ¬ i = j := fun e => h e.symm
    simp [h, h']
section
variable {W0 : World} {B pbox pb : Nat} {sz : Int} {pv xv : Value} {n : Nat} {ps xs : List Value} {at_ : Nat} {x : ByteArray} {l : Array Bool} {a : Act} {w : World}
set_option synthInstance.maxSize 2000 in
set_option synthInstance.maxHeartbeats 400000 in
theorem pSlot_bd : ∀ j, j < 26 → pSlot j ≠ 0 → pSlot j < 86 ∧ pSlot j ≠ 5 ∧ pSlot j ≠ 6 ∧ pSlot j ≠ 7 ∧ pSlot j ≠ 25 ∧ pSlot j ≠ 26 ∧ pSlot j ≠ 33 ∧ pSlot j ≠ 34 ∧ j ≠ 8 ∧ j ≠ 9 ∧ j ≠ 16 ∧ j ≠ 17 ∧ j ≠ 21 ∧ j ≠ 25 := by decide
theorem pSlot_inj : ∀ j, j < 26 → ∀ k, k < 26 → pSlot j ≠ 0 → pSlot j = pSlot k → j = k := by decide
/-- An operation that reads alone. -/
theorem PInv.read (h : PInv W0 B pbox pb sz pv xv n ps xs at_ x l a w) (j : Nat) (hj : j < 26) (hs : pSlot j ≠ 0) : PInv W0 B pbox pb sz pv xv n ps xs at_ x (l.setIfInBounds j true) (a.put (some (pSlot j)) (pCst pb pv xv at_ x j)) w := by
  obtain ⟨b1, b2, b3, b4, b5, b6, b7, b8, c1, c2, c3, c4, c5, c6⟩ := pSlot_bd j hj hs
  have hjl : j < l.size := by rw [h.lsz]; exact hj
  have hal : pSlot j < a.tmps.size := by rw [h.asz]; exact b1
  have gl : ∀ k, (l.setIfInBounds j true).getD k false = (if k = j then true else l.getD k false) := fun k => getD_set hjl
  have ga : ∀ k, (a.put (some (pSlot j)) (pCst pb pv xv at_ x j)).tmps.getD k undef = (if k = pSlot j then pCst pb pv xv at_ x j else a.tmps.getD k undef) := fun k => getV_set hal
  have gl' : ∀ k, k ≠ j → (l.setIfInBounds j true).getD k false = l.getD k false := fun k hk => by rw [gl, if_neg hk]
  have ga' : ∀ k, k ≠ pSlot j → (a.put (some (pSlot j)) (pCst pb pv xv at_ x j)).tmps.getD k undef = a.tmps.getD k undef := fun k hk => by rw [ga, if_neg hk]
  have up : ∀ k, l.getD k false = true → (l.setIfInBounds j true).getD k false = true := fun k hk => by rw [gl]; split <;> first | rfl | exact hk
  refine ⟨by simpa using h.lsz, by simpa [Act.put] using h.asz, ?_, ?_, ?_, ?_, ?_, ?_, ?_, ?_, ?_, ?_, ?_, ?_, ?_, h.box, h.keep, h.oth⟩
  · rw [ga' _ (Ne.symm b2)]; exact h.t5
  · rw [ga' _ (Ne.symm b3)]; exact h.t6
  · rw [ga' _ (Ne.symm b4)]; exact h.t7
  · intro k hk hks hkl
    by_cases hkj : k = j
    · subst hkj; rw [ga, if_pos rfl]
    · rw [ga' _ (fun e => hkj (pSlot_inj k hk j hj hks e))]
      exact h.det k hk hks (by rwa [gl' _ hkj] at hkl)
  · rw [gl' 9 (Ne.symm c2)]; exact fun e => ⟨up _ (h.d9 e).1, up _ (h.d9 e).2⟩
  · rw [gl' 17 (Ne.symm c4)]; exact fun e => ⟨up _ (h.d17 e).1, up _ (h.d17 e).2⟩
  · rw [gl' 21 (Ne.symm c5)]; exact fun e => ⟨up _ (h.d21 e).1, up _ (h.d21 e).2⟩
  · rw [gl' 25 (Ne.symm c6)]; exact fun e => up _ (h.d25 e)
  · rw [gl' 8 (Ne.symm c1), ga' 25 (Ne.symm b5)]; exact h.w8
  · rw [gl' 16 (Ne.symm c3), ga' 33 (Ne.symm b7)]; exact h.w16
  · rw [gl' 9 (Ne.symm c2), ga' 26 (Ne.symm b6)]; exact h.w9
  · rw [gl' 17 (Ne.symm c4), ga' 34 (Ne.symm b8)]; exact h.w17
  · rw [gl' 21 (Ne.symm c5), gl' 25 (Ne.symm c6), ga' 26 (Ne.symm b6), ga' 34 (Ne.symm b8)]; exact h.pbk
theorem own_type {e : TypeId} {v : Value} {k : Nat} {zs : List Value} (h : w.ownsRow B e 1 v k zs) : ∀ j, v.ownBlock = some j → B ≤ j ∧ ∃ cur, w.heap[j]? = some (.cells cur e (0, 0)) := by
  intro j hj
  rcases h.2 with ⟨rfl, _⟩ | ⟨g, cap, cur, rfl, h1, h2, _⟩
  · cases hj
  · have : g = j := by simpa [Value.ownBlock] using hj
    subst this
    exact ⟨h1, cur, h2⟩
theorem own_parts {e f : TypeId} (hef : e ≠ f) {v u : Value} {k m : Nat} {zs ys : List Value} (h : w.ownsRow B e 1 v k zs) (h' : w.ownsRow B f 1 u m ys) : v.ownBlock = none ∨ v.ownBlock ≠ u.ownBlock := by
  cases hv : v.ownBlock with
  | none => exact .inl rfl
  | some j =>
    refine .inr fun e' => ?_
    obtain ⟨_, c1, h1⟩ := own_type h j hv
    obtain ⟨_, c2, h2⟩ := own_type h' j e'.symm
    rw [h1] at h2
    simp only [Option.some.injEq, Obj.cells.injEq] at h2
    exact hef h2.2.1
/-- What stands when the world has grown, but for one own row. -/
theorem PInv.grow (h : PInv W0 B pbox pb sz pv xv n ps xs at_ x l a w) (hpb : pb < B) (hpx : pbox < B) {w' : World} {row : Option Nat} (hg : w.grownBy w' row)
    (hrow : ∀ k, row = some k → B ≤ k ∧ k < W0.heap.size ∧ (some k = pv.ownBlock ∨ some k = xv.ownBlock) ∧ ∃ cur e, w.heap[k]? = some (.cells cur e (0, 0))) :
    (∀ g v, w.cell? ⟨g, 0, none⟩ = some v → W0.heap.size ≤ g → w'.cell? ⟨g, 0, none⟩ = some v) ∧ w'.heap[pb]? = w.heap[pb]? ∧ w'.cell? ⟨pbox, 0, none⟩ = some (.pointer (some ⟨pb, 0, none⟩)) ∧
    Kept (fun k => k < W0.heap.size ∧ k ≠ pb ∧ some k ≠ pv.ownBlock ∧ some k ≠ xv.ownBlock) W0 w' ∧ KeepsOthers W0 w' := by
  have hpl : pb < w.heap.size := (Array.getElem?_eq_some_iff.1 h.pbk).1
  refine ⟨fun g v hv hgg => hg.cell hv (fun e => by have := (hrow g e.symm).2.1; omega), hg.block pb hpl (fun e => by have := (hrow pb e.symm).1; omega),
    hg.cell h.box (fun e => by have := (hrow pbox e.symm).1; omega), ?_, ?_⟩
  · refine h.keep.trans ⟨hg.os, hg.tape, hg.output, hg.size, fun k hk => hg.block k (by have := h.keep.size; omega) (fun e => ?_)⟩
    rcases (hrow k e.symm).2.2.1 with e1 | e1
    · exact hk.2.2.1 e1
    · exact hk.2.2.2 e1
  · refine h.oth.trans ⟨hg.size, fun k o hk ho => (hg.block k (Array.getElem?_eq_some_iff.1 hk).1 (fun e => ?_)).trans hk⟩
    obtain ⟨_, _, _, cur, t, hc⟩ := hrow k e.symm
    rw [hc] at hk
    cases hk
    cases ho
theorem PInv.build8 (h : PInv W0 B pbox pb sz pv xv n ps xs at_ x l a w) (hpb : pb < B) (hpx : pbox < B) : PInv W0 B pbox pb sz pv xv n ps xs at_ x (l.setIfInBounds 8 true) (a.put (some 25) (.slice (some ⟨w.heap.size, 0, none⟩) 1 1)) (w.alloc (.cells #[.int .i64 at_] 3)) := by
  have hjl : 8 < l.size := by rw [h.lsz]; decide
  have gl : ∀ k, (l.setIfInBounds 8 true).getD k false = (if k = 8 then true else l.getD k false) := fun k => getD_set hjl
  have gl' : ∀ k, k ≠ 8 → (l.setIfInBounds 8 true).getD k false = l.getD k false := fun k hk => by rw [gl, if_neg hk]
  have up : ∀ k, l.getD k false = true → (l.setIfInBounds 8 true).getD k false = true := fun k hk => by rw [gl]; split <;> first | rfl | exact hk
  have hal : 25 < a.tmps.size := by rw [h.asz]; decide
  have ga : ∀ k, (a.put (some 25) (.slice (some ⟨w.heap.size, 0, none⟩) 1 1)).tmps.getD k undef = (if k = 25 then (.slice (some ⟨w.heap.size, 0, none⟩) 1 1) else a.tmps.getD k undef) := fun k => getV_set hal
  have ga' : ∀ k, k ≠ 25 → (a.put (some 25) (.slice (some ⟨w.heap.size, 0, none⟩) 1 1)).tmps.getD k undef = a.tmps.getD k undef := fun k hk => by rw [ga, if_neg hk]
  have hg := World.grownBy_alloc w (.cells #[.int .i64 at_] 3) none
  obtain ⟨q1, q2, q3, q4, q5⟩ := h.grow hpb hpx hg (fun k e => by cases e)
  have hone : ∀ {e : TypeId} {v : Value} {k : Nat} {zs : List Value}, w.ownsRow B e 1 v k zs → (w.alloc (.cells #[.int .i64 at_] 3)).ownsRow B e 1 v k zs := fun ho => ho.alloc _
  refine ⟨by simpa using h.lsz, by simpa [Act.put] using h.asz, ?_, ?_, ?_, ?_, ?_, ?_, ?_, ?_, ?_, ?_, ?_, ?_, ?_, q3, q4, q5⟩
  · rw [ga' 5 (by decide)]; exact h.t5
  · rw [ga' 6 (by decide)]; exact h.t6
  · rw [ga' 7 (by decide)]; exact h.t7
  · intro k hk hks hkl
    have hb := pSlot_bd k hk hks
    rw [ga' _ (by omega)]
    exact h.det k hk hks (by rwa [gl' _ (by omega)] at hkl)
  · rw [gl' 9 (by decide)]; exact fun e => ⟨up _ (h.d9 e).1, up _ (h.d9 e).2⟩
  · rw [gl' 17 (by decide)]; exact fun e => ⟨up _ (h.d17 e).1, up _ (h.d17 e).2⟩
  · rw [gl' 21 (by decide)]; exact fun e => ⟨up _ (h.d21 e).1, up _ (h.d21 e).2⟩
  · rw [gl' 25 (by decide)]; exact fun e => up _ (h.d25 e)
  · intro _; exact ⟨w.heap.size, by rw [ga, if_pos rfl], cell_at _ _ _ _ _ rfl, h.keep.size⟩
  · rw [gl' 16 (by decide), ga' 33 (by decide)]; exact fun e => let ⟨g, e1, e2, e3⟩ := h.w16 e; ⟨g, e1, q1 g _ e2 e3, e3⟩
  · rw [gl' 9 (by decide), ga' 26 (by decide)]; have := h.w9; cases hb : l.getD 9 false <;> (rw [hb] at this; exact hone this)
  · rw [gl' 17 (by decide), ga' 34 (by decide)]; have := h.w17; cases hb : l.getD 17 false <;> (rw [hb] at this; exact hone this)
  · rw [gl' 21 (by decide), gl' 25 (by decide), ga' 26 (by decide), ga' 34 (by decide), q2]; exact h.pbk
theorem PInv.build16 (h : PInv W0 B pbox pb sz pv xv n ps xs at_ x l a w) (hpb : pb < B) (hpx : pbox < B) : PInv W0 B pbox pb sz pv xv n ps xs at_ x (l.setIfInBounds 16 true) (a.put (some 33) (.slice (some ⟨w.heap.size, 0, none⟩) 1 1)) (w.alloc (.cells #[.string x] 9)) := by
  have hjl : 16 < l.size := by rw [h.lsz]; decide
  have gl : ∀ k, (l.setIfInBounds 16 true).getD k false = (if k = 16 then true else l.getD k false) := fun k => getD_set hjl
  have gl' : ∀ k, k ≠ 16 → (l.setIfInBounds 16 true).getD k false = l.getD k false := fun k hk => by rw [gl, if_neg hk]
  have up : ∀ k, l.getD k false = true → (l.setIfInBounds 16 true).getD k false = true := fun k hk => by rw [gl]; split <;> first | rfl | exact hk
  have hal : 33 < a.tmps.size := by rw [h.asz]; decide
  have ga : ∀ k, (a.put (some 33) (.slice (some ⟨w.heap.size, 0, none⟩) 1 1)).tmps.getD k undef = (if k = 33 then (.slice (some ⟨w.heap.size, 0, none⟩) 1 1) else a.tmps.getD k undef) := fun k => getV_set hal
  have ga' : ∀ k, k ≠ 33 → (a.put (some 33) (.slice (some ⟨w.heap.size, 0, none⟩) 1 1)).tmps.getD k undef = a.tmps.getD k undef := fun k hk => by rw [ga, if_neg hk]
  have hg := World.grownBy_alloc w (.cells #[.string x] 9) none
  obtain ⟨q1, q2, q3, q4, q5⟩ := h.grow hpb hpx hg (fun k e => by cases e)
  have hone : ∀ {e : TypeId} {v : Value} {k : Nat} {zs : List Value}, w.ownsRow B e 1 v k zs → (w.alloc (.cells #[.string x] 9)).ownsRow B e 1 v k zs := fun ho => ho.alloc _
  refine ⟨by simpa using h.lsz, by simpa [Act.put] using h.asz, ?_, ?_, ?_, ?_, ?_, ?_, ?_, ?_, ?_, ?_, ?_, ?_, ?_, q3, q4, q5⟩
  · rw [ga' 5 (by decide)]; exact h.t5
  · rw [ga' 6 (by decide)]; exact h.t6
  · rw [ga' 7 (by decide)]; exact h.t7
  · intro k hk hks hkl
    have hb := pSlot_bd k hk hks
    rw [ga' _ (by omega)]
    exact h.det k hk hks (by rwa [gl' _ (by omega)] at hkl)
  · rw [gl' 9 (by decide)]; exact fun e => ⟨up _ (h.d9 e).1, up _ (h.d9 e).2⟩
  · rw [gl' 17 (by decide)]; exact fun e => ⟨up _ (h.d17 e).1, up _ (h.d17 e).2⟩
  · rw [gl' 21 (by decide)]; exact fun e => ⟨up _ (h.d21 e).1, up _ (h.d21 e).2⟩
  · rw [gl' 25 (by decide)]; exact fun e => up _ (h.d25 e)
  · rw [gl' 8 (by decide), ga' 25 (by decide)]; exact fun e => let ⟨g, e1, e2, e3⟩ := h.w8 e; ⟨g, e1, q1 g _ e2 e3, e3⟩
  · intro _; exact ⟨w.heap.size, by rw [ga, if_pos rfl], cell_at _ _ _ _ _ rfl, h.keep.size⟩
  · rw [gl' 9 (by decide), ga' 26 (by decide)]; have := h.w9; cases hb : l.getD 9 false <;> (rw [hb] at this; exact hone this)
  · rw [gl' 17 (by decide), ga' 34 (by decide)]; have := h.w17; cases hb : l.getD 17 false <;> (rw [hb] at this; exact hone this)
  · rw [gl' 21 (by decide), gl' 25 (by decide), ga' 26 (by decide), ga' 34 (by decide), q2]; exact h.pbk
theorem PInv.push9 (h : PInv W0 B pbox pb sz pv xv n ps xs at_ x l a w) (hpb : pb < B) (hpx : pbox < B) (hl : l.getD 9 false = false) (e1 : l.getD 6 false = true) (e2 : l.getD 8 false = true) (hlt : ∀ k, pv.ownBlock = some k → k < W0.heap.size) {v' : Value} {w' : World}
    (ho : w'.ownsRow B 3 1 v' (n + 1) (ps ++ [.int .i64 at_])) (hg : w.grownBy w' pv.ownBlock) : PInv W0 B pbox pb sz pv xv n ps xs at_ x (l.setIfInBounds 9 true) (a.put (some 26) v') w' := by
  have hjl : 9 < l.size := by rw [h.lsz]; decide
  have gl : ∀ k, (l.setIfInBounds 9 true).getD k false = (if k = 9 then true else l.getD k false) := fun k => getD_set hjl
  have gl' : ∀ k, k ≠ 9 → (l.setIfInBounds 9 true).getD k false = l.getD k false := fun k hk => by rw [gl, if_neg hk]
  have up : ∀ k, l.getD k false = true → (l.setIfInBounds 9 true).getD k false = true := fun k hk => by rw [gl]; split <;> first | rfl | exact hk
  have hal : 26 < a.tmps.size := by rw [h.asz]; decide
  have ga : ∀ k, (a.put (some 26) v').tmps.getD k undef = (if k = 26 then v' else a.tmps.getD k undef) := fun k => getV_set hal
  have ga' : ∀ k, k ≠ 26 → (a.put (some 26) v').tmps.getD k undef = a.tmps.getD k undef := fun k hk => by rw [ga, if_neg hk]
  have hw : w.ownsRow B 3 1 pv n ps := by have := h.w9; rwa [hl] at this
  have h21 : l.getD 21 false = false := by
    cases e : l.getD 21 false with
    | false => rfl
    | true => have := (h.d21 e).1; rw [hl] at this; cases this
  have h25 : l.getD 25 false = false := by
    cases e : l.getD 25 false with
    | false => rfl
    | true => have := h.d25 e; rw [h21] at this; cases this
  obtain ⟨q1, q2, q3, q4, q5⟩ := h.grow hpb hpx hg (fun k e => let ⟨x1, x2⟩ := own_type hw k e; ⟨x1, hlt k e, .inl e.symm, let ⟨c, hc⟩ := x2; ⟨c, _, hc⟩⟩)
  have hone : ∀ {v : Value} {k : Nat} {zs : List Value}, w.ownsRow B 9 1 v k zs → w'.ownsRow B 9 1 v k zs := fun hh => hh.kept hg (own_parts (by decide) hh hw)
  refine ⟨by simpa using h.lsz, by simpa [Act.put] using h.asz, ?_, ?_, ?_, ?_, ?_, ?_, ?_, ?_, ?_, ?_, ?_, ?_, ?_, q3, q4, q5⟩
  · rw [ga' 5 (by decide)]; exact h.t5
  · rw [ga' 6 (by decide)]; exact h.t6
  · rw [ga' 7 (by decide)]; exact h.t7
  · intro k hk hks hkl
    have hb := pSlot_bd k hk hks
    rw [ga' _ (by omega)]
    exact h.det k hk hks (by rwa [gl' _ (by omega)] at hkl)
  · intro _; exact ⟨up _ e1, up _ e2⟩
  · rw [gl' 17 (by decide)]; exact fun e => ⟨up _ (h.d17 e).1, up _ (h.d17 e).2⟩
  · rw [gl' 21 (by decide)]; exact fun e => ⟨up _ (h.d21 e).1, up _ (h.d21 e).2⟩
  · rw [gl' 25 (by decide)]; exact fun e => up _ (h.d25 e)
  · rw [gl' 8 (by decide), ga' 25 (by decide)]; exact fun e => let ⟨g, e1, e2, e3⟩ := h.w8 e; ⟨g, e1, q1 g _ e2 e3, e3⟩
  · rw [gl' 16 (by decide), ga' 33 (by decide)]; exact fun e => let ⟨g, e1, e2, e3⟩ := h.w16 e; ⟨g, e1, q1 g _ e2 e3, e3⟩
  · rw [gl, if_pos rfl, ga, if_pos rfl]; exact ho
  · rw [gl' 17 (by decide), ga' 34 (by decide)]; have := h.w17; cases hb : l.getD 17 false <;> (rw [hb] at this; exact hone this)
  · rw [gl' 21 (by decide), gl' 25 (by decide), h21, h25, q2]; have := h.pbk; rw [h21, h25] at this; exact this
theorem PInv.push17 (h : PInv W0 B pbox pb sz pv xv n ps xs at_ x l a w) (hpb : pb < B) (hpx : pbox < B) (hl : l.getD 17 false = false) (e1 : l.getD 14 false = true) (e2 : l.getD 16 false = true) (hlt : ∀ k, xv.ownBlock = some k → k < W0.heap.size) {v' : Value} {w' : World}
    (ho : w'.ownsRow B 9 1 v' (n + 1) (xs ++ [.string x])) (hg : w.grownBy w' xv.ownBlock) : PInv W0 B pbox pb sz pv xv n ps xs at_ x (l.setIfInBounds 17 true) (a.put (some 34) v') w' := by
  have hjl : 17 < l.size := by rw [h.lsz]; decide
  have gl : ∀ k, (l.setIfInBounds 17 true).getD k false = (if k = 17 then true else l.getD k false) := fun k => getD_set hjl
  have gl' : ∀ k, k ≠ 17 → (l.setIfInBounds 17 true).getD k false = l.getD k false := fun k hk => by rw [gl, if_neg hk]
  have up : ∀ k, l.getD k false = true → (l.setIfInBounds 17 true).getD k false = true := fun k hk => by rw [gl]; split <;> first | rfl | exact hk
  have hal : 34 < a.tmps.size := by rw [h.asz]; decide
  have ga : ∀ k, (a.put (some 34) v').tmps.getD k undef = (if k = 34 then v' else a.tmps.getD k undef) := fun k => getV_set hal
  have ga' : ∀ k, k ≠ 34 → (a.put (some 34) v').tmps.getD k undef = a.tmps.getD k undef := fun k hk => by rw [ga, if_neg hk]
  have hw : w.ownsRow B 9 1 xv n xs := by have := h.w17; rwa [hl] at this
  have h21 : l.getD 21 false = false := by
    cases e : l.getD 21 false with
    | false => rfl
    | true => have := (h.d21 e).2; rw [hl] at this; cases this
  have h25 : l.getD 25 false = false := by
    cases e : l.getD 25 false with
    | false => rfl
    | true => have := h.d25 e; rw [h21] at this; cases this
  obtain ⟨q1, q2, q3, q4, q5⟩ := h.grow hpb hpx hg (fun k e => let ⟨x1, x2⟩ := own_type hw k e; ⟨x1, hlt k e, .inr e.symm, let ⟨c, hc⟩ := x2; ⟨c, _, hc⟩⟩)
  have hone : ∀ {v : Value} {k : Nat} {zs : List Value}, w.ownsRow B 3 1 v k zs → w'.ownsRow B 3 1 v k zs := fun hh => hh.kept hg (own_parts (by decide) hh hw)
  refine ⟨by simpa using h.lsz, by simpa [Act.put] using h.asz, ?_, ?_, ?_, ?_, ?_, ?_, ?_, ?_, ?_, ?_, ?_, ?_, ?_, q3, q4, q5⟩
  · rw [ga' 5 (by decide)]; exact h.t5
  · rw [ga' 6 (by decide)]; exact h.t6
  · rw [ga' 7 (by decide)]; exact h.t7
  · intro k hk hks hkl
    have hb := pSlot_bd k hk hks
    rw [ga' _ (by omega)]
    exact h.det k hk hks (by rwa [gl' _ (by omega)] at hkl)
  · rw [gl' 9 (by decide)]; exact fun e => ⟨up _ (h.d9 e).1, up _ (h.d9 e).2⟩
  · intro _; exact ⟨up _ e1, up _ e2⟩
  · rw [gl' 21 (by decide)]; exact fun e => ⟨up _ (h.d21 e).1, up _ (h.d21 e).2⟩
  · rw [gl' 25 (by decide)]; exact fun e => up _ (h.d25 e)
  · rw [gl' 8 (by decide), ga' 25 (by decide)]; exact fun e => let ⟨g, e1, e2, e3⟩ := h.w8 e; ⟨g, e1, q1 g _ e2 e3, e3⟩
  · rw [gl' 16 (by decide), ga' 33 (by decide)]; exact fun e => let ⟨g, e1, e2, e3⟩ := h.w16 e; ⟨g, e1, q1 g _ e2 e3, e3⟩
  · rw [gl' 9 (by decide), ga' 26 (by decide)]; have := h.w9; cases hb : l.getD 9 false <;> (rw [hb] at this; exact hone this)
  · rw [gl, if_pos rfl, ga, if_pos rfl]; exact ho
  · rw [gl' 21 (by decide), gl' 25 (by decide), h21, h25, q2]; have := h.pbk; rw [h21, h25] at this; exact this
theorem heap_set {W : World} {b i : Nat} {cs : Array Value} {t : TypeId} {fr : Nat × Nat} (v : Value) (h : W.heap[b]? = some (.cells cs t fr)) : (W.setCell ⟨b, i, none⟩ v).heap[b]? = some (.cells (cs.setIfInBounds i v) t fr) := by
  obtain ⟨hlt, hk⟩ := Array.getElem?_eq_some_iff.1 h
  show (W.heap.modify b _)[b]? = _
  rw [Array.getElem?_eq_getElem (by rw [Array.size_modify]; exact hlt), Array.getElem_modify_self, hk]
  rfl
theorem set_others {W : World} {b i : Nat} {v : Value} {g : Nat} (hg : g ≠ b) : (W.setCell ⟨b, i, none⟩ v).heap[g]? = W.heap[g]? := Below.heap_setCell _ _ _ _ hg
theorem PInv.store21 (h : PInv W0 B pbox pb sz pv xv n ps xs at_ x l a w) (hpb : pb < B) (hpx : pbox < B) (hne : pbox ≠ pb) (hB : B ≤ W0.heap.size) (hl : l.getD 21 false = false) (e9 : l.getD 9 false = true) (e17 : l.getD 17 false = true) : PInv W0 B pbox pb sz pv xv n ps xs at_ x (l.setIfInBounds 21 true) (a.put none undef) (w.setCell ⟨pb, 0, none⟩ (a.tmps.getD 26 undef)) := by
  have hjl : 21 < l.size := by rw [h.lsz]; decide
  have gl : ∀ k, (l.setIfInBounds 21 true).getD k false = (if k = 21 then true else l.getD k false) := fun k => getD_set hjl
  have gl' : ∀ k, k ≠ 21 → (l.setIfInBounds 21 true).getD k false = l.getD k false := fun k hk => by rw [gl, if_neg hk]
  have up : ∀ k, l.getD k false = true → (l.setIfInBounds 21 true).getD k false = true := fun k hk => by rw [gl]; split <;> first | rfl | exact hk
  have q1 : ∀ g v, w.cell? ⟨g, 0, none⟩ = some v → W0.heap.size ≤ g → (w.setCell ⟨pb, 0, none⟩ (a.tmps.getD 26 undef)).cell? ⟨g, 0, none⟩ = some v := fun g v hv hgg => (World.cell?_of_block (set_others (by dsimp only; omega))).trans hv
  have hone : ∀ {e : TypeId} {v : Value} {k : Nat} {zs : List Value}, w.ownsRow B e 1 v k zs → (w.setCell ⟨pb, 0, none⟩ (a.tmps.getD 26 undef)).ownsRow B e 1 v k zs := fun ho => ownsRow_setCell_below ho (a := ⟨pb, 0, none⟩) hpb _
  refine ⟨by simpa using h.lsz, h.asz, ?_, ?_, ?_, ?_, ?_, ?_, ?_, ?_, ?_, ?_, ?_, ?_, ?_, ((World.cell?_of_block (set_others hne)).trans h.box), (h.keep.setCell (p := ⟨pb, _, none⟩) (fun hh => hh.2.1 rfl) _), (h.oth.trans (KeepsOthers.setCell _ _ _))⟩
  · exact h.t5
  · exact h.t6
  · exact h.t7
  · intro k hk hks hkl
    have hb := pSlot_bd k hk hks
    skip
    exact h.det k hk hks (by rwa [gl' _ (by omega)] at hkl)
  · rw [gl' 9 (by decide)]; exact fun e => ⟨up _ (h.d9 e).1, up _ (h.d9 e).2⟩
  · rw [gl' 17 (by decide)]; exact fun e => ⟨up _ (h.d17 e).1, up _ (h.d17 e).2⟩
  · intro _; exact ⟨up _ e9, up _ e17⟩
  · rw [gl' 25 (by decide)]; exact fun e => up _ (h.d25 e)
  · rw [gl' 8 (by decide)]; exact fun e => let ⟨g, e1, e2, e3⟩ := h.w8 e; ⟨g, e1, q1 g _ e2 e3, e3⟩
  · rw [gl' 16 (by decide)]; exact fun e => let ⟨g, e1, e2, e3⟩ := h.w16 e; ⟨g, e1, q1 g _ e2 e3, e3⟩
  · rw [gl' 9 (by decide)]; have := h.w9; cases hb : l.getD 9 false <;> (rw [hb] at this; exact hone this)
  · rw [gl' 17 (by decide)]; have := h.w17; cases hb : l.getD 17 false <;> (rw [hb] at this; exact hone this)
  · have h25 : l.getD 25 false = false := by
      cases e : l.getD 25 false with
      | false => rfl
      | true => have := h.d25 e; rw [hl] at this; cases this
    rw [gl, if_pos rfl, gl' 25 (by decide), h25, heap_set _ h.pbk, hl, h25]
    rfl
theorem PInv.store25 (h : PInv W0 B pbox pb sz pv xv n ps xs at_ x l a w) (hpb : pb < B) (hpx : pbox < B) (hne : pbox ≠ pb) (hB : B ≤ W0.heap.size) (hl : l.getD 25 false = false) (e21 : l.getD 21 false = true) : PInv W0 B pbox pb sz pv xv n ps xs at_ x (l.setIfInBounds 25 true) (a.put none undef) (w.setCell ⟨pb, 1, none⟩ (a.tmps.getD 34 undef)) := by
  have hjl : 25 < l.size := by rw [h.lsz]; decide
  have gl : ∀ k, (l.setIfInBounds 25 true).getD k false = (if k = 25 then true else l.getD k false) := fun k => getD_set hjl
  have gl' : ∀ k, k ≠ 25 → (l.setIfInBounds 25 true).getD k false = l.getD k false := fun k hk => by rw [gl, if_neg hk]
  have up : ∀ k, l.getD k false = true → (l.setIfInBounds 25 true).getD k false = true := fun k hk => by rw [gl]; split <;> first | rfl | exact hk
  have q1 : ∀ g v, w.cell? ⟨g, 0, none⟩ = some v → W0.heap.size ≤ g → (w.setCell ⟨pb, 1, none⟩ (a.tmps.getD 34 undef)).cell? ⟨g, 0, none⟩ = some v := fun g v hv hgg => (World.cell?_of_block (set_others (by dsimp only; omega))).trans hv
  have hone : ∀ {e : TypeId} {v : Value} {k : Nat} {zs : List Value}, w.ownsRow B e 1 v k zs → (w.setCell ⟨pb, 1, none⟩ (a.tmps.getD 34 undef)).ownsRow B e 1 v k zs := fun ho => ownsRow_setCell_below ho (a := ⟨pb, 1, none⟩) hpb _
  refine ⟨by simpa using h.lsz, h.asz, ?_, ?_, ?_, ?_, ?_, ?_, ?_, ?_, ?_, ?_, ?_, ?_, ?_, ((World.cell?_of_block (set_others hne)).trans h.box), (h.keep.setCell (p := ⟨pb, _, none⟩) (fun hh => hh.2.1 rfl) _), (h.oth.trans (KeepsOthers.setCell _ _ _))⟩
  · exact h.t5
  · exact h.t6
  · exact h.t7
  · intro k hk hks hkl
    have hb := pSlot_bd k hk hks
    skip
    exact h.det k hk hks (by rwa [gl' _ (by omega)] at hkl)
  · rw [gl' 9 (by decide)]; exact fun e => ⟨up _ (h.d9 e).1, up _ (h.d9 e).2⟩
  · rw [gl' 17 (by decide)]; exact fun e => ⟨up _ (h.d17 e).1, up _ (h.d17 e).2⟩
  · rw [gl' 21 (by decide)]; exact fun e => ⟨up _ (h.d21 e).1, up _ (h.d21 e).2⟩
  · intro _; exact up _ e21
  · rw [gl' 8 (by decide)]; exact fun e => let ⟨g, e1, e2, e3⟩ := h.w8 e; ⟨g, e1, q1 g _ e2 e3, e3⟩
  · rw [gl' 16 (by decide)]; exact fun e => let ⟨g, e1, e2, e3⟩ := h.w16 e; ⟨g, e1, q1 g _ e2 e3, e3⟩
  · rw [gl' 9 (by decide)]; have := h.w9; cases hb : l.getD 9 false <;> (rw [hb] at this; exact hone this)
  · rw [gl' 17 (by decide)]; have := h.w17; cases hb : l.getD 17 false <;> (rw [hb] at this; exact hone this)
  · rw [gl 25, if_pos rfl, gl' 21 (by decide), heap_set _ h.pbk, e21, hl]
    rfl
end
end Go.Proofs.YtokfgdpmbmnijaaGreatDoor
/- The round of Parse's range: its operations, one by one (written by wip/tools/gen_textg.py). -/
namespace Go.Proofs.YtokfgdpmbmnijaaGreatDoor
open Go.RowKit
theorem getD_false {l : Array Bool} {i : Nat} (h : l.getD i true = false) : l.getD i false = false := by
  rw [Array.getD_eq_getD_getElem?] at h ⊢
  cases e : l[i]? with
  | none => rw [e] at h; cases h
  | some b => rw [e] at h; exact h
theorem info_int : (Tryz.prog.info? 3).map (fun i => (i.zero, i.size, i.bytes)) = some (some (.int .i64 0), 1, 8) := by kernel_rfl
theorem info_string : (Tryz.prog.info? 9).map (fun i => (i.zero, i.size, i.bytes)) = some (some (.string ⟨#[]⟩), 1, 16) := by kernel_rfl
section
variable {W0 : World} {B pbox pb : Nat} {sz : Int} {pv xv : Value} {n m : Nat} {ps xs : List Value} {at_ : Nat} {x : ByteArray} {F : Fence} {Q : Exit → Act → World → Prop}
theorem pop0 : parseOps[0]? = some { dst := some 17, op := Op.load 81 (Operand.tmp 5), type := 81, pos := "text.go:226", after := #[], guard := none } := rfl
theorem prun0 (ρ : Operand → Value) (w : World) (c5 : ρ (.tmp 5) = .pointer (some ⟨pbox, 0, none⟩)) (hb : w.cell? ⟨pbox, 0, none⟩ = some (.pointer (some ⟨pb, 0, none⟩))) : (execOp ρ { dst := some 17, op := Op.load 81 (Operand.tmp 5), type := 81, pos := "text.go:226", after := #[], guard := none }).run Tryz.prog w = .ok (.value (.pointer (some ⟨pb, 0, none⟩))) w := by
  simp [execOp, c5, hb, go_sem]
theorem pstep0 (hF : ∀ f, F.fn f) (o : Oper) (l : Array Bool) (a : Act) (w : World) (ho : parseOps[0]? = some o) (h : PInv W0 B pbox pb sz pv xv n ps xs at_ x l a w) (_hl : l.getD 0 false = false)
    (hd : ∀ e ∈ o.after, Region.binds .any e = true → l.getD e.on false = true) :
    wpOpIn F m Tryz.prog parseOps Q 0 (fun a' w' => PInv W0 B pbox pb sz pv xv n ps xs at_ x (l.setIfInBounds 0 true) a' w') a w := by
  have e := Option.some.inj (ho.symm.trans pop0)
  subst e
  have c5 : a.eval (.tmp 5) = .pointer (some ⟨pbox, 0, none⟩) := h.t5
  have hb := h.box
  exact step_value hF pop0 rfl (fun c e => by cases e) (prun0 a.eval w c5 hb) (h.read 0 (by decide) (by decide))
theorem pop1 : parseOps[1]? = some { dst := some 18, op := Op.load 81 (Operand.tmp 5), type := 81, pos := "text.go:226", after := #[{ on := 21, ground := Ground.gcOnly Departure.lateStores }], guard := none } := rfl
theorem prun1 (ρ : Operand → Value) (w : World) (c5 : ρ (.tmp 5) = .pointer (some ⟨pbox, 0, none⟩)) (hb : w.cell? ⟨pbox, 0, none⟩ = some (.pointer (some ⟨pb, 0, none⟩))) : (execOp ρ { dst := some 18, op := Op.load 81 (Operand.tmp 5), type := 81, pos := "text.go:226", after := #[{ on := 21, ground := Ground.gcOnly Departure.lateStores }], guard := none }).run Tryz.prog w = .ok (.value (.pointer (some ⟨pb, 0, none⟩))) w := by
  simp [execOp, c5, hb, go_sem]
theorem pstep1 (hF : ∀ f, F.fn f) (o : Oper) (l : Array Bool) (a : Act) (w : World) (ho : parseOps[1]? = some o) (h : PInv W0 B pbox pb sz pv xv n ps xs at_ x l a w) (_hl : l.getD 1 false = false)
    (hd : ∀ e ∈ o.after, Region.binds .any e = true → l.getD e.on false = true) :
    wpOpIn F m Tryz.prog parseOps Q 1 (fun a' w' => PInv W0 B pbox pb sz pv xv n ps xs at_ x (l.setIfInBounds 1 true) a' w') a w := by
  have e := Option.some.inj (ho.symm.trans pop1)
  subst e
  have c5 : a.eval (.tmp 5) = .pointer (some ⟨pbox, 0, none⟩) := h.t5
  have hb := h.box
  exact step_value hF pop1 rfl (fun c e => by cases e) (prun1 a.eval w c5 hb) (h.read 1 (by decide) (by decide))
theorem pop2 : parseOps[2]? = some { dst := some 19, op := Op.load 81 (Operand.tmp 5), type := 81, pos := "text.go:226", after := #[], guard := none } := rfl
theorem prun2 (ρ : Operand → Value) (w : World) (c5 : ρ (.tmp 5) = .pointer (some ⟨pbox, 0, none⟩)) (hb : w.cell? ⟨pbox, 0, none⟩ = some (.pointer (some ⟨pb, 0, none⟩))) : (execOp ρ { dst := some 19, op := Op.load 81 (Operand.tmp 5), type := 81, pos := "text.go:226", after := #[], guard := none }).run Tryz.prog w = .ok (.value (.pointer (some ⟨pb, 0, none⟩))) w := by
  simp [execOp, c5, hb, go_sem]
theorem pstep2 (hF : ∀ f, F.fn f) (o : Oper) (l : Array Bool) (a : Act) (w : World) (ho : parseOps[2]? = some o) (h : PInv W0 B pbox pb sz pv xv n ps xs at_ x l a w) (_hl : l.getD 2 false = false)
    (hd : ∀ e ∈ o.after, Region.binds .any e = true → l.getD e.on false = true) :
    wpOpIn F m Tryz.prog parseOps Q 2 (fun a' w' => PInv W0 B pbox pb sz pv xv n ps xs at_ x (l.setIfInBounds 2 true) a' w') a w := by
  have e := Option.some.inj (ho.symm.trans pop2)
  subst e
  have c5 : a.eval (.tmp 5) = .pointer (some ⟨pbox, 0, none⟩) := h.t5
  have hb := h.box
  exact step_value hF pop2 rfl (fun c e => by cases e) (prun2 a.eval w c5 hb) (h.read 2 (by decide) (by decide))
theorem pop3 : parseOps[3]? = some { dst := some 20, op := Op.nilCheck (Operand.tmp 19), type := 0, pos := "text.go:226", after := #[{ on := 2, ground := Ground.data }], guard := none } := rfl
theorem prun3 (ρ : Operand → Value) (w : World) (c19 : ρ (.tmp 19) = .pointer (some ⟨pb, 0, none⟩)) : (execOp ρ { dst := some 20, op := Op.nilCheck (Operand.tmp 19), type := 0, pos := "text.go:226", after := #[{ on := 2, ground := Ground.data }], guard := none }).run Tryz.prog w = .ok (.value (.pointer (some ⟨pb, 0, none⟩))) w := by
  simp [execOp, c19, go_sem]
theorem pstep3 (hF : ∀ f, F.fn f) (o : Oper) (l : Array Bool) (a : Act) (w : World) (ho : parseOps[3]? = some o) (h : PInv W0 B pbox pb sz pv xv n ps xs at_ x l a w) (_hl : l.getD 3 false = false)
    (hd : ∀ e ∈ o.after, Region.binds .any e = true → l.getD e.on false = true) :
    wpOpIn F m Tryz.prog parseOps Q 3 (fun a' w' => PInv W0 B pbox pb sz pv xv n ps xs at_ x (l.setIfInBounds 3 true) a' w') a w := by
  have e := Option.some.inj (ho.symm.trans pop3)
  subst e
  have c19 : a.eval (.tmp 19) = .pointer (some ⟨pb, 0, none⟩) := h.det 2 (by decide) (by decide) (hd ⟨2, .data⟩ (by simp) rfl)
  exact step_value hF pop3 rfl (fun c e => by cases e) (prun3 a.eval w c19) (h.read 3 (by decide) (by decide))
theorem pop4 : parseOps[4]? = some { dst := some 21, op := Op.fieldAddr 86 (Operand.tmp 20) 0, type := 0, pos := "text.go:226", after := #[{ on := 3, ground := Ground.data }], guard := none } := rfl
theorem prun4 (ρ : Operand → Value) (w : World) (c20 : ρ (.tmp 20) = .pointer (some ⟨pb, 0, none⟩)) : (execOp ρ { dst := some 21, op := Op.fieldAddr 86 (Operand.tmp 20) 0, type := 0, pos := "text.go:226", after := #[{ on := 3, ground := Ground.data }], guard := none }).run Tryz.prog w = .ok (.value (.pointer (some ⟨pb, 0, none⟩))) w := by
  simp [execOp, c20, go_sem]
theorem pstep4 (hF : ∀ f, F.fn f) (o : Oper) (l : Array Bool) (a : Act) (w : World) (ho : parseOps[4]? = some o) (h : PInv W0 B pbox pb sz pv xv n ps xs at_ x l a w) (_hl : l.getD 4 false = false)
    (hd : ∀ e ∈ o.after, Region.binds .any e = true → l.getD e.on false = true) :
    wpOpIn F m Tryz.prog parseOps Q 4 (fun a' w' => PInv W0 B pbox pb sz pv xv n ps xs at_ x (l.setIfInBounds 4 true) a' w') a w := by
  have e := Option.some.inj (ho.symm.trans pop4)
  subst e
  have c20 : a.eval (.tmp 20) = .pointer (some ⟨pb, 0, none⟩) := h.det 3 (by decide) (by decide) (hd ⟨3, .data⟩ (by simp) rfl)
  exact step_value hF pop4 rfl (fun c e => by cases e) (prun4 a.eval w c20) (h.read 4 (by decide) (by decide))
theorem pop5 : parseOps[5]? = some { dst := some 22, op := Op.fieldAddr 84 (Operand.tmp 21) 0, type := 0, pos := "text.go:226", after := #[{ on := 4, ground := Ground.data }], guard := none } := rfl
theorem prun5 (ρ : Operand → Value) (w : World) (c21 : ρ (.tmp 21) = .pointer (some ⟨pb, 0, none⟩)) : (execOp ρ { dst := some 22, op := Op.fieldAddr 84 (Operand.tmp 21) 0, type := 0, pos := "text.go:226", after := #[{ on := 4, ground := Ground.data }], guard := none }).run Tryz.prog w = .ok (.value (.pointer (some ⟨pb, 0, none⟩))) w := by
  simp [execOp, c21, go_sem]
theorem pstep5 (hF : ∀ f, F.fn f) (o : Oper) (l : Array Bool) (a : Act) (w : World) (ho : parseOps[5]? = some o) (h : PInv W0 B pbox pb sz pv xv n ps xs at_ x l a w) (_hl : l.getD 5 false = false)
    (hd : ∀ e ∈ o.after, Region.binds .any e = true → l.getD e.on false = true) :
    wpOpIn F m Tryz.prog parseOps Q 5 (fun a' w' => PInv W0 B pbox pb sz pv xv n ps xs at_ x (l.setIfInBounds 5 true) a' w') a w := by
  have e := Option.some.inj (ho.symm.trans pop5)
  subst e
  have c21 : a.eval (.tmp 21) = .pointer (some ⟨pb, 0, none⟩) := h.det 4 (by decide) (by decide) (hd ⟨4, .data⟩ (by simp) rfl)
  exact step_value hF pop5 rfl (fun c e => by cases e) (prun5 a.eval w c21) (h.read 5 (by decide) (by decide))
theorem pop6 : parseOps[6]? = some { dst := some 23, op := Op.load 36 (Operand.tmp 22), type := 36, pos := "text.go:226", after := #[{ on := 5, ground := Ground.data }], guard := none } := rfl
theorem prun6 (ρ : Operand → Value) (w : World) (c22 : ρ (.tmp 22) = .pointer (some ⟨pb, 0, none⟩)) (hb : w.cell? ⟨pb, 0, none⟩ = some pv) (hz : ∃ p k c, pv = .slice p k c) : (execOp ρ { dst := some 23, op := Op.load 36 (Operand.tmp 22), type := 36, pos := "text.go:226", after := #[{ on := 5, ground := Ground.data }], guard := none }).run Tryz.prog w = .ok (.value (pv)) w := by
  obtain ⟨p, k, c, rfl⟩ := hz
  simp [execOp, c22, hb, go_sem]
theorem pstep6 (hF : ∀ f, F.fn f) (hpv : ∃ p k c, pv = .slice p k c) (o : Oper) (l : Array Bool) (a : Act) (w : World) (ho : parseOps[6]? = some o) (h : PInv W0 B pbox pb sz pv xv n ps xs at_ x l a w) (hl : l.getD 6 false = false)
    (hd : ∀ e ∈ o.after, Region.binds .any e = true → l.getD e.on false = true) :
    wpOpIn F m Tryz.prog parseOps Q 6 (fun a' w' => PInv W0 B pbox pb sz pv xv n ps xs at_ x (l.setIfInBounds 6 true) a' w') a w := by
  have e := Option.some.inj (ho.symm.trans pop6)
  subst e
  have c22 : a.eval (.tmp 22) = .pointer (some ⟨pb, 0, none⟩) := h.det 5 (by decide) (by decide) (hd ⟨5, .data⟩ (by simp) rfl)
  have h9 : l.getD 9 false = false := by
    cases e : l.getD 9 false with
    | false => rfl
    | true => have := (h.d9 e).1; rw [hl] at this; cases this
  have h21 : l.getD 21 false = false := by
    cases e : l.getD 21 false with
    | false => rfl
    | true => have := (h.d21 e).1; rw [h9] at this; cases this
  have hb : w.cell? ⟨pb, 0, none⟩ = some pv := by have := h.pbk; rw [h21] at this; exact cell_of_blk this 0 _ rfl
  exact step_value hF pop6 rfl (fun c e => by cases e) (prun6 a.eval w c22 hb hpv) (h.read 6 (by decide) (by decide))
theorem pop7 : parseOps[7]? = some { dst := some 24, op := Op.move (Operand.tmp 6), type := 3, pos := "text.go:226", after := #[], guard := none } := rfl
theorem prun7 (ρ : Operand → Value) (w : World) (c6 : ρ (.tmp 6) = .int .i64 at_) : (execOp ρ { dst := some 24, op := Op.move (Operand.tmp 6), type := 3, pos := "text.go:226", after := #[], guard := none }).run Tryz.prog w = .ok (.value (.int .i64 at_)) w := by
  simp [execOp, c6, go_sem]
theorem pstep7 (hF : ∀ f, F.fn f) (o : Oper) (l : Array Bool) (a : Act) (w : World) (ho : parseOps[7]? = some o) (h : PInv W0 B pbox pb sz pv xv n ps xs at_ x l a w) (_hl : l.getD 7 false = false)
    (hd : ∀ e ∈ o.after, Region.binds .any e = true → l.getD e.on false = true) :
    wpOpIn F m Tryz.prog parseOps Q 7 (fun a' w' => PInv W0 B pbox pb sz pv xv n ps xs at_ x (l.setIfInBounds 7 true) a' w') a w := by
  have e := Option.some.inj (ho.symm.trans pop7)
  subst e
  have c6 : a.eval (.tmp 6) = .int .i64 at_ := h.t6
  exact step_value hF pop7 rfl (fun c e => by cases e) (prun7 a.eval w c6) (h.read 7 (by decide) (by decide))
theorem pop8 : parseOps[8]? = some { dst := some 25, op := Op.buildSlice 36 1 #[(0, Operand.tmp 24)], type := 36, pos := "text.go:226", after := #[{ on := 7, ground := Ground.data }], guard := none } := rfl
theorem prun8 (ρ : Operand → Value) (w : World) (c : ρ (.tmp 24) = .int .i64 at_) : (execOp ρ { dst := some 25, op := Op.buildSlice 36 1 #[(0, Operand.tmp 24)], type := 36, pos := "text.go:226", after := #[{ on := 7, ground := Ground.data }], guard := none }).run Tryz.prog w = .ok (.value (.slice (some ⟨w.heap.size, 0, none⟩) 1 1)) (w.alloc (.cells #[.int .i64 at_] 3)) := by
  simp [execOp, c, go_sem]
theorem pstep8 (hF : ∀ f, F.fn f) (hpb : pb < B) (hpx : pbox < B) (o : Oper) (l : Array Bool) (a : Act) (w : World) (ho : parseOps[8]? = some o) (h : PInv W0 B pbox pb sz pv xv n ps xs at_ x l a w) (_hl : l.getD 8 false = false)
    (hd : ∀ e ∈ o.after, Region.binds .any e = true → l.getD e.on false = true) :
    wpOpIn F m Tryz.prog parseOps Q 8 (fun a' w' => PInv W0 B pbox pb sz pv xv n ps xs at_ x (l.setIfInBounds 8 true) a' w') a w := by
  have e := Option.some.inj (ho.symm.trans pop8)
  subst e
  have c : a.eval (.tmp 24) = .int .i64 at_ := h.det 7 (by decide) (by decide) (hd ⟨7, .data⟩ (by simp) rfl)
  exact step_value hF pop8 rfl (fun c e => by cases e) (prun8 a.eval w c) (h.build8 hpb hpx)
theorem pop9 : parseOps[9]? = some { dst := some 26, op := Op.call { callee := Callee.builtin Builtin.append, args := #[Operand.tmp 23, Operand.tmp 25], argTypes := #[36, 36] }, type := 36, pos := "text.go:226", after := #[{ on := 6, ground := Ground.data }, { on := 8, ground := Ground.data }], guard := none } := rfl
theorem pstep9 (hF : ∀ f, F.fn f) (hpb : pb < B) (hpx : pbox < B) (hB : B ≤ W0.heap.size) (hn : n ≤ 1000000) (hlt : ∀ k, pv.ownBlock = some k → k < W0.heap.size) (o : Oper) (l : Array Bool) (a : Act) (w : World) (ho : parseOps[9]? = some o) (h : PInv W0 B pbox pb sz pv xv n ps xs at_ x l a w) (hl : l.getD 9 false = false)
    (hd : ∀ e ∈ o.after, Region.binds .any e = true → l.getD e.on false = true) :
    wpOpIn F m Tryz.prog parseOps Q 9 (fun a' w' => PInv W0 B pbox pb sz pv xv n ps xs at_ x (l.setIfInBounds 9 true) a' w') a w := by
  have e := Option.some.inj (ho.symm.trans pop9)
  subst e
  have e1 := hd ⟨6, .data⟩ (by simp) rfl
  have e2 := hd ⟨8, .data⟩ (by simp) rfl
  have c1 : a.eval (.tmp 23) = pv := h.det 6 (by decide) (by decide) e1
  obtain ⟨g, c2, c3, c4⟩ := h.w8 e2
  have c2' : a.eval (.tmp 25) = .slice (some ⟨g, 0, none⟩) 1 1 := c2
  have hw : w.ownsRow B 3 1 pv n ps := by have := h.w9; rwa [hl] at this
  obtain ⟨i0, hi, hz0, hz1, hz2⟩ := info_parts info_int
  obtain ⟨v', w', hrun, r1, r2, _⟩ := run_append_own (P := Tryz.prog) w B 36 36 3 i0 _ 1 _ Tryz.underlying36 hi hz0 hz1 hz2 rfl (by decide) pv n ps hw ⟨g, 0, none⟩ 1 1 [.int .i64 at_] rfl
    (fun j u hu => by
      match j, hu with
      | 0, hu => simp at hu; subst hu; exact c3) (fun u hu => by simp at hu; subst hu; rfl) (by unfold maxLen; omega) (by omega) (Nat.le_trans hB h.keep.size)
  refine step_value hF pop9 rfl (fun c e => by cases e) (v := v') (w' := w') ?_ (h.push9 hpb hpx hl e1 e2 hlt r1 r2)
  have hex : ∀ ρ : Operand → Value, ρ (.tmp 23) = pv → ρ (.tmp 25) = .slice (some ⟨g, 0, none⟩) 1 1 → (execOp ρ { dst := some 26, op := Op.call { callee := Callee.builtin Builtin.append, args := #[Operand.tmp 23, Operand.tmp 25], argTypes := #[36, 36] }, type := 36, pos := "text.go:226", after := #[{ on := 6, ground := Ground.data }, { on := 8, ground := Ground.data }], guard := none }).run Tryz.prog w = .ok (.value v') w' := by
    intro ρ k1 k2
    simp [execOp, resolve, invoke, builtin, k1, k2, hrun, Result.andThen]
  exact hex _ c1 c2'
theorem pop10 : parseOps[10]? = some { dst := some 27, op := Op.load 81 (Operand.tmp 5), type := 81, pos := "text.go:226", after := #[], guard := none } := rfl
theorem prun10 (ρ : Operand → Value) (w : World) (c5 : ρ (.tmp 5) = .pointer (some ⟨pbox, 0, none⟩)) (hb : w.cell? ⟨pbox, 0, none⟩ = some (.pointer (some ⟨pb, 0, none⟩))) : (execOp ρ { dst := some 27, op := Op.load 81 (Operand.tmp 5), type := 81, pos := "text.go:226", after := #[], guard := none }).run Tryz.prog w = .ok (.value (.pointer (some ⟨pb, 0, none⟩))) w := by
  simp [execOp, c5, hb, go_sem]
theorem pstep10 (hF : ∀ f, F.fn f) (o : Oper) (l : Array Bool) (a : Act) (w : World) (ho : parseOps[10]? = some o) (h : PInv W0 B pbox pb sz pv xv n ps xs at_ x l a w) (_hl : l.getD 10 false = false)
    (hd : ∀ e ∈ o.after, Region.binds .any e = true → l.getD e.on false = true) :
    wpOpIn F m Tryz.prog parseOps Q 10 (fun a' w' => PInv W0 B pbox pb sz pv xv n ps xs at_ x (l.setIfInBounds 10 true) a' w') a w := by
  have e := Option.some.inj (ho.symm.trans pop10)
  subst e
  have c5 : a.eval (.tmp 5) = .pointer (some ⟨pbox, 0, none⟩) := h.t5
  have hb := h.box
  exact step_value hF pop10 rfl (fun c e => by cases e) (prun10 a.eval w c5 hb) (h.read 10 (by decide) (by decide))
theorem pop11 : parseOps[11]? = some { dst := some 28, op := Op.nilCheck (Operand.tmp 27), type := 0, pos := "text.go:226", after := #[{ on := 10, ground := Ground.data }], guard := none } := rfl
theorem prun11 (ρ : Operand → Value) (w : World) (c27 : ρ (.tmp 27) = .pointer (some ⟨pb, 0, none⟩)) : (execOp ρ { dst := some 28, op := Op.nilCheck (Operand.tmp 27), type := 0, pos := "text.go:226", after := #[{ on := 10, ground := Ground.data }], guard := none }).run Tryz.prog w = .ok (.value (.pointer (some ⟨pb, 0, none⟩))) w := by
  simp [execOp, c27, go_sem]
theorem pstep11 (hF : ∀ f, F.fn f) (o : Oper) (l : Array Bool) (a : Act) (w : World) (ho : parseOps[11]? = some o) (h : PInv W0 B pbox pb sz pv xv n ps xs at_ x l a w) (_hl : l.getD 11 false = false)
    (hd : ∀ e ∈ o.after, Region.binds .any e = true → l.getD e.on false = true) :
    wpOpIn F m Tryz.prog parseOps Q 11 (fun a' w' => PInv W0 B pbox pb sz pv xv n ps xs at_ x (l.setIfInBounds 11 true) a' w') a w := by
  have e := Option.some.inj (ho.symm.trans pop11)
  subst e
  have c27 : a.eval (.tmp 27) = .pointer (some ⟨pb, 0, none⟩) := h.det 10 (by decide) (by decide) (hd ⟨10, .data⟩ (by simp) rfl)
  exact step_value hF pop11 rfl (fun c e => by cases e) (prun11 a.eval w c27) (h.read 11 (by decide) (by decide))
theorem pop12 : parseOps[12]? = some { dst := some 29, op := Op.fieldAddr 86 (Operand.tmp 28) 0, type := 0, pos := "text.go:226", after := #[{ on := 11, ground := Ground.data }], guard := none } := rfl
theorem prun12 (ρ : Operand → Value) (w : World) (c28 : ρ (.tmp 28) = .pointer (some ⟨pb, 0, none⟩)) : (execOp ρ { dst := some 29, op := Op.fieldAddr 86 (Operand.tmp 28) 0, type := 0, pos := "text.go:226", after := #[{ on := 11, ground := Ground.data }], guard := none }).run Tryz.prog w = .ok (.value (.pointer (some ⟨pb, 0, none⟩))) w := by
  simp [execOp, c28, go_sem]
theorem pstep12 (hF : ∀ f, F.fn f) (o : Oper) (l : Array Bool) (a : Act) (w : World) (ho : parseOps[12]? = some o) (h : PInv W0 B pbox pb sz pv xv n ps xs at_ x l a w) (_hl : l.getD 12 false = false)
    (hd : ∀ e ∈ o.after, Region.binds .any e = true → l.getD e.on false = true) :
    wpOpIn F m Tryz.prog parseOps Q 12 (fun a' w' => PInv W0 B pbox pb sz pv xv n ps xs at_ x (l.setIfInBounds 12 true) a' w') a w := by
  have e := Option.some.inj (ho.symm.trans pop12)
  subst e
  have c28 : a.eval (.tmp 28) = .pointer (some ⟨pb, 0, none⟩) := h.det 11 (by decide) (by decide) (hd ⟨11, .data⟩ (by simp) rfl)
  exact step_value hF pop12 rfl (fun c e => by cases e) (prun12 a.eval w c28) (h.read 12 (by decide) (by decide))
theorem pop13 : parseOps[13]? = some { dst := some 30, op := Op.fieldAddr 84 (Operand.tmp 29) 1, type := 0, pos := "text.go:226", after := #[{ on := 12, ground := Ground.data }], guard := none } := rfl
theorem prun13 (ρ : Operand → Value) (w : World) (c29 : ρ (.tmp 29) = .pointer (some ⟨pb, 0, none⟩)) : (execOp ρ { dst := some 30, op := Op.fieldAddr 84 (Operand.tmp 29) 1, type := 0, pos := "text.go:226", after := #[{ on := 12, ground := Ground.data }], guard := none }).run Tryz.prog w = .ok (.value (.pointer (some ⟨pb, 1, none⟩))) w := by
  simp [execOp, c29, go_sem]
theorem pstep13 (hF : ∀ f, F.fn f) (o : Oper) (l : Array Bool) (a : Act) (w : World) (ho : parseOps[13]? = some o) (h : PInv W0 B pbox pb sz pv xv n ps xs at_ x l a w) (_hl : l.getD 13 false = false)
    (hd : ∀ e ∈ o.after, Region.binds .any e = true → l.getD e.on false = true) :
    wpOpIn F m Tryz.prog parseOps Q 13 (fun a' w' => PInv W0 B pbox pb sz pv xv n ps xs at_ x (l.setIfInBounds 13 true) a' w') a w := by
  have e := Option.some.inj (ho.symm.trans pop13)
  subst e
  have c29 : a.eval (.tmp 29) = .pointer (some ⟨pb, 0, none⟩) := h.det 12 (by decide) (by decide) (hd ⟨12, .data⟩ (by simp) rfl)
  exact step_value hF pop13 rfl (fun c e => by cases e) (prun13 a.eval w c29) (h.read 13 (by decide) (by decide))
theorem pop14 : parseOps[14]? = some { dst := some 31, op := Op.load 82 (Operand.tmp 30), type := 82, pos := "text.go:226", after := #[{ on := 13, ground := Ground.data }], guard := none } := rfl
theorem prun14 (ρ : Operand → Value) (w : World) (c30 : ρ (.tmp 30) = .pointer (some ⟨pb, 1, none⟩)) (hb : w.cell? ⟨pb, 1, none⟩ = some xv) (hz : ∃ p k c, xv = .slice p k c) : (execOp ρ { dst := some 31, op := Op.load 82 (Operand.tmp 30), type := 82, pos := "text.go:226", after := #[{ on := 13, ground := Ground.data }], guard := none }).run Tryz.prog w = .ok (.value (xv)) w := by
  obtain ⟨p, k, c, rfl⟩ := hz
  simp [execOp, c30, hb, go_sem]
theorem pstep14 (hF : ∀ f, F.fn f) (hxv : ∃ p k c, xv = .slice p k c) (o : Oper) (l : Array Bool) (a : Act) (w : World) (ho : parseOps[14]? = some o) (h : PInv W0 B pbox pb sz pv xv n ps xs at_ x l a w) (hl : l.getD 14 false = false)
    (hd : ∀ e ∈ o.after, Region.binds .any e = true → l.getD e.on false = true) :
    wpOpIn F m Tryz.prog parseOps Q 14 (fun a' w' => PInv W0 B pbox pb sz pv xv n ps xs at_ x (l.setIfInBounds 14 true) a' w') a w := by
  have e := Option.some.inj (ho.symm.trans pop14)
  subst e
  have c30 : a.eval (.tmp 30) = .pointer (some ⟨pb, 1, none⟩) := h.det 13 (by decide) (by decide) (hd ⟨13, .data⟩ (by simp) rfl)
  have h17 : l.getD 17 false = false := by
    cases e : l.getD 17 false with
    | false => rfl
    | true => have := (h.d17 e).1; rw [hl] at this; cases this
  have h25 : l.getD 25 false = false := by
    cases e : l.getD 25 false with
    | false => rfl
    | true => have := (h.d21 (h.d25 e)).2; rw [h17] at this; cases this
  have hb : w.cell? ⟨pb, 1, none⟩ = some xv := by have := h.pbk; rw [h25] at this; exact cell_of_blk this 1 _ rfl
  exact step_value hF pop14 rfl (fun c e => by cases e) (prun14 a.eval w c30 hb hxv) (h.read 14 (by decide) (by decide))
theorem pop15 : parseOps[15]? = some { dst := some 32, op := Op.move (Operand.tmp 7), type := 9, pos := "text.go:226", after := #[], guard := none } := rfl
theorem prun15 (ρ : Operand → Value) (w : World) (c7 : ρ (.tmp 7) = .string x) : (execOp ρ { dst := some 32, op := Op.move (Operand.tmp 7), type := 9, pos := "text.go:226", after := #[], guard := none }).run Tryz.prog w = .ok (.value (.string x)) w := by
  simp [execOp, c7, go_sem]
theorem pstep15 (hF : ∀ f, F.fn f) (o : Oper) (l : Array Bool) (a : Act) (w : World) (ho : parseOps[15]? = some o) (h : PInv W0 B pbox pb sz pv xv n ps xs at_ x l a w) (_hl : l.getD 15 false = false)
    (hd : ∀ e ∈ o.after, Region.binds .any e = true → l.getD e.on false = true) :
    wpOpIn F m Tryz.prog parseOps Q 15 (fun a' w' => PInv W0 B pbox pb sz pv xv n ps xs at_ x (l.setIfInBounds 15 true) a' w') a w := by
  have e := Option.some.inj (ho.symm.trans pop15)
  subst e
  have c7 : a.eval (.tmp 7) = .string x := h.t7
  exact step_value hF pop15 rfl (fun c e => by cases e) (prun15 a.eval w c7) (h.read 15 (by decide) (by decide))
theorem pop16 : parseOps[16]? = some { dst := some 33, op := Op.buildSlice 82 1 #[(0, Operand.tmp 32)], type := 82, pos := "text.go:226", after := #[{ on := 15, ground := Ground.data }], guard := none } := rfl
theorem prun16 (ρ : Operand → Value) (w : World) (c : ρ (.tmp 32) = .string x) : (execOp ρ { dst := some 33, op := Op.buildSlice 82 1 #[(0, Operand.tmp 32)], type := 82, pos := "text.go:226", after := #[{ on := 15, ground := Ground.data }], guard := none }).run Tryz.prog w = .ok (.value (.slice (some ⟨w.heap.size, 0, none⟩) 1 1)) (w.alloc (.cells #[.string x] 9)) := by
  simp [execOp, c, go_sem]
theorem pstep16 (hF : ∀ f, F.fn f) (hpb : pb < B) (hpx : pbox < B) (o : Oper) (l : Array Bool) (a : Act) (w : World) (ho : parseOps[16]? = some o) (h : PInv W0 B pbox pb sz pv xv n ps xs at_ x l a w) (_hl : l.getD 16 false = false)
    (hd : ∀ e ∈ o.after, Region.binds .any e = true → l.getD e.on false = true) :
    wpOpIn F m Tryz.prog parseOps Q 16 (fun a' w' => PInv W0 B pbox pb sz pv xv n ps xs at_ x (l.setIfInBounds 16 true) a' w') a w := by
  have e := Option.some.inj (ho.symm.trans pop16)
  subst e
  have c : a.eval (.tmp 32) = .string x := h.det 15 (by decide) (by decide) (hd ⟨15, .data⟩ (by simp) rfl)
  exact step_value hF pop16 rfl (fun c e => by cases e) (prun16 a.eval w c) (h.build16 hpb hpx)
theorem pop17 : parseOps[17]? = some { dst := some 34, op := Op.call { callee := Callee.builtin Builtin.append, args := #[Operand.tmp 31, Operand.tmp 33], argTypes := #[82, 82] }, type := 82, pos := "text.go:226", after := #[{ on := 14, ground := Ground.data }, { on := 16, ground := Ground.data }, { on := 9, ground := Ground.chain }], guard := none } := rfl
theorem pstep17 (hF : ∀ f, F.fn f) (hpb : pb < B) (hpx : pbox < B) (hB : B ≤ W0.heap.size) (hn : n ≤ 1000000) (hlt : ∀ k, xv.ownBlock = some k → k < W0.heap.size) (o : Oper) (l : Array Bool) (a : Act) (w : World) (ho : parseOps[17]? = some o) (h : PInv W0 B pbox pb sz pv xv n ps xs at_ x l a w) (hl : l.getD 17 false = false)
    (hd : ∀ e ∈ o.after, Region.binds .any e = true → l.getD e.on false = true) :
    wpOpIn F m Tryz.prog parseOps Q 17 (fun a' w' => PInv W0 B pbox pb sz pv xv n ps xs at_ x (l.setIfInBounds 17 true) a' w') a w := by
  have e := Option.some.inj (ho.symm.trans pop17)
  subst e
  have e1 := hd ⟨14, .data⟩ (by simp) rfl
  have e2 := hd ⟨16, .data⟩ (by simp) rfl
  have c1 : a.eval (.tmp 31) = xv := h.det 14 (by decide) (by decide) e1
  obtain ⟨g, c2, c3, c4⟩ := h.w16 e2
  have c2' : a.eval (.tmp 33) = .slice (some ⟨g, 0, none⟩) 1 1 := c2
  have hw : w.ownsRow B 9 1 xv n xs := by have := h.w17; rwa [hl] at this
  obtain ⟨i0, hi, hz0, hz1, hz2⟩ := info_parts info_string
  obtain ⟨v', w', hrun, r1, r2, _⟩ := run_append_own (P := Tryz.prog) w B 82 82 9 i0 _ 1 _ Tryz.underlying82 hi hz0 hz1 hz2 rfl (by decide) xv n xs hw ⟨g, 0, none⟩ 1 1 [.string x] rfl
    (fun j u hu => by
      match j, hu with
      | 0, hu => simp at hu; subst hu; exact c3) (fun u hu => by simp at hu; subst hu; rfl) (by unfold maxLen; omega) (by omega) (Nat.le_trans hB h.keep.size)
  refine step_value hF pop17 rfl (fun c e => by cases e) (v := v') (w' := w') ?_ (h.push17 hpb hpx hl e1 e2 hlt r1 r2)
  have hex : ∀ ρ : Operand → Value, ρ (.tmp 31) = xv → ρ (.tmp 33) = .slice (some ⟨g, 0, none⟩) 1 1 → (execOp ρ { dst := some 34, op := Op.call { callee := Callee.builtin Builtin.append, args := #[Operand.tmp 31, Operand.tmp 33], argTypes := #[82, 82] }, type := 82, pos := "text.go:226", after := #[{ on := 14, ground := Ground.data }, { on := 16, ground := Ground.data }, { on := 9, ground := Ground.chain }], guard := none }).run Tryz.prog w = .ok (.value v') w' := by
    intro ρ k1 k2
    simp [execOp, resolve, invoke, builtin, k1, k2, hrun, Result.andThen]
  exact hex _ c1 c2'
theorem pop18 : parseOps[18]? = some { dst := some 35, op := Op.nilCheck (Operand.tmp 17), type := 0, pos := "text.go:226", after := #[{ on := 0, ground := Ground.data }, { on := 0, ground := Ground.phase }, { on := 1, ground := Ground.textOnly Departure.lateStores }, { on := 2, ground := Ground.phase }, { on := 3, ground := Ground.phase }, { on := 4, ground := Ground.phase }, { on := 5, ground := Ground.phase }, { on := 6, ground := Ground.phase }, { on := 7, ground := Ground.phase }, { on := 8, ground := Ground.phase }, { on := 9, ground := Ground.phase }, { on := 10, ground := Ground.textOnly Departure.lateStores }, { on := 11, ground := Ground.textOnly Departure.lateStoresUnsure }, { on := 12, ground := Ground.textOnly Departure.lateStoresUnsure }, { on := 13, ground := Ground.textOnly Departure.lateStoresUnsure }, { on := 14, ground := Ground.phase }, { on := 15, ground := Ground.textOnly Departure.lateStores }, { on := 16, ground := Ground.textOnly Departure.lateStoresUnsure }, { on := 17, ground := Ground.phase }], guard := none } := rfl
theorem prun18 (ρ : Operand → Value) (w : World) (c17 : ρ (.tmp 17) = .pointer (some ⟨pb, 0, none⟩)) : (execOp ρ { dst := some 35, op := Op.nilCheck (Operand.tmp 17), type := 0, pos := "text.go:226", after := #[{ on := 0, ground := Ground.data }, { on := 0, ground := Ground.phase }, { on := 1, ground := Ground.textOnly Departure.lateStores }, { on := 2, ground := Ground.phase }, { on := 3, ground := Ground.phase }, { on := 4, ground := Ground.phase }, { on := 5, ground := Ground.phase }, { on := 6, ground := Ground.phase }, { on := 7, ground := Ground.phase }, { on := 8, ground := Ground.phase }, { on := 9, ground := Ground.phase }, { on := 10, ground := Ground.textOnly Departure.lateStores }, { on := 11, ground := Ground.textOnly Departure.lateStoresUnsure }, { on := 12, ground := Ground.textOnly Departure.lateStoresUnsure }, { on := 13, ground := Ground.textOnly Departure.lateStoresUnsure }, { on := 14, ground := Ground.phase }, { on := 15, ground := Ground.textOnly Departure.lateStores }, { on := 16, ground := Ground.textOnly Departure.lateStoresUnsure }, { on := 17, ground := Ground.phase }], guard := none }).run Tryz.prog w = .ok (.value (.pointer (some ⟨pb, 0, none⟩))) w := by
  simp [execOp, c17, go_sem]
theorem pstep18 (hF : ∀ f, F.fn f) (o : Oper) (l : Array Bool) (a : Act) (w : World) (ho : parseOps[18]? = some o) (h : PInv W0 B pbox pb sz pv xv n ps xs at_ x l a w) (_hl : l.getD 18 false = false)
    (hd : ∀ e ∈ o.after, Region.binds .any e = true → l.getD e.on false = true) :
    wpOpIn F m Tryz.prog parseOps Q 18 (fun a' w' => PInv W0 B pbox pb sz pv xv n ps xs at_ x (l.setIfInBounds 18 true) a' w') a w := by
  have e := Option.some.inj (ho.symm.trans pop18)
  subst e
  have c17 : a.eval (.tmp 17) = .pointer (some ⟨pb, 0, none⟩) := h.det 0 (by decide) (by decide) (hd ⟨0, .data⟩ (by simp) rfl)
  exact step_value hF pop18 rfl (fun c e => by cases e) (prun18 a.eval w c17) (h.read 18 (by decide) (by decide))
theorem pop19 : parseOps[19]? = some { dst := some 36, op := Op.fieldAddr 86 (Operand.tmp 35) 0, type := 0, pos := "text.go:226", after := #[{ on := 18, ground := Ground.data }, { on := 0, ground := Ground.phase }, { on := 1, ground := Ground.textOnly Departure.lateStores }, { on := 2, ground := Ground.phase }, { on := 3, ground := Ground.phase }, { on := 4, ground := Ground.phase }, { on := 5, ground := Ground.phase }, { on := 6, ground := Ground.phase }, { on := 7, ground := Ground.phase }, { on := 8, ground := Ground.phase }, { on := 9, ground := Ground.phase }, { on := 10, ground := Ground.textOnly Departure.lateStores }, { on := 11, ground := Ground.textOnly Departure.lateStoresUnsure }, { on := 12, ground := Ground.textOnly Departure.lateStoresUnsure }, { on := 13, ground := Ground.textOnly Departure.lateStoresUnsure }, { on := 14, ground := Ground.phase }, { on := 15, ground := Ground.textOnly Departure.lateStores }, { on := 16, ground := Ground.textOnly Departure.lateStoresUnsure }, { on := 17, ground := Ground.phase }], guard := none } := rfl
theorem prun19 (ρ : Operand → Value) (w : World) (c35 : ρ (.tmp 35) = .pointer (some ⟨pb, 0, none⟩)) : (execOp ρ { dst := some 36, op := Op.fieldAddr 86 (Operand.tmp 35) 0, type := 0, pos := "text.go:226", after := #[{ on := 18, ground := Ground.data }, { on := 0, ground := Ground.phase }, { on := 1, ground := Ground.textOnly Departure.lateStores }, { on := 2, ground := Ground.phase }, { on := 3, ground := Ground.phase }, { on := 4, ground := Ground.phase }, { on := 5, ground := Ground.phase }, { on := 6, ground := Ground.phase }, { on := 7, ground := Ground.phase }, { on := 8, ground := Ground.phase }, { on := 9, ground := Ground.phase }, { on := 10, ground := Ground.textOnly Departure.lateStores }, { on := 11, ground := Ground.textOnly Departure.lateStoresUnsure }, { on := 12, ground := Ground.textOnly Departure.lateStoresUnsure }, { on := 13, ground := Ground.textOnly Departure.lateStoresUnsure }, { on := 14, ground := Ground.phase }, { on := 15, ground := Ground.textOnly Departure.lateStores }, { on := 16, ground := Ground.textOnly Departure.lateStoresUnsure }, { on := 17, ground := Ground.phase }], guard := none }).run Tryz.prog w = .ok (.value (.pointer (some ⟨pb, 0, none⟩))) w := by
  simp [execOp, c35, go_sem]
theorem pstep19 (hF : ∀ f, F.fn f) (o : Oper) (l : Array Bool) (a : Act) (w : World) (ho : parseOps[19]? = some o) (h : PInv W0 B pbox pb sz pv xv n ps xs at_ x l a w) (_hl : l.getD 19 false = false)
    (hd : ∀ e ∈ o.after, Region.binds .any e = true → l.getD e.on false = true) :
    wpOpIn F m Tryz.prog parseOps Q 19 (fun a' w' => PInv W0 B pbox pb sz pv xv n ps xs at_ x (l.setIfInBounds 19 true) a' w') a w := by
  have e := Option.some.inj (ho.symm.trans pop19)
  subst e
  have c35 : a.eval (.tmp 35) = .pointer (some ⟨pb, 0, none⟩) := h.det 18 (by decide) (by decide) (hd ⟨18, .data⟩ (by simp) rfl)
  exact step_value hF pop19 rfl (fun c e => by cases e) (prun19 a.eval w c35) (h.read 19 (by decide) (by decide))
theorem pop20 : parseOps[20]? = some { dst := some 37, op := Op.fieldAddr 84 (Operand.tmp 36) 0, type := 0, pos := "text.go:226", after := #[{ on := 19, ground := Ground.data }, { on := 0, ground := Ground.phase }, { on := 1, ground := Ground.textOnly Departure.lateStores }, { on := 2, ground := Ground.phase }, { on := 3, ground := Ground.phase }, { on := 4, ground := Ground.phase }, { on := 5, ground := Ground.phase }, { on := 6, ground := Ground.phase }, { on := 7, ground := Ground.phase }, { on := 8, ground := Ground.phase }, { on := 9, ground := Ground.phase }, { on := 10, ground := Ground.textOnly Departure.lateStores }, { on := 11, ground := Ground.textOnly Departure.lateStoresUnsure }, { on := 12, ground := Ground.textOnly Departure.lateStoresUnsure }, { on := 13, ground := Ground.textOnly Departure.lateStoresUnsure }, { on := 14, ground := Ground.phase }, { on := 15, ground := Ground.textOnly Departure.lateStores }, { on := 16, ground := Ground.textOnly Departure.lateStoresUnsure }, { on := 17, ground := Ground.phase }], guard := none } := rfl
theorem prun20 (ρ : Operand → Value) (w : World) (c36 : ρ (.tmp 36) = .pointer (some ⟨pb, 0, none⟩)) : (execOp ρ { dst := some 37, op := Op.fieldAddr 84 (Operand.tmp 36) 0, type := 0, pos := "text.go:226", after := #[{ on := 19, ground := Ground.data }, { on := 0, ground := Ground.phase }, { on := 1, ground := Ground.textOnly Departure.lateStores }, { on := 2, ground := Ground.phase }, { on := 3, ground := Ground.phase }, { on := 4, ground := Ground.phase }, { on := 5, ground := Ground.phase }, { on := 6, ground := Ground.phase }, { on := 7, ground := Ground.phase }, { on := 8, ground := Ground.phase }, { on := 9, ground := Ground.phase }, { on := 10, ground := Ground.textOnly Departure.lateStores }, { on := 11, ground := Ground.textOnly Departure.lateStoresUnsure }, { on := 12, ground := Ground.textOnly Departure.lateStoresUnsure }, { on := 13, ground := Ground.textOnly Departure.lateStoresUnsure }, { on := 14, ground := Ground.phase }, { on := 15, ground := Ground.textOnly Departure.lateStores }, { on := 16, ground := Ground.textOnly Departure.lateStoresUnsure }, { on := 17, ground := Ground.phase }], guard := none }).run Tryz.prog w = .ok (.value (.pointer (some ⟨pb, 0, none⟩))) w := by
  simp [execOp, c36, go_sem]
theorem pstep20 (hF : ∀ f, F.fn f) (o : Oper) (l : Array Bool) (a : Act) (w : World) (ho : parseOps[20]? = some o) (h : PInv W0 B pbox pb sz pv xv n ps xs at_ x l a w) (_hl : l.getD 20 false = false)
    (hd : ∀ e ∈ o.after, Region.binds .any e = true → l.getD e.on false = true) :
    wpOpIn F m Tryz.prog parseOps Q 20 (fun a' w' => PInv W0 B pbox pb sz pv xv n ps xs at_ x (l.setIfInBounds 20 true) a' w') a w := by
  have e := Option.some.inj (ho.symm.trans pop20)
  subst e
  have c36 : a.eval (.tmp 36) = .pointer (some ⟨pb, 0, none⟩) := h.det 19 (by decide) (by decide) (hd ⟨19, .data⟩ (by simp) rfl)
  exact step_value hF pop20 rfl (fun c e => by cases e) (prun20 a.eval w c36) (h.read 20 (by decide) (by decide))
theorem pop21 : parseOps[21]? = some { dst := none, op := Op.store 36 (Operand.tmp 37) (Operand.tmp 26), type := 0, pos := "text.go:226", after := #[{ on := 20, ground := Ground.data }, { on := 9, ground := Ground.data }, { on := 17, ground := Ground.chain }, { on := 0, ground := Ground.phase }, { on := 1, ground := Ground.textOnly Departure.lateStores }, { on := 2, ground := Ground.phase }, { on := 3, ground := Ground.phase }, { on := 4, ground := Ground.phase }, { on := 5, ground := Ground.phase }, { on := 6, ground := Ground.phase }, { on := 7, ground := Ground.phase }, { on := 8, ground := Ground.phase }, { on := 9, ground := Ground.phase }, { on := 10, ground := Ground.textOnly Departure.lateStores }, { on := 11, ground := Ground.textOnly Departure.lateStoresUnsure }, { on := 12, ground := Ground.textOnly Departure.lateStoresUnsure }, { on := 13, ground := Ground.textOnly Departure.lateStoresUnsure }, { on := 14, ground := Ground.phase }, { on := 15, ground := Ground.textOnly Departure.lateStores }, { on := 16, ground := Ground.textOnly Departure.lateStoresUnsure }, { on := 17, ground := Ground.phase }], guard := none } := rfl
theorem prun21 (ρ : Operand → Value) (w : World) (v : Value) (hv : ∃ p k c, v = .slice p k c) (c1 : ρ (.tmp 37) = .pointer (some ⟨pb, 0, none⟩)) (c2 : ρ (.tmp 26) = v) (u : Value) (hc : w.cell? ⟨pb, 0, none⟩ = some u) (hf : w.frozen? ⟨pb, 0, none⟩ = false) : (execOp ρ { dst := none, op := Op.store 36 (Operand.tmp 37) (Operand.tmp 26), type := 0, pos := "text.go:226", after := #[{ on := 20, ground := Ground.data }, { on := 9, ground := Ground.data }, { on := 17, ground := Ground.chain }, { on := 0, ground := Ground.phase }, { on := 1, ground := Ground.textOnly Departure.lateStores }, { on := 2, ground := Ground.phase }, { on := 3, ground := Ground.phase }, { on := 4, ground := Ground.phase }, { on := 5, ground := Ground.phase }, { on := 6, ground := Ground.phase }, { on := 7, ground := Ground.phase }, { on := 8, ground := Ground.phase }, { on := 9, ground := Ground.phase }, { on := 10, ground := Ground.textOnly Departure.lateStores }, { on := 11, ground := Ground.textOnly Departure.lateStoresUnsure }, { on := 12, ground := Ground.textOnly Departure.lateStoresUnsure }, { on := 13, ground := Ground.textOnly Departure.lateStoresUnsure }, { on := 14, ground := Ground.phase }, { on := 15, ground := Ground.textOnly Departure.lateStores }, { on := 16, ground := Ground.textOnly Departure.lateStoresUnsure }, { on := 17, ground := Ground.phase }], guard := none }).run Tryz.prog w = .ok .skip (w.setCell ⟨pb, 0, none⟩ v) := by
  obtain ⟨p, k, c, rfl⟩ := hv
  simp [execOp, c1, c2, hc, hf, go_sem]
theorem pstep21 (hF : ∀ f, F.fn f) (hpb : pb < B) (hpx : pbox < B) (hne : pbox ≠ pb) (hB : B ≤ W0.heap.size) (o : Oper) (l : Array Bool) (a : Act) (w : World) (ho : parseOps[21]? = some o) (h : PInv W0 B pbox pb sz pv xv n ps xs at_ x l a w) (hl : l.getD 21 false = false)
    (hd : ∀ e ∈ o.after, Region.binds .any e = true → l.getD e.on false = true) :
    wpOpIn F m Tryz.prog parseOps Q 21 (fun a' w' => PInv W0 B pbox pb sz pv xv n ps xs at_ x (l.setIfInBounds 21 true) a' w') a w := by
  have e := Option.some.inj (ho.symm.trans pop21)
  subst e
  have c1 : a.eval (.tmp 37) = .pointer (some ⟨pb, 0, none⟩) := h.det 20 (by decide) (by decide) (hd ⟨20, .data⟩ (by simp) rfl)
  have e9 := hd ⟨9, .data⟩ (by simp) rfl
  have hv : ∃ p k c, a.tmps.getD 26 undef = .slice p k c := by
    have := h.w9
    rw [e9] at this
    rcases this.2 with ⟨hv, _⟩ | ⟨g, cap, cur, hv, _⟩
    · exact ⟨_, _, _, hv⟩
    · exact ⟨_, _, _, hv⟩
  exact step_skip hF pop21 rfl (fun c e => by cases e) (prun21 a.eval w _ hv c1 rfl _ (cell_of_blk h.pbk 0 _ rfl) (free_of_blk h.pbk 0)) (h.store21 hpb hpx hne hB hl (hd ⟨9, .data⟩ (by simp) rfl) (hd ⟨17, .chain⟩ (by simp) rfl))
theorem pop22 : parseOps[22]? = some { dst := some 38, op := Op.nilCheck (Operand.tmp 18), type := 0, pos := "text.go:226", after := #[{ on := 1, ground := Ground.data }, { on := 0, ground := Ground.phase }, { on := 1, ground := Ground.phase }, { on := 2, ground := Ground.phase }, { on := 3, ground := Ground.phase }, { on := 4, ground := Ground.phase }, { on := 5, ground := Ground.phase }, { on := 6, ground := Ground.phase }, { on := 7, ground := Ground.phase }, { on := 8, ground := Ground.phase }, { on := 9, ground := Ground.phase }, { on := 10, ground := Ground.phase }, { on := 11, ground := Ground.phase }, { on := 12, ground := Ground.phase }, { on := 13, ground := Ground.phase }, { on := 14, ground := Ground.phase }, { on := 15, ground := Ground.phase }, { on := 16, ground := Ground.phase }, { on := 17, ground := Ground.phase }, { on := 18, ground := Ground.phase }, { on := 19, ground := Ground.phase }, { on := 20, ground := Ground.phase }, { on := 21, ground := Ground.phase }], guard := none } := rfl
theorem prun22 (ρ : Operand → Value) (w : World) (c18 : ρ (.tmp 18) = .pointer (some ⟨pb, 0, none⟩)) : (execOp ρ { dst := some 38, op := Op.nilCheck (Operand.tmp 18), type := 0, pos := "text.go:226", after := #[{ on := 1, ground := Ground.data }, { on := 0, ground := Ground.phase }, { on := 1, ground := Ground.phase }, { on := 2, ground := Ground.phase }, { on := 3, ground := Ground.phase }, { on := 4, ground := Ground.phase }, { on := 5, ground := Ground.phase }, { on := 6, ground := Ground.phase }, { on := 7, ground := Ground.phase }, { on := 8, ground := Ground.phase }, { on := 9, ground := Ground.phase }, { on := 10, ground := Ground.phase }, { on := 11, ground := Ground.phase }, { on := 12, ground := Ground.phase }, { on := 13, ground := Ground.phase }, { on := 14, ground := Ground.phase }, { on := 15, ground := Ground.phase }, { on := 16, ground := Ground.phase }, { on := 17, ground := Ground.phase }, { on := 18, ground := Ground.phase }, { on := 19, ground := Ground.phase }, { on := 20, ground := Ground.phase }, { on := 21, ground := Ground.phase }], guard := none }).run Tryz.prog w = .ok (.value (.pointer (some ⟨pb, 0, none⟩))) w := by
  simp [execOp, c18, go_sem]
theorem pstep22 (hF : ∀ f, F.fn f) (o : Oper) (l : Array Bool) (a : Act) (w : World) (ho : parseOps[22]? = some o) (h : PInv W0 B pbox pb sz pv xv n ps xs at_ x l a w) (_hl : l.getD 22 false = false)
    (hd : ∀ e ∈ o.after, Region.binds .any e = true → l.getD e.on false = true) :
    wpOpIn F m Tryz.prog parseOps Q 22 (fun a' w' => PInv W0 B pbox pb sz pv xv n ps xs at_ x (l.setIfInBounds 22 true) a' w') a w := by
  have e := Option.some.inj (ho.symm.trans pop22)
  subst e
  have c18 : a.eval (.tmp 18) = .pointer (some ⟨pb, 0, none⟩) := h.det 1 (by decide) (by decide) (hd ⟨1, .data⟩ (by simp) rfl)
  exact step_value hF pop22 rfl (fun c e => by cases e) (prun22 a.eval w c18) (h.read 22 (by decide) (by decide))
theorem pop23 : parseOps[23]? = some { dst := some 39, op := Op.fieldAddr 86 (Operand.tmp 38) 0, type := 0, pos := "text.go:226", after := #[{ on := 22, ground := Ground.data }, { on := 0, ground := Ground.phase }, { on := 1, ground := Ground.phase }, { on := 2, ground := Ground.phase }, { on := 3, ground := Ground.phase }, { on := 4, ground := Ground.phase }, { on := 5, ground := Ground.phase }, { on := 6, ground := Ground.phase }, { on := 7, ground := Ground.phase }, { on := 8, ground := Ground.phase }, { on := 9, ground := Ground.phase }, { on := 10, ground := Ground.phase }, { on := 11, ground := Ground.phase }, { on := 12, ground := Ground.phase }, { on := 13, ground := Ground.phase }, { on := 14, ground := Ground.phase }, { on := 15, ground := Ground.phase }, { on := 16, ground := Ground.phase }, { on := 17, ground := Ground.phase }, { on := 18, ground := Ground.phase }, { on := 19, ground := Ground.phase }, { on := 20, ground := Ground.phase }, { on := 21, ground := Ground.phase }], guard := none } := rfl
theorem prun23 (ρ : Operand → Value) (w : World) (c38 : ρ (.tmp 38) = .pointer (some ⟨pb, 0, none⟩)) : (execOp ρ { dst := some 39, op := Op.fieldAddr 86 (Operand.tmp 38) 0, type := 0, pos := "text.go:226", after := #[{ on := 22, ground := Ground.data }, { on := 0, ground := Ground.phase }, { on := 1, ground := Ground.phase }, { on := 2, ground := Ground.phase }, { on := 3, ground := Ground.phase }, { on := 4, ground := Ground.phase }, { on := 5, ground := Ground.phase }, { on := 6, ground := Ground.phase }, { on := 7, ground := Ground.phase }, { on := 8, ground := Ground.phase }, { on := 9, ground := Ground.phase }, { on := 10, ground := Ground.phase }, { on := 11, ground := Ground.phase }, { on := 12, ground := Ground.phase }, { on := 13, ground := Ground.phase }, { on := 14, ground := Ground.phase }, { on := 15, ground := Ground.phase }, { on := 16, ground := Ground.phase }, { on := 17, ground := Ground.phase }, { on := 18, ground := Ground.phase }, { on := 19, ground := Ground.phase }, { on := 20, ground := Ground.phase }, { on := 21, ground := Ground.phase }], guard := none }).run Tryz.prog w = .ok (.value (.pointer (some ⟨pb, 0, none⟩))) w := by
  simp [execOp, c38, go_sem]
theorem pstep23 (hF : ∀ f, F.fn f) (o : Oper) (l : Array Bool) (a : Act) (w : World) (ho : parseOps[23]? = some o) (h : PInv W0 B pbox pb sz pv xv n ps xs at_ x l a w) (_hl : l.getD 23 false = false)
    (hd : ∀ e ∈ o.after, Region.binds .any e = true → l.getD e.on false = true) :
    wpOpIn F m Tryz.prog parseOps Q 23 (fun a' w' => PInv W0 B pbox pb sz pv xv n ps xs at_ x (l.setIfInBounds 23 true) a' w') a w := by
  have e := Option.some.inj (ho.symm.trans pop23)
  subst e
  have c38 : a.eval (.tmp 38) = .pointer (some ⟨pb, 0, none⟩) := h.det 22 (by decide) (by decide) (hd ⟨22, .data⟩ (by simp) rfl)
  exact step_value hF pop23 rfl (fun c e => by cases e) (prun23 a.eval w c38) (h.read 23 (by decide) (by decide))
theorem pop24 : parseOps[24]? = some { dst := some 40, op := Op.fieldAddr 84 (Operand.tmp 39) 1, type := 0, pos := "text.go:226", after := #[{ on := 23, ground := Ground.data }, { on := 0, ground := Ground.phase }, { on := 1, ground := Ground.phase }, { on := 2, ground := Ground.phase }, { on := 3, ground := Ground.phase }, { on := 4, ground := Ground.phase }, { on := 5, ground := Ground.phase }, { on := 6, ground := Ground.phase }, { on := 7, ground := Ground.phase }, { on := 8, ground := Ground.phase }, { on := 9, ground := Ground.phase }, { on := 10, ground := Ground.phase }, { on := 11, ground := Ground.phase }, { on := 12, ground := Ground.phase }, { on := 13, ground := Ground.phase }, { on := 14, ground := Ground.phase }, { on := 15, ground := Ground.phase }, { on := 16, ground := Ground.phase }, { on := 17, ground := Ground.phase }, { on := 18, ground := Ground.phase }, { on := 19, ground := Ground.phase }, { on := 20, ground := Ground.phase }, { on := 21, ground := Ground.phase }], guard := none } := rfl
theorem prun24 (ρ : Operand → Value) (w : World) (c39 : ρ (.tmp 39) = .pointer (some ⟨pb, 0, none⟩)) : (execOp ρ { dst := some 40, op := Op.fieldAddr 84 (Operand.tmp 39) 1, type := 0, pos := "text.go:226", after := #[{ on := 23, ground := Ground.data }, { on := 0, ground := Ground.phase }, { on := 1, ground := Ground.phase }, { on := 2, ground := Ground.phase }, { on := 3, ground := Ground.phase }, { on := 4, ground := Ground.phase }, { on := 5, ground := Ground.phase }, { on := 6, ground := Ground.phase }, { on := 7, ground := Ground.phase }, { on := 8, ground := Ground.phase }, { on := 9, ground := Ground.phase }, { on := 10, ground := Ground.phase }, { on := 11, ground := Ground.phase }, { on := 12, ground := Ground.phase }, { on := 13, ground := Ground.phase }, { on := 14, ground := Ground.phase }, { on := 15, ground := Ground.phase }, { on := 16, ground := Ground.phase }, { on := 17, ground := Ground.phase }, { on := 18, ground := Ground.phase }, { on := 19, ground := Ground.phase }, { on := 20, ground := Ground.phase }, { on := 21, ground := Ground.phase }], guard := none }).run Tryz.prog w = .ok (.value (.pointer (some ⟨pb, 1, none⟩))) w := by
  simp [execOp, c39, go_sem]
theorem pstep24 (hF : ∀ f, F.fn f) (o : Oper) (l : Array Bool) (a : Act) (w : World) (ho : parseOps[24]? = some o) (h : PInv W0 B pbox pb sz pv xv n ps xs at_ x l a w) (_hl : l.getD 24 false = false)
    (hd : ∀ e ∈ o.after, Region.binds .any e = true → l.getD e.on false = true) :
    wpOpIn F m Tryz.prog parseOps Q 24 (fun a' w' => PInv W0 B pbox pb sz pv xv n ps xs at_ x (l.setIfInBounds 24 true) a' w') a w := by
  have e := Option.some.inj (ho.symm.trans pop24)
  subst e
  have c39 : a.eval (.tmp 39) = .pointer (some ⟨pb, 0, none⟩) := h.det 23 (by decide) (by decide) (hd ⟨23, .data⟩ (by simp) rfl)
  exact step_value hF pop24 rfl (fun c e => by cases e) (prun24 a.eval w c39) (h.read 24 (by decide) (by decide))
theorem pop25 : parseOps[25]? = some { dst := none, op := Op.store 82 (Operand.tmp 40) (Operand.tmp 34), type := 0, pos := "text.go:226", after := #[{ on := 24, ground := Ground.data }, { on := 17, ground := Ground.data }, { on := 21, ground := Ground.chain }, { on := 0, ground := Ground.phase }, { on := 1, ground := Ground.phase }, { on := 2, ground := Ground.phase }, { on := 3, ground := Ground.phase }, { on := 4, ground := Ground.phase }, { on := 5, ground := Ground.phase }, { on := 6, ground := Ground.phase }, { on := 7, ground := Ground.phase }, { on := 8, ground := Ground.phase }, { on := 9, ground := Ground.phase }, { on := 10, ground := Ground.phase }, { on := 11, ground := Ground.phase }, { on := 12, ground := Ground.phase }, { on := 13, ground := Ground.phase }, { on := 14, ground := Ground.phase }, { on := 15, ground := Ground.phase }, { on := 16, ground := Ground.phase }, { on := 17, ground := Ground.phase }, { on := 18, ground := Ground.phase }, { on := 19, ground := Ground.phase }, { on := 20, ground := Ground.phase }, { on := 21, ground := Ground.phase }], guard := none } := rfl
theorem prun25 (ρ : Operand → Value) (w : World) (v : Value) (hv : ∃ p k c, v = .slice p k c) (c1 : ρ (.tmp 40) = .pointer (some ⟨pb, 1, none⟩)) (c2 : ρ (.tmp 34) = v) (u : Value) (hc : w.cell? ⟨pb, 1, none⟩ = some u) (hf : w.frozen? ⟨pb, 1, none⟩ = false) : (execOp ρ { dst := none, op := Op.store 82 (Operand.tmp 40) (Operand.tmp 34), type := 0, pos := "text.go:226", after := #[{ on := 24, ground := Ground.data }, { on := 17, ground := Ground.data }, { on := 21, ground := Ground.chain }, { on := 0, ground := Ground.phase }, { on := 1, ground := Ground.phase }, { on := 2, ground := Ground.phase }, { on := 3, ground := Ground.phase }, { on := 4, ground := Ground.phase }, { on := 5, ground := Ground.phase }, { on := 6, ground := Ground.phase }, { on := 7, ground := Ground.phase }, { on := 8, ground := Ground.phase }, { on := 9, ground := Ground.phase }, { on := 10, ground := Ground.phase }, { on := 11, ground := Ground.phase }, { on := 12, ground := Ground.phase }, { on := 13, ground := Ground.phase }, { on := 14, ground := Ground.phase }, { on := 15, ground := Ground.phase }, { on := 16, ground := Ground.phase }, { on := 17, ground := Ground.phase }, { on := 18, ground := Ground.phase }, { on := 19, ground := Ground.phase }, { on := 20, ground := Ground.phase }, { on := 21, ground := Ground.phase }], guard := none }).run Tryz.prog w = .ok .skip (w.setCell ⟨pb, 1, none⟩ v) := by
  obtain ⟨p, k, c, rfl⟩ := hv
  simp [execOp, c1, c2, hc, hf, go_sem]
theorem pstep25 (hF : ∀ f, F.fn f) (hpb : pb < B) (hpx : pbox < B) (hne : pbox ≠ pb) (hB : B ≤ W0.heap.size) (o : Oper) (l : Array Bool) (a : Act) (w : World) (ho : parseOps[25]? = some o) (h : PInv W0 B pbox pb sz pv xv n ps xs at_ x l a w) (hl : l.getD 25 false = false)
    (hd : ∀ e ∈ o.after, Region.binds .any e = true → l.getD e.on false = true) :
    wpOpIn F m Tryz.prog parseOps Q 25 (fun a' w' => PInv W0 B pbox pb sz pv xv n ps xs at_ x (l.setIfInBounds 25 true) a' w') a w := by
  have e := Option.some.inj (ho.symm.trans pop25)
  subst e
  have c1 : a.eval (.tmp 40) = .pointer (some ⟨pb, 1, none⟩) := h.det 24 (by decide) (by decide) (hd ⟨24, .data⟩ (by simp) rfl)
  have e9 := hd ⟨17, .data⟩ (by simp) rfl
  have hv : ∃ p k c, a.tmps.getD 34 undef = .slice p k c := by
    have := h.w17
    rw [e9] at this
    rcases this.2 with ⟨hv, _⟩ | ⟨g, cap, cur, hv, _⟩
    · exact ⟨_, _, _, hv⟩
    · exact ⟨_, _, _, hv⟩
  exact step_skip hF pop25 rfl (fun c e => by cases e) (prun25 a.eval w _ hv c1 rfl _ (cell_of_blk h.pbk 1 _ rfl) (free_of_blk h.pbk 1)) (h.store25 hpb hpx hne hB hl (hd ⟨21, .chain⟩ (by simp) rfl))
end
end Go.Proofs.YtokfgdpmbmnijaaGreatDoor
/- Parse's range over tokens: a round, whole. -/
namespace Go.Proofs.YtokfgdpmbmnijaaGreatDoor
open Go.RowKit

section
variable {W0 : World} {B pbox pb : Nat} {sz : Int} {pv xv : Value} {n m : Nat} {ps xs : List Value} {at_ : Nat} {x : ByteArray} {F : Fence} {Q : Exit → Act → World → Prop}
theorem parse_step (hF : ∀ f, F.fn f) (hpb : pb < B) (hpx : pbox < B) (hne : pbox ≠ pb) (hB : B ≤ W0.heap.size) (hn : n ≤ 1000000) (hpv : ∃ p k c, pv = .slice p k c) (hxv : ∃ p k c, xv = .slice p k c)
    (hlp : ∀ k, pv.ownBlock = some k → k < W0.heap.size) (hlx : ∀ k, xv.ownBlock = some k → k < W0.heap.size)
    (i : Nat) (o : Oper) (l : Array Bool) (a : Act) (w : World) (ho : parseOps[i]? = some o) (h : PInv W0 B pbox pb sz pv xv n ps xs at_ x l a w) (hl' : l.getD i true = false)
    (hd : ∀ e ∈ o.after, Region.binds .any e = true → l.getD e.on false = true) :
    wpOpIn F m Tryz.prog parseOps Q i (fun a' w' => PInv W0 B pbox pb sz pv xv n ps xs at_ x (l.setIfInBounds i true) a' w') a w := by
  have hi : i < 26 := by
    rcases Nat.lt_or_ge i 26 with h' | h'
    · exact h'
    · rw [Array.getElem?_eq_none (by rw [parseOps_size]; exact h')] at ho; cases ho
  have hl := getD_false hl'
  match i, hi with
  | 0, _ => exact pstep0 hF o l a w ho h hl hd
  | 1, _ => exact pstep1 hF o l a w ho h hl hd
  | 2, _ => exact pstep2 hF o l a w ho h hl hd
  | 3, _ => exact pstep3 hF o l a w ho h hl hd
  | 4, _ => exact pstep4 hF o l a w ho h hl hd
  | 5, _ => exact pstep5 hF o l a w ho h hl hd
  | 6, _ => exact pstep6 hF hpv o l a w ho h hl hd
  | 7, _ => exact pstep7 hF o l a w ho h hl hd
  | 8, _ => exact pstep8 hF hpb hpx o l a w ho h hl hd
  | 9, _ => exact pstep9 hF hpb hpx hB hn hlp o l a w ho h hl hd
  | 10, _ => exact pstep10 hF o l a w ho h hl hd
  | 11, _ => exact pstep11 hF o l a w ho h hl hd
  | 12, _ => exact pstep12 hF o l a w ho h hl hd
  | 13, _ => exact pstep13 hF o l a w ho h hl hd
  | 14, _ => exact pstep14 hF hxv o l a w ho h hl hd
  | 15, _ => exact pstep15 hF o l a w ho h hl hd
  | 16, _ => exact pstep16 hF hpb hpx o l a w ho h hl hd
  | 17, _ => exact pstep17 hF hpb hpx hB hn hlx o l a w ho h hl hd
  | 18, _ => exact pstep18 hF o l a w ho h hl hd
  | 19, _ => exact pstep19 hF o l a w ho h hl hd
  | 20, _ => exact pstep20 hF o l a w ho h hl hd
  | 21, _ => exact pstep21 hF hpb hpx hne hB o l a w ho h hl hd
  | 22, _ => exact pstep22 hF o l a w ho h hl hd
  | 23, _ => exact pstep23 hF o l a w ho h hl hd
  | 24, _ => exact pstep24 hF o l a w ho h hl hd
  | 25, _ => exact pstep25 hF hpb hpx hne hB o l a w ho h hl hd
end

/-- Between two rounds: the parser holds what has come. -/
structure PAt (B pbox pb : Nat) (sz : Int) (s : ByteArray) (w0 : World) (pre : List Tk) (W : World) : Prop where
  rows : ∃ pv xv, W.ownsRow B 3 1 pv pre.length (pre.map fun t => Value.int .i64 (t.1 : Nat)) ∧ W.ownsRow B 9 1 xv pre.length (pre.map fun t => Value.string (s.extract t.1 t.2)) ∧
    W.heap[pb]? = some (.cells #[pv, xv, .int .i64 sz, .int .i64 0, .int .i64 0, .slice none 0 0] 86 (0, 0))
  box : W.cell? ⟨pbox, 0, none⟩ = some (.pointer (some ⟨pb, 0, none⟩))
  below : Below w0.heap.size w0 W
  size : B ≤ W.heap.size
theorem parse_region {r m id : Nat} {B pbox pb : Nat} {sz : Int} {s : ByteArray} {w0 : World} {pre : List Tk} {W : World} {S : Nat → Prop} (hpb : pb < B) (hpx : pbox < B) (hne : pbox ≠ pb) (hw0 : w0.heap.size ≤ pb) (_hw1 : w0.heap.size ≤ pbox)
    (hS : ∀ k, S k → k < B ∧ k ≠ pb) (h : PAt B pbox pb sz s w0 pre W) (hn : pre.length ≤ 1000000) (x : Tk) (a : Act) (has : a.tmps.size = 86) (h5 : a.tmps.getD 5 undef = .pointer (some ⟨pbox, 0, none⟩)) (h6 : a.tmps.getD 6 undef = .int .i64 (x.1 : Nat)) (h7 : a.tmps.getD 7 undef = .string (s.extract x.1 x.2))
    {Q : Exit → Act → World → Prop} (hQ : ∀ a' w', KeepsOthers W w' → Kept S W w' → PAt B pbox pb sz s w0 (pre ++ [x]) w' → Q .normal a' w') :
    (Code.region id parseOps true).wpIn (Fence.wide.inRound r) m Tryz.prog Q a W := by
  obtain ⟨pv, xv, hp, hx, hk⟩ := h.rows
  have hpv : ∃ p k c, pv = .slice p k c := let ⟨p, c, e⟩ := own_form hp; ⟨p, _, c, e⟩
  have hxv : ∃ p k c, xv = .slice p k c := let ⟨p, c, e⟩ := own_form hx; ⟨p, _, c, e⟩
  have hlp := fun k e => (hp.lt k e).2
  have hlx := fun k e => (hx.lt k e).2
  refine wpIn_region_inv (by kernel_rfl) (PInv W B pbox pb sz pv xv pre.length (pre.map fun t => Value.int .i64 (t.1 : Nat)) (pre.map fun t => Value.string (s.extract t.1 t.2)) x.1 (s.extract x.1 x.2)) parseOps_back
    (fun i o l a w ho h1 h2 h3 => parse_step (fun _ => trivial) hpb hpx hne h.size hn hpv hxv hlp hlx i o l a w ho h1 h2 h3) ?_ ?_
  · intro l a' w' hI hall
    have e9 : l.getD 9 false = true := hall 9 (by decide)
    have e17 : l.getD 17 false = true := hall 17 (by decide)
    have e21 : l.getD 21 false = true := hall 21 (by decide)
    have e25 : l.getD 25 false = true := hall 25 (by decide)
    have r1 := hI.w9
    have r2 := hI.w17
    have r3 := hI.pbk
    rw [e9] at r1
    rw [e17] at r2
    rw [e21, e25] at r3
    refine hQ a' w' hI.oth ⟨hI.keep.os, hI.keep.tape, hI.keep.output, hI.keep.size, fun k hk => hI.keep.block k ?_⟩ ⟨⟨_, _, ?_, ?_, r3⟩, hI.box, h.below.trans (hI.keep.below ?_), Nat.le_trans h.size hI.keep.size⟩
    · have := hS k hk
      have := h.size
      exact ⟨by omega, (hS k hk).2, fun e => by have := (hp.lt k e.symm).1; omega, fun e => by have := (hx.lt k e.symm).1; omega⟩
    · rw [List.length_append, List.map_append]; exact r1
    · rw [List.length_append, List.map_append]; exact r2
    · intro k hkk
      have := h.size
      exact ⟨by omega, by omega, fun e => by have := (hp.lt k e.symm).1; omega, fun e => by have := (hx.lt k e.symm).1; omega⟩
  · have hrep : ∀ k, (Array.replicate parseOps.size false).getD k false = false := fun k => by
      rw [Array.getD_eq_getD_getElem?, Array.getElem?_replicate]; split <;> rfl
    refine ⟨by simp [parseOps_size], has, h5, h6, h7, ?_, ?_, ?_, ?_, ?_, ?_, ?_, ?_, ?_, ?_, h.box, ⟨rfl, rfl, rfl, Nat.le_refl _, fun _ _ => rfl⟩, ⟨Nat.le_refl _, fun _ _ e _ => e⟩⟩
    · intro j _ _ e; rw [hrep] at e; cases e
    · intro e; rw [hrep] at e; cases e
    · intro e; rw [hrep] at e; cases e
    · intro e; rw [hrep] at e; cases e
    · intro e; rw [hrep] at e; cases e
    · intro e; rw [hrep] at e; cases e
    · intro e; rw [hrep] at e; cases e
    · rw [hrep]; exact hp
    · rw [hrep]; exact hx
    · rw [hrep, hrep]; exact hk
theorem PAt.own {B' B pbox pb : Nat} {sz : Int} {s : ByteArray} {w0 : World} (hB : w0.heap.size ≤ B') : OwnFrom B' (PAt B pbox pb sz s w0) := by
  intro pre W W' row h hg hr
  have nc : ∀ k cs t fr, W.heap[k]? = some (.cells cs t fr) → some k ≠ row := by
    intro k cs t fr hk e
    obtain ⟨_, o, ho, hc⟩ := hr k e.symm
    rw [hk] at ho; cases ho; cases hc
  obtain ⟨pv, xv, hp, hx, hk⟩ := h.rows
  have hlt : pb < W.heap.size := (Array.getElem?_eq_some_iff.1 hk).1
  have keep : ∀ {e : TypeId} {v : Value} {k : Nat} {zs : List Value}, W.ownsRow B e 1 v k zs → W'.ownsRow B e 1 v k zs := fun {e v k zs} ho => ho.kept hg (by
    cases hv : v.ownBlock with
    | none => exact .inl rfl
    | some j => obtain ⟨_, c, hc⟩ := own_type ho j hv; exact .inr (nc j _ _ _ hc))
  refine ⟨⟨pv, xv, keep hp, keep hx, (hg.block pb hlt (nc _ _ _ _ hk)).trans hk⟩, hg.cell h.box ?_, h.below.grown hg h.below.size (fun k e => ?_), Nat.le_trans h.size hg.size⟩
  · intro e
    obtain ⟨_, o, ho, hc⟩ := hr pbox e.symm
    have := h.box
    simp only [World.cell?, ho] at this
    cases o <;> first | (cases hc; done) | (simp at this; done)
  · have := (hr k e).1; omega

theorem text_tokens (s : ByteArray) (w : World) :
    Calls Tryz.prog 47 #[.string s] w fun e w' => e = .returned (.func (.func 84) #[] #[.pointer (some ⟨w.heap.size, 0, none⟩)]) ∧ w' = w.alloc (.cells #[.string s] 9) := by
  go_enter Tryz.func47, Tryz.ntmps47
  go_wp2_with fail
  go_ret
  exact ⟨rfl, rfl⟩
theorem text_tokens_stops (n B1 : Nat) (s : ByteArray) (hs : s.size ≤ 1000000) (S : Nat → Prop) (hS1 : S B1) (w : World) (hSW : ∀ k, S k → k < w.heap.size) (h1 : w.cell? ⟨B1, 0, none⟩ = some (.string s)) :
    SeqStopsK Fence.wide n Tryz.prog 84 #[.pointer (some ⟨B1, 0, none⟩)] (fun x : Tk => #[Value.int .i64 (x.1 : Nat), Value.string (s.extract x.1 x.2)]) (Kept S)
      (fun ys => ys = toks s) (fun pre => pre.length ≤ s.size) s.size w := fun l J Jx W hW _ _ hY h0 =>
  (text_tokens1 n l B1 s hs S hS1 J Jx W (fun k hk => Nat.lt_of_lt_of_le (hSW k hk) hW.size) (fun pre x W1 a b _ => hY pre x W1 a b) ((hW.cell (p := ⟨B1, 0, none⟩) (hSW _ hS1)).trans h1) h0).mono
    fun _ _ ⟨a, b⟩ => ⟨a, b.imp (fun c => ⟨_, rfl, c⟩) id⟩
end Go.Proofs.YtokfgdpmbmnijaaGreatDoor
/- text's reader and parser: the state, next, wrong. -/
namespace Go.Proofs.YtokfgdpmbmnijaaGreatDoor
open Go.RowKit

/-- What a reader has: tokens that are left, the last one's place, the error. -/
structure PS where
  tk : List (Nat × ByteArray)
  last : Int
  e : Int
def wrongP (is : Bool) (er : Int) (st : PS) : PS := if is = true ∧ st.e = 0 then { st with e := er } else st
def nextT (st : PS) : ByteArray := match st.tk with | [] => ⟨#[]⟩ | t :: _ => t.2
def nextP (sz : Int) (st : PS) : PS := match st.tk with | [] => wrongP true 13 { st with last := sz } | t :: r => { st with tk := r, last := t.1 }
/-- Only pb's block may have changed. -/
structure Only (pb : Nat) (w w' : World) : Prop where
  os : w'.os = w.os
  tape : w'.tape = w.tape
  output : w'.output = w.output
  size : w.heap.size ≤ w'.heap.size
  block : ∀ k, k < w.heap.size → k ≠ pb → w'.heap[k]? = w.heap[k]?
theorem Only.refl (pb : Nat) (w : World) : Only pb w w := ⟨rfl, rfl, rfl, Nat.le_refl _, fun _ _ _ => rfl⟩
theorem Only.trans {pb : Nat} {a b c : World} (h : Only pb a b) (k : Only pb b c) : Only pb a c :=
  ⟨k.os.trans h.os, k.tape.trans h.tape, k.output.trans h.output, Nat.le_trans h.size k.size, fun i hi hp => (k.block i (Nat.lt_of_lt_of_le hi h.size) hp).trans (h.block i hi hp)⟩
theorem Only.of_below {pb : Nat} {w w' : World} (h : Below w.heap.size w w') : Only pb w w' := ⟨h.os, h.tape, h.output, h.size, fun k hk _ => h.block k hk⟩
theorem Only.set {pb i : Nat} {a w : World} {v : Value} (h : Only pb a w) : Only pb a (w.setCell ⟨pb, i, none⟩ v) :=
  h.trans ⟨rfl, rfl, rfl, by simp [World.setCell], fun k _ hk => Below.heap_setCell _ _ _ _ hk⟩
theorem Only.drew {pb : Nat} {a w : World} (h : Only pb a w) : Only pb a w.drew := ⟨h.os, h.tape, h.output, h.size, h.block⟩
theorem Only.below {pb B : Nat} {a w : World} (h : Only pb a w) (hB : B ≤ pb) (hs : B ≤ a.heap.size) : Below B a w := ⟨h.os, h.tape, h.output, h.size, fun k hk => h.block k (by omega) (by omega)⟩

structure PSt (B pb : Nat) (sz : Int) (tv : Value) (st : PS) (w : World) : Prop where
  lt : pb < B
  ex : ∃ pa pc xa xc, w.heap[pb]? = some (.cells #[.slice pa st.tk.length pc, .slice xa st.tk.length xc, .int .i64 sz, .int .i64 st.last, .int .i64 st.e, tv] 86 (0, 0)) ∧ st.tk.length ≤ pc ∧ st.tk.length ≤ xc ∧
    (st.tk ≠ [] → ∃ ga oa gx ox, pa = some ⟨ga, oa, none⟩ ∧ xa = some ⟨gx, ox, none⟩ ∧ ga ≠ pb ∧ gx ≠ pb ∧ ga < B ∧ gx < B ∧ ∀ j t, st.tk[j]? = some t → w.cell? ⟨ga, oa + j, none⟩ = some (.int .i64 (t.1 : Nat)) ∧ w.cell? ⟨gx, ox + j, none⟩ = some (.string t.2))
theorem PSt.heap_lt {B pb : Nat} {sz : Int} {tv : Value} {st : PS} {w : World} (h : PSt B pb sz tv st w) : pb < w.heap.size := by
  obtain ⟨_, _, _, _, h1, _⟩ := h.ex
  exact (Array.getElem?_eq_some_iff.1 h1).1
/-- Where other blocks turn alone the state stands. -/
theorem PSt.kept {B pb : Nat} {sz : Int} {tv : Value} {st : PS} {w w' : World} (h : PSt B pb sz tv st w) (hb : ∀ k, k < w.heap.size → k < B → w'.heap[k]? = w.heap[k]?) : PSt B pb sz tv st w' := by
  have hl := h.heap_lt
  obtain ⟨pa, pc, xa, xc, h1, h2, h3, h4⟩ := h.ex
  refine ⟨h.lt, pa, pc, xa, xc, (hb pb hl h.lt).trans h1, h2, h3, fun hne => ?_⟩
  obtain ⟨ga, oa, gx, ox, e1, e2, e3, e4, e5, e6, e7⟩ := h4 hne
  refine ⟨ga, oa, gx, ox, e1, e2, e3, e4, e5, e6, fun j t hj => ?_⟩
  obtain ⟨c1, c2⟩ := e7 j t hj
  exact ⟨(World.cell?_of_block (w := w) (hb ga (World.block_lt_of_cell? w _ c1) e5)).trans c1, (World.cell?_of_block (w := w) (hb gx (World.block_lt_of_cell? w _ c2) e6)).trans c2⟩
theorem PSt.below_ {B pb : Nat} {sz : Int} {tv : Value} {st : PS} {w w' : World} (h : PSt B pb sz tv st w) (hb : Below w.heap.size w w') : PSt B pb sz tv st w' := h.kept fun k hk _ => hb.block k hk
theorem heap_set_ {W : World} {b i : Nat} {cs : Array Value} {t : TypeId} {fr : Nat × Nat} (v : Value) (h : W.heap[b]? = some (.cells cs t fr)) : (W.setCell ⟨b, i, none⟩ v).heap[b]? = some (.cells (cs.setIfInBounds i v) t fr) := by
  obtain ⟨hlt, hk⟩ := Array.getElem?_eq_some_iff.1 h
  show (W.heap.modify b _)[b]? = _
  rw [Array.getElem?_eq_getElem (by rw [Array.size_modify]; exact hlt), Array.getElem_modify_self, hk]
  rfl
/-- The parser's own block rewritten. -/
theorem PSt.set {B pb : Nat} {sz : Int} {tv : Value} {st st' : PS} {w w' : World} (h : PSt B pb sz tv st w) (ht : st'.tk = st.tk) (hk : ∀ k, k < w.heap.size → k ≠ pb → w'.heap[k]? = w.heap[k]?)
    (hs : ∀ pv xv, w.heap[pb]? = some (.cells #[pv, xv, .int .i64 sz, .int .i64 st.last, .int .i64 st.e, tv] 86 (0, 0)) → w'.heap[pb]? = some (.cells #[pv, xv, .int .i64 sz, .int .i64 st'.last, .int .i64 st'.e, tv] 86 (0, 0))) : PSt B pb sz tv st' w' := by
  obtain ⟨pa, pc, xa, xc, h1, h2, h3, h4⟩ := h.ex
  refine ⟨h.lt, pa, pc, xa, xc, by rw [ht]; exact hs _ _ h1, by rw [ht]; exact h2, by rw [ht]; exact h3, fun hne => ?_⟩
  rw [ht] at hne
  obtain ⟨ga, oa, gx, ox, e1, e2, e3, e4, e5, e6, e7⟩ := h4 hne
  refine ⟨ga, oa, gx, ox, e1, e2, e3, e4, e5, e6, fun j t hj => ?_⟩
  rw [ht] at hj
  obtain ⟨c1, c2⟩ := e7 j t hj
  exact ⟨(World.cell?_of_block (w := w) (hk ga (World.block_lt_of_cell? w _ c1) e3)).trans c1, (World.cell?_of_block (w := w) (hk gx (World.block_lt_of_cell? w _ c2) e4)).trans c2⟩

/-- 'wrong' notes an error, if there is none. -/
theorem text_wrong {B pb : Nat} {sz : Int} {tv : Value} {st : PS} {w : World} (is : Bool) (er : Int) (h : PSt B pb sz tv st w) :
    Calls Tryz.prog 50 #[.pointer (some ⟨pb, 0, none⟩), .bool is, .int .i64 er] w fun e w' => e = .returned (.tuple #[]) ∧ PSt B pb sz tv (wrongP is er st) w' ∧ Only pb w w' := by
  obtain ⟨pa, pc, xa, xc, h1, _⟩ := h.ex
  have c4 := cell_of_blk h1 4 _ rfl
  have f4 := free_of_blk h1 4
  have HS := Lib.hid h
  clear h h1
  cases is
  · go_enter Tryz.func50, Tryz.ntmps50
    go_wp2_with fail
    go_end0
    refine ⟨rfl, ?_, Only.refl _ _⟩
    have : wrongP false er st = st := by unfold wrongP; rw [if_neg (fun h => by cases h.1)]
    rw [this]; exact HS.out
  · cases hb : (st.e == 0)
    · go_enter Tryz.func50, Tryz.ntmps50
      go_wp2_with fail
      go_end0
      refine ⟨rfl, ?_, Only.refl _ _⟩
      have : wrongP true er st = st := by unfold wrongP; rw [if_neg (fun h => by rw [h.2] at hb; cases hb)]
      rw [this]; exact HS.out
    · go_enter Tryz.func50, Tryz.ntmps50
      go_wp2_with fail
      go_end0
      refine ⟨rfl, ?_, (Only.refl _ _).set⟩
      have e : wrongP true er st = { st with e := er } := by unfold wrongP; rw [if_pos ⟨rfl, eq_of_beq hb⟩]
      rw [e]
      exact HS.out.set rfl (fun k _ hk => Below.heap_setCell _ _ _ _ hk) (fun pv xv hh => heap_set_ _ hh)

set_option maxHeartbeats 2000000 in
set_option maxRecDepth 100000 in
/-- 'next' takes a token. -/
theorem text_next {B pb : Nat} {sz : Int} {tv : Value} {st : PS} {w : World} (h : PSt B pb sz tv st w) (hl : st.tk.length ≤ 1000000) :
    Calls Tryz.prog 49 #[.pointer (some ⟨pb, 0, none⟩)] w fun e w' => e = .returned (.string (nextT st)) ∧ PSt B pb sz tv (nextP sz st) w' ∧ Only pb w w' := by
  obtain ⟨tk, last, er⟩ := st
  obtain ⟨pa, pc, xa, xc, h1, h2, h3, h4⟩ := h.ex
  dsimp only at h1 h2 h3 h4 hl
  have c0 := cell_of_blk h1 0 _ rfl
  have c1 := cell_of_blk h1 1 _ rfl
  have c2 := cell_of_blk h1 2 _ rfl
  have c3 := cell_of_blk h1 3 _ rfl
  have f0 := free_of_blk h1 0
  have f1 := free_of_blk h1 1
  have f3 := free_of_blk h1 3
  have hlt := h.lt
  have HS := Lib.hid h
  have HB := Lib.hid h1
  clear h h1
  cases tk with
  | nil =>
    clear h4
    go_enter Tryz.func49, Tryz.ntmps49
    go_wp2_with fail
    have hs' : PSt B pb sz tv ⟨[], sz, er⟩ (w.setCell ⟨pb, 3, none⟩ (.int .i64 sz)) := HS.out.set rfl (fun k _ hk => Below.heap_setCell _ _ _ _ hk) (fun pv xv hh => heap_set_ _ hh)
    refine (text_wrong true 13 hs').mono ?_
    rintro e w1 ⟨rfl, hs1, ho1⟩
    go_wp2_with fail
    go_ret
    exact ⟨rfl, hs1, (Only.refl _ _).set.trans ho1⟩
  | cons t r =>
    obtain ⟨ga, oa, gx, ox, rfl, rfl, e3, e4, e5, e6, e7⟩ := h4 (by simp)
    have ca := (e7 0 t rfl).1
    have cx := (e7 0 t rfl).2
    simp only [Nat.add_zero] at ca cx
    simp only [List.length_cons] at *
    clear h4
    have H7 := Lib.hid e7
    clear e7
    go_enter Tryz.func49, Tryz.ntmps49
    go_wp2_with fail
    generalize hW : (w.setCell ⟨pb, 3, none⟩ (.int .i64 sz)).setCell ⟨pb, 3, none⟩ (.int .i64 (t.1 : Nat)) = W
    have hO : Only pb w W := by rw [← hW]; exact ((Only.refl _ _).set).set
    have hblk : W.heap[pb]? = some (.cells #[.slice (some ⟨ga, oa, none⟩) (r.length + 1) pc, .slice (some ⟨gx, ox, none⟩) (r.length + 1) xc, .int .i64 sz, .int .i64 (t.1 : Nat), .int .i64 er, tv] 86 (0, 0)) := by
      rw [← hW, heap_set_ _ (heap_set_ _ HB.out)]; rfl
    clear hW c0 c1 c2 c3 f0 f1 f3 ca cx
    have c0 := cell_of_blk hblk 0 _ rfl
    have c1 := cell_of_blk hblk 1 _ rfl
    have f0 := free_of_blk hblk 0
    have f1 := free_of_blk hblk 1
    have HK := Lib.hid hblk
    clear hblk
    go_region
    generalize hpx : (if xc = 1 then (some ⟨gx, ox, none⟩ : Option Addr) else some ⟨gx, ox + 1, none⟩) = px
    generalize hpp : (if pc = 1 then (some ⟨ga, oa, none⟩ : Option Addr) else some ⟨ga, oa + 1, none⟩) = pp
    have HPX := Lib.hid hpx
    have HPP := Lib.hid hpp
    clear hpx hpp
    go_wp2_with fail
    go_ret
    refine ⟨rfl, ⟨hlt, _, _, _, _, (heap_set_ _ (heap_set_ _ HK.out)), ?_, ?_, ?_⟩, (((hO.set).set).drew)⟩
    · show r.length ≤ pc - 1; omega
    · show r.length ≤ xc - 1; omega
    · intro hne
      have hr : r.length ≠ 0 := fun e => hne (List.eq_nil_of_length_eq_zero e)
      have e1 : px = some ⟨gx, ox + 1, none⟩ := by rw [← HPX.out, if_neg (by omega)]
      have e2 : pp = some ⟨ga, oa + 1, none⟩ := by rw [← HPP.out, if_neg (by omega)]
      refine ⟨ga, oa + 1, gx, ox + 1, e2, e1, e3, e4, e5, e6, fun j u hj => ?_⟩
      obtain ⟨k1, k2⟩ := H7.out (j + 1) u (by simpa [nextP] using hj)
      have hk : ∀ g, g ≠ pb → ∀ o v, w.cell? ⟨g, o, none⟩ = some v → (((W.setCell ⟨pb, 1, none⟩ (Value.slice px r.length (xc - 1))).setCell ⟨pb, 0, none⟩ (Value.slice pp r.length (pc - 1))).drew).cell? ⟨g, o, none⟩ = some v := fun g hg o v hv =>
        (World.cell?_of_block (w := w) (((hO.set).set).block g (World.block_lt_of_cell? w _ hv) hg)).trans hv
      exact ⟨hk ga e3 _ _ (by rw [show oa + 1 + j = oa + (j + 1) by omega]; exact k1), hk gx e4 _ _ (by rw [show ox + 1 + j = ox + (j + 1) by omega]; exact k2)⟩
end Go.Proofs.YtokfgdpmbmnijaaGreatDoor
/- text's parser: mark, key, day, when, any, one. -/
namespace Go.Proofs.YtokfgdpmbmnijaaGreatDoor
open Go.RowKit

def neB (a b : ByteArray) : Bool := !(a.toList == b.toList)
/-- 'mark' reads a mark. -/
def markP (sz : Int) (m : ByteArray) (st : PS) : PS := if st.e = 0 then wrongP (neB (nextT st) m) 13 (nextP sz st) else st

set_option maxHeartbeats 2000000 in
set_option maxRecDepth 100000 in
theorem text_mark {B pb : Nat} {sz : Int} {tv : Value} {st : PS} {w : World} (m : ByteArray) (h : PSt B pb sz tv st w) (hl : st.tk.length ≤ 1000000) :
    Calls Tryz.prog 90 #[.pointer (some ⟨pb, 0, none⟩), .string m] w fun e w' => e = .returned (.tuple #[]) ∧ PSt B pb sz tv (markP sz m st) w' ∧ Only pb w w' := by
  obtain ⟨pa, pc, xa, xc, h1, _⟩ := h.ex
  have c4 := cell_of_blk h1 4 _ rfl
  have HS := Lib.hid h
  clear h h1
  cases hb : (st.e == 0)
  · have HM : Hid (markP sz m st = st) := by show _ = _; unfold markP; rw [if_neg (by intro e; rw [e] at hb; cases hb)]
    go_enter Tryz.func90, Tryz.ntmps90
    go_wp2_with fail
    go_end0
    exact ⟨rfl, by rw [HM.out]; exact HS.out, Only.refl _ _⟩
  · have HM : Hid (markP sz m st = wrongP (neB (nextT st) m) 13 (nextP sz st)) := by show _ = _; unfold markP; rw [if_pos (eq_of_beq hb)]
    go_enter Tryz.func90, Tryz.ntmps90
    go_wp2_with fail
    go_region_with (first
      | (go_at_call 49; refine (text_next (B := B) (sz := sz) (tv := tv) (st := st) (by first | exact HS.out | exact HS.out.kept (fun _ _ _ => rfl)) hl).mono ?_; rintro e w1 ⟨rfl, hs1, ho1⟩)
      | (go_at_call 50; refine (text_wrong (B := B) (sz := sz) (tv := tv) (st := nextP sz st) _ 13 hs1).mono ?_; rintro e w2 ⟨rfl, hs2, ho2⟩))
    go_wp2_with fail
    go_end0
    exact ⟨rfl, by rw [HM.out]; exact hs2, Only.trans ⟨ho1.os, ho1.tape, ho1.output, ho1.size, ho1.block⟩ ho2⟩

theorem bel_only {w0 w w' : World} {pb : Nat} (hw : Below w0.heap.size w0 w) (h0 : w0.heap.size ≤ pb) (ho : Only pb w w') : Below w0.heap.size w0 w' := hw.trans (ho.below h0 hw.size)
def dayP (sz : Int) (st : PS) : PS := wrongP (dayPE (nextT st) != 0) 10 (wrongP (dayPE (nextT st) == 13) 13 (nextP sz st))

set_option maxHeartbeats 2000000 in
set_option maxRecDepth 100000 in
/-- The day that a token is, or what is wrong with it. -/
theorem text_pday {B pb : Nat} {sz : Int} {tv : Value} {st : PS} {w0 w : World} (h : PSt B pb sz tv st w) (hl : st.tk.length ≤ 1000000) (ha : AheadTab w0) (hw : Below w0.heap.size w0 w) (h0 : w0.heap.size ≤ pb) :
    Calls Tryz.prog 164 #[.pointer (some ⟨pb, 0, none⟩)] w fun e w' => e = .returned (.int .i64 (dayPR (nextT st))) ∧ PSt B pb sz tv (dayP sz st) w' ∧ Only pb w w' := by
  have HA := Lib.hid ha
  clear ha
  go_enter Tryz.func164, Tryz.ntmps164
  go_wp2_with fail
  refine (text_next h hl).mono ?_
  rintro e w1 ⟨rfl, hs1, ho1⟩
  go_wp2_with fail
  refine (days_Parse _ _ (HA.out.below_ (bel_only hw h0 ho1))).mono ?_
  rintro e w2 ⟨rfl, hb2⟩
  have hs2 := hs1.below_ hb2
  have ho2 := ho1.trans (Only.of_below hb2)
  clear hs1 hb2 ho1
  go_wp2_with fail
  refine (text_wrong _ 13 hs2).mono ?_
  rintro e w3 ⟨rfl, hs3, ho3⟩
  go_wp2_with fail
  refine (text_wrong _ 10 hs3).mono ?_
  rintro e w4 ⟨rfl, hs4, ho4⟩
  go_wp2_with fail
  go_ret
  exact ⟨rfl, hs4, (ho2.trans ho3).trans ho4⟩
end Go.Proofs.YtokfgdpmbmnijaaGreatDoor
/- text's parser: when, one, key, any. -/
namespace Go.Proofs.YtokfgdpmbmnijaaGreatDoor
open Go.RowKit

/-- A node in a block of its own. -/
def NdAt (w : World) (nb : Nat) (n : Nd) : Prop := w.heap[nb]? = some (.cells #[.int .i64 n.op, .int .i64 n.a, .int .i64 n.b, .int .i64 n.num, .int .i64 n.den] 48 (0, 0))
/-- Two blocks alone may have changed. -/
structure Two (p q : Nat) (w w' : World) : Prop where
  os : w'.os = w.os
  tape : w'.tape = w.tape
  output : w'.output = w.output
  size : w.heap.size ≤ w'.heap.size
  block : ∀ k, k < w.heap.size → k ≠ p → k ≠ q → w'.heap[k]? = w.heap[k]?
theorem Two.trans {p q : Nat} {a b c : World} (h : Two p q a b) (k : Two p q b c) : Two p q a c :=
  ⟨k.os.trans h.os, k.tape.trans h.tape, k.output.trans h.output, Nat.le_trans h.size k.size, fun i hi h1 h2 => (k.block i (Nat.lt_of_lt_of_le hi h.size) h1 h2).trans (h.block i hi h1 h2)⟩
theorem Two.of {p q : Nat} {a b : World} (h : Only p a b) : Two p q a b := ⟨h.os, h.tape, h.output, h.size, fun k hk h1 _ => h.block k hk h1⟩
theorem Two.set {p q i : Nat} {a w : World} {v : Value} (h : Two p q a w) : Two p q a (w.setCell ⟨q, i, none⟩ v) :=
  h.trans ⟨rfl, rfl, rfl, by simp [World.setCell], fun k _ _ hk => Below.heap_setCell _ _ _ _ hk⟩
theorem NdAt.lt {w : World} {nb : Nat} {n : Nd} (h : NdAt w nb n) : nb < w.heap.size := (Array.getElem?_eq_some_iff.1 h).1
theorem NdAt.only {w w' : World} {nb pb : Nat} {n : Nd} (h : NdAt w nb n) (hne : nb ≠ pb) (ho : Only pb w w') : NdAt w' nb n := (ho.block nb h.lt hne).trans h
theorem PSt.setNd {B pb : Nat} {sz : Int} {tv : Value} {st : PS} {w : World} {nb i : Nat} {v : Value} (h : PSt B pb sz tv st w) (hB : B ≤ nb) : PSt B pb sz tv st (w.setCell ⟨nb, i, none⟩ v) :=
  h.kept fun k _ hk => Below.heap_setCell _ _ _ _ (by dsimp only; omega)

/-- What a reader of what stands behind a word comes to. -/
def RdPost (B pb nb : Nat) (sz : Int) (tv : Value) (w : World) (G : Nd → PS → Prop) (e : Ending) (w' : World) : Prop :=
  e = .returned (.tuple #[]) ∧ ∃ n' st', G n' st' ∧ PSt B pb sz tv st' w' ∧ NdAt w' nb n' ∧ Two pb nb w w'

set_option maxHeartbeats 2000000 in
set_option maxRecDepth 100000 in
theorem text_when {B pb nb : Nat} {sz : Int} {tv : Value} {st : PS} {n : Nd} {w0 w : World} (h : PSt B pb sz tv st w) (hn : NdAt w nb n) (hB : B ≤ nb) (hl : st.tk.length ≤ 1000000) (ha : AheadTab w0) (hw : Below w0.heap.size w0 w) (h0 : w0.heap.size ≤ pb) :
    Calls Tryz.prog 135 #[.pointer (some ⟨pb, 0, none⟩), .pointer (some ⟨nb, 0, none⟩)] w
      (RdPost B pb nb sz tv w fun n' st' => n' = { n with a := dayPR (nextT st) } ∧ st' = dayP sz st) := by
  have hlt := h.lt
  go_enter Tryz.func135, Tryz.ntmps135
  go_wp2_with fail
  refine (text_pday h hl ha hw h0).mono ?_
  rintro e w1 ⟨rfl, hs1, ho1⟩
  have hn1 := hn.only (by omega) ho1
  have c1 := cell_of_blk hn1 1 _ rfl
  have f1 := free_of_blk hn1 1
  have HN := Lib.hid hn1
  clear hn hn1
  go_wp2_with fail
  go_end0
  exact ⟨rfl, _, _, ⟨rfl, rfl⟩, hs1.setNd hB, heap_set_ _ HN.out, (Two.of ho1).set⟩

set_option maxHeartbeats 2000000 in
set_option maxRecDepth 100000 in
theorem text_one {B pb nb : Nat} {sz : Int} {tv : Value} {st : PS} {n : Nd} {w0 w : World} (h : PSt B pb sz tv st w) (hn : NdAt w nb n) (hB : B ≤ nb) (hl : st.tk.length ≤ 1000000) (hc : CurTab w0) (hw : Below w0.heap.size w0 w) (h0 : w0.heap.size ≤ pb) :
    Calls Tryz.prog 134 #[.pointer (some ⟨pb, 0, none⟩), .pointer (some ⟨nb, 0, none⟩)] w
      (RdPost B pb nb sz tv w fun n' st' => n' = { n with a := curOf (nextT st) } ∧ st' = wrongP (curErr (nextT st) != 0) 13 (nextP sz st)) := by
  have hlt := h.lt
  have HC := Lib.hid hc
  clear hc
  go_enter Tryz.func134, Tryz.ntmps134
  go_wp2_with fail
  refine (text_next h hl).mono ?_
  rintro e w1 ⟨rfl, hs1, ho1⟩
  go_wp2_with fail
  refine (cash_Of _ _ (HC.out.below (bel_only hw h0 ho1))).mono ?_
  rintro e w2 ⟨rfl, hb2⟩
  have hs2 := hs1.below_ hb2
  have ho2 := ho1.trans (Only.of_below hb2)
  clear hs1 hb2 ho1
  go_wp2_with fail
  refine (text_wrong _ 13 hs2).mono ?_
  rintro e w3 ⟨rfl, hs3, ho3⟩
  have hn1 := hn.only (by omega) (ho2.trans ho3)
  have c1 := cell_of_blk hn1 1 _ rfl
  have f1 := free_of_blk hn1 1
  have HN := Lib.hid hn1
  clear hn hn1
  go_wp2_with fail
  go_end0
  exact ⟨rfl, _, _, ⟨rfl, rfl⟩, hs3.setNd hB, heap_set_ _ HN.out, (Two.of (ho2.trans ho3)).set⟩
end Go.Proofs.YtokfgdpmbmnijaaGreatDoor
/- text's parser: key. -/
namespace Go.Proofs.YtokfgdpmbmnijaaGreatDoor
open Go.RowKit

def digitsB : ByteArray := ⟨#[48, 49, 50, 51, 52, 53, 54, 55, 56, 57]⟩
def trimT (s : ByteArray) : ByteArray := ⟨(Lib.trimS s.data.toList digitsB.data.toList).toArray⟩
theorem info_bools : (Tryz.prog.info? 235).map (fun i => (i.zero, i.size)) = some (some (.agg (Array.replicate 256 (.bool false))), 256) := by kernel_rfl
set_option maxRecDepth 100000 in
theorem go_Trim (s : ByteArray) (w : World) (hs : s.size ≤ 1000000) :
    Calls Tryz.prog 162 #[.string s, .string ⟨#[48, 49, 50, 51, 52, 53, 54, 55, 56, 57]⟩] w fun e w' => e = .returned (.string (trimT s)) ∧ Below w.heap.size w w' :=
  Any.strings_Trim_laid Tryz.lays160 info_bools s digitsB w (by omega) (by decide) (ascii_of_all (by decide))
def emptyB : ByteArray := ⟨#[]⟩
def kb1 (s : ByteArray) : Bool := s.toList.isEmpty
def kb2 (s : ByteArray) : Bool := !(trimT s).toList.isEmpty
def kb3 (s : ByteArray) : Bool := decide (1 < s.size) && (((byteAt s 0).toNat : Int) == 48)
def keyBad (s : ByteArray) : Bool := kb1 s || kb2 s || kb3 s
/-- Whether a key's text is out of range, or no number. -/
def keyFar (s : ByteArray) : Bool := match Lib.atoiAll s.data.toList with | .ok v => decide (63 < v) | _ => true
def keyP (sz : Int) (st : PS) : PS := wrongP (keyFar (nextT st)) 10 (wrongP (keyBad (nextT st)) 13 (nextP sz st))

/-- The first half of 'key': the token's form. -/
def KeyMid (B pb : Nat) (sz : Int) (tv : Value) (st : PS) (w w' : World) : Prop := PSt B pb sz tv (wrongP (keyBad (nextT st)) 13 (nextP sz st)) w' ∧ Only pb w w'

set_option maxHeartbeats 4000000 in
set_option maxRecDepth 100000 in
theorem text_key {B pb nb : Nat} {sz : Int} {tv : Value} {st : PS} {n : Nd} {w0 w : World} (h : PSt B pb sz tv st w) (hn : NdAt w nb n) (hB : B ≤ nb) (hl : st.tk.length ≤ 1000000) (hz : (nextT st).size ≤ 1000000) (he : Env w0) (hw : Below w0.heap.size w0 w) (h0 : w0.heap.size ≤ pb) :
    Calls Tryz.prog 133 #[.pointer (some ⟨pb, 0, none⟩), .pointer (some ⟨nb, 0, none⟩)] w
      (RdPost B pb nb sz tv w fun n' st' => (∃ k, n' = { n with a := k } ∧ i64ok k ∧ ∀ v, Lib.atoiAll (nextT st).data.toList = .ok v → k = v) ∧ st' = keyP sz st) := by
  have hlt := h.lt
  have HE := Lib.hid he
  clear he
  go_enter Tryz.func133, Tryz.ntmps133
  go_wp2_with fail
  refine (text_next h hl).mono ?_
  rintro e w1 ⟨rfl, hs1, ho1⟩
  have HW1 := Lib.hid (bel_only hw h0 ho1)
  have HN1 := Lib.hid (hn.only (by omega) ho1)
  have HO1 := Lib.hid ho1
  have HKP : Hid (keyP sz st = wrongP (keyFar (nextT st)) 10 (wrongP (keyBad (nextT st)) 13 (nextP sz st))) := rfl
  clear hn ho1 hw
  generalize hs : nextT st = s at hz
  rw [hs] at HKP
  generalize hst1 : nextP sz st = st1 at hs1 HKP
  have HS := Lib.hid hs
  have HST := Lib.hid hst1
  clear hs hst1 h
  go_wp2_with fail
  have hkb : Hid (keyBad s = (kb1 s || kb2 s || kb3 s)) := rfl
  cases k1 : kb1 s
  case true =>
    have k1' : s.toList.isEmpty = true := k1
    have HB : Hid (keyBad s = true) := by show _ = _; rw [hkb.out, k1]; rfl
    clear k1
    refine wp_region_tail1 20 _ (by kernel_rfl) rfl (by kernel_rfl) ?_
    simp only [List.take_succ_cons, List.take_zero]
    repeat (go_big_quiet_step (fail))
    refine wpQuiet_nil ?_
    rintro ⟨w2, hb2⟩
    go_wp2_with fail
    have hs2 := hs1.below_ hb2
    refine (text_wrong (B := B) (sz := sz) (tv := tv) (st := st1) true 13 hs2).mono ?_
    rintro e w3 ⟨rfl, hs3, ho3⟩
    rw [← HB.out] at hs3
    have HO3 := (Only.of_below (pb := pb) hb2).trans ho3
    have HE3 := Lib.hid (HE.out.below_ (bel_only HW1.out h0 HO3))
    clear hs1 hb2 ho3 hs2
    go_wp2_with fail
    refine (go_Atoi _ _ (by omega) HE3.out).mono ?_
    rintro e w4 (⟨v, rfl, ha, hv, hb4⟩ | ⟨v, x, rfl, ha, hv, hb4⟩)
    · have HAT := Lib.hid ha
      have HF0 : Hid (keyFar s = decide (63 < v)) := by show _ = _; unfold keyFar; rw [ha]
      clear ha
      cases hk : decide (63 < v)
      · have hk' : ¬ (63 < v) := of_decide_eq_false hk
        have HF : Hid (keyFar s = false) := by show _ = _; rw [HF0.out]; exact hk
        go_wp2_with fail
        have hs4 := hs3.below_ hb4
        refine wp_region_tail1 9 _ (by kernel_rfl) rfl (by kernel_rfl) ?_
        simp only [List.take_succ_cons, List.take_zero]
        repeat (go_big_quiet_step (fail))
        refine wpQuiet_nil ?_
        rintro ⟨w5, hb5⟩
        go_wp2_with fail
        refine (text_wrong (B := B) (sz := sz) (tv := tv) (st := wrongP (keyBad s) 13 st1) false 10 (hs4.below_ hb5)).mono ?_
        rintro e w6 ⟨rfl, hs6, ho6⟩
        have HO6 := (HO3.trans (Only.of_below (below_two hb4 hb5))).trans ho6
        have hn6 := HN1.out.only (by omega) HO6
        have c1 := cell_of_blk hn6 1 _ rfl
        have f1 := free_of_blk hn6 1
        have HN := Lib.hid hn6
        clear hn6
        go_wp2_with fail
        go_end0
        refine ⟨rfl, _, _, ⟨⟨v, rfl, hv, fun u hu => by rw [HS.out, HAT.out] at hu; injection hu⟩, ?_⟩, hs6.setNd hB, heap_set_ _ HN.out, (Two.of (HO1.out.trans HO6)).set⟩
        rw [HKP.out, HF.out]
      · have hk' : 63 < v := of_decide_eq_true hk
        have HF : Hid (keyFar s = true) := by show _ = _; rw [HF0.out]; exact hk
        go_wp2_with fail
        have hs4 := hs3.below_ hb4
        refine wp_region_tail1 9 _ (by kernel_rfl) rfl (by kernel_rfl) ?_
        simp only [List.take_succ_cons, List.take_zero]
        repeat (go_big_quiet_step (fail))
        refine wpQuiet_nil ?_
        rintro ⟨w5, hb5⟩
        go_wp2_with fail
        refine (text_wrong (B := B) (sz := sz) (tv := tv) (st := wrongP (keyBad s) 13 st1) true 10 (hs4.below_ hb5)).mono ?_
        rintro e w6 ⟨rfl, hs6, ho6⟩
        have HO6 := (HO3.trans (Only.of_below (below_two hb4 hb5))).trans ho6
        have hn6 := HN1.out.only (by omega) HO6
        have c1 := cell_of_blk hn6 1 _ rfl
        have f1 := free_of_blk hn6 1
        have HN := Lib.hid hn6
        clear hn6
        go_wp2_with fail
        go_end0
        refine ⟨rfl, _, _, ⟨⟨v, rfl, hv, fun u hu => by rw [HS.out, HAT.out] at hu; injection hu⟩, ?_⟩, hs6.setNd hB, heap_set_ _ HN.out, (Two.of (HO1.out.trans HO6)).set⟩
        rw [HKP.out, HF.out]
    · have HF : Hid (keyFar s = true) := by
        show _ = _
        unfold keyFar
        split
        · rename_i u hu; exact absurd hu (ha u)
        · rfl
      have HAT := Lib.hid ha
      clear ha
      go_wp2_with fail
      have hs4 := hs3.below_ hb4
      refine wp_region_tail1 9 _ (by kernel_rfl) rfl (by kernel_rfl) ?_
      simp only [List.take_succ_cons, List.take_zero]
      repeat (go_big_quiet_step (fail))
      refine wpQuiet_nil ?_
      rintro ⟨w5, hb5⟩
      go_wp2_with fail
      refine (text_wrong (B := B) (sz := sz) (tv := tv) (st := wrongP (keyBad s) 13 st1) true 10 (hs4.below_ hb5)).mono ?_
      rintro e w6 ⟨rfl, hs6, ho6⟩
      have HO6 := (HO3.trans (Only.of_below (below_two hb4 hb5))).trans ho6
      have hn6 := HN1.out.only (by omega) HO6
      have c1 := cell_of_blk hn6 1 _ rfl
      have f1 := free_of_blk hn6 1
      have HN := Lib.hid hn6
      clear hn6
      go_wp2_with fail
      go_end0
      refine ⟨rfl, _, _, ⟨⟨v, rfl, hv, fun u hu => by rw [HS.out] at hu; exact absurd hu (HAT.out u)⟩, ?_⟩, hs6.setNd hB, heap_set_ _ HN.out, (Two.of (HO1.out.trans HO6)).set⟩
      rw [HKP.out, HF.out]
  case false =>
    have k1' : s.toList.isEmpty = false := k1
    cases k2 : kb2 s
    case true =>
      have k2' : (!(trimT s).toList.isEmpty) = true := k2
      have k2'' : (trimT s).toList.isEmpty = false := by simpa [kb2] using k2
      have HB : Hid (keyBad s = true) := by show _ = _; rw [hkb.out, k1, k2]; rfl
      clear k1 k2
      refine wp_region_tail1 20 _ (by kernel_rfl) rfl (by kernel_rfl) ?_
      simp only [List.take_succ_cons, List.take_zero]
      repeat (go_big_quiet_step ((go_at_call 162; exact Calls.later (go_Trim _ _ hz))))
      refine wpQuiet_nil ?_
      rintro ⟨w2, hb2⟩
      go_wp2_with fail
      have hs2 := hs1.below_ hb2
      refine (text_wrong (B := B) (sz := sz) (tv := tv) (st := st1) true 13 hs2).mono ?_
      rintro e w3 ⟨rfl, hs3, ho3⟩
      rw [← HB.out] at hs3
      have HO3 := (Only.of_below (pb := pb) hb2).trans ho3
      have HE3 := Lib.hid (HE.out.below_ (bel_only HW1.out h0 HO3))
      clear hs1 hb2 ho3 hs2
      go_wp2_with fail
      refine (go_Atoi _ _ (by omega) HE3.out).mono ?_
      rintro e w4 (⟨v, rfl, ha, hv, hb4⟩ | ⟨v, x, rfl, ha, hv, hb4⟩)
      · have HAT := Lib.hid ha
        have HF0 : Hid (keyFar s = decide (63 < v)) := by show _ = _; unfold keyFar; rw [ha]
        clear ha
        cases hk : decide (63 < v)
        · have hk' : ¬ (63 < v) := of_decide_eq_false hk
          have HF : Hid (keyFar s = false) := by show _ = _; rw [HF0.out]; exact hk
          go_wp2_with fail
          have hs4 := hs3.below_ hb4
          refine wp_region_tail1 9 _ (by kernel_rfl) rfl (by kernel_rfl) ?_
          simp only [List.take_succ_cons, List.take_zero]
          repeat (go_big_quiet_step (fail))
          refine wpQuiet_nil ?_
          rintro ⟨w5, hb5⟩
          go_wp2_with fail
          refine (text_wrong (B := B) (sz := sz) (tv := tv) (st := wrongP (keyBad s) 13 st1) false 10 (hs4.below_ hb5)).mono ?_
          rintro e w6 ⟨rfl, hs6, ho6⟩
          have HO6 := (HO3.trans (Only.of_below (below_two hb4 hb5))).trans ho6
          have hn6 := HN1.out.only (by omega) HO6
          have c1 := cell_of_blk hn6 1 _ rfl
          have f1 := free_of_blk hn6 1
          have HN := Lib.hid hn6
          clear hn6
          go_wp2_with fail
          go_end0
          refine ⟨rfl, _, _, ⟨⟨v, rfl, hv, fun u hu => by rw [HS.out, HAT.out] at hu; injection hu⟩, ?_⟩, hs6.setNd hB, heap_set_ _ HN.out, (Two.of (HO1.out.trans HO6)).set⟩
          rw [HKP.out, HF.out]
        · have hk' : 63 < v := of_decide_eq_true hk
          have HF : Hid (keyFar s = true) := by show _ = _; rw [HF0.out]; exact hk
          go_wp2_with fail
          have hs4 := hs3.below_ hb4
          refine wp_region_tail1 9 _ (by kernel_rfl) rfl (by kernel_rfl) ?_
          simp only [List.take_succ_cons, List.take_zero]
          repeat (go_big_quiet_step (fail))
          refine wpQuiet_nil ?_
          rintro ⟨w5, hb5⟩
          go_wp2_with fail
          refine (text_wrong (B := B) (sz := sz) (tv := tv) (st := wrongP (keyBad s) 13 st1) true 10 (hs4.below_ hb5)).mono ?_
          rintro e w6 ⟨rfl, hs6, ho6⟩
          have HO6 := (HO3.trans (Only.of_below (below_two hb4 hb5))).trans ho6
          have hn6 := HN1.out.only (by omega) HO6
          have c1 := cell_of_blk hn6 1 _ rfl
          have f1 := free_of_blk hn6 1
          have HN := Lib.hid hn6
          clear hn6
          go_wp2_with fail
          go_end0
          refine ⟨rfl, _, _, ⟨⟨v, rfl, hv, fun u hu => by rw [HS.out, HAT.out] at hu; injection hu⟩, ?_⟩, hs6.setNd hB, heap_set_ _ HN.out, (Two.of (HO1.out.trans HO6)).set⟩
          rw [HKP.out, HF.out]
      · have HF : Hid (keyFar s = true) := by
          show _ = _
          unfold keyFar
          split
          · rename_i u hu; exact absurd hu (ha u)
          · rfl
        have HAT := Lib.hid ha
        clear ha
        go_wp2_with fail
        have hs4 := hs3.below_ hb4
        refine wp_region_tail1 9 _ (by kernel_rfl) rfl (by kernel_rfl) ?_
        simp only [List.take_succ_cons, List.take_zero]
        repeat (go_big_quiet_step (fail))
        refine wpQuiet_nil ?_
        rintro ⟨w5, hb5⟩
        go_wp2_with fail
        refine (text_wrong (B := B) (sz := sz) (tv := tv) (st := wrongP (keyBad s) 13 st1) true 10 (hs4.below_ hb5)).mono ?_
        rintro e w6 ⟨rfl, hs6, ho6⟩
        have HO6 := (HO3.trans (Only.of_below (below_two hb4 hb5))).trans ho6
        have hn6 := HN1.out.only (by omega) HO6
        have c1 := cell_of_blk hn6 1 _ rfl
        have f1 := free_of_blk hn6 1
        have HN := Lib.hid hn6
        clear hn6
        go_wp2_with fail
        go_end0
        refine ⟨rfl, _, _, ⟨⟨v, rfl, hv, fun u hu => by rw [HS.out] at hu; exact absurd hu (HAT.out u)⟩, ?_⟩, hs6.setNd hB, heap_set_ _ HN.out, (Two.of (HO1.out.trans HO6)).set⟩
        rw [HKP.out, HF.out]
    case false =>
      have k2' : (!(trimT s).toList.isEmpty) = false := k2
      have k2'' : (trimT s).toList.isEmpty = true := by simpa [kb2] using k2
      by_cases h1 : 1 < s.size
      · have h1' : decide ((1 : Int) < (s.size : Int)) = true := by simp; omega
        have hb0 := byteAt_eq (show 0 < s.size by omega)
        have h0i : (0 : Int) < (s.size : Int) := by omega
        have h0n : 0 < s.size := by omega
        have HBY := Lib.hid hb0
        have HB : Hid (keyBad s = (((byteAt s 0).toNat : Int) == 48)) := by show _ = _; rw [hkb.out, k1, k2]; unfold kb3; simp [h1]
        clear k1 k2 hb0
        refine wp_region_tail1 20 _ (by kernel_rfl) rfl (by kernel_rfl) ?_
        simp only [List.take_succ_cons, List.take_zero]
        repeat (go_big_quiet_step ((go_at_call 162; exact Calls.later (go_Trim _ _ hz))))
        refine wpQuiet_nil ?_
        rintro ⟨w2, hb2⟩
        go_wp2_with fail
        simp only [HBY.out]
        have hs2 := hs1.below_ hb2
        refine (text_wrong (B := B) (sz := sz) (tv := tv) (st := st1) _ 13 hs2).mono ?_
        rintro e w3 ⟨rfl, hs3, ho3⟩
        rw [← HB.out] at hs3
        have HO3 := (Only.of_below (pb := pb) hb2).trans ho3
        have HE3 := Lib.hid (HE.out.below_ (bel_only HW1.out h0 HO3))
        clear hs1 hb2 ho3 hs2
        go_wp2_with fail
        refine (go_Atoi _ _ (by omega) HE3.out).mono ?_
        rintro e w4 (⟨v, rfl, ha, hv, hb4⟩ | ⟨v, x, rfl, ha, hv, hb4⟩)
        · have HAT := Lib.hid ha
          have HF0 : Hid (keyFar s = decide (63 < v)) := by show _ = _; unfold keyFar; rw [ha]
          clear ha
          cases hk : decide (63 < v)
          · have hk' : ¬ (63 < v) := of_decide_eq_false hk
            have HF : Hid (keyFar s = false) := by show _ = _; rw [HF0.out]; exact hk
            go_wp2_with fail
            have hs4 := hs3.below_ hb4
            refine wp_region_tail1 9 _ (by kernel_rfl) rfl (by kernel_rfl) ?_
            simp only [List.take_succ_cons, List.take_zero]
            repeat (go_big_quiet_step (fail))
            refine wpQuiet_nil ?_
            rintro ⟨w5, hb5⟩
            go_wp2_with fail
            refine (text_wrong (B := B) (sz := sz) (tv := tv) (st := wrongP (keyBad s) 13 st1) false 10 (hs4.below_ hb5)).mono ?_
            rintro e w6 ⟨rfl, hs6, ho6⟩
            have HO6 := (HO3.trans (Only.of_below (below_two hb4 hb5))).trans ho6
            have hn6 := HN1.out.only (by omega) HO6
            have c1 := cell_of_blk hn6 1 _ rfl
            have f1 := free_of_blk hn6 1
            have HN := Lib.hid hn6
            clear hn6
            go_wp2_with fail
            go_end0
            refine ⟨rfl, _, _, ⟨⟨v, rfl, hv, fun u hu => by rw [HS.out, HAT.out] at hu; injection hu⟩, ?_⟩, hs6.setNd hB, heap_set_ _ HN.out, (Two.of (HO1.out.trans HO6)).set⟩
            rw [HKP.out, HF.out]
          · have hk' : 63 < v := of_decide_eq_true hk
            have HF : Hid (keyFar s = true) := by show _ = _; rw [HF0.out]; exact hk
            go_wp2_with fail
            have hs4 := hs3.below_ hb4
            refine wp_region_tail1 9 _ (by kernel_rfl) rfl (by kernel_rfl) ?_
            simp only [List.take_succ_cons, List.take_zero]
            repeat (go_big_quiet_step (fail))
            refine wpQuiet_nil ?_
            rintro ⟨w5, hb5⟩
            go_wp2_with fail
            refine (text_wrong (B := B) (sz := sz) (tv := tv) (st := wrongP (keyBad s) 13 st1) true 10 (hs4.below_ hb5)).mono ?_
            rintro e w6 ⟨rfl, hs6, ho6⟩
            have HO6 := (HO3.trans (Only.of_below (below_two hb4 hb5))).trans ho6
            have hn6 := HN1.out.only (by omega) HO6
            have c1 := cell_of_blk hn6 1 _ rfl
            have f1 := free_of_blk hn6 1
            have HN := Lib.hid hn6
            clear hn6
            go_wp2_with fail
            go_end0
            refine ⟨rfl, _, _, ⟨⟨v, rfl, hv, fun u hu => by rw [HS.out, HAT.out] at hu; injection hu⟩, ?_⟩, hs6.setNd hB, heap_set_ _ HN.out, (Two.of (HO1.out.trans HO6)).set⟩
            rw [HKP.out, HF.out]
        · have HF : Hid (keyFar s = true) := by
            show _ = _
            unfold keyFar
            split
            · rename_i u hu; exact absurd hu (ha u)
            · rfl
          have HAT := Lib.hid ha
          clear ha
          go_wp2_with fail
          have hs4 := hs3.below_ hb4
          refine wp_region_tail1 9 _ (by kernel_rfl) rfl (by kernel_rfl) ?_
          simp only [List.take_succ_cons, List.take_zero]
          repeat (go_big_quiet_step (fail))
          refine wpQuiet_nil ?_
          rintro ⟨w5, hb5⟩
          go_wp2_with fail
          refine (text_wrong (B := B) (sz := sz) (tv := tv) (st := wrongP (keyBad s) 13 st1) true 10 (hs4.below_ hb5)).mono ?_
          rintro e w6 ⟨rfl, hs6, ho6⟩
          have HO6 := (HO3.trans (Only.of_below (below_two hb4 hb5))).trans ho6
          have hn6 := HN1.out.only (by omega) HO6
          have c1 := cell_of_blk hn6 1 _ rfl
          have f1 := free_of_blk hn6 1
          have HN := Lib.hid hn6
          clear hn6
          go_wp2_with fail
          go_end0
          refine ⟨rfl, _, _, ⟨⟨v, rfl, hv, fun u hu => by rw [HS.out] at hu; exact absurd hu (HAT.out u)⟩, ?_⟩, hs6.setNd hB, heap_set_ _ HN.out, (Two.of (HO1.out.trans HO6)).set⟩
          rw [HKP.out, HF.out]
      · have h1' : decide ((1 : Int) < (s.size : Int)) = false := by simp; omega
        have HB : Hid (keyBad s = false) := by show _ = _; rw [hkb.out, k1, k2]; unfold kb3; simp [h1]
        clear k1 k2
        refine wp_region_tail1 20 _ (by kernel_rfl) rfl (by kernel_rfl) ?_
        simp only [List.take_succ_cons, List.take_zero]
        repeat (go_big_quiet_step ((go_at_call 162; exact Calls.later (go_Trim _ _ hz))))
        refine wpQuiet_nil ?_
        rintro ⟨w2, hb2⟩
        go_wp2_with fail
        have hs2 := hs1.below_ hb2
        refine (text_wrong (B := B) (sz := sz) (tv := tv) (st := st1) false 13 hs2).mono ?_
        rintro e w3 ⟨rfl, hs3, ho3⟩
        rw [← HB.out] at hs3
        have HO3 := (Only.of_below (pb := pb) hb2).trans ho3
        have HE3 := Lib.hid (HE.out.below_ (bel_only HW1.out h0 HO3))
        clear hs1 hb2 ho3 hs2
        go_wp2_with fail
        refine (go_Atoi _ _ (by omega) HE3.out).mono ?_
        rintro e w4 (⟨v, rfl, ha, hv, hb4⟩ | ⟨v, x, rfl, ha, hv, hb4⟩)
        · have HAT := Lib.hid ha
          have HF0 : Hid (keyFar s = decide (63 < v)) := by show _ = _; unfold keyFar; rw [ha]
          clear ha
          cases hk : decide (63 < v)
          · have hk' : ¬ (63 < v) := of_decide_eq_false hk
            have HF : Hid (keyFar s = false) := by show _ = _; rw [HF0.out]; exact hk
            go_wp2_with fail
            have hs4 := hs3.below_ hb4
            refine wp_region_tail1 9 _ (by kernel_rfl) rfl (by kernel_rfl) ?_
            simp only [List.take_succ_cons, List.take_zero]
            repeat (go_big_quiet_step (fail))
            refine wpQuiet_nil ?_
            rintro ⟨w5, hb5⟩
            go_wp2_with fail
            refine (text_wrong (B := B) (sz := sz) (tv := tv) (st := wrongP (keyBad s) 13 st1) false 10 (hs4.below_ hb5)).mono ?_
            rintro e w6 ⟨rfl, hs6, ho6⟩
            have HO6 := (HO3.trans (Only.of_below (below_two hb4 hb5))).trans ho6
            have hn6 := HN1.out.only (by omega) HO6
            have c1 := cell_of_blk hn6 1 _ rfl
            have f1 := free_of_blk hn6 1
            have HN := Lib.hid hn6
            clear hn6
            go_wp2_with fail
            go_end0
            refine ⟨rfl, _, _, ⟨⟨v, rfl, hv, fun u hu => by rw [HS.out, HAT.out] at hu; injection hu⟩, ?_⟩, hs6.setNd hB, heap_set_ _ HN.out, (Two.of (HO1.out.trans HO6)).set⟩
            rw [HKP.out, HF.out]
          · have hk' : 63 < v := of_decide_eq_true hk
            have HF : Hid (keyFar s = true) := by show _ = _; rw [HF0.out]; exact hk
            go_wp2_with fail
            have hs4 := hs3.below_ hb4
            refine wp_region_tail1 9 _ (by kernel_rfl) rfl (by kernel_rfl) ?_
            simp only [List.take_succ_cons, List.take_zero]
            repeat (go_big_quiet_step (fail))
            refine wpQuiet_nil ?_
            rintro ⟨w5, hb5⟩
            go_wp2_with fail
            refine (text_wrong (B := B) (sz := sz) (tv := tv) (st := wrongP (keyBad s) 13 st1) true 10 (hs4.below_ hb5)).mono ?_
            rintro e w6 ⟨rfl, hs6, ho6⟩
            have HO6 := (HO3.trans (Only.of_below (below_two hb4 hb5))).trans ho6
            have hn6 := HN1.out.only (by omega) HO6
            have c1 := cell_of_blk hn6 1 _ rfl
            have f1 := free_of_blk hn6 1
            have HN := Lib.hid hn6
            clear hn6
            go_wp2_with fail
            go_end0
            refine ⟨rfl, _, _, ⟨⟨v, rfl, hv, fun u hu => by rw [HS.out, HAT.out] at hu; injection hu⟩, ?_⟩, hs6.setNd hB, heap_set_ _ HN.out, (Two.of (HO1.out.trans HO6)).set⟩
            rw [HKP.out, HF.out]
        · have HF : Hid (keyFar s = true) := by
            show _ = _
            unfold keyFar
            split
            · rename_i u hu; exact absurd hu (ha u)
            · rfl
          have HAT := Lib.hid ha
          clear ha
          go_wp2_with fail
          have hs4 := hs3.below_ hb4
          refine wp_region_tail1 9 _ (by kernel_rfl) rfl (by kernel_rfl) ?_
          simp only [List.take_succ_cons, List.take_zero]
          repeat (go_big_quiet_step (fail))
          refine wpQuiet_nil ?_
          rintro ⟨w5, hb5⟩
          go_wp2_with fail
          refine (text_wrong (B := B) (sz := sz) (tv := tv) (st := wrongP (keyBad s) 13 st1) true 10 (hs4.below_ hb5)).mono ?_
          rintro e w6 ⟨rfl, hs6, ho6⟩
          have HO6 := (HO3.trans (Only.of_below (below_two hb4 hb5))).trans ho6
          have hn6 := HN1.out.only (by omega) HO6
          have c1 := cell_of_blk hn6 1 _ rfl
          have f1 := free_of_blk hn6 1
          have HN := Lib.hid hn6
          clear hn6
          go_wp2_with fail
          go_end0
          refine ⟨rfl, _, _, ⟨⟨v, rfl, hv, fun u hu => by rw [HS.out] at hu; exact absurd hu (HAT.out u)⟩, ?_⟩, hs6.setNd hB, heap_set_ _ HN.out, (Two.of (HO1.out.trans HO6)).set⟩
          rw [HKP.out, HF.out]
end Go.Proofs.YtokfgdpmbmnijaaGreatDoor
/- text's parser: any, none, behind. -/
namespace Go.Proofs.YtokfgdpmbmnijaaGreatDoor
open Go.RowKit

def keyR (s : ByteArray) (k : Int) : Prop := i64ok k ∧ ∀ v, Lib.atoiAll s.data.toList = .ok v → k = v
/-- What 'any' reads: a key and a day. -/
def anyR (sz : Int) (st : PS) (n n' : Nd) (st' : PS) : Prop :=
  ∃ k, keyR (nextT st) k ∧ ((((keyP sz st).e = 0) ∧ n' = { n with a := k, b := dayPR (nextT (keyP sz st)) } ∧ st' = dayP sz (keyP sz st)) ∨ ((keyP sz st).e ≠ 0 ∧ n' = { n with a := k } ∧ st' = keyP sz st))
theorem wrongP_tk (b : Bool) (er : Int) (st : PS) : (wrongP b er st).tk = st.tk := by unfold wrongP; split <;> rfl
theorem nextP_tk (sz : Int) (st : PS) : (nextP sz st).tk = st.tk.tail := by
  unfold nextP
  split
  · rename_i h; rw [wrongP_tk]; rw [h]; rfl
  · rename_i h; rw [h]; rfl
theorem keyP_tk (sz : Int) (st : PS) : (keyP sz st).tk = st.tk.tail := by unfold keyP; rw [wrongP_tk, wrongP_tk, nextP_tk]

set_option maxHeartbeats 2000000 in
set_option maxRecDepth 100000 in
theorem text_any {B pb nb : Nat} {sz : Int} {tv : Value} {st : PS} {n : Nd} {w0 w : World} (h : PSt B pb sz tv st w) (hn : NdAt w nb n) (hB : B ≤ nb) (hl : st.tk.length ≤ 1000000) (hz : (nextT st).size ≤ 1000000) (he : Env w0) (hw : Below w0.heap.size w0 w) (h0 : w0.heap.size ≤ pb) :
    Calls Tryz.prog 136 #[.pointer (some ⟨pb, 0, none⟩), .pointer (some ⟨nb, 0, none⟩)] w (RdPost B pb nb sz tv w fun n' st' => anyR sz st n n' st') := by
  have hlt := h.lt
  have HE := Lib.hid he
  clear he
  go_enter Tryz.func136, Tryz.ntmps136
  go_wp2_with fail
  refine (text_key h hn hB hl hz HE.out hw h0).mono ?_
  rintro e w1 ⟨rfl, n1, st1, ⟨⟨k, rfl, hk1, hk2⟩, hst1⟩, hs1, hn1, ht1⟩
  have HW1 : Hid (Below w0.heap.size w0 w1) := hw.trans ⟨ht1.os, ht1.tape, ht1.output, ht1.size, fun j hj => ht1.block j (Nat.lt_of_lt_of_le hj hw.size) (by omega) (by omega)⟩
  have HK : Hid (keyR (nextT st) k) := ⟨hk1, hk2⟩
  obtain ⟨pa, pc, xa, xc, hb1, _⟩ := hs1.ex
  have c4 := cell_of_blk hb1 4 _ rfl
  have HST := Lib.hid hst1
  have htl : st1.tk.length ≤ 1000000 := by rw [hst1, keyP_tk, List.length_tail]; omega
  clear hb1 hst1 hn hk1 hk2 h
  cases hb : (st1.e == 0)
  · have HE1 : Hid (st1.e ≠ 0) := by intro e; rw [e] at hb; cases hb
    go_wp2_with fail
    go_end0
    exact ⟨rfl, _, _, ⟨k, HK.out, .inr ⟨by rw [← HST.out]; exact HE1.out, rfl, HST.out⟩⟩, hs1, hn1, ht1⟩
  · have HE1 : Hid (st1.e = 0) := eq_of_beq hb
    go_wp2_with fail
    refine (text_pday hs1 htl HE.out.ahead HW1.out h0).mono ?_
    rintro e w2 ⟨rfl, hs2, ho2⟩
    have hn2 := hn1.only (by omega) ho2
    have c1 := cell_of_blk hn2 2 _ rfl
    have f1 := free_of_blk hn2 2
    have HN := Lib.hid hn2
    clear hn1 hn2
    go_wp2_with fail
    go_end0
    exact ⟨rfl, { n with a := k, b := dayPR (nextT st1) }, _, ⟨k, HK.out, .inl ⟨by rw [← HST.out]; exact HE1.out, by rw [← HST.out], by rw [← HST.out]⟩⟩, hs2.setNd hB, heap_set_ _ HN.out, (ht1.trans (Two.of ho2)).set⟩
theorem text_none {B pb nb : Nat} {sz : Int} {tv : Value} {st : PS} {n : Nd} {w : World} (h : PSt B pb sz tv st w) (hn : NdAt w nb n) :
    Calls Tryz.prog 137 #[.pointer (some ⟨pb, 0, none⟩), .pointer (some ⟨nb, 0, none⟩)] w (RdPost B pb nb sz tv w fun n' st' => n' = n ∧ st' = st) := by
  go_enter Tryz.func137, Tryz.ntmps137
  go_wp2_with fail
  go_end0
  exact ⟨rfl, _, _, ⟨rfl, rfl⟩, h, hn, ⟨rfl, rfl, rfl, Nat.le_refl _, fun _ _ _ _ => rfl⟩⟩
end Go.Proofs.YtokfgdpmbmnijaaGreatDoor
/- text's parser: behind, node. -/
namespace Go.Proofs.YtokfgdpmbmnijaaGreatDoor
open Go.RowKit

/-- The reader of what stands behind an op's word. -/
def behindF (op : Int) : FuncId := if op = 2 ∨ op = 16 then 133 else if op = 10 then 134 else if op = 14 then 135 else if op = 17 then 136 else 137
set_option maxHeartbeats 1000000 in
set_option maxRecDepth 100000 in
theorem text_behind (op : Int) (w : World) : Calls Tryz.prog 89 #[.int .i64 op] w fun e w' => e = .returned (.func (.func (behindF op)) #[] #[]) ∧ w = w' := by
  have go : ∀ f, behindF op = f → Calls Tryz.prog 89 #[.int .i64 op] w (fun e w' => e = .returned (.func (.func f) #[] #[]) ∧ w = w') → Calls Tryz.prog 89 #[.int .i64 op] w fun e w' => e = .returned (.func (.func (behindF op)) #[] #[]) ∧ w = w' := fun f e h => by rw [e]; exact h
  cases b1 : (op == 2)
  case true =>
    obtain rfl := eq_of_beq b1
    refine go _ rfl ?_
    go_enter Tryz.func89, Tryz.ntmps89
    go_wp2_with fail
    go_ret
    exact ⟨rfl, rfl⟩
  cases b2 : (op == 16)
  case true =>
    obtain rfl := eq_of_beq b2
    refine go _ rfl ?_
    go_enter Tryz.func89, Tryz.ntmps89
    go_wp2_with fail
    go_ret
    exact ⟨rfl, rfl⟩
  cases b3 : (op == 10)
  case true =>
    obtain rfl := eq_of_beq b3
    refine go _ rfl ?_
    go_enter Tryz.func89, Tryz.ntmps89
    go_wp2_with fail
    go_ret
    exact ⟨rfl, rfl⟩
  cases b4 : (op == 14)
  case true =>
    obtain rfl := eq_of_beq b4
    refine go _ rfl ?_
    go_enter Tryz.func89, Tryz.ntmps89
    go_wp2_with fail
    go_ret
    exact ⟨rfl, rfl⟩
  cases b5 : (op == 17)
  case true =>
    obtain rfl := eq_of_beq b5
    refine go _ rfl ?_
    go_enter Tryz.func89, Tryz.ntmps89
    go_wp2_with fail
    go_ret
    exact ⟨rfl, rfl⟩
  refine go 137 ?_ ?_
  · simp only [beq_eq_false_iff_ne] at b1 b2 b3 b4 b5
    unfold behindF
    rw [if_neg (by omega), if_neg b3, if_neg b4, if_neg b5]
  · go_enter Tryz.func89, Tryz.ntmps89
    go_wp2_with fail
    go_ret
    exact ⟨rfl, rfl⟩

def wordsL : List ByteArray := (List.range 18).map wordN
def wordIx (s : ByteArray) : Int := Lib.idxOfS wordsL s
/-- The ratio that a text is. -/
def ratO (s : ByteArray) : Option (Int × Int) :=
  match Lib.atoiAll (cutN s).data.toList, Lib.atoiAll (denT s).data.toList with
  | .ok n, .ok d => if ratioErr n d = 0 ∧ (ratT n d).toList = s.toList then some (n, d) else none
  | _, _ => none
theorem ratO_some {s : ByteArray} {p q : Int} (h : ratIs s p q) : ratO s = some (p, q) := by
  obtain ⟨h1, h2, h3, h4⟩ := h
  unfold ratO
  rw [h1, h2]
  simp only
  rw [if_pos ⟨h3, h4⟩]
theorem ratO_is {s : ByteArray} {p q : Int} (h : ratO s = some (p, q)) : ratIs s p q := by
  unfold ratO at h
  split at h
  · rename_i n d h1 h2
    split at h
    · rename_i h3
      cases h
      exact ⟨h1, h2, h3.1, h3.2⟩
    · cases h
  · cases h
theorem ratO_none {s : ByteArray} (h : ∀ p q, ¬ ratIs s p q) : ratO s = none := by
  cases e : ratO s with
  | none => rfl
  | some x => obtain ⟨p, q⟩ := x; exact absurd (ratO_is e) (h p q)
/-- What a token begins: a node with no more than its op, or a number; and whether it is one. -/
def nodeN (s : ByteArray) : Nd := match ratO s with | some x => ⟨1, 0, 0, x.1, x.2⟩ | none => ⟨wordIx s, 0, 0, 0, 0⟩
def nodeB (s : ByteArray) : Bool := match ratO s with | some _ => true | none => !s.toList.isEmpty && decide (0 < wordIx s)

theorem node_results (tmps : Array Value) (W : World) (b : Nat) (n : Nd) (is : Bool) (h2 : tmps.getD 2 undef = .pointer (some ⟨b, 0, none⟩)) (h3 : tmps.getD 3 undef = .bool is) (hb : NdAt W b n) :
    (results Tryz.f87 tmps).run Tryz.prog W = .ok (.tuple #[ndV n, .bool is]) W := by
  have c0 : W.cell? ⟨b, 0, none⟩ = some (.int .i64 n.op) := cell_of_blk hb 0 _ rfl
  have c1 : W.cell? ⟨b, 1, none⟩ = some (.int .i64 n.a) := cell_of_blk hb 1 _ rfl
  have c2 : W.cell? ⟨b, 2, none⟩ = some (.int .i64 n.b) := cell_of_blk hb 2 _ rfl
  have c3 : W.cell? ⟨b, 3, none⟩ = some (.int .i64 n.num) := cell_of_blk hb 3 _ rfl
  have c4 : W.cell? ⟨b, 4, none⟩ = some (.int .i64 n.den) := cell_of_blk hb 4 _ rfl
  rw [Array.getD_eq_getD_getElem?] at h2 h3
  simp [results, Tryz.results87, go_sem, ndV, h2, h3, c0, c1, c2, c3, c4]

theorem heap_alloc_old (w : World) (o : Obj) {b : Nat} (h : b < w.heap.size) : (w.alloc o).heap[b]? = w.heap[b]? := by
  show (w.heap.push _)[b]? = _
  rw [Array.getElem?_push, if_neg (by omega)]
theorem alloc_at (w : World) (o : Obj) : (w.alloc o).heap[w.heap.size]? = some o := by
  show (w.heap.push _)[w.heap.size]? = _
  rw [Array.getElem?_push_size]

set_option maxHeartbeats 2000000 in
set_option maxRecDepth 100000 in
theorem text_node (s : ByteArray) (w : World) (hs : s.size ≤ 1000000) (he : Env w) :
    Calls Tryz.prog 87 #[.string s] w fun e w' => e = .returned (.tuple #[ndV (nodeN s), .bool (nodeB s)]) ∧ Below w.heap.size w w' := by
  have HE := Lib.hid he
  clear he
  go_enter Tryz.func87, Tryz.ntmps87
  go_wp2_with fail
  refine (ratio_Parse s _ hs (HE.out.below_ (below_alloc _ _))).mono ?_
  rintro e w1 ⟨(⟨p, q, rfl, hr⟩ | ⟨rfl, hr⟩), hb1⟩
  · have HR : Hid (nodeN s = ⟨1, 0, 0, p, q⟩ ∧ nodeB s = true) := by unfold nodeN nodeB; rw [ratO_some hr]; exact ⟨rfl, rfl⟩
    have blk1 := (hb1.block w.heap.size (by simp)).trans (alloc_at w _)
    have HB1 := Lib.hid (below_two (below_alloc w _) hb1)
    have r0 := cell_of_blk blk1 0 _ rfl
    have r1 := cell_of_blk blk1 1 _ rfl
    have r2 := cell_of_blk blk1 2 _ rfl
    have r3 := cell_of_blk blk1 3 _ rfl
    have r4 := cell_of_blk blk1 4 _ rfl
    have q0 := free_of_blk blk1 0
    have q1 := free_of_blk blk1 1
    have q2 := free_of_blk blk1 2
    have q3 := free_of_blk blk1 3
    have q4 := free_of_blk blk1 4
    have hz1 := new_lt hb1
    have HBL := Lib.hid blk1
    clear hr hb1 blk1
    go_wp2_with fail
    refine bodyPost_ret (node_results _ _ w.heap.size ⟨1, 0, 0, p, q⟩ true rfl rfl ?_) rfl ⟨by rw [HR.out.1, HR.out.2], ?_⟩
    · refine (heap_alloc_old _ _ ?_).trans ?_
      · simp only [World.setCell, Array.size_modify]; exact hz1
      · exact (heap_set_ _ (heap_set_ _ (heap_set_ _ (heap_set_ _ (heap_set_ _ HBL.out)))))
    · refine below_two (b := ((((w1.setCell _ _).setCell _ _).setCell _ _).setCell _ _).setCell _ _) ?_ (below_alloc _ _)
      exact below_set (below_set (below_set (below_set (below_set HB1.out))))
  · have HR : Hid (nodeN s = ⟨wordIx s, 0, 0, 0, 0⟩ ∧ nodeB s = (!s.toList.isEmpty && decide (0 < wordIx s))) := by unfold nodeN nodeB; rw [ratO_none hr]; exact ⟨rfl, rfl⟩
    have blk1 := (hb1.block w.heap.size (by simp)).trans (alloc_at w _)
    have HB1 := Lib.hid (below_two (below_alloc w _) hb1)
    have HE1 := Lib.hid (HE.out.below_ HB1.out)
    have HBL := Lib.hid blk1
    have hz1 := new_lt hb1
    clear hr hb1 blk1
    go_wp2_with fail
    have hc : ∀ j, j < wordsL.length → (w1.alloc (.cells #[.int .i64 0, .int .i64 0] 46)).cell? ⟨1, 0 + j, none⟩ = some (.string (wordsL.getD j ByteArray.empty)) := by
      intro j hj
      have hj' : j < 18 := by simpa [wordsL] using hj
      rw [(HE1.out.below_ (below_alloc w1 _)).word (0 + j) (by omega)]
      simp [wordsL, hj']
    refine (Tryz.slices_Index_string _ 0 18 _ wordsL s _ (by decide) (by decide) hc).mono ?_
    rintro e w2 ⟨rfl, rfl⟩
    clear hc
    have hb2 : Below w.heap.size w (w1.alloc (.cells #[.int .i64 0, .int .i64 0] 46)) := below_two HB1.out (below_alloc w1 _)
    have hbl2 := (heap_alloc_old w1 (.cells #[.int .i64 0, .int .i64 0] 46) hz1).trans HBL.out
    generalize w1.alloc (.cells #[.int .i64 0, .int .i64 0] 46) = W at hb2 hbl2 ⊢
    have HW := Lib.hid hb2
    have r0 := cell_of_blk hbl2 0 _ rfl
    have r1 := cell_of_blk hbl2 1 _ rfl
    have r2 := cell_of_blk hbl2 2 _ rfl
    have r3 := cell_of_blk hbl2 3 _ rfl
    have r4 := cell_of_blk hbl2 4 _ rfl
    have q0 := free_of_blk hbl2 0
    have q1 := free_of_blk hbl2 1
    have q2 := free_of_blk hbl2 2
    have q3 := free_of_blk hbl2 3
    have q4 := free_of_blk hbl2 4
    have HBW := Lib.hid hbl2
    change Hid (nodeN s = ⟨Lib.idxOfS wordsL s, 0, 0, 0, 0⟩ ∧ nodeB s = (!s.toList.isEmpty && decide (0 < Lib.idxOfS wordsL s))) at HR
    rw [show List.take 18 wordsL = wordsL from rfl]
    generalize Lib.idxOfS wordsL s = ix at HR ⊢
    clear hb2 hbl2 hz1
    cases hs0 : s.toList.isEmpty
    · have hs1 : (!s.toList.isEmpty) = true := by rw [hs0]; rfl
      go_wp2_with fail
      refine bodyPost_ret (node_results _ _ w.heap.size ⟨ix, 0, 0, 0, 0⟩ (decide (0 < ix)) rfl rfl ?_) rfl ⟨?_, ?_⟩
      · exact (heap_set_ _ (heap_set_ _ (heap_set_ _ (heap_set_ _ (heap_set_ _ HBW.out)))))
      · rw [HR.out.1, HR.out.2, hs0]; rfl
      · exact below_set (below_set (below_set (below_set (below_set HW.out))))
    · have hs1 : (!s.toList.isEmpty) = false := by rw [hs0]; rfl
      go_wp2_with fail
      refine bodyPost_ret (node_results _ _ w.heap.size ⟨ix, 0, 0, 0, 0⟩ false rfl rfl ?_) rfl ⟨?_, ?_⟩
      · exact (heap_set_ _ (heap_set_ _ (heap_set_ _ (heap_set_ _ (heap_set_ _ HBW.out)))))
      · rw [HR.out.1, HR.out.2, hs0]; rfl
      · exact below_set (below_set (below_set (below_set (below_set HW.out))))
end Go.Proofs.YtokfgdpmbmnijaaGreatDoor
/- text's parser as plain functions; what stands behind an op's word, at once. -/
namespace Go.Proofs.YtokfgdpmbmnijaaGreatDoor
open Go.RowKit

def keyN (s : ByteArray) : Int := match Lib.atoiAll s.data.toList with | .ok v => v | _ => 0
/-- What stands behind an op's word, read into a node. -/
def behindP (sz : Int) (n : Nd) (st : PS) : Nd × PS :=
  if n.op = 2 ∨ n.op = 16 then ({ n with a := keyN (nextT st) }, keyP sz st)
  else if n.op = 10 then ({ n with a := curOf (nextT st) }, wrongP (curErr (nextT st) != 0) 13 (nextP sz st))
  else if n.op = 14 then ({ n with a := dayPR (nextT st) }, dayP sz st)
  else if n.op = 17 then (if (keyP sz st).e = 0 then ({ n with a := keyN (nextT st), b := dayPR (nextT (keyP sz st)) }, dayP sz (keyP sz st)) else (n, keyP sz st))
  else (n, st)
def markOf (i : Nat) : ByteArray := if i = 0 then ⟨#[40]⟩ else ⟨#[44]⟩
def closeB : ByteArray := ⟨#[41]⟩
def kidsP (rec : Int → PS × List Nd → PS × List Nd) (sz : Int) : List Int → Nat → PS × List Nd → PS × List Nd
  | [], _, x => x
  | k :: ks, i, x => if (markP sz (markOf i) x.1).e = 0 then kidsP rec sz ks (i + 1) (rec k (markP sz (markOf i) x.1, x.2)) else (markP sz (markOf i) x.1, x.2)
/-- The first token of a term: the reader's state behind the tests. -/
def headP (sz so : Int) (m len : Nat) (st : PS) : PS :=
  wrongP (decide (64 ≤ len) || decide (m = 0)) 15 (wrongP (!nodeB (nextT st) || makes (nodeN (nextT st)).op != so) 13 (nextP sz st))
def bodyP (sz : Int) (rec : Int → PS × List Nd → PS × List Nd) (n : Nd) (y : Nd × PS) (t : List Nd) : PS × List Nd :=
  let z := kidsP rec sz (kidsL n.op) 0 (y.2, t ++ [y.1])
  if many n.op = 0 then z else (markP sz closeB z.1, z.2)
/-- A term of a sort, read; m: how many nodes may stand above one another, and one more. -/
def termP (sz : Int) : Nat → Int → PS × List Nd → PS × List Nd
  | 0, _, x => x
  | m + 1, so, x =>
    if (headP sz so m x.2.length x.1).e = 0 then bodyP sz (termP sz m) (nodeN (nextT x.1)) (behindP sz (nodeN (nextT x.1)) (headP sz so m x.2.length x.1)) x.2
    else (headP sz so m x.2.length x.1, x.2)

theorem wrongP_zero {b : Bool} {er : Int} {st : PS} (h : (wrongP b er st).e = 0) (her : er ≠ 0) : b = false ∧ st.e = 0 := by
  unfold wrongP at h
  split at h
  · exact absurd h her
  · rename_i hc
    refine ⟨?_, h⟩
    cases b
    · rfl
    · exact absurd ⟨rfl, h⟩ hc
theorem headP_zero {sz so : Int} {m len : Nat} {st : PS} (h : (headP sz so m len st).e = 0) : len < 64 ∧ m ≠ 0 ∧ nodeB (nextT st) = true ∧ makes (nodeN (nextT st)).op = so ∧ (nextP sz st).e = 0 := by
  obtain ⟨h1, h2⟩ := wrongP_zero h (by decide)
  obtain ⟨h3, h4⟩ := wrongP_zero h2 (by decide)
  simp only [Bool.or_eq_false_iff, decide_eq_false_iff_not, Bool.not_eq_false', bne_eq_false_iff_eq] at h1 h3
  exact ⟨by omega, h1.2, h3.1, h3.2, h4⟩
theorem keyP_zero {sz : Int} {st : PS} (h : (keyP sz st).e = 0) {k : Int} (hk : ∀ v, Lib.atoiAll (nextT st).data.toList = .ok v → k = v) : k = keyN (nextT st) := by
  have h1 := (wrongP_zero h (by decide)).1
  unfold keyFar at h1
  unfold keyN
  split at h1
  · rename_i v hv; rw [hv]; exact hk v hv
  · cases h1
theorem nextT_size {st : PS} {M : Nat} (h : ∀ t ∈ st.tk, t.2.size ≤ M) : (nextT st).size ≤ M := by
  unfold nextT
  split
  · exact Nat.zero_le _
  · rename_i t r e; exact h t (by rw [e]; exact List.mem_cons_self)
/-- The reader of what stands behind an op's word, whichever it is. -/
theorem text_behind_run {B pb nb : Nat} {sz : Int} {tv : Value} {st : PS} {n : Nd} {w0 w : World} (h : PSt B pb sz tv st w) (hn : NdAt w nb n) (hB : B ≤ nb) (hl : st.tk.length ≤ 1000000) (hz : ∀ t ∈ st.tk, t.2.size ≤ 1000000) (he : Env w0) (hw : Below w0.heap.size w0 w) (h0 : w0.heap.size ≤ pb) :
    Calls Tryz.prog (behindF n.op) #[.pointer (some ⟨pb, 0, none⟩), .pointer (some ⟨nb, 0, none⟩)] w
      (RdPost B pb nb sz tv w fun n' st' => st' = (behindP sz n st).2 ∧ n'.op = n.op ∧ (st'.e = 0 → n' = (behindP sz n st).1)) := by
  have hz' := nextT_size hz
  unfold behindF behindP
  by_cases b1 : n.op = 2 ∨ n.op = 16
  · rw [if_pos b1, if_pos b1]
    refine (text_key h hn hB hl hz' he hw h0).mono ?_
    rintro e w' ⟨rfl, n', st', ⟨⟨k, rfl, _, hk⟩, rfl⟩, hr⟩
    exact ⟨rfl, _, _, ⟨rfl, by rfl, fun hst => by rw [keyP_zero hst hk]⟩, hr⟩
  rw [if_neg b1, if_neg b1]
  by_cases b2 : n.op = 10
  · rw [if_pos b2, if_pos b2]
    refine (text_one h hn hB hl he.cur hw h0).mono ?_
    rintro e w' ⟨rfl, n', st', ⟨rfl, rfl⟩, hr⟩
    exact ⟨rfl, _, _, ⟨rfl, by rfl, fun _ => rfl⟩, hr⟩
  rw [if_neg b2, if_neg b2]
  by_cases b3 : n.op = 14
  · rw [if_pos b3, if_pos b3]
    refine (text_when h hn hB hl he.ahead hw h0).mono ?_
    rintro e w' ⟨rfl, n', st', ⟨rfl, rfl⟩, hr⟩
    exact ⟨rfl, _, _, ⟨rfl, by rfl, fun _ => rfl⟩, hr⟩
  rw [if_neg b3, if_neg b3]
  by_cases b4 : n.op = 17
  · rw [if_pos b4, if_pos b4]
    refine (text_any h hn hB hl hz' he hw h0).mono ?_
    rintro e w' ⟨rfl, n', st', ⟨k, ⟨hk1, hk2⟩, (⟨h1, rfl, rfl⟩ | ⟨h1, rfl, rfl⟩)⟩, hr⟩
    · exact ⟨rfl, _, _, ⟨by rw [if_pos h1], by rfl, fun _ => by rw [if_pos h1, keyP_zero h1 hk2]⟩, hr⟩
    · exact ⟨rfl, _, _, ⟨by rw [if_neg h1], by rfl, fun h2 => absurd h2 h1⟩, hr⟩
  rw [if_neg b4, if_neg b4]
  refine (text_none h hn).mono ?_
  rintro e w' ⟨rfl, n', st', ⟨rfl, rfl⟩, hr⟩
  exact ⟨rfl, _, _, ⟨rfl, by rfl, fun _ => rfl⟩, hr⟩

/-- Tokens that are left of others. -/
def Sub (a b : List (Nat × ByteArray)) : Prop := ∃ n, b = a.drop n
theorem Sub.refl (a : List (Nat × ByteArray)) : Sub a a := ⟨0, rfl⟩
theorem Sub.trans {a b c : List (Nat × ByteArray)} (h : Sub a b) (k : Sub b c) : Sub a c := by
  obtain ⟨n, rfl⟩ := h
  obtain ⟨m, rfl⟩ := k
  exact ⟨n + m, by rw [List.drop_drop]⟩
theorem Sub.len {a b : List (Nat × ByteArray)} (h : Sub a b) : b.length ≤ a.length := by obtain ⟨n, rfl⟩ := h; rw [List.length_drop]; omega
theorem Sub.mem {a b : List (Nat × ByteArray)} (h : Sub a b) : ∀ u ∈ b, u ∈ a := by obtain ⟨n, rfl⟩ := h; exact fun u hu => List.mem_of_mem_drop hu
theorem sub_next (sz : Int) (st : PS) : Sub st.tk (nextP sz st).tk := ⟨1, by rw [nextP_tk]; simp⟩
theorem sub_wrong (b : Bool) (er : Int) (st : PS) : Sub st.tk (wrongP b er st).tk := ⟨0, by rw [wrongP_tk]; rfl⟩
theorem sub_head (sz so : Int) (m len : Nat) (st : PS) : Sub st.tk (headP sz so m len st).tk := ((sub_next sz st).trans (sub_wrong _ _ _)).trans (sub_wrong _ _ _)
theorem sub_key (sz : Int) (st : PS) : Sub st.tk (keyP sz st).tk := ((sub_next sz st).trans (sub_wrong _ _ _)).trans (sub_wrong _ _ _)
theorem sub_day (sz : Int) (st : PS) : Sub st.tk (dayP sz st).tk := ((sub_next sz st).trans (sub_wrong _ _ _)).trans (sub_wrong _ _ _)
theorem sub_mark (sz : Int) (m : ByteArray) (st : PS) : Sub st.tk (markP sz m st).tk := by
  unfold markP
  split
  · exact (sub_next sz st).trans (sub_wrong _ _ _)
  · exact Sub.refl _
theorem sub_behind (sz : Int) (n : Nd) (st : PS) : Sub st.tk (behindP sz n st).2.tk := by
  unfold behindP
  split
  · exact sub_key sz st
  split
  · exact (sub_next sz st).trans (sub_wrong _ _ _)
  split
  · exact sub_day sz st
  split
  · split
    · exact (sub_key sz st).trans (sub_day sz _)
    · exact sub_key sz st
  exact Sub.refl _
theorem sub_kids {rec : Int → PS × List Nd → PS × List Nd} (h : ∀ k x, Sub x.1.tk (rec k x).1.tk) (sz : Int) : ∀ ks i x, Sub x.1.tk (kidsP rec sz ks i x).1.tk
  | [], _, x => Sub.refl _
  | k :: ks, i, x => by
    rw [kidsP]
    split
    · exact ((sub_mark sz _ x.1).trans (h k (_, x.2))).trans (sub_kids h sz ks (i + 1) _)
    · exact sub_mark sz _ x.1
theorem sub_term (sz : Int) : ∀ m so x, Sub x.1.tk (termP sz m so x).1.tk
  | 0, _, x => Sub.refl _
  | m + 1, so, x => by
    rw [termP]
    split
    · unfold bodyP
      have h := ((sub_head sz so m x.2.length x.1).trans (sub_behind sz (nodeN (nextT x.1)) _)).trans (sub_kids (sub_term sz m) sz (kidsL (nodeN (nextT x.1)).op) 0 ((behindP sz (nodeN (nextT x.1)) (headP sz so m x.2.length x.1)).2, x.2 ++ [(behindP sz (nodeN (nextT x.1)) (headP sz so m x.2.length x.1)).1]))
      simp only
      split
      · exact h
      · exact h.trans (sub_mark sz closeB _)
    · exact sub_head sz so m x.2.length x.1

/-- The cells of nodes. -/
def cellsNd : List Nd → List Value
  | [] => []
  | n :: t => [.int .i64 n.op, .int .i64 n.a, .int .i64 n.b, .int .i64 n.num, .int .i64 n.den] ++ cellsNd t
theorem cellsNd_append (a b : List Nd) : cellsNd (a ++ b) = cellsNd a ++ cellsNd b := by
  induction a with
  | nil => rfl
  | cons n t ih => simp only [List.cons_append, List.nil_append, cellsNd, ih]
/-- The parser's block and its nodes' may have changed. -/
structure Grown (pb : Nat) (tv : Value) (w w' : World) : Prop where
  os : w'.os = w.os
  tape : w'.tape = w.tape
  output : w'.output = w.output
  size : w.heap.size ≤ w'.heap.size
  block : ∀ k, k < w.heap.size → k ≠ pb → tv.ownBlock ≠ some k → w'.heap[k]? = w.heap[k]?
/-- The row is the one that was, or lies in a block that was not there. -/
def OwnOf (tv : Value) (w : World) (tv' : Value) : Prop := tv'.ownBlock = tv.ownBlock ∨ ∀ k, tv'.ownBlock = some k → w.heap.size ≤ k
theorem OwnOf.trans {tv tv1 tv2 : Value} {w w1 : World} (h : OwnOf tv w tv1) (k : OwnOf tv1 w1 tv2) (hs : w.heap.size ≤ w1.heap.size) : OwnOf tv w tv2 := by
  rcases k with k | k
  · rcases h with h | h
    · exact .inl (k.trans h)
    · exact .inr fun i hi => h i (by rw [← k]; exact hi)
  · exact .inr fun i hi => Nat.le_trans hs (k i hi)
theorem Grown.refl (pb : Nat) (tv : Value) (w : World) : Grown pb tv w w := ⟨rfl, rfl, rfl, Nat.le_refl _, fun _ _ _ _ => rfl⟩
theorem Grown.trans {pb : Nat} {tv tv1 : Value} {w w1 w2 : World} (h : Grown pb tv w w1) (ho : OwnOf tv w tv1) (k : Grown pb tv1 w1 w2) : Grown pb tv w w2 :=
  ⟨k.os.trans h.os, k.tape.trans h.tape, k.output.trans h.output, Nat.le_trans h.size k.size, fun i hi h1 h2 => (k.block i (Nat.lt_of_lt_of_le hi h.size) h1 (by
    rcases ho with e | e
    · rw [e]; exact h2
    · intro e'; have := e i e'; omega)).trans (h.block i hi h1 h2)⟩
theorem Grown.only {pb : Nat} {tv : Value} {w w' : World} (h : Only pb w w') : Grown pb tv w w' := ⟨h.os, h.tape, h.output, h.size, fun k hk h1 _ => h.block k hk h1⟩
theorem OwnOf.refl (tv : Value) (w : World) : OwnOf tv w tv := .inl rfl
theorem Grown.below {pb B : Nat} {tv : Value} {w w' : World} (h : Grown pb tv w w') (hB : B ≤ pb) (hs : B ≤ w.heap.size) (ho : ∀ k, tv.ownBlock = some k → B ≤ k) : Below B w w' :=
  ⟨h.os, h.tape, h.output, h.size, fun k hk => h.block k (by omega) (by omega) (fun e => by have := ho k e; omega)⟩

/-- What reading a term comes to: the state, nodes (those of the plain function, if nothing is wrong), and what may have changed. -/
structure TermQ (B pb : Nat) (sz : Int) (tv : Value) (w : World) (x : PS × List Nd) (w' : World) : Prop where
  ex : ∃ tv' t, PSt B pb sz tv' x.1 w' ∧ w'.ownsRow B 48 5 tv' t.length (cellsNd t) ∧ t.length ≤ 64 ∧ (x.1.e = 0 → t = x.2) ∧ OwnOf tv w tv'
  grown : Grown pb tv w w'
end Go.Proofs.YtokfgdpmbmnijaaGreatDoor
