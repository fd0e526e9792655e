/- The round of Parse's range: a token's place and its text are laid behind the others, in whatever order. -/
import Derived.Test.YtokfgdpmbmnijaaGreatDoorWb
namespace Go.Proofs.YtokfgdpmbmnijaaGreatDoor
open Go.RowKit

def parseOps : Array Oper := #[{ dst := some 17, op := Op.load 81 (Operand.tmp 5), type := 81, pos := "text.go:226", after := #[], guard := none }, { dst := some 18, op := Op.load 81 (Operand.tmp 5), type := 81, pos := "text.go:226", after := #[{ on := 21, ground := Ground.gcOnly Departure.lateStores }], guard := none }, { dst := some 19, op := Op.load 81 (Operand.tmp 5), type := 81, pos := "text.go:226", after := #[], guard := none }, { dst := some 20, op := Op.nilCheck (Operand.tmp 19), type := 0, pos := "text.go:226", after := #[{ on := 2, ground := Ground.data }], guard := none }, { dst := some 21, op := Op.fieldAddr 86 (Operand.tmp 20) 0, type := 0, pos := "text.go:226", after := #[{ on := 3, ground := Ground.data }], guard := none }, { dst := some 22, op := Op.fieldAddr 84 (Operand.tmp 21) 0, type := 0, pos := "text.go:226", after := #[{ on := 4, ground := Ground.data }], guard := none }, { dst := some 23, op := Op.load 36 (Operand.tmp 22), type := 36, pos := "text.go:226", after := #[{ on := 5, ground := Ground.data }], guard := none }, { dst := some 24, op := Op.move (Operand.tmp 6), type := 3, pos := "text.go:226", after := #[], guard := none }, { dst := some 25, op := Op.buildSlice 36 1 #[(0, Operand.tmp 24)], type := 36, pos := "text.go:226", after := #[{ on := 7, ground := Ground.data }], guard := none }, { dst := some 26, op := Op.call { callee := Callee.builtin Builtin.append, args := #[Operand.tmp 23, Operand.tmp 25], argTypes := #[36, 36] }, type := 36, pos := "text.go:226", after := #[{ on := 6, ground := Ground.data }, { on := 8, ground := Ground.data }], guard := none }, { dst := some 27, op := Op.load 81 (Operand.tmp 5), type := 81, pos := "text.go:226", after := #[], guard := none }, { dst := some 28, op := Op.nilCheck (Operand.tmp 27), type := 0, pos := "text.go:226", after := #[{ on := 10, ground := Ground.data }], guard := none }, { dst := some 29, op := Op.fieldAddr 86 (Operand.tmp 28) 0, type := 0, pos := "text.go:226", after := #[{ on := 11, ground := Ground.data }], guard := none }, { dst := some 30, op := Op.fieldAddr 84 (Operand.tmp 29) 1, type := 0, pos := "text.go:226", after := #[{ on := 12, ground := Ground.data }], guard := none }, { dst := some 31, op := Op.load 82 (Operand.tmp 30), type := 82, pos := "text.go:226", after := #[{ on := 13, ground := Ground.data }], guard := none }, { dst := some 32, op := Op.move (Operand.tmp 7), type := 9, pos := "text.go:226", after := #[], guard := none }, { dst := some 33, op := Op.buildSlice 82 1 #[(0, Operand.tmp 32)], type := 82, pos := "text.go:226", after := #[{ on := 15, ground := Ground.data }], guard := none }, { dst := some 34, op := Op.call { callee := Callee.builtin Builtin.append, args := #[Operand.tmp 31, Operand.tmp 33], argTypes := #[82, 82] }, type := 82, pos := "text.go:226", after := #[{ on := 14, ground := Ground.data }, { on := 16, ground := Ground.data }, { on := 9, ground := Ground.chain }], guard := none }, { dst := some 35, op := Op.nilCheck (Operand.tmp 17), type := 0, pos := "text.go:226", after := #[{ on := 0, ground := Ground.data }, { on := 0, ground := Ground.phase }, { on := 1, ground := Ground.textOnly Departure.lateStores }, { on := 2, ground := Ground.phase }, { on := 3, ground := Ground.phase }, { on := 4, ground := Ground.phase }, { on := 5, ground := Ground.phase }, { on := 6, ground := Ground.phase }, { on := 7, ground := Ground.phase }, { on := 8, ground := Ground.phase }, { on := 9, ground := Ground.phase }, { on := 10, ground := Ground.textOnly Departure.lateStores }, { on := 11, ground := Ground.textOnly Departure.lateStoresUnsure }, { on := 12, ground := Ground.textOnly Departure.lateStoresUnsure }, { on := 13, ground := Ground.textOnly Departure.lateStoresUnsure }, { on := 14, ground := Ground.phase }, { on := 15, ground := Ground.textOnly Departure.lateStores }, { on := 16, ground := Ground.textOnly Departure.lateStoresUnsure }, { on := 17, ground := Ground.phase }], guard := none }, { dst := some 36, op := Op.fieldAddr 86 (Operand.tmp 35) 0, type := 0, pos := "text.go:226", after := #[{ on := 18, ground := Ground.data }, { on := 0, ground := Ground.phase }, { on := 1, ground := Ground.textOnly Departure.lateStores }, { on := 2, ground := Ground.phase }, { on := 3, ground := Ground.phase }, { on := 4, ground := Ground.phase }, { on := 5, ground := Ground.phase }, { on := 6, ground := Ground.phase }, { on := 7, ground := Ground.phase }, { on := 8, ground := Ground.phase }, { on := 9, ground := Ground.phase }, { on := 10, ground := Ground.textOnly Departure.lateStores }, { on := 11, ground := Ground.textOnly Departure.lateStoresUnsure }, { on := 12, ground := Ground.textOnly Departure.lateStoresUnsure }, { on := 13, ground := Ground.textOnly Departure.lateStoresUnsure }, { on := 14, ground := Ground.phase }, { on := 15, ground := Ground.textOnly Departure.lateStores }, { on := 16, ground := Ground.textOnly Departure.lateStoresUnsure }, { on := 17, ground := Ground.phase }], guard := none }, { dst := some 37, op := Op.fieldAddr 84 (Operand.tmp 36) 0, type := 0, pos := "text.go:226", after := #[{ on := 19, ground := Ground.data }, { on := 0, ground := Ground.phase }, { on := 1, ground := Ground.textOnly Departure.lateStores }, { on := 2, ground := Ground.phase }, { on := 3, ground := Ground.phase }, { on := 4, ground := Ground.phase }, { on := 5, ground := Ground.phase }, { on := 6, ground := Ground.phase }, { on := 7, ground := Ground.phase }, { on := 8, ground := Ground.phase }, { on := 9, ground := Ground.phase }, { on := 10, ground := Ground.textOnly Departure.lateStores }, { on := 11, ground := Ground.textOnly Departure.lateStoresUnsure }, { on := 12, ground := Ground.textOnly Departure.lateStoresUnsure }, { on := 13, ground := Ground.textOnly Departure.lateStoresUnsure }, { on := 14, ground := Ground.phase }, { on := 15, ground := Ground.textOnly Departure.lateStores }, { on := 16, ground := Ground.textOnly Departure.lateStoresUnsure }, { on := 17, ground := Ground.phase }], guard := none }, { dst := none, op := Op.store 36 (Operand.tmp 37) (Operand.tmp 26), type := 0, pos := "text.go:226", after := #[{ on := 20, ground := Ground.data }, { on := 9, ground := Ground.data }, { on := 17, ground := Ground.chain }, { on := 0, ground := Ground.phase }, { on := 1, ground := Ground.textOnly Departure.lateStores }, { on := 2, ground := Ground.phase }, { on := 3, ground := Ground.phase }, { on := 4, ground := Ground.phase }, { on := 5, ground := Ground.phase }, { on := 6, ground := Ground.phase }, { on := 7, ground := Ground.phase }, { on := 8, ground := Ground.phase }, { on := 9, ground := Ground.phase }, { on := 10, ground := Ground.textOnly Departure.lateStores }, { on := 11, ground := Ground.textOnly Departure.lateStoresUnsure }, { on := 12, ground := Ground.textOnly Departure.lateStoresUnsure }, { on := 13, ground := Ground.textOnly Departure.lateStoresUnsure }, { on := 14, ground := Ground.phase }, { on := 15, ground := Ground.textOnly Departure.lateStores }, { on := 16, ground := Ground.textOnly Departure.lateStoresUnsure }, { on := 17, ground := Ground.phase }], guard := none }, { dst := some 38, op := Op.nilCheck (Operand.tmp 18), type := 0, pos := "text.go:226", after := #[{ on := 1, ground := Ground.data }, { on := 0, ground := Ground.phase }, { on := 1, ground := Ground.phase }, { on := 2, ground := Ground.phase }, { on := 3, ground := Ground.phase }, { on := 4, ground := Ground.phase }, { on := 5, ground := Ground.phase }, { on := 6, ground := Ground.phase }, { on := 7, ground := Ground.phase }, { on := 8, ground := Ground.phase }, { on := 9, ground := Ground.phase }, { on := 10, ground := Ground.phase }, { on := 11, ground := Ground.phase }, { on := 12, ground := Ground.phase }, { on := 13, ground := Ground.phase }, { on := 14, ground := Ground.phase }, { on := 15, ground := Ground.phase }, { on := 16, ground := Ground.phase }, { on := 17, ground := Ground.phase }, { on := 18, ground := Ground.phase }, { on := 19, ground := Ground.phase }, { on := 20, ground := Ground.phase }, { on := 21, ground := Ground.phase }], guard := none }, { dst := some 39, op := Op.fieldAddr 86 (Operand.tmp 38) 0, type := 0, pos := "text.go:226", after := #[{ on := 22, ground := Ground.data }, { on := 0, ground := Ground.phase }, { on := 1, ground := Ground.phase }, { on := 2, ground := Ground.phase }, { on := 3, ground := Ground.phase }, { on := 4, ground := Ground.phase }, { on := 5, ground := Ground.phase }, { on := 6, ground := Ground.phase }, { on := 7, ground := Ground.phase }, { on := 8, ground := Ground.phase }, { on := 9, ground := Ground.phase }, { on := 10, ground := Ground.phase }, { on := 11, ground := Ground.phase }, { on := 12, ground := Ground.phase }, { on := 13, ground := Ground.phase }, { on := 14, ground := Ground.phase }, { on := 15, ground := Ground.phase }, { on := 16, ground := Ground.phase }, { on := 17, ground := Ground.phase }, { on := 18, ground := Ground.phase }, { on := 19, ground := Ground.phase }, { on := 20, ground := Ground.phase }, { on := 21, ground := Ground.phase }], guard := none }, { dst := some 40, op := Op.fieldAddr 84 (Operand.tmp 39) 1, type := 0, pos := "text.go:226", after := #[{ on := 23, ground := Ground.data }, { on := 0, ground := Ground.phase }, { on := 1, ground := Ground.phase }, { on := 2, ground := Ground.phase }, { on := 3, ground := Ground.phase }, { on := 4, ground := Ground.phase }, { on := 5, ground := Ground.phase }, { on := 6, ground := Ground.phase }, { on := 7, ground := Ground.phase }, { on := 8, ground := Ground.phase }, { on := 9, ground := Ground.phase }, { on := 10, ground := Ground.phase }, { on := 11, ground := Ground.phase }, { on := 12, ground := Ground.phase }, { on := 13, ground := Ground.phase }, { on := 14, ground := Ground.phase }, { on := 15, ground := Ground.phase }, { on := 16, ground := Ground.phase }, { on := 17, ground := Ground.phase }, { on := 18, ground := Ground.phase }, { on := 19, ground := Ground.phase }, { on := 20, ground := Ground.phase }, { on := 21, ground := Ground.phase }], guard := none }, { dst := none, op := Op.store 82 (Operand.tmp 40) (Operand.tmp 34), type := 0, pos := "text.go:226", after := #[{ on := 24, ground := Ground.data }, { on := 17, ground := Ground.data }, { on := 21, ground := Ground.chain }, { on := 0, ground := Ground.phase }, { on := 1, ground := Ground.phase }, { on := 2, ground := Ground.phase }, { on := 3, ground := Ground.phase }, { on := 4, ground := Ground.phase }, { on := 5, ground := Ground.phase }, { on := 6, ground := Ground.phase }, { on := 7, ground := Ground.phase }, { on := 8, ground := Ground.phase }, { on := 9, ground := Ground.phase }, { on := 10, ground := Ground.phase }, { on := 11, ground := Ground.phase }, { on := 12, ground := Ground.phase }, { on := 13, ground := Ground.phase }, { on := 14, ground := Ground.phase }, { on := 15, ground := Ground.phase }, { on := 16, ground := Ground.phase }, { on := 17, ground := Ground.phase }, { on := 18, ground := Ground.phase }, { on := 19, ground := Ground.phase }, { on := 20, ground := Ground.phase }, { on := 21, ground := Ground.phase }], guard := none }]
theorem parseOps_size : parseOps.size = 26 := rfl
theorem parseOps_back : ∀ (i : Nat) (o : Oper), parseOps[i]? = some o → ∀ e ∈ o.after, Region.binds .any e = true → e.on < i := by
  have h : (List.range 26).all (fun i => ((parseOps[i]?).map (fun o => o.after.all (fun e => !Region.binds .any e || decide (e.on < i)))).getD true) = true := by kernel_rfl
  intro i o ho e he hb
  have hi : i < 26 := by
    rcases Nat.lt_or_ge i 26 with h' | h'
    · exact h'
    · rw [Array.getElem?_eq_none (by rw [parseOps_size]; exact h')] at ho; cases ho
  have h1 := List.all_eq_true.1 h i (List.mem_range.2 hi)
  rw [ho] at h1
  simp only [Option.map_some, Option.getD_some, Array.all_eq_true_iff_forall_mem, Bool.or_eq_true, Bool.not_eq_true', decide_eq_true_eq] at h1
  rcases h1 e he with h2 | h2
  · rw [h2] at hb; cases hb
  · exact h2
/-- The slot of an operation that reads alone. -/
def pSlot (j : Nat) : Nat :=
  match j with
  | 0 => 17 | 1 => 18 | 2 => 19 | 3 => 20 | 4 => 21 | 5 => 22 | 6 => 23 | 7 => 24 | 10 => 27 | 11 => 28 | 12 => 29 | 13 => 30 | 14 => 31 | 15 => 32 | 18 => 35 | 19 => 36 | 20 => 37 | 22 => 38 | 23 => 39 | 24 => 40
  | _ => 0
/-- .. and what it yields. -/
def pCst (pb : Nat) (pv xv : Value) (at_ : Nat) (x : ByteArray) (j : Nat) : Value :=
  match j with
  | 6 => pv | 7 => .int .i64 at_ | 13 => .pointer (some ⟨pb, 1, none⟩) | 14 => xv | 15 => .string x | 24 => .pointer (some ⟨pb, 1, none⟩)
  | _ => .pointer (some ⟨pb, 0, none⟩)
structure PInv (W0 : World) (B pbox pb : Nat) (sz : Int) (pv xv : Value) (n : Nat) (ps xs : List Value) (at_ : Nat) (x : ByteArray) (l : Array Bool) (a : Act) (w : World) : Prop where
  lsz : l.size = 26
  asz : a.tmps.size = 86
  t5 : a.tmps.getD 5 undef = .pointer (some ⟨pbox, 0, none⟩)
  t6 : a.tmps.getD 6 undef = .int .i64 at_
  t7 : a.tmps.getD 7 undef = .string x
  det : ∀ j, j < 26 → pSlot j ≠ 0 → l.getD j false = true → a.tmps.getD (pSlot j) undef = pCst pb pv xv at_ x j
  d9 : l.getD 9 false = true → l.getD 6 false = true ∧ l.getD 8 false = true
  d17 : l.getD 17 false = true → l.getD 14 false = true ∧ l.getD 16 false = true
  d21 : l.getD 21 false = true → l.getD 9 false = true ∧ l.getD 17 false = true
  d25 : l.getD 25 false = true → l.getD 21 false = true
  w8 : l.getD 8 false = true → ∃ g, a.tmps.getD 25 undef = .slice (some ⟨g, 0, none⟩) 1 1 ∧ w.cell? ⟨g, 0, none⟩ = some (.int .i64 at_) ∧ W0.heap.size ≤ g
  w16 : l.getD 16 false = true → ∃ g, a.tmps.getD 33 undef = .slice (some ⟨g, 0, none⟩) 1 1 ∧ w.cell? ⟨g, 0, none⟩ = some (.string x) ∧ W0.heap.size ≤ g
  w9 : if l.getD 9 false then w.ownsRow B 3 1 (a.tmps.getD 26 undef) (n + 1) (ps ++ [.int .i64 at_]) else w.ownsRow B 3 1 pv n ps
  w17 : if l.getD 17 false then w.ownsRow B 9 1 (a.tmps.getD 34 undef) (n + 1) (xs ++ [.string x]) else w.ownsRow B 9 1 xv n xs
  pbk : w.heap[pb]? = some (.cells #[if l.getD 21 false then a.tmps.getD 26 undef else pv, if l.getD 25 false then a.tmps.getD 34 undef else xv, .int .i64 sz, .int .i64 0, .int .i64 0, .slice none 0 0] 86 (0, 0))
  box : w.cell? ⟨pbox, 0, none⟩ = some (.pointer (some ⟨pb, 0, none⟩))
  keep : Kept (fun k => k < W0.heap.size ∧ k ≠ pb ∧ some k ≠ pv.ownBlock ∧ some k ≠ xv.ownBlock) W0 w
  oth : KeepsOthers W0 w

theorem getD_set {l : Array Bool} {i j : Nat} (hi : i < l.size) : (l.setIfInBounds i true).getD j false = (if j = i then true else l.getD j false) := by
  simp only [Array.getD_eq_getD_getElem?, Array.getElem?_setIfInBounds]
  by_cases h : j = i
  · subst h; simp [hi]
  · have h' : ¬ i = j := fun e => h e.symm
    simp [h, h']
theorem getV_set {l : Array Value} {i j : Nat} {v : Value} (hi : i < l.size) : (l.setIfInBounds i v).getD j undef = (if j = i then v else l.getD j undef) := by
  simp only [Array.getD_eq_getD_getElem?, Array.getElem?_setIfInBounds]
  by_cases h : j = i
  · subst h; simp [hi]
  · have h' : ¬ i = j := fun e => h e.symm
    simp [h, h']
section
variable {W0 : World} {B pbox pb : Nat} {sz : Int} {pv xv : Value} {n : Nat} {ps xs : List Value} {at_ : Nat} {x : ByteArray} {l : Array Bool} {a : Act} {w : World}
set_option synthInstance.maxSize 2000 in
set_option synthInstance.maxHeartbeats 400000 in
theorem pSlot_bd : ∀ j, j < 26 → pSlot j ≠ 0 → pSlot j < 86 ∧ pSlot j ≠ 5 ∧ pSlot j ≠ 6 ∧ pSlot j ≠ 7 ∧ pSlot j ≠ 25 ∧ pSlot j ≠ 26 ∧ pSlot j ≠ 33 ∧ pSlot j ≠ 34 ∧ j ≠ 8 ∧ j ≠ 9 ∧ j ≠ 16 ∧ j ≠ 17 ∧ j ≠ 21 ∧ j ≠ 25 := by decide
theorem pSlot_inj : ∀ j, j < 26 → ∀ k, k < 26 → pSlot j ≠ 0 → pSlot j = pSlot k → j = k := by decide
/-- An operation that reads alone. -/
theorem PInv.read (h : PInv W0 B pbox pb sz pv xv n ps xs at_ x l a w) (j : Nat) (hj : j < 26) (hs : pSlot j ≠ 0) : PInv W0 B pbox pb sz pv xv n ps xs at_ x (l.setIfInBounds j true) (a.put (some (pSlot j)) (pCst pb pv xv at_ x j)) w := by
  obtain ⟨b1, b2, b3, b4, b5, b6, b7, b8, c1, c2, c3, c4, c5, c6⟩ := pSlot_bd j hj hs
  have hjl : j < l.size := by rw [h.lsz]; exact hj
  have hal : pSlot j < a.tmps.size := by rw [h.asz]; exact b1
  have gl : ∀ k, (l.setIfInBounds j true).getD k false = (if k = j then true else l.getD k false) := fun k => getD_set hjl
  have ga : ∀ k, (a.put (some (pSlot j)) (pCst pb pv xv at_ x j)).tmps.getD k undef = (if k = pSlot j then pCst pb pv xv at_ x j else a.tmps.getD k undef) := fun k => getV_set hal
  have gl' : ∀ k, k ≠ j → (l.setIfInBounds j true).getD k false = l.getD k false := fun k hk => by rw [gl, if_neg hk]
  have ga' : ∀ k, k ≠ pSlot j → (a.put (some (pSlot j)) (pCst pb pv xv at_ x j)).tmps.getD k undef = a.tmps.getD k undef := fun k hk => by rw [ga, if_neg hk]
  have up : ∀ k, l.getD k false = true → (l.setIfInBounds j true).getD k false = true := fun k hk => by rw [gl]; split <;> first | rfl | exact hk
  refine ⟨by simpa using h.lsz, by simpa [Act.put] using h.asz, ?_, ?_, ?_, ?_, ?_, ?_, ?_, ?_, ?_, ?_, ?_, ?_, ?_, h.box, h.keep, h.oth⟩
  · rw [ga' _ (Ne.symm b2)]; exact h.t5
  · rw [ga' _ (Ne.symm b3)]; exact h.t6
  · rw [ga' _ (Ne.symm b4)]; exact h.t7
  · intro k hk hks hkl
    by_cases hkj : k = j
    · subst hkj; rw [ga, if_pos rfl]
    · rw [ga' _ (fun e => hkj (pSlot_inj k hk j hj hks e))]
      exact h.det k hk hks (by rwa [gl' _ hkj] at hkl)
  · rw [gl' 9 (Ne.symm c2)]; exact fun e => ⟨up _ (h.d9 e).1, up _ (h.d9 e).2⟩
  · rw [gl' 17 (Ne.symm c4)]; exact fun e => ⟨up _ (h.d17 e).1, up _ (h.d17 e).2⟩
  · rw [gl' 21 (Ne.symm c5)]; exact fun e => ⟨up _ (h.d21 e).1, up _ (h.d21 e).2⟩
  · rw [gl' 25 (Ne.symm c6)]; exact fun e => up _ (h.d25 e)
  · rw [gl' 8 (Ne.symm c1), ga' 25 (Ne.symm b5)]; exact h.w8
  · rw [gl' 16 (Ne.symm c3), ga' 33 (Ne.symm b7)]; exact h.w16
  · rw [gl' 9 (Ne.symm c2), ga' 26 (Ne.symm b6)]; exact h.w9
  · rw [gl' 17 (Ne.symm c4), ga' 34 (Ne.symm b8)]; exact h.w17
  · rw [gl' 21 (Ne.symm c5), gl' 25 (Ne.symm c6), ga' 26 (Ne.symm b6), ga' 34 (Ne.symm b8)]; exact h.pbk
theorem own_type {e : TypeId} {v : Value} {k : Nat} {zs : List Value} (h : w.ownsRow B e 1 v k zs) : ∀ j, v.ownBlock = some j → B ≤ j ∧ ∃ cur, w.heap[j]? = some (.cells cur e (0, 0)) := by
  intro j hj
  rcases h.2 with ⟨rfl, _⟩ | ⟨g, cap, cur, rfl, h1, h2, _⟩
  · cases hj
  · have : g = j := by simpa [Value.ownBlock] using hj
    subst this
    exact ⟨h1, cur, h2⟩
theorem own_parts {e f : TypeId} (hef : e ≠ f) {v u : Value} {k m : Nat} {zs ys : List Value} (h : w.ownsRow B e 1 v k zs) (h' : w.ownsRow B f 1 u m ys) : v.ownBlock = none ∨ v.ownBlock ≠ u.ownBlock := by
  cases hv : v.ownBlock with
  | none => exact .inl rfl
  | some j =>
    refine .inr fun e' => ?_
    obtain ⟨_, c1, h1⟩ := own_type h j hv
    obtain ⟨_, c2, h2⟩ := own_type h' j e'.symm
    rw [h1] at h2
    simp only [Option.some.injEq, Obj.cells.injEq] at h2
    exact hef h2.2.1
/-- What stands when the world has grown, but for one own row. -/
theorem PInv.grow (h : PInv W0 B pbox pb sz pv xv n ps xs at_ x l a w) (hpb : pb < B) (hpx : pbox < B) {w' : World} {row : Option Nat} (hg : w.grownBy w' row)
    (hrow : ∀ k, row = some k → B ≤ k ∧ k < W0.heap.size ∧ (some k = pv.ownBlock ∨ some k = xv.ownBlock) ∧ ∃ cur e, w.heap[k]? = some (.cells cur e (0, 0))) :
    (∀ g v, w.cell? ⟨g, 0, none⟩ = some v → W0.heap.size ≤ g → w'.cell? ⟨g, 0, none⟩ = some v) ∧ w'.heap[pb]? = w.heap[pb]? ∧ w'.cell? ⟨pbox, 0, none⟩ = some (.pointer (some ⟨pb, 0, none⟩)) ∧
    Kept (fun k => k < W0.heap.size ∧ k ≠ pb ∧ some k ≠ pv.ownBlock ∧ some k ≠ xv.ownBlock) W0 w' ∧ KeepsOthers W0 w' := by
  have hpl : pb < w.heap.size := (Array.getElem?_eq_some_iff.1 h.pbk).1
  refine ⟨fun g v hv hgg => hg.cell hv (fun e => by have := (hrow g e.symm).2.1; omega), hg.block pb hpl (fun e => by have := (hrow pb e.symm).1; omega),
    hg.cell h.box (fun e => by have := (hrow pbox e.symm).1; omega), ?_, ?_⟩
  · refine h.keep.trans ⟨hg.os, hg.tape, hg.output, hg.size, fun k hk => hg.block k (by have := h.keep.size; omega) (fun e => ?_)⟩
    rcases (hrow k e.symm).2.2.1 with e1 | e1
    · exact hk.2.2.1 e1
    · exact hk.2.2.2 e1
  · refine h.oth.trans ⟨hg.size, fun k o hk ho => (hg.block k (Array.getElem?_eq_some_iff.1 hk).1 (fun e => ?_)).trans hk⟩
    obtain ⟨_, _, _, cur, t, hc⟩ := hrow k e.symm
    rw [hc] at hk
    cases hk
    cases ho
theorem PInv.build8 (h : PInv W0 B pbox pb sz pv xv n ps xs at_ x l a w) (hpb : pb < B) (hpx : pbox < B) : PInv W0 B pbox pb sz pv xv n ps xs at_ x (l.setIfInBounds 8 true) (a.put (some 25) (.slice (some ⟨w.heap.size, 0, none⟩) 1 1)) (w.alloc (.cells #[.int .i64 at_] 3)) := by
  have hjl : 8 < l.size := by rw [h.lsz]; decide
  have gl : ∀ k, (l.setIfInBounds 8 true).getD k false = (if k = 8 then true else l.getD k false) := fun k => getD_set hjl
  have gl' : ∀ k, k ≠ 8 → (l.setIfInBounds 8 true).getD k false = l.getD k false := fun k hk => by rw [gl, if_neg hk]
  have up : ∀ k, l.getD k false = true → (l.setIfInBounds 8 true).getD k false = true := fun k hk => by rw [gl]; split <;> first | rfl | exact hk
  have hal : 25 < a.tmps.size := by rw [h.asz]; decide
  have ga : ∀ k, (a.put (some 25) (.slice (some ⟨w.heap.size, 0, none⟩) 1 1)).tmps.getD k undef = (if k = 25 then (.slice (some ⟨w.heap.size, 0, none⟩) 1 1) else a.tmps.getD k undef) := fun k => getV_set hal
  have ga' : ∀ k, k ≠ 25 → (a.put (some 25) (.slice (some ⟨w.heap.size, 0, none⟩) 1 1)).tmps.getD k undef = a.tmps.getD k undef := fun k hk => by rw [ga, if_neg hk]
  have hg := World.grownBy_alloc w (.cells #[.int .i64 at_] 3) none
  obtain ⟨q1, q2, q3, q4, q5⟩ := h.grow hpb hpx hg (fun k e => by cases e)
  have hone : ∀ {e : TypeId} {v : Value} {k : Nat} {zs : List Value}, w.ownsRow B e 1 v k zs → (w.alloc (.cells #[.int .i64 at_] 3)).ownsRow B e 1 v k zs := fun ho => ho.alloc _
  refine ⟨by simpa using h.lsz, by simpa [Act.put] using h.asz, ?_, ?_, ?_, ?_, ?_, ?_, ?_, ?_, ?_, ?_, ?_, ?_, ?_, q3, q4, q5⟩
  · rw [ga' 5 (by decide)]; exact h.t5
  · rw [ga' 6 (by decide)]; exact h.t6
  · rw [ga' 7 (by decide)]; exact h.t7
  · intro k hk hks hkl
    have hb := pSlot_bd k hk hks
    rw [ga' _ (by omega)]
    exact h.det k hk hks (by rwa [gl' _ (by omega)] at hkl)
  · rw [gl' 9 (by decide)]; exact fun e => ⟨up _ (h.d9 e).1, up _ (h.d9 e).2⟩
  · rw [gl' 17 (by decide)]; exact fun e => ⟨up _ (h.d17 e).1, up _ (h.d17 e).2⟩
  · rw [gl' 21 (by decide)]; exact fun e => ⟨up _ (h.d21 e).1, up _ (h.d21 e).2⟩
  · rw [gl' 25 (by decide)]; exact fun e => up _ (h.d25 e)
  · intro _; exact ⟨w.heap.size, by rw [ga, if_pos rfl], cell_at _ _ _ _ _ rfl, h.keep.size⟩
  · rw [gl' 16 (by decide), ga' 33 (by decide)]; exact fun e => let ⟨g, e1, e2, e3⟩ := h.w16 e; ⟨g, e1, q1 g _ e2 e3, e3⟩
  · rw [gl' 9 (by decide), ga' 26 (by decide)]; have := h.w9; cases hb : l.getD 9 false <;> (rw [hb] at this; exact hone this)
  · rw [gl' 17 (by decide), ga' 34 (by decide)]; have := h.w17; cases hb : l.getD 17 false <;> (rw [hb] at this; exact hone this)
  · rw [gl' 21 (by decide), gl' 25 (by decide), ga' 26 (by decide), ga' 34 (by decide), q2]; exact h.pbk
theorem PInv.build16 (h : PInv W0 B pbox pb sz pv xv n ps xs at_ x l a w) (hpb : pb < B) (hpx : pbox < B) : PInv W0 B pbox pb sz pv xv n ps xs at_ x (l.setIfInBounds 16 true) (a.put (some 33) (.slice (some ⟨w.heap.size, 0, none⟩) 1 1)) (w.alloc (.cells #[.string x] 9)) := by
  have hjl : 16 < l.size := by rw [h.lsz]; decide
  have gl : ∀ k, (l.setIfInBounds 16 true).getD k false = (if k = 16 then true else l.getD k false) := fun k => getD_set hjl
  have gl' : ∀ k, k ≠ 16 → (l.setIfInBounds 16 true).getD k false = l.getD k false := fun k hk => by rw [gl, if_neg hk]
  have up : ∀ k, l.getD k false = true → (l.setIfInBounds 16 true).getD k false = true := fun k hk => by rw [gl]; split <;> first | rfl | exact hk
  have hal : 33 < a.tmps.size := by rw [h.asz]; decide
  have ga : ∀ k, (a.put (some 33) (.slice (some ⟨w.heap.size, 0, none⟩) 1 1)).tmps.getD k undef = (if k = 33 then (.slice (some ⟨w.heap.size, 0, none⟩) 1 1) else a.tmps.getD k undef) := fun k => getV_set hal
  have ga' : ∀ k, k ≠ 33 → (a.put (some 33) (.slice (some ⟨w.heap.size, 0, none⟩) 1 1)).tmps.getD k undef = a.tmps.getD k undef := fun k hk => by rw [ga, if_neg hk]
  have hg := World.grownBy_alloc w (.cells #[.string x] 9) none
  obtain ⟨q1, q2, q3, q4, q5⟩ := h.grow hpb hpx hg (fun k e => by cases e)
  have hone : ∀ {e : TypeId} {v : Value} {k : Nat} {zs : List Value}, w.ownsRow B e 1 v k zs → (w.alloc (.cells #[.string x] 9)).ownsRow B e 1 v k zs := fun ho => ho.alloc _
  refine ⟨by simpa using h.lsz, by simpa [Act.put] using h.asz, ?_, ?_, ?_, ?_, ?_, ?_, ?_, ?_, ?_, ?_, ?_, ?_, ?_, q3, q4, q5⟩
  · rw [ga' 5 (by decide)]; exact h.t5
  · rw [ga' 6 (by decide)]; exact h.t6
  · rw [ga' 7 (by decide)]; exact h.t7
  · intro k hk hks hkl
    have hb := pSlot_bd k hk hks
    rw [ga' _ (by omega)]
    exact h.det k hk hks (by rwa [gl' _ (by omega)] at hkl)
  · rw [gl' 9 (by decide)]; exact fun e => ⟨up _ (h.d9 e).1, up _ (h.d9 e).2⟩
  · rw [gl' 17 (by decide)]; exact fun e => ⟨up _ (h.d17 e).1, up _ (h.d17 e).2⟩
  · rw [gl' 21 (by decide)]; exact fun e => ⟨up _ (h.d21 e).1, up _ (h.d21 e).2⟩
  · rw [gl' 25 (by decide)]; exact fun e => up _ (h.d25 e)
  · rw [gl' 8 (by decide), ga' 25 (by decide)]; exact fun e => let ⟨g, e1, e2, e3⟩ := h.w8 e; ⟨g, e1, q1 g _ e2 e3, e3⟩
  · intro _; exact ⟨w.heap.size, by rw [ga, if_pos rfl], cell_at _ _ _ _ _ rfl, h.keep.size⟩
  · rw [gl' 9 (by decide), ga' 26 (by decide)]; have := h.w9; cases hb : l.getD 9 false <;> (rw [hb] at this; exact hone this)
  · rw [gl' 17 (by decide), ga' 34 (by decide)]; have := h.w17; cases hb : l.getD 17 false <;> (rw [hb] at this; exact hone this)
  · rw [gl' 21 (by decide), gl' 25 (by decide), ga' 26 (by decide), ga' 34 (by decide), q2]; exact h.pbk
theorem PInv.push9 (h : PInv W0 B pbox pb sz pv xv n ps xs at_ x l a w) (hpb : pb < B) (hpx : pbox < B) (hl : l.getD 9 false = false) (e1 : l.getD 6 false = true) (e2 : l.getD 8 false = true) (hlt : ∀ k, pv.ownBlock = some k → k < W0.heap.size) {v' : Value} {w' : World}
    (ho : w'.ownsRow B 3 1 v' (n + 1) (ps ++ [.int .i64 at_])) (hg : w.grownBy w' pv.ownBlock) : PInv W0 B pbox pb sz pv xv n ps xs at_ x (l.setIfInBounds 9 true) (a.put (some 26) v') w' := by
  have hjl : 9 < l.size := by rw [h.lsz]; decide
  have gl : ∀ k, (l.setIfInBounds 9 true).getD k false = (if k = 9 then true else l.getD k false) := fun k => getD_set hjl
  have gl' : ∀ k, k ≠ 9 → (l.setIfInBounds 9 true).getD k false = l.getD k false := fun k hk => by rw [gl, if_neg hk]
  have up : ∀ k, l.getD k false = true → (l.setIfInBounds 9 true).getD k false = true := fun k hk => by rw [gl]; split <;> first | rfl | exact hk
  have hal : 26 < a.tmps.size := by rw [h.asz]; decide
  have ga : ∀ k, (a.put (some 26) v').tmps.getD k undef = (if k = 26 then v' else a.tmps.getD k undef) := fun k => getV_set hal
  have ga' : ∀ k, k ≠ 26 → (a.put (some 26) v').tmps.getD k undef = a.tmps.getD k undef := fun k hk => by rw [ga, if_neg hk]
  have hw : w.ownsRow B 3 1 pv n ps := by have := h.w9; rwa [hl] at this
  have h21 : l.getD 21 false = false := by
    cases e : l.getD 21 false with
    | false => rfl
    | true => have := (h.d21 e).1; rw [hl] at this; cases this
  have h25 : l.getD 25 false = false := by
    cases e : l.getD 25 false with
    | false => rfl
    | true => have := h.d25 e; rw [h21] at this; cases this
  obtain ⟨q1, q2, q3, q4, q5⟩ := h.grow hpb hpx hg (fun k e => let ⟨x1, x2⟩ := own_type hw k e; ⟨x1, hlt k e, .inl e.symm, let ⟨c, hc⟩ := x2; ⟨c, _, hc⟩⟩)
  have hone : ∀ {v : Value} {k : Nat} {zs : List Value}, w.ownsRow B 9 1 v k zs → w'.ownsRow B 9 1 v k zs := fun hh => hh.kept hg (own_parts (by decide) hh hw)
  refine ⟨by simpa using h.lsz, by simpa [Act.put] using h.asz, ?_, ?_, ?_, ?_, ?_, ?_, ?_, ?_, ?_, ?_, ?_, ?_, ?_, q3, q4, q5⟩
  · rw [ga' 5 (by decide)]; exact h.t5
  · rw [ga' 6 (by decide)]; exact h.t6
  · rw [ga' 7 (by decide)]; exact h.t7
  · intro k hk hks hkl
    have hb := pSlot_bd k hk hks
    rw [ga' _ (by omega)]
    exact h.det k hk hks (by rwa [gl' _ (by omega)] at hkl)
  · intro _; exact ⟨up _ e1, up _ e2⟩
  · rw [gl' 17 (by decide)]; exact fun e => ⟨up _ (h.d17 e).1, up _ (h.d17 e).2⟩
  · rw [gl' 21 (by decide)]; exact fun e => ⟨up _ (h.d21 e).1, up _ (h.d21 e).2⟩
  · rw [gl' 25 (by decide)]; exact fun e => up _ (h.d25 e)
  · rw [gl' 8 (by decide), ga' 25 (by decide)]; exact fun e => let ⟨g, e1, e2, e3⟩ := h.w8 e; ⟨g, e1, q1 g _ e2 e3, e3⟩
  · rw [gl' 16 (by decide), ga' 33 (by decide)]; exact fun e => let ⟨g, e1, e2, e3⟩ := h.w16 e; ⟨g, e1, q1 g _ e2 e3, e3⟩
  · rw [gl, if_pos rfl, ga, if_pos rfl]; exact ho
  · rw [gl' 17 (by decide), ga' 34 (by decide)]; have := h.w17; cases hb : l.getD 17 false <;> (rw [hb] at this; exact hone this)
  · rw [gl' 21 (by decide), gl' 25 (by decide), h21, h25, q2]; have := h.pbk; rw [h21, h25] at this; exact this
theorem PInv.push17 (h : PInv W0 B pbox pb sz pv xv n ps xs at_ x l a w) (hpb : pb < B) (hpx : pbox < B) (hl : l.getD 17 false = false) (e1 : l.getD 14 false = true) (e2 : l.getD 16 false = true) (hlt : ∀ k, xv.ownBlock = some k → k < W0.heap.size) {v' : Value} {w' : World}
    (ho : w'.ownsRow B 9 1 v' (n + 1) (xs ++ [.string x])) (hg : w.grownBy w' xv.ownBlock) : PInv W0 B pbox pb sz pv xv n ps xs at_ x (l.setIfInBounds 17 true) (a.put (some 34) v') w' := by
  have hjl : 17 < l.size := by rw [h.lsz]; decide
  have gl : ∀ k, (l.setIfInBounds 17 true).getD k false = (if k = 17 then true else l.getD k false) := fun k => getD_set hjl
  have gl' : ∀ k, k ≠ 17 → (l.setIfInBounds 17 true).getD k false = l.getD k false := fun k hk => by rw [gl, if_neg hk]
  have up : ∀ k, l.getD k false = true → (l.setIfInBounds 17 true).getD k false = true := fun k hk => by rw [gl]; split <;> first | rfl | exact hk
  have hal : 34 < a.tmps.size := by rw [h.asz]; decide
  have ga : ∀ k, (a.put (some 34) v').tmps.getD k undef = (if k = 34 then v' else a.tmps.getD k undef) := fun k => getV_set hal
  have ga' : ∀ k, k ≠ 34 → (a.put (some 34) v').tmps.getD k undef = a.tmps.getD k undef := fun k hk => by rw [ga, if_neg hk]
  have hw : w.ownsRow B 9 1 xv n xs := by have := h.w17; rwa [hl] at this
  have h21 : l.getD 21 false = false := by
    cases e : l.getD 21 false with
    | false => rfl
    | true => have := (h.d21 e).2; rw [hl] at this; cases this
  have h25 : l.getD 25 false = false := by
    cases e : l.getD 25 false with
    | false => rfl
    | true => have := h.d25 e; rw [h21] at this; cases this
  obtain ⟨q1, q2, q3, q4, q5⟩ := h.grow hpb hpx hg (fun k e => let ⟨x1, x2⟩ := own_type hw k e; ⟨x1, hlt k e, .inr e.symm, let ⟨c, hc⟩ := x2; ⟨c, _, hc⟩⟩)
  have hone : ∀ {v : Value} {k : Nat} {zs : List Value}, w.ownsRow B 3 1 v k zs → w'.ownsRow B 3 1 v k zs := fun hh => hh.kept hg (own_parts (by decide) hh hw)
  refine ⟨by simpa using h.lsz, by simpa [Act.put] using h.asz, ?_, ?_, ?_, ?_, ?_, ?_, ?_, ?_, ?_, ?_, ?_, ?_, ?_, q3, q4, q5⟩
  · rw [ga' 5 (by decide)]; exact h.t5
  · rw [ga' 6 (by decide)]; exact h.t6
  · rw [ga' 7 (by decide)]; exact h.t7
  · intro k hk hks hkl
    have hb := pSlot_bd k hk hks
    rw [ga' _ (by omega)]
    exact h.det k hk hks (by rwa [gl' _ (by omega)] at hkl)
  · rw [gl' 9 (by decide)]; exact fun e => ⟨up _ (h.d9 e).1, up _ (h.d9 e).2⟩
  · intro _; exact ⟨up _ e1, up _ e2⟩
  · rw [gl' 21 (by decide)]; exact fun e => ⟨up _ (h.d21 e).1, up _ (h.d21 e).2⟩
  · rw [gl' 25 (by decide)]; exact fun e => up _ (h.d25 e)
  · rw [gl' 8 (by decide), ga' 25 (by decide)]; exact fun e => let ⟨g, e1, e2, e3⟩ := h.w8 e; ⟨g, e1, q1 g _ e2 e3, e3⟩
  · rw [gl' 16 (by decide), ga' 33 (by decide)]; exact fun e => let ⟨g, e1, e2, e3⟩ := h.w16 e; ⟨g, e1, q1 g _ e2 e3, e3⟩
  · rw [gl' 9 (by decide), ga' 26 (by decide)]; have := h.w9; cases hb : l.getD 9 false <;> (rw [hb] at this; exact hone this)
  · rw [gl, if_pos rfl, ga, if_pos rfl]; exact ho
  · rw [gl' 21 (by decide), gl' 25 (by decide), h21, h25, q2]; have := h.pbk; rw [h21, h25] at this; exact this
theorem heap_set {W : World} {b i : Nat} {cs : Array Value} {t : TypeId} {fr : Nat × Nat} (v : Value) (h : W.heap[b]? = some (.cells cs t fr)) : (W.setCell ⟨b, i, none⟩ v).heap[b]? = some (.cells (cs.setIfInBounds i v) t fr) := by
  obtain ⟨hlt, hk⟩ := Array.getElem?_eq_some_iff.1 h
  show (W.heap.modify b _)[b]? = _
  rw [Array.getElem?_eq_getElem (by rw [Array.size_modify]; exact hlt), Array.getElem_modify_self, hk]
  rfl
theorem set_others {W : World} {b i : Nat} {v : Value} {g : Nat} (hg : g ≠ b) : (W.setCell ⟨b, i, none⟩ v).heap[g]? = W.heap[g]? := Below.heap_setCell _ _ _ _ hg
theorem PInv.store21 (h : PInv W0 B pbox pb sz pv xv n ps xs at_ x l a w) (hpb : pb < B) (_hpx : pbox < B) (hne : pbox ≠ pb) (hB : B ≤ W0.heap.size) (hl : l.getD 21 false = false) (e9 : l.getD 9 false = true) (e17 : l.getD 17 false = true) : PInv W0 B pbox pb sz pv xv n ps xs at_ x (l.setIfInBounds 21 true) (a.put none undef) (w.setCell ⟨pb, 0, none⟩ (a.tmps.getD 26 undef)) := by
  have hjl : 21 < l.size := by rw [h.lsz]; decide
  have gl : ∀ k, (l.setIfInBounds 21 true).getD k false = (if k = 21 then true else l.getD k false) := fun k => getD_set hjl
  have gl' : ∀ k, k ≠ 21 → (l.setIfInBounds 21 true).getD k false = l.getD k false := fun k hk => by rw [gl, if_neg hk]
  have up : ∀ k, l.getD k false = true → (l.setIfInBounds 21 true).getD k false = true := fun k hk => by rw [gl]; split <;> first | rfl | exact hk
  have q1 : ∀ g v, w.cell? ⟨g, 0, none⟩ = some v → W0.heap.size ≤ g → (w.setCell ⟨pb, 0, none⟩ (a.tmps.getD 26 undef)).cell? ⟨g, 0, none⟩ = some v := fun g v hv hgg => (World.cell?_of_block (set_others (by dsimp only; omega))).trans hv
  have hone : ∀ {e : TypeId} {v : Value} {k : Nat} {zs : List Value}, w.ownsRow B e 1 v k zs → (w.setCell ⟨pb, 0, none⟩ (a.tmps.getD 26 undef)).ownsRow B e 1 v k zs := fun ho => ownsRow_setCell_below ho (a := ⟨pb, 0, none⟩) hpb _
  refine ⟨by simpa using h.lsz, h.asz, ?_, ?_, ?_, ?_, ?_, ?_, ?_, ?_, ?_, ?_, ?_, ?_, ?_, ((World.cell?_of_block (set_others hne)).trans h.box), (h.keep.setCell (p := ⟨pb, _, none⟩) (fun hh => hh.2.1 rfl) _), (h.oth.trans (KeepsOthers.setCell _ _ _))⟩
  · exact h.t5
  · exact h.t6
  · exact h.t7
  · intro k hk hks hkl
    have hb := pSlot_bd k hk hks
    skip
    exact h.det k hk hks (by rwa [gl' _ (by omega)] at hkl)
  · rw [gl' 9 (by decide)]; exact fun e => ⟨up _ (h.d9 e).1, up _ (h.d9 e).2⟩
  · rw [gl' 17 (by decide)]; exact fun e => ⟨up _ (h.d17 e).1, up _ (h.d17 e).2⟩
  · intro _; exact ⟨up _ e9, up _ e17⟩
  · rw [gl' 25 (by decide)]; exact fun e => up _ (h.d25 e)
  · rw [gl' 8 (by decide)]; exact fun e => let ⟨g, e1, e2, e3⟩ := h.w8 e; ⟨g, e1, q1 g _ e2 e3, e3⟩
  · rw [gl' 16 (by decide)]; exact fun e => let ⟨g, e1, e2, e3⟩ := h.w16 e; ⟨g, e1, q1 g _ e2 e3, e3⟩
  · rw [gl' 9 (by decide)]; have := h.w9; cases hb : l.getD 9 false <;> (rw [hb] at this; exact hone this)
  · rw [gl' 17 (by decide)]; have := h.w17; cases hb : l.getD 17 false <;> (rw [hb] at this; exact hone this)
  · have h25 : l.getD 25 false = false := by
      cases e : l.getD 25 false with
      | false => rfl
      | true => have := h.d25 e; rw [hl] at this; cases this
    rw [gl, if_pos rfl, gl' 25 (by decide), h25, heap_set _ h.pbk, hl, h25]
    rfl
theorem PInv.store25 (h : PInv W0 B pbox pb sz pv xv n ps xs at_ x l a w) (hpb : pb < B) (_hpx : pbox < B) (hne : pbox ≠ pb) (hB : B ≤ W0.heap.size) (hl : l.getD 25 false = false) (e21 : l.getD 21 false = true) : PInv W0 B pbox pb sz pv xv n ps xs at_ x (l.setIfInBounds 25 true) (a.put none undef) (w.setCell ⟨pb, 1, none⟩ (a.tmps.getD 34 undef)) := by
  have hjl : 25 < l.size := by rw [h.lsz]; decide
  have gl : ∀ k, (l.setIfInBounds 25 true).getD k false = (if k = 25 then true else l.getD k false) := fun k => getD_set hjl
  have gl' : ∀ k, k ≠ 25 → (l.setIfInBounds 25 true).getD k false = l.getD k false := fun k hk => by rw [gl, if_neg hk]
  have up : ∀ k, l.getD k false = true → (l.setIfInBounds 25 true).getD k false = true := fun k hk => by rw [gl]; split <;> first | rfl | exact hk
  have q1 : ∀ g v, w.cell? ⟨g, 0, none⟩ = some v → W0.heap.size ≤ g → (w.setCell ⟨pb, 1, none⟩ (a.tmps.getD 34 undef)).cell? ⟨g, 0, none⟩ = some v := fun g v hv hgg => (World.cell?_of_block (set_others (by dsimp only; omega))).trans hv
  have hone : ∀ {e : TypeId} {v : Value} {k : Nat} {zs : List Value}, w.ownsRow B e 1 v k zs → (w.setCell ⟨pb, 1, none⟩ (a.tmps.getD 34 undef)).ownsRow B e 1 v k zs := fun ho => ownsRow_setCell_below ho (a := ⟨pb, 1, none⟩) hpb _
  refine ⟨by simpa using h.lsz, h.asz, ?_, ?_, ?_, ?_, ?_, ?_, ?_, ?_, ?_, ?_, ?_, ?_, ?_, ((World.cell?_of_block (set_others hne)).trans h.box), (h.keep.setCell (p := ⟨pb, _, none⟩) (fun hh => hh.2.1 rfl) _), (h.oth.trans (KeepsOthers.setCell _ _ _))⟩
  · exact h.t5
  · exact h.t6
  · exact h.t7
  · intro k hk hks hkl
    have hb := pSlot_bd k hk hks
    skip
    exact h.det k hk hks (by rwa [gl' _ (by omega)] at hkl)
  · rw [gl' 9 (by decide)]; exact fun e => ⟨up _ (h.d9 e).1, up _ (h.d9 e).2⟩
  · rw [gl' 17 (by decide)]; exact fun e => ⟨up _ (h.d17 e).1, up _ (h.d17 e).2⟩
  · rw [gl' 21 (by decide)]; exact fun e => ⟨up _ (h.d21 e).1, up _ (h.d21 e).2⟩
  · intro _; exact up _ e21
  · rw [gl' 8 (by decide)]; exact fun e => let ⟨g, e1, e2, e3⟩ := h.w8 e; ⟨g, e1, q1 g _ e2 e3, e3⟩
  · rw [gl' 16 (by decide)]; exact fun e => let ⟨g, e1, e2, e3⟩ := h.w16 e; ⟨g, e1, q1 g _ e2 e3, e3⟩
  · rw [gl' 9 (by decide)]; have := h.w9; cases hb : l.getD 9 false <;> (rw [hb] at this; exact hone this)
  · rw [gl' 17 (by decide)]; have := h.w17; cases hb : l.getD 17 false <;> (rw [hb] at this; exact hone this)
  · rw [gl 25, if_pos rfl, gl' 21 (by decide), heap_set _ h.pbk, e21, hl]
    rfl
end
end Go.Proofs.YtokfgdpmbmnijaaGreatDoor
/- The round of Parse's range: its operations, one by one (written by wip/tools/gen_textg.py). -/
namespace Go.Proofs.YtokfgdpmbmnijaaGreatDoor
open Go.RowKit
theorem getD_false {l : Array Bool} {i : Nat} (h : l.getD i true = false) : l.getD i false = false := by
  rw [Array.getD_eq_getD_getElem?] at h ⊢
  cases e : l[i]? with
  | none => rw [e] at h; cases h
  | some b => rw [e] at h; exact h
theorem info_int : (Tryz.prog.info? 3).map (fun i => (i.zero, i.size, i.bytes)) = some (some (.int .i64 0), 1, 8) := by kernel_rfl
theorem info_string : (Tryz.prog.info? 9).map (fun i => (i.zero, i.size, i.bytes)) = some (some (.string ⟨#[]⟩), 1, 16) := by kernel_rfl
section
variable {W0 : World} {B pbox pb : Nat} {sz : Int} {pv xv : Value} {n m : Nat} {ps xs : List Value} {at_ : Nat} {x : ByteArray} {F : Fence} {Q : Exit → Act → World → Prop}
theorem pop0 : parseOps[0]? = some { dst := some 17, op := Op.load 81 (Operand.tmp 5), type := 81, pos := "text.go:226", after := #[], guard := none } := rfl
theorem prun0 (ρ : Operand → Value) (w : World) (c5 : ρ (.tmp 5) = .pointer (some ⟨pbox, 0, none⟩)) (hb : w.cell? ⟨pbox, 0, none⟩ = some (.pointer (some ⟨pb, 0, none⟩))) : (execOp ρ { dst := some 17, op := Op.load 81 (Operand.tmp 5), type := 81, pos := "text.go:226", after := #[], guard := none }).run Tryz.prog w = .ok (.value (.pointer (some ⟨pb, 0, none⟩))) w := by
  simp [execOp, c5, hb, go_sem]
theorem pstep0 (hF : ∀ f, F.fn f) (o : Oper) (l : Array Bool) (a : Act) (w : World) (ho : parseOps[0]? = some o) (h : PInv W0 B pbox pb sz pv xv n ps xs at_ x l a w) (_hl : l.getD 0 false = false)
    (hd : ∀ e ∈ o.after, Region.binds .any e = true → l.getD e.on false = true) :
    wpOpIn F m Tryz.prog parseOps Q 0 (fun a' w' => PInv W0 B pbox pb sz pv xv n ps xs at_ x (l.setIfInBounds 0 true) a' w') a w := by
  have e := Option.some.inj (ho.symm.trans pop0)
  subst e
  have c5 : a.eval (.tmp 5) = .pointer (some ⟨pbox, 0, none⟩) := h.t5
  have hb := h.box
  exact step_value hF pop0 rfl (fun c e => by cases e) (prun0 a.eval w c5 hb) (h.read 0 (by decide) (by decide))
theorem pop1 : parseOps[1]? = some { dst := some 18, op := Op.load 81 (Operand.tmp 5), type := 81, pos := "text.go:226", after := #[{ on := 21, ground := Ground.gcOnly Departure.lateStores }], guard := none } := rfl
theorem prun1 (ρ : Operand → Value) (w : World) (c5 : ρ (.tmp 5) = .pointer (some ⟨pbox, 0, none⟩)) (hb : w.cell? ⟨pbox, 0, none⟩ = some (.pointer (some ⟨pb, 0, none⟩))) : (execOp ρ { dst := some 18, op := Op.load 81 (Operand.tmp 5), type := 81, pos := "text.go:226", after := #[{ on := 21, ground := Ground.gcOnly Departure.lateStores }], guard := none }).run Tryz.prog w = .ok (.value (.pointer (some ⟨pb, 0, none⟩))) w := by
  simp [execOp, c5, hb, go_sem]
theorem pstep1 (hF : ∀ f, F.fn f) (o : Oper) (l : Array Bool) (a : Act) (w : World) (ho : parseOps[1]? = some o) (h : PInv W0 B pbox pb sz pv xv n ps xs at_ x l a w) (_hl : l.getD 1 false = false)
    (hd : ∀ e ∈ o.after, Region.binds .any e = true → l.getD e.on false = true) :
    wpOpIn F m Tryz.prog parseOps Q 1 (fun a' w' => PInv W0 B pbox pb sz pv xv n ps xs at_ x (l.setIfInBounds 1 true) a' w') a w := by
  have e := Option.some.inj (ho.symm.trans pop1)
  subst e
  have c5 : a.eval (.tmp 5) = .pointer (some ⟨pbox, 0, none⟩) := h.t5
  have hb := h.box
  exact step_value hF pop1 rfl (fun c e => by cases e) (prun1 a.eval w c5 hb) (h.read 1 (by decide) (by decide))
theorem pop2 : parseOps[2]? = some { dst := some 19, op := Op.load 81 (Operand.tmp 5), type := 81, pos := "text.go:226", after := #[], guard := none } := rfl
theorem prun2 (ρ : Operand → Value) (w : World) (c5 : ρ (.tmp 5) = .pointer (some ⟨pbox, 0, none⟩)) (hb : w.cell? ⟨pbox, 0, none⟩ = some (.pointer (some ⟨pb, 0, none⟩))) : (execOp ρ { dst := some 19, op := Op.load 81 (Operand.tmp 5), type := 81, pos := "text.go:226", after := #[], guard := none }).run Tryz.prog w = .ok (.value (.pointer (some ⟨pb, 0, none⟩))) w := by
  simp [execOp, c5, hb, go_sem]
theorem pstep2 (hF : ∀ f, F.fn f) (o : Oper) (l : Array Bool) (a : Act) (w : World) (ho : parseOps[2]? = some o) (h : PInv W0 B pbox pb sz pv xv n ps xs at_ x l a w) (_hl : l.getD 2 false = false)
    (hd : ∀ e ∈ o.after, Region.binds .any e = true → l.getD e.on false = true) :
    wpOpIn F m Tryz.prog parseOps Q 2 (fun a' w' => PInv W0 B pbox pb sz pv xv n ps xs at_ x (l.setIfInBounds 2 true) a' w') a w := by
  have e := Option.some.inj (ho.symm.trans pop2)
  subst e
  have c5 : a.eval (.tmp 5) = .pointer (some ⟨pbox, 0, none⟩) := h.t5
  have hb := h.box
  exact step_value hF pop2 rfl (fun c e => by cases e) (prun2 a.eval w c5 hb) (h.read 2 (by decide) (by decide))
theorem pop3 : parseOps[3]? = some { dst := some 20, op := Op.nilCheck (Operand.tmp 19), type := 0, pos := "text.go:226", after := #[{ on := 2, ground := Ground.data }], guard := none } := rfl
theorem prun3 (ρ : Operand → Value) (w : World) (c19 : ρ (.tmp 19) = .pointer (some ⟨pb, 0, none⟩)) : (execOp ρ { dst := some 20, op := Op.nilCheck (Operand.tmp 19), type := 0, pos := "text.go:226", after := #[{ on := 2, ground := Ground.data }], guard := none }).run Tryz.prog w = .ok (.value (.pointer (some ⟨pb, 0, none⟩))) w := by
  simp [execOp, c19, go_sem]
theorem pstep3 (hF : ∀ f, F.fn f) (o : Oper) (l : Array Bool) (a : Act) (w : World) (ho : parseOps[3]? = some o) (h : PInv W0 B pbox pb sz pv xv n ps xs at_ x l a w) (_hl : l.getD 3 false = false)
    (hd : ∀ e ∈ o.after, Region.binds .any e = true → l.getD e.on false = true) :
    wpOpIn F m Tryz.prog parseOps Q 3 (fun a' w' => PInv W0 B pbox pb sz pv xv n ps xs at_ x (l.setIfInBounds 3 true) a' w') a w := by
  have e := Option.some.inj (ho.symm.trans pop3)
  subst e
  have c19 : a.eval (.tmp 19) = .pointer (some ⟨pb, 0, none⟩) := h.det 2 (by decide) (by decide) (hd ⟨2, .data⟩ (by simp) rfl)
  exact step_value hF pop3 rfl (fun c e => by cases e) (prun3 a.eval w c19) (h.read 3 (by decide) (by decide))
theorem pop4 : parseOps[4]? = some { dst := some 21, op := Op.fieldAddr 86 (Operand.tmp 20) 0, type := 0, pos := "text.go:226", after := #[{ on := 3, ground := Ground.data }], guard := none } := rfl
theorem prun4 (ρ : Operand → Value) (w : World) (c20 : ρ (.tmp 20) = .pointer (some ⟨pb, 0, none⟩)) : (execOp ρ { dst := some 21, op := Op.fieldAddr 86 (Operand.tmp 20) 0, type := 0, pos := "text.go:226", after := #[{ on := 3, ground := Ground.data }], guard := none }).run Tryz.prog w = .ok (.value (.pointer (some ⟨pb, 0, none⟩))) w := by
  simp [execOp, c20, go_sem]
theorem pstep4 (hF : ∀ f, F.fn f) (o : Oper) (l : Array Bool) (a : Act) (w : World) (ho : parseOps[4]? = some o) (h : PInv W0 B pbox pb sz pv xv n ps xs at_ x l a w) (_hl : l.getD 4 false = false)
    (hd : ∀ e ∈ o.after, Region.binds .any e = true → l.getD e.on false = true) :
    wpOpIn F m Tryz.prog parseOps Q 4 (fun a' w' => PInv W0 B pbox pb sz pv xv n ps xs at_ x (l.setIfInBounds 4 true) a' w') a w := by
  have e := Option.some.inj (ho.symm.trans pop4)
  subst e
  have c20 : a.eval (.tmp 20) = .pointer (some ⟨pb, 0, none⟩) := h.det 3 (by decide) (by decide) (hd ⟨3, .data⟩ (by simp) rfl)
  exact step_value hF pop4 rfl (fun c e => by cases e) (prun4 a.eval w c20) (h.read 4 (by decide) (by decide))
theorem pop5 : parseOps[5]? = some { dst := some 22, op := Op.fieldAddr 84 (Operand.tmp 21) 0, type := 0, pos := "text.go:226", after := #[{ on := 4, ground := Ground.data }], guard := none } := rfl
theorem prun5 (ρ : Operand → Value) (w : World) (c21 : ρ (.tmp 21) = .pointer (some ⟨pb, 0, none⟩)) : (execOp ρ { dst := some 22, op := Op.fieldAddr 84 (Operand.tmp 21) 0, type := 0, pos := "text.go:226", after := #[{ on := 4, ground := Ground.data }], guard := none }).run Tryz.prog w = .ok (.value (.pointer (some ⟨pb, 0, none⟩))) w := by
  simp [execOp, c21, go_sem]
theorem pstep5 (hF : ∀ f, F.fn f) (o : Oper) (l : Array Bool) (a : Act) (w : World) (ho : parseOps[5]? = some o) (h : PInv W0 B pbox pb sz pv xv n ps xs at_ x l a w) (_hl : l.getD 5 false = false)
    (hd : ∀ e ∈ o.after, Region.binds .any e = true → l.getD e.on false = true) :
    wpOpIn F m Tryz.prog parseOps Q 5 (fun a' w' => PInv W0 B pbox pb sz pv xv n ps xs at_ x (l.setIfInBounds 5 true) a' w') a w := by
  have e := Option.some.inj (ho.symm.trans pop5)
  subst e
  have c21 : a.eval (.tmp 21) = .pointer (some ⟨pb, 0, none⟩) := h.det 4 (by decide) (by decide) (hd ⟨4, .data⟩ (by simp) rfl)
  exact step_value hF pop5 rfl (fun c e => by cases e) (prun5 a.eval w c21) (h.read 5 (by decide) (by decide))
theorem pop6 : parseOps[6]? = some { dst := some 23, op := Op.load 36 (Operand.tmp 22), type := 36, pos := "text.go:226", after := #[{ on := 5, ground := Ground.data }], guard := none } := rfl
theorem prun6 (ρ : Operand → Value) (w : World) (c22 : ρ (.tmp 22) = .pointer (some ⟨pb, 0, none⟩)) (hb : w.cell? ⟨pb, 0, none⟩ = some pv) (hz : ∃ p k c, pv = .slice p k c) : (execOp ρ { dst := some 23, op := Op.load 36 (Operand.tmp 22), type := 36, pos := "text.go:226", after := #[{ on := 5, ground := Ground.data }], guard := none }).run Tryz.prog w = .ok (.value (pv)) w := by
  obtain ⟨p, k, c, rfl⟩ := hz
  simp [execOp, c22, hb, go_sem]
theorem pstep6 (hF : ∀ f, F.fn f) (hpv : ∃ p k c, pv = .slice p k c) (o : Oper) (l : Array Bool) (a : Act) (w : World) (ho : parseOps[6]? = some o) (h : PInv W0 B pbox pb sz pv xv n ps xs at_ x l a w) (hl : l.getD 6 false = false)
    (hd : ∀ e ∈ o.after, Region.binds .any e = true → l.getD e.on false = true) :
    wpOpIn F m Tryz.prog parseOps Q 6 (fun a' w' => PInv W0 B pbox pb sz pv xv n ps xs at_ x (l.setIfInBounds 6 true) a' w') a w := by
  have e := Option.some.inj (ho.symm.trans pop6)
  subst e
  have c22 : a.eval (.tmp 22) = .pointer (some ⟨pb, 0, none⟩) := h.det 5 (by decide) (by decide) (hd ⟨5, .data⟩ (by simp) rfl)
  have h9 : l.getD 9 false = false := by
    cases e : l.getD 9 false with
    | false => rfl
    | true => have := (h.d9 e).1; rw [hl] at this; cases this
  have h21 : l.getD 21 false = false := by
    cases e : l.getD 21 false with
    | false => rfl
    | true => have := (h.d21 e).1; rw [h9] at this; cases this
  have hb : w.cell? ⟨pb, 0, none⟩ = some pv := by have := h.pbk; rw [h21] at this; exact cell_of_blk this 0 _ rfl
  exact step_value hF pop6 rfl (fun c e => by cases e) (prun6 a.eval w c22 hb hpv) (h.read 6 (by decide) (by decide))
theorem pop7 : parseOps[7]? = some { dst := some 24, op := Op.move (Operand.tmp 6), type := 3, pos := "text.go:226", after := #[], guard := none } := rfl
theorem prun7 (ρ : Operand → Value) (w : World) (c6 : ρ (.tmp 6) = .int .i64 at_) : (execOp ρ { dst := some 24, op := Op.move (Operand.tmp 6), type := 3, pos := "text.go:226", after := #[], guard := none }).run Tryz.prog w = .ok (.value (.int .i64 at_)) w := by
  simp [execOp, c6, go_sem]
theorem pstep7 (hF : ∀ f, F.fn f) (o : Oper) (l : Array Bool) (a : Act) (w : World) (ho : parseOps[7]? = some o) (h : PInv W0 B pbox pb sz pv xv n ps xs at_ x l a w) (_hl : l.getD 7 false = false)
    (hd : ∀ e ∈ o.after, Region.binds .any e = true → l.getD e.on false = true) :
    wpOpIn F m Tryz.prog parseOps Q 7 (fun a' w' => PInv W0 B pbox pb sz pv xv n ps xs at_ x (l.setIfInBounds 7 true) a' w') a w := by
  have e := Option.some.inj (ho.symm.trans pop7)
  subst e
  have c6 : a.eval (.tmp 6) = .int .i64 at_ := h.t6
  exact step_value hF pop7 rfl (fun c e => by cases e) (prun7 a.eval w c6) (h.read 7 (by decide) (by decide))
theorem pop8 : parseOps[8]? = some { dst := some 25, op := Op.buildSlice 36 1 #[(0, Operand.tmp 24)], type := 36, pos := "text.go:226", after := #[{ on := 7, ground := Ground.data }], guard := none } := rfl
theorem prun8 (ρ : Operand → Value) (w : World) (c : ρ (.tmp 24) = .int .i64 at_) : (execOp ρ { dst := some 25, op := Op.buildSlice 36 1 #[(0, Operand.tmp 24)], type := 36, pos := "text.go:226", after := #[{ on := 7, ground := Ground.data }], guard := none }).run Tryz.prog w = .ok (.value (.slice (some ⟨w.heap.size, 0, none⟩) 1 1)) (w.alloc (.cells #[.int .i64 at_] 3)) := by
  simp [execOp, c, go_sem]
theorem pstep8 (hF : ∀ f, F.fn f) (hpb : pb < B) (hpx : pbox < B) (o : Oper) (l : Array Bool) (a : Act) (w : World) (ho : parseOps[8]? = some o) (h : PInv W0 B pbox pb sz pv xv n ps xs at_ x l a w) (_hl : l.getD 8 false = false)
    (hd : ∀ e ∈ o.after, Region.binds .any e = true → l.getD e.on false = true) :
    wpOpIn F m Tryz.prog parseOps Q 8 (fun a' w' => PInv W0 B pbox pb sz pv xv n ps xs at_ x (l.setIfInBounds 8 true) a' w') a w := by
  have e := Option.some.inj (ho.symm.trans pop8)
  subst e
  have c : a.eval (.tmp 24) = .int .i64 at_ := h.det 7 (by decide) (by decide) (hd ⟨7, .data⟩ (by simp) rfl)
  exact step_value hF pop8 rfl (fun c e => by cases e) (prun8 a.eval w c) (h.build8 hpb hpx)
theorem pop9 : parseOps[9]? = some { dst := some 26, op := Op.call { callee := Callee.builtin Builtin.append, args := #[Operand.tmp 23, Operand.tmp 25], argTypes := #[36, 36] }, type := 36, pos := "text.go:226", after := #[{ on := 6, ground := Ground.data }, { on := 8, ground := Ground.data }], guard := none } := rfl
theorem pstep9 (hF : ∀ f, F.fn f) (hpb : pb < B) (hpx : pbox < B) (hB : B ≤ W0.heap.size) (hn : n ≤ 1000000) (hlt : ∀ k, pv.ownBlock = some k → k < W0.heap.size) (o : Oper) (l : Array Bool) (a : Act) (w : World) (ho : parseOps[9]? = some o) (h : PInv W0 B pbox pb sz pv xv n ps xs at_ x l a w) (hl : l.getD 9 false = false)
    (hd : ∀ e ∈ o.after, Region.binds .any e = true → l.getD e.on false = true) :
    wpOpIn F m Tryz.prog parseOps Q 9 (fun a' w' => PInv W0 B pbox pb sz pv xv n ps xs at_ x (l.setIfInBounds 9 true) a' w') a w := by
  have e := Option.some.inj (ho.symm.trans pop9)
  subst e
  have e1 := hd ⟨6, .data⟩ (by simp) rfl
  have e2 := hd ⟨8, .data⟩ (by simp) rfl
  have c1 : a.eval (.tmp 23) = pv := h.det 6 (by decide) (by decide) e1
  obtain ⟨g, c2, c3, c4⟩ := h.w8 e2
  have c2' : a.eval (.tmp 25) = .slice (some ⟨g, 0, none⟩) 1 1 := c2
  have hw : w.ownsRow B 3 1 pv n ps := by have := h.w9; rwa [hl] at this
  obtain ⟨i0, hi, hz0, hz1, hz2⟩ := info_parts info_int
  obtain ⟨v', w', hrun, r1, r2, _⟩ := run_append_own (P := Tryz.prog) w B 36 36 3 i0 _ 1 _ Tryz.underlying36 hi hz0 hz1 hz2 rfl (by decide) pv n ps hw ⟨g, 0, none⟩ 1 1 [.int .i64 at_] rfl
    (fun j u hu => by
      match j, hu with
      | 0, hu => simp at hu; subst hu; exact c3) (fun u hu => by simp at hu; subst hu; rfl) (by unfold maxLen; omega) (by omega) (Nat.le_trans hB h.keep.size)
  refine step_value hF pop9 rfl (fun c e => by cases e) (v := v') (w' := w') ?_ (h.push9 hpb hpx hl e1 e2 hlt r1 r2)
  have hex : ∀ ρ : Operand → Value, ρ (.tmp 23) = pv → ρ (.tmp 25) = .slice (some ⟨g, 0, none⟩) 1 1 → (execOp ρ { dst := some 26, op := Op.call { callee := Callee.builtin Builtin.append, args := #[Operand.tmp 23, Operand.tmp 25], argTypes := #[36, 36] }, type := 36, pos := "text.go:226", after := #[{ on := 6, ground := Ground.data }, { on := 8, ground := Ground.data }], guard := none }).run Tryz.prog w = .ok (.value v') w' := by
    intro ρ k1 k2
    simp [execOp, resolve, invoke, builtin, k1, k2, hrun, Result.andThen]
  exact hex _ c1 c2'
theorem pop10 : parseOps[10]? = some { dst := some 27, op := Op.load 81 (Operand.tmp 5), type := 81, pos := "text.go:226", after := #[], guard := none } := rfl
theorem prun10 (ρ : Operand → Value) (w : World) (c5 : ρ (.tmp 5) = .pointer (some ⟨pbox, 0, none⟩)) (hb : w.cell? ⟨pbox, 0, none⟩ = some (.pointer (some ⟨pb, 0, none⟩))) : (execOp ρ { dst := some 27, op := Op.load 81 (Operand.tmp 5), type := 81, pos := "text.go:226", after := #[], guard := none }).run Tryz.prog w = .ok (.value (.pointer (some ⟨pb, 0, none⟩))) w := by
  simp [execOp, c5, hb, go_sem]
theorem pstep10 (hF : ∀ f, F.fn f) (o : Oper) (l : Array Bool) (a : Act) (w : World) (ho : parseOps[10]? = some o) (h : PInv W0 B pbox pb sz pv xv n ps xs at_ x l a w) (_hl : l.getD 10 false = false)
    (hd : ∀ e ∈ o.after, Region.binds .any e = true → l.getD e.on false = true) :
    wpOpIn F m Tryz.prog parseOps Q 10 (fun a' w' => PInv W0 B pbox pb sz pv xv n ps xs at_ x (l.setIfInBounds 10 true) a' w') a w := by
  have e := Option.some.inj (ho.symm.trans pop10)
  subst e
  have c5 : a.eval (.tmp 5) = .pointer (some ⟨pbox, 0, none⟩) := h.t5
  have hb := h.box
  exact step_value hF pop10 rfl (fun c e => by cases e) (prun10 a.eval w c5 hb) (h.read 10 (by decide) (by decide))
theorem pop11 : parseOps[11]? = some { dst := some 28, op := Op.nilCheck (Operand.tmp 27), type := 0, pos := "text.go:226", after := #[{ on := 10, ground := Ground.data }], guard := none } := rfl
theorem prun11 (ρ : Operand → Value) (w : World) (c27 : ρ (.tmp 27) = .pointer (some ⟨pb, 0, none⟩)) : (execOp ρ { dst := some 28, op := Op.nilCheck (Operand.tmp 27), type := 0, pos := "text.go:226", after := #[{ on := 10, ground := Ground.data }], guard := none }).run Tryz.prog w = .ok (.value (.pointer (some ⟨pb, 0, none⟩))) w := by
  simp [execOp, c27, go_sem]
theorem pstep11 (hF : ∀ f, F.fn f) (o : Oper) (l : Array Bool) (a : Act) (w : World) (ho : parseOps[11]? = some o) (h : PInv W0 B pbox pb sz pv xv n ps xs at_ x l a w) (_hl : l.getD 11 false = false)
    (hd : ∀ e ∈ o.after, Region.binds .any e = true → l.getD e.on false = true) :
    wpOpIn F m Tryz.prog parseOps Q 11 (fun a' w' => PInv W0 B pbox pb sz pv xv n ps xs at_ x (l.setIfInBounds 11 true) a' w') a w := by
  have e := Option.some.inj (ho.symm.trans pop11)
  subst e
  have c27 : a.eval (.tmp 27) = .pointer (some ⟨pb, 0, none⟩) := h.det 10 (by decide) (by decide) (hd ⟨10, .data⟩ (by simp) rfl)
  exact step_value hF pop11 rfl (fun c e => by cases e) (prun11 a.eval w c27) (h.read 11 (by decide) (by decide))
theorem pop12 : parseOps[12]? = some { dst := some 29, op := Op.fieldAddr 86 (Operand.tmp 28) 0, type := 0, pos := "text.go:226", after := #[{ on := 11, ground := Ground.data }], guard := none } := rfl
theorem prun12 (ρ : Operand → Value) (w : World) (c28 : ρ (.tmp 28) = .pointer (some ⟨pb, 0, none⟩)) : (execOp ρ { dst := some 29, op := Op.fieldAddr 86 (Operand.tmp 28) 0, type := 0, pos := "text.go:226", after := #[{ on := 11, ground := Ground.data }], guard := none }).run Tryz.prog w = .ok (.value (.pointer (some ⟨pb, 0, none⟩))) w := by
  simp [execOp, c28, go_sem]
theorem pstep12 (hF : ∀ f, F.fn f) (o : Oper) (l : Array Bool) (a : Act) (w : World) (ho : parseOps[12]? = some o) (h : PInv W0 B pbox pb sz pv xv n ps xs at_ x l a w) (_hl : l.getD 12 false = false)
    (hd : ∀ e ∈ o.after, Region.binds .any e = true → l.getD e.on false = true) :
    wpOpIn F m Tryz.prog parseOps Q 12 (fun a' w' => PInv W0 B pbox pb sz pv xv n ps xs at_ x (l.setIfInBounds 12 true) a' w') a w := by
  have e := Option.some.inj (ho.symm.trans pop12)
  subst e
  have c28 : a.eval (.tmp 28) = .pointer (some ⟨pb, 0, none⟩) := h.det 11 (by decide) (by decide) (hd ⟨11, .data⟩ (by simp) rfl)
  exact step_value hF pop12 rfl (fun c e => by cases e) (prun12 a.eval w c28) (h.read 12 (by decide) (by decide))
theorem pop13 : parseOps[13]? = some { dst := some 30, op := Op.fieldAddr 84 (Operand.tmp 29) 1, type := 0, pos := "text.go:226", after := #[{ on := 12, ground := Ground.data }], guard := none } := rfl
theorem prun13 (ρ : Operand → Value) (w : World) (c29 : ρ (.tmp 29) = .pointer (some ⟨pb, 0, none⟩)) : (execOp ρ { dst := some 30, op := Op.fieldAddr 84 (Operand.tmp 29) 1, type := 0, pos := "text.go:226", after := #[{ on := 12, ground := Ground.data }], guard := none }).run Tryz.prog w = .ok (.value (.pointer (some ⟨pb, 1, none⟩))) w := by
  simp [execOp, c29, go_sem]
theorem pstep13 (hF : ∀ f, F.fn f) (o : Oper) (l : Array Bool) (a : Act) (w : World) (ho : parseOps[13]? = some o) (h : PInv W0 B pbox pb sz pv xv n ps xs at_ x l a w) (_hl : l.getD 13 false = false)
    (hd : ∀ e ∈ o.after, Region.binds .any e = true → l.getD e.on false = true) :
    wpOpIn F m Tryz.prog parseOps Q 13 (fun a' w' => PInv W0 B pbox pb sz pv xv n ps xs at_ x (l.setIfInBounds 13 true) a' w') a w := by
  have e := Option.some.inj (ho.symm.trans pop13)
  subst e
  have c29 : a.eval (.tmp 29) = .pointer (some ⟨pb, 0, none⟩) := h.det 12 (by decide) (by decide) (hd ⟨12, .data⟩ (by simp) rfl)
  exact step_value hF pop13 rfl (fun c e => by cases e) (prun13 a.eval w c29) (h.read 13 (by decide) (by decide))
theorem pop14 : parseOps[14]? = some { dst := some 31, op := Op.load 82 (Operand.tmp 30), type := 82, pos := "text.go:226", after := #[{ on := 13, ground := Ground.data }], guard := none } := rfl
theorem prun14 (ρ : Operand → Value) (w : World) (c30 : ρ (.tmp 30) = .pointer (some ⟨pb, 1, none⟩)) (hb : w.cell? ⟨pb, 1, none⟩ = some xv) (hz : ∃ p k c, xv = .slice p k c) : (execOp ρ { dst := some 31, op := Op.load 82 (Operand.tmp 30), type := 82, pos := "text.go:226", after := #[{ on := 13, ground := Ground.data }], guard := none }).run Tryz.prog w = .ok (.value (xv)) w := by
  obtain ⟨p, k, c, rfl⟩ := hz
  simp [execOp, c30, hb, go_sem]
theorem pstep14 (hF : ∀ f, F.fn f) (hxv : ∃ p k c, xv = .slice p k c) (o : Oper) (l : Array Bool) (a : Act) (w : World) (ho : parseOps[14]? = some o) (h : PInv W0 B pbox pb sz pv xv n ps xs at_ x l a w) (hl : l.getD 14 false = false)
    (hd : ∀ e ∈ o.after, Region.binds .any e = true → l.getD e.on false = true) :
    wpOpIn F m Tryz.prog parseOps Q 14 (fun a' w' => PInv W0 B pbox pb sz pv xv n ps xs at_ x (l.setIfInBounds 14 true) a' w') a w := by
  have e := Option.some.inj (ho.symm.trans pop14)
  subst e
  have c30 : a.eval (.tmp 30) = .pointer (some ⟨pb, 1, none⟩) := h.det 13 (by decide) (by decide) (hd ⟨13, .data⟩ (by simp) rfl)
  have h17 : l.getD 17 false = false := by
    cases e : l.getD 17 false with
    | false => rfl
    | true => have := (h.d17 e).1; rw [hl] at this; cases this
  have h25 : l.getD 25 false = false := by
    cases e : l.getD 25 false with
    | false => rfl
    | true => have := (h.d21 (h.d25 e)).2; rw [h17] at this; cases this
  have hb : w.cell? ⟨pb, 1, none⟩ = some xv := by have := h.pbk; rw [h25] at this; exact cell_of_blk this 1 _ rfl
  exact step_value hF pop14 rfl (fun c e => by cases e) (prun14 a.eval w c30 hb hxv) (h.read 14 (by decide) (by decide))
theorem pop15 : parseOps[15]? = some { dst := some 32, op := Op.move (Operand.tmp 7), type := 9, pos := "text.go:226", after := #[], guard := none } := rfl
theorem prun15 (ρ : Operand → Value) (w : World) (c7 : ρ (.tmp 7) = .string x) : (execOp ρ { dst := some 32, op := Op.move (Operand.tmp 7), type := 9, pos := "text.go:226", after := #[], guard := none }).run Tryz.prog w = .ok (.value (.string x)) w := by
  simp [execOp, c7, go_sem]
theorem pstep15 (hF : ∀ f, F.fn f) (o : Oper) (l : Array Bool) (a : Act) (w : World) (ho : parseOps[15]? = some o) (h : PInv W0 B pbox pb sz pv xv n ps xs at_ x l a w) (_hl : l.getD 15 false = false)
    (hd : ∀ e ∈ o.after, Region.binds .any e = true → l.getD e.on false = true) :
    wpOpIn F m Tryz.prog parseOps Q 15 (fun a' w' => PInv W0 B pbox pb sz pv xv n ps xs at_ x (l.setIfInBounds 15 true) a' w') a w := by
  have e := Option.some.inj (ho.symm.trans pop15)
  subst e
  have c7 : a.eval (.tmp 7) = .string x := h.t7
  exact step_value hF pop15 rfl (fun c e => by cases e) (prun15 a.eval w c7) (h.read 15 (by decide) (by decide))
theorem pop16 : parseOps[16]? = some { dst := some 33, op := Op.buildSlice 82 1 #[(0, Operand.tmp 32)], type := 82, pos := "text.go:226", after := #[{ on := 15, ground := Ground.data }], guard := none } := rfl
theorem prun16 (ρ : Operand → Value) (w : World) (c : ρ (.tmp 32) = .string x) : (execOp ρ { dst := some 33, op := Op.buildSlice 82 1 #[(0, Operand.tmp 32)], type := 82, pos := "text.go:226", after := #[{ on := 15, ground := Ground.data }], guard := none }).run Tryz.prog w = .ok (.value (.slice (some ⟨w.heap.size, 0, none⟩) 1 1)) (w.alloc (.cells #[.string x] 9)) := by
  simp [execOp, c, go_sem]
theorem pstep16 (hF : ∀ f, F.fn f) (hpb : pb < B) (hpx : pbox < B) (o : Oper) (l : Array Bool) (a : Act) (w : World) (ho : parseOps[16]? = some o) (h : PInv W0 B pbox pb sz pv xv n ps xs at_ x l a w) (_hl : l.getD 16 false = false)
    (hd : ∀ e ∈ o.after, Region.binds .any e = true → l.getD e.on false = true) :
    wpOpIn F m Tryz.prog parseOps Q 16 (fun a' w' => PInv W0 B pbox pb sz pv xv n ps xs at_ x (l.setIfInBounds 16 true) a' w') a w := by
  have e := Option.some.inj (ho.symm.trans pop16)
  subst e
  have c : a.eval (.tmp 32) = .string x := h.det 15 (by decide) (by decide) (hd ⟨15, .data⟩ (by simp) rfl)
  exact step_value hF pop16 rfl (fun c e => by cases e) (prun16 a.eval w c) (h.build16 hpb hpx)
theorem pop17 : parseOps[17]? = some { dst := some 34, op := Op.call { callee := Callee.builtin Builtin.append, args := #[Operand.tmp 31, Operand.tmp 33], argTypes := #[82, 82] }, type := 82, pos := "text.go:226", after := #[{ on := 14, ground := Ground.data }, { on := 16, ground := Ground.data }, { on := 9, ground := Ground.chain }], guard := none } := rfl
theorem pstep17 (hF : ∀ f, F.fn f) (hpb : pb < B) (hpx : pbox < B) (hB : B ≤ W0.heap.size) (hn : n ≤ 1000000) (hlt : ∀ k, xv.ownBlock = some k → k < W0.heap.size) (o : Oper) (l : Array Bool) (a : Act) (w : World) (ho : parseOps[17]? = some o) (h : PInv W0 B pbox pb sz pv xv n ps xs at_ x l a w) (hl : l.getD 17 false = false)
    (hd : ∀ e ∈ o.after, Region.binds .any e = true → l.getD e.on false = true) :
    wpOpIn F m Tryz.prog parseOps Q 17 (fun a' w' => PInv W0 B pbox pb sz pv xv n ps xs at_ x (l.setIfInBounds 17 true) a' w') a w := by
  have e := Option.some.inj (ho.symm.trans pop17)
  subst e
  have e1 := hd ⟨14, .data⟩ (by simp) rfl
  have e2 := hd ⟨16, .data⟩ (by simp) rfl
  have c1 : a.eval (.tmp 31) = xv := h.det 14 (by decide) (by decide) e1
  obtain ⟨g, c2, c3, c4⟩ := h.w16 e2
  have c2' : a.eval (.tmp 33) = .slice (some ⟨g, 0, none⟩) 1 1 := c2
  have hw : w.ownsRow B 9 1 xv n xs := by have := h.w17; rwa [hl] at this
  obtain ⟨i0, hi, hz0, hz1, hz2⟩ := info_parts info_string
  obtain ⟨v', w', hrun, r1, r2, _⟩ := run_append_own (P := Tryz.prog) w B 82 82 9 i0 _ 1 _ Tryz.underlying82 hi hz0 hz1 hz2 rfl (by decide) xv n xs hw ⟨g, 0, none⟩ 1 1 [.string x] rfl
    (fun j u hu => by
      match j, hu with
      | 0, hu => simp at hu; subst hu; exact c3) (fun u hu => by simp at hu; subst hu; rfl) (by unfold maxLen; omega) (by omega) (Nat.le_trans hB h.keep.size)
  refine step_value hF pop17 rfl (fun c e => by cases e) (v := v') (w' := w') ?_ (h.push17 hpb hpx hl e1 e2 hlt r1 r2)
  have hex : ∀ ρ : Operand → Value, ρ (.tmp 31) = xv → ρ (.tmp 33) = .slice (some ⟨g, 0, none⟩) 1 1 → (execOp ρ { dst := some 34, op := Op.call { callee := Callee.builtin Builtin.append, args := #[Operand.tmp 31, Operand.tmp 33], argTypes := #[82, 82] }, type := 82, pos := "text.go:226", after := #[{ on := 14, ground := Ground.data }, { on := 16, ground := Ground.data }, { on := 9, ground := Ground.chain }], guard := none }).run Tryz.prog w = .ok (.value v') w' := by
    intro ρ k1 k2
    simp [execOp, resolve, invoke, builtin, k1, k2, hrun, Result.andThen]
  exact hex _ c1 c2'
theorem pop18 : parseOps[18]? = some { dst := some 35, op := Op.nilCheck (Operand.tmp 17), type := 0, pos := "text.go:226", after := #[{ on := 0, ground := Ground.data }, { on := 0, ground := Ground.phase }, { on := 1, ground := Ground.textOnly Departure.lateStores }, { on := 2, ground := Ground.phase }, { on := 3, ground := Ground.phase }, { on := 4, ground := Ground.phase }, { on := 5, ground := Ground.phase }, { on := 6, ground := Ground.phase }, { on := 7, ground := Ground.phase }, { on := 8, ground := Ground.phase }, { on := 9, ground := Ground.phase }, { on := 10, ground := Ground.textOnly Departure.lateStores }, { on := 11, ground := Ground.textOnly Departure.lateStoresUnsure }, { on := 12, ground := Ground.textOnly Departure.lateStoresUnsure }, { on := 13, ground := Ground.textOnly Departure.lateStoresUnsure }, { on := 14, ground := Ground.phase }, { on := 15, ground := Ground.textOnly Departure.lateStores }, { on := 16, ground := Ground.textOnly Departure.lateStoresUnsure }, { on := 17, ground := Ground.phase }], guard := none } := rfl
theorem prun18 (ρ : Operand → Value) (w : World) (c17 : ρ (.tmp 17) = .pointer (some ⟨pb, 0, none⟩)) : (execOp ρ { dst := some 35, op := Op.nilCheck (Operand.tmp 17), type := 0, pos := "text.go:226", after := #[{ on := 0, ground := Ground.data }, { on := 0, ground := Ground.phase }, { on := 1, ground := Ground.textOnly Departure.lateStores }, { on := 2, ground := Ground.phase }, { on := 3, ground := Ground.phase }, { on := 4, ground := Ground.phase }, { on := 5, ground := Ground.phase }, { on := 6, ground := Ground.phase }, { on := 7, ground := Ground.phase }, { on := 8, ground := Ground.phase }, { on := 9, ground := Ground.phase }, { on := 10, ground := Ground.textOnly Departure.lateStores }, { on := 11, ground := Ground.textOnly Departure.lateStoresUnsure }, { on := 12, ground := Ground.textOnly Departure.lateStoresUnsure }, { on := 13, ground := Ground.textOnly Departure.lateStoresUnsure }, { on := 14, ground := Ground.phase }, { on := 15, ground := Ground.textOnly Departure.lateStores }, { on := 16, ground := Ground.textOnly Departure.lateStoresUnsure }, { on := 17, ground := Ground.phase }], guard := none }).run Tryz.prog w = .ok (.value (.pointer (some ⟨pb, 0, none⟩))) w := by
  simp [execOp, c17, go_sem]
theorem pstep18 (hF : ∀ f, F.fn f) (o : Oper) (l : Array Bool) (a : Act) (w : World) (ho : parseOps[18]? = some o) (h : PInv W0 B pbox pb sz pv xv n ps xs at_ x l a w) (_hl : l.getD 18 false = false)
    (hd : ∀ e ∈ o.after, Region.binds .any e = true → l.getD e.on false = true) :
    wpOpIn F m Tryz.prog parseOps Q 18 (fun a' w' => PInv W0 B pbox pb sz pv xv n ps xs at_ x (l.setIfInBounds 18 true) a' w') a w := by
  have e := Option.some.inj (ho.symm.trans pop18)
  subst e
  have c17 : a.eval (.tmp 17) = .pointer (some ⟨pb, 0, none⟩) := h.det 0 (by decide) (by decide) (hd ⟨0, .data⟩ (by simp) rfl)
  exact step_value hF pop18 rfl (fun c e => by cases e) (prun18 a.eval w c17) (h.read 18 (by decide) (by decide))
theorem pop19 : parseOps[19]? = some { dst := some 36, op := Op.fieldAddr 86 (Operand.tmp 35) 0, type := 0, pos := "text.go:226", after := #[{ on := 18, ground := Ground.data }, { on := 0, ground := Ground.phase }, { on := 1, ground := Ground.textOnly Departure.lateStores }, { on := 2, ground := Ground.phase }, { on := 3, ground := Ground.phase }, { on := 4, ground := Ground.phase }, { on := 5, ground := Ground.phase }, { on := 6, ground := Ground.phase }, { on := 7, ground := Ground.phase }, { on := 8, ground := Ground.phase }, { on := 9, ground := Ground.phase }, { on := 10, ground := Ground.textOnly Departure.lateStores }, { on := 11, ground := Ground.textOnly Departure.lateStoresUnsure }, { on := 12, ground := Ground.textOnly Departure.lateStoresUnsure }, { on := 13, ground := Ground.textOnly Departure.lateStoresUnsure }, { on := 14, ground := Ground.phase }, { on := 15, ground := Ground.textOnly Departure.lateStores }, { on := 16, ground := Ground.textOnly Departure.lateStoresUnsure }, { on := 17, ground := Ground.phase }], guard := none } := rfl
theorem prun19 (ρ : Operand → Value) (w : World) (c35 : ρ (.tmp 35) = .pointer (some ⟨pb, 0, none⟩)) : (execOp ρ { dst := some 36, op := Op.fieldAddr 86 (Operand.tmp 35) 0, type := 0, pos := "text.go:226", after := #[{ on := 18, ground := Ground.data }, { on := 0, ground := Ground.phase }, { on := 1, ground := Ground.textOnly Departure.lateStores }, { on := 2, ground := Ground.phase }, { on := 3, ground := Ground.phase }, { on := 4, ground := Ground.phase }, { on := 5, ground := Ground.phase }, { on := 6, ground := Ground.phase }, { on := 7, ground := Ground.phase }, { on := 8, ground := Ground.phase }, { on := 9, ground := Ground.phase }, { on := 10, ground := Ground.textOnly Departure.lateStores }, { on := 11, ground := Ground.textOnly Departure.lateStoresUnsure }, { on := 12, ground := Ground.textOnly Departure.lateStoresUnsure }, { on := 13, ground := Ground.textOnly Departure.lateStoresUnsure }, { on := 14, ground := Ground.phase }, { on := 15, ground := Ground.textOnly Departure.lateStores }, { on := 16, ground := Ground.textOnly Departure.lateStoresUnsure }, { on := 17, ground := Ground.phase }], guard := none }).run Tryz.prog w = .ok (.value (.pointer (some ⟨pb, 0, none⟩))) w := by
  simp [execOp, c35, go_sem]
theorem pstep19 (hF : ∀ f, F.fn f) (o : Oper) (l : Array Bool) (a : Act) (w : World) (ho : parseOps[19]? = some o) (h : PInv W0 B pbox pb sz pv xv n ps xs at_ x l a w) (_hl : l.getD 19 false = false)
    (hd : ∀ e ∈ o.after, Region.binds .any e = true → l.getD e.on false = true) :
    wpOpIn F m Tryz.prog parseOps Q 19 (fun a' w' => PInv W0 B pbox pb sz pv xv n ps xs at_ x (l.setIfInBounds 19 true) a' w') a w := by
  have e := Option.some.inj (ho.symm.trans pop19)
  subst e
  have c35 : a.eval (.tmp 35) = .pointer (some ⟨pb, 0, none⟩) := h.det 18 (by decide) (by decide) (hd ⟨18, .data⟩ (by simp) rfl)
  exact step_value hF pop19 rfl (fun c e => by cases e) (prun19 a.eval w c35) (h.read 19 (by decide) (by decide))
theorem pop20 : parseOps[20]? = some { dst := some 37, op := Op.fieldAddr 84 (Operand.tmp 36) 0, type := 0, pos := "text.go:226", after := #[{ on := 19, ground := Ground.data }, { on := 0, ground := Ground.phase }, { on := 1, ground := Ground.textOnly Departure.lateStores }, { on := 2, ground := Ground.phase }, { on := 3, ground := Ground.phase }, { on := 4, ground := Ground.phase }, { on := 5, ground := Ground.phase }, { on := 6, ground := Ground.phase }, { on := 7, ground := Ground.phase }, { on := 8, ground := Ground.phase }, { on := 9, ground := Ground.phase }, { on := 10, ground := Ground.textOnly Departure.lateStores }, { on := 11, ground := Ground.textOnly Departure.lateStoresUnsure }, { on := 12, ground := Ground.textOnly Departure.lateStoresUnsure }, { on := 13, ground := Ground.textOnly Departure.lateStoresUnsure }, { on := 14, ground := Ground.phase }, { on := 15, ground := Ground.textOnly Departure.lateStores }, { on := 16, ground := Ground.textOnly Departure.lateStoresUnsure }, { on := 17, ground := Ground.phase }], guard := none } := rfl
theorem prun20 (ρ : Operand → Value) (w : World) (c36 : ρ (.tmp 36) = .pointer (some ⟨pb, 0, none⟩)) : (execOp ρ { dst := some 37, op := Op.fieldAddr 84 (Operand.tmp 36) 0, type := 0, pos := "text.go:226", after := #[{ on := 19, ground := Ground.data }, { on := 0, ground := Ground.phase }, { on := 1, ground := Ground.textOnly Departure.lateStores }, { on := 2, ground := Ground.phase }, { on := 3, ground := Ground.phase }, { on := 4, ground := Ground.phase }, { on := 5, ground := Ground.phase }, { on := 6, ground := Ground.phase }, { on := 7, ground := Ground.phase }, { on := 8, ground := Ground.phase }, { on := 9, ground := Ground.phase }, { on := 10, ground := Ground.textOnly Departure.lateStores }, { on := 11, ground := Ground.textOnly Departure.lateStoresUnsure }, { on := 12, ground := Ground.textOnly Departure.lateStoresUnsure }, { on := 13, ground := Ground.textOnly Departure.lateStoresUnsure }, { on := 14, ground := Ground.phase }, { on := 15, ground := Ground.textOnly Departure.lateStores }, { on := 16, ground := Ground.textOnly Departure.lateStoresUnsure }, { on := 17, ground := Ground.phase }], guard := none }).run Tryz.prog w = .ok (.value (.pointer (some ⟨pb, 0, none⟩))) w := by
  simp [execOp, c36, go_sem]
theorem pstep20 (hF : ∀ f, F.fn f) (o : Oper) (l : Array Bool) (a : Act) (w : World) (ho : parseOps[20]? = some o) (h : PInv W0 B pbox pb sz pv xv n ps xs at_ x l a w) (_hl : l.getD 20 false = false)
    (hd : ∀ e ∈ o.after, Region.binds .any e = true → l.getD e.on false = true) :
    wpOpIn F m Tryz.prog parseOps Q 20 (fun a' w' => PInv W0 B pbox pb sz pv xv n ps xs at_ x (l.setIfInBounds 20 true) a' w') a w := by
  have e := Option.some.inj (ho.symm.trans pop20)
  subst e
  have c36 : a.eval (.tmp 36) = .pointer (some ⟨pb, 0, none⟩) := h.det 19 (by decide) (by decide) (hd ⟨19, .data⟩ (by simp) rfl)
  exact step_value hF pop20 rfl (fun c e => by cases e) (prun20 a.eval w c36) (h.read 20 (by decide) (by decide))
theorem pop21 : parseOps[21]? = some { dst := none, op := Op.store 36 (Operand.tmp 37) (Operand.tmp 26), type := 0, pos := "text.go:226", after := #[{ on := 20, ground := Ground.data }, { on := 9, ground := Ground.data }, { on := 17, ground := Ground.chain }, { on := 0, ground := Ground.phase }, { on := 1, ground := Ground.textOnly Departure.lateStores }, { on := 2, ground := Ground.phase }, { on := 3, ground := Ground.phase }, { on := 4, ground := Ground.phase }, { on := 5, ground := Ground.phase }, { on := 6, ground := Ground.phase }, { on := 7, ground := Ground.phase }, { on := 8, ground := Ground.phase }, { on := 9, ground := Ground.phase }, { on := 10, ground := Ground.textOnly Departure.lateStores }, { on := 11, ground := Ground.textOnly Departure.lateStoresUnsure }, { on := 12, ground := Ground.textOnly Departure.lateStoresUnsure }, { on := 13, ground := Ground.textOnly Departure.lateStoresUnsure }, { on := 14, ground := Ground.phase }, { on := 15, ground := Ground.textOnly Departure.lateStores }, { on := 16, ground := Ground.textOnly Departure.lateStoresUnsure }, { on := 17, ground := Ground.phase }], guard := none } := rfl
theorem prun21 (ρ : Operand → Value) (w : World) (v : Value) (hv : ∃ p k c, v = .slice p k c) (c1 : ρ (.tmp 37) = .pointer (some ⟨pb, 0, none⟩)) (c2 : ρ (.tmp 26) = v) (u : Value) (hc : w.cell? ⟨pb, 0, none⟩ = some u) (hf : w.frozen? ⟨pb, 0, none⟩ = false) : (execOp ρ { dst := none, op := Op.store 36 (Operand.tmp 37) (Operand.tmp 26), type := 0, pos := "text.go:226", after := #[{ on := 20, ground := Ground.data }, { on := 9, ground := Ground.data }, { on := 17, ground := Ground.chain }, { on := 0, ground := Ground.phase }, { on := 1, ground := Ground.textOnly Departure.lateStores }, { on := 2, ground := Ground.phase }, { on := 3, ground := Ground.phase }, { on := 4, ground := Ground.phase }, { on := 5, ground := Ground.phase }, { on := 6, ground := Ground.phase }, { on := 7, ground := Ground.phase }, { on := 8, ground := Ground.phase }, { on := 9, ground := Ground.phase }, { on := 10, ground := Ground.textOnly Departure.lateStores }, { on := 11, ground := Ground.textOnly Departure.lateStoresUnsure }, { on := 12, ground := Ground.textOnly Departure.lateStoresUnsure }, { on := 13, ground := Ground.textOnly Departure.lateStoresUnsure }, { on := 14, ground := Ground.phase }, { on := 15, ground := Ground.textOnly Departure.lateStores }, { on := 16, ground := Ground.textOnly Departure.lateStoresUnsure }, { on := 17, ground := Ground.phase }], guard := none }).run Tryz.prog w = .ok .skip (w.setCell ⟨pb, 0, none⟩ v) := by
  obtain ⟨p, k, c, rfl⟩ := hv
  simp [execOp, c1, c2, hc, hf, go_sem]
theorem pstep21 (hF : ∀ f, F.fn f) (hpb : pb < B) (hpx : pbox < B) (hne : pbox ≠ pb) (hB : B ≤ W0.heap.size) (o : Oper) (l : Array Bool) (a : Act) (w : World) (ho : parseOps[21]? = some o) (h : PInv W0 B pbox pb sz pv xv n ps xs at_ x l a w) (hl : l.getD 21 false = false)
    (hd : ∀ e ∈ o.after, Region.binds .any e = true → l.getD e.on false = true) :
    wpOpIn F m Tryz.prog parseOps Q 21 (fun a' w' => PInv W0 B pbox pb sz pv xv n ps xs at_ x (l.setIfInBounds 21 true) a' w') a w := by
  have e := Option.some.inj (ho.symm.trans pop21)
  subst e
  have c1 : a.eval (.tmp 37) = .pointer (some ⟨pb, 0, none⟩) := h.det 20 (by decide) (by decide) (hd ⟨20, .data⟩ (by simp) rfl)
  have e9 := hd ⟨9, .data⟩ (by simp) rfl
  have hv : ∃ p k c, a.tmps.getD 26 undef = .slice p k c := by
    have := h.w9
    rw [e9] at this
    rcases this.2 with ⟨hv, _⟩ | ⟨g, cap, cur, hv, _⟩
    · exact ⟨_, _, _, hv⟩
    · exact ⟨_, _, _, hv⟩
  exact step_skip hF pop21 rfl (fun c e => by cases e) (prun21 a.eval w _ hv c1 rfl _ (cell_of_blk h.pbk 0 _ rfl) (free_of_blk h.pbk 0)) (h.store21 hpb hpx hne hB hl (hd ⟨9, .data⟩ (by simp) rfl) (hd ⟨17, .chain⟩ (by simp) rfl))
theorem pop22 : parseOps[22]? = some { dst := some 38, op := Op.nilCheck (Operand.tmp 18), type := 0, pos := "text.go:226", after := #[{ on := 1, ground := Ground.data }, { on := 0, ground := Ground.phase }, { on := 1, ground := Ground.phase }, { on := 2, ground := Ground.phase }, { on := 3, ground := Ground.phase }, { on := 4, ground := Ground.phase }, { on := 5, ground := Ground.phase }, { on := 6, ground := Ground.phase }, { on := 7, ground := Ground.phase }, { on := 8, ground := Ground.phase }, { on := 9, ground := Ground.phase }, { on := 10, ground := Ground.phase }, { on := 11, ground := Ground.phase }, { on := 12, ground := Ground.phase }, { on := 13, ground := Ground.phase }, { on := 14, ground := Ground.phase }, { on := 15, ground := Ground.phase }, { on := 16, ground := Ground.phase }, { on := 17, ground := Ground.phase }, { on := 18, ground := Ground.phase }, { on := 19, ground := Ground.phase }, { on := 20, ground := Ground.phase }, { on := 21, ground := Ground.phase }], guard := none } := rfl
theorem prun22 (ρ : Operand → Value) (w : World) (c18 : ρ (.tmp 18) = .pointer (some ⟨pb, 0, none⟩)) : (execOp ρ { dst := some 38, op := Op.nilCheck (Operand.tmp 18), type := 0, pos := "text.go:226", after := #[{ on := 1, ground := Ground.data }, { on := 0, ground := Ground.phase }, { on := 1, ground := Ground.phase }, { on := 2, ground := Ground.phase }, { on := 3, ground := Ground.phase }, { on := 4, ground := Ground.phase }, { on := 5, ground := Ground.phase }, { on := 6, ground := Ground.phase }, { on := 7, ground := Ground.phase }, { on := 8, ground := Ground.phase }, { on := 9, ground := Ground.phase }, { on := 10, ground := Ground.phase }, { on := 11, ground := Ground.phase }, { on := 12, ground := Ground.phase }, { on := 13, ground := Ground.phase }, { on := 14, ground := Ground.phase }, { on := 15, ground := Ground.phase }, { on := 16, ground := Ground.phase }, { on := 17, ground := Ground.phase }, { on := 18, ground := Ground.phase }, { on := 19, ground := Ground.phase }, { on := 20, ground := Ground.phase }, { on := 21, ground := Ground.phase }], guard := none }).run Tryz.prog w = .ok (.value (.pointer (some ⟨pb, 0, none⟩))) w := by
  simp [execOp, c18, go_sem]
theorem pstep22 (hF : ∀ f, F.fn f) (o : Oper) (l : Array Bool) (a : Act) (w : World) (ho : parseOps[22]? = some o) (h : PInv W0 B pbox pb sz pv xv n ps xs at_ x l a w) (_hl : l.getD 22 false = false)
    (hd : ∀ e ∈ o.after, Region.binds .any e = true → l.getD e.on false = true) :
    wpOpIn F m Tryz.prog parseOps Q 22 (fun a' w' => PInv W0 B pbox pb sz pv xv n ps xs at_ x (l.setIfInBounds 22 true) a' w') a w := by
  have e := Option.some.inj (ho.symm.trans pop22)
  subst e
  have c18 : a.eval (.tmp 18) = .pointer (some ⟨pb, 0, none⟩) := h.det 1 (by decide) (by decide) (hd ⟨1, .data⟩ (by simp) rfl)
  exact step_value hF pop22 rfl (fun c e => by cases e) (prun22 a.eval w c18) (h.read 22 (by decide) (by decide))
theorem pop23 : parseOps[23]? = some { dst := some 39, op := Op.fieldAddr 86 (Operand.tmp 38) 0, type := 0, pos := "text.go:226", after := #[{ on := 22, ground := Ground.data }, { on := 0, ground := Ground.phase }, { on := 1, ground := Ground.phase }, { on := 2, ground := Ground.phase }, { on := 3, ground := Ground.phase }, { on := 4, ground := Ground.phase }, { on := 5, ground := Ground.phase }, { on := 6, ground := Ground.phase }, { on := 7, ground := Ground.phase }, { on := 8, ground := Ground.phase }, { on := 9, ground := Ground.phase }, { on := 10, ground := Ground.phase }, { on := 11, ground := Ground.phase }, { on := 12, ground := Ground.phase }, { on := 13, ground := Ground.phase }, { on := 14, ground := Ground.phase }, { on := 15, ground := Ground.phase }, { on := 16, ground := Ground.phase }, { on := 17, ground := Ground.phase }, { on := 18, ground := Ground.phase }, { on := 19, ground := Ground.phase }, { on := 20, ground := Ground.phase }, { on := 21, ground := Ground.phase }], guard := none } := rfl
theorem prun23 (ρ : Operand → Value) (w : World) (c38 : ρ (.tmp 38) = .pointer (some ⟨pb, 0, none⟩)) : (execOp ρ { dst := some 39, op := Op.fieldAddr 86 (Operand.tmp 38) 0, type := 0, pos := "text.go:226", after := #[{ on := 22, ground := Ground.data }, { on := 0, ground := Ground.phase }, { on := 1, ground := Ground.phase }, { on := 2, ground := Ground.phase }, { on := 3, ground := Ground.phase }, { on := 4, ground := Ground.phase }, { on := 5, ground := Ground.phase }, { on := 6, ground := Ground.phase }, { on := 7, ground := Ground.phase }, { on := 8, ground := Ground.phase }, { on := 9, ground := Ground.phase }, { on := 10, ground := Ground.phase }, { on := 11, ground := Ground.phase }, { on := 12, ground := Ground.phase }, { on := 13, ground := Ground.phase }, { on := 14, ground := Ground.phase }, { on := 15, ground := Ground.phase }, { on := 16, ground := Ground.phase }, { on := 17, ground := Ground.phase }, { on := 18, ground := Ground.phase }, { on := 19, ground := Ground.phase }, { on := 20, ground := Ground.phase }, { on := 21, ground := Ground.phase }], guard := none }).run Tryz.prog w = .ok (.value (.pointer (some ⟨pb, 0, none⟩))) w := by
  simp [execOp, c38, go_sem]
theorem pstep23 (hF : ∀ f, F.fn f) (o : Oper) (l : Array Bool) (a : Act) (w : World) (ho : parseOps[23]? = some o) (h : PInv W0 B pbox pb sz pv xv n ps xs at_ x l a w) (_hl : l.getD 23 false = false)
    (hd : ∀ e ∈ o.after, Region.binds .any e = true → l.getD e.on false = true) :
    wpOpIn F m Tryz.prog parseOps Q 23 (fun a' w' => PInv W0 B pbox pb sz pv xv n ps xs at_ x (l.setIfInBounds 23 true) a' w') a w := by
  have e := Option.some.inj (ho.symm.trans pop23)
  subst e
  have c38 : a.eval (.tmp 38) = .pointer (some ⟨pb, 0, none⟩) := h.det 22 (by decide) (by decide) (hd ⟨22, .data⟩ (by simp) rfl)
  exact step_value hF pop23 rfl (fun c e => by cases e) (prun23 a.eval w c38) (h.read 23 (by decide) (by decide))
theorem pop24 : parseOps[24]? = some { dst := some 40, op := Op.fieldAddr 84 (Operand.tmp 39) 1, type := 0, pos := "text.go:226", after := #[{ on := 23, ground := Ground.data }, { on := 0, ground := Ground.phase }, { on := 1, ground := Ground.phase }, { on := 2, ground := Ground.phase }, { on := 3, ground := Ground.phase }, { on := 4, ground := Ground.phase }, { on := 5, ground := Ground.phase }, { on := 6, ground := Ground.phase }, { on := 7, ground := Ground.phase }, { on := 8, ground := Ground.phase }, { on := 9, ground := Ground.phase }, { on := 10, ground := Ground.phase }, { on := 11, ground := Ground.phase }, { on := 12, ground := Ground.phase }, { on := 13, ground := Ground.phase }, { on := 14, ground := Ground.phase }, { on := 15, ground := Ground.phase }, { on := 16, ground := Ground.phase }, { on := 17, ground := Ground.phase }, { on := 18, ground := Ground.phase }, { on := 19, ground := Ground.phase }, { on := 20, ground := Ground.phase }, { on := 21, ground := Ground.phase }], guard := none } := rfl
theorem prun24 (ρ : Operand → Value) (w : World) (c39 : ρ (.tmp 39) = .pointer (some ⟨pb, 0, none⟩)) : (execOp ρ { dst := some 40, op := Op.fieldAddr 84 (Operand.tmp 39) 1, type := 0, pos := "text.go:226", after := #[{ on := 23, ground := Ground.data }, { on := 0, ground := Ground.phase }, { on := 1, ground := Ground.phase }, { on := 2, ground := Ground.phase }, { on := 3, ground := Ground.phase }, { on := 4, ground := Ground.phase }, { on := 5, ground := Ground.phase }, { on := 6, ground := Ground.phase }, { on := 7, ground := Ground.phase }, { on := 8, ground := Ground.phase }, { on := 9, ground := Ground.phase }, { on := 10, ground := Ground.phase }, { on := 11, ground := Ground.phase }, { on := 12, ground := Ground.phase }, { on := 13, ground := Ground.phase }, { on := 14, ground := Ground.phase }, { on := 15, ground := Ground.phase }, { on := 16, ground := Ground.phase }, { on := 17, ground := Ground.phase }, { on := 18, ground := Ground.phase }, { on := 19, ground := Ground.phase }, { on := 20, ground := Ground.phase }, { on := 21, ground := Ground.phase }], guard := none }).run Tryz.prog w = .ok (.value (.pointer (some ⟨pb, 1, none⟩))) w := by
  simp [execOp, c39, go_sem]
theorem pstep24 (hF : ∀ f, F.fn f) (o : Oper) (l : Array Bool) (a : Act) (w : World) (ho : parseOps[24]? = some o) (h : PInv W0 B pbox pb sz pv xv n ps xs at_ x l a w) (_hl : l.getD 24 false = false)
    (hd : ∀ e ∈ o.after, Region.binds .any e = true → l.getD e.on false = true) :
    wpOpIn F m Tryz.prog parseOps Q 24 (fun a' w' => PInv W0 B pbox pb sz pv xv n ps xs at_ x (l.setIfInBounds 24 true) a' w') a w := by
  have e := Option.some.inj (ho.symm.trans pop24)
  subst e
  have c39 : a.eval (.tmp 39) = .pointer (some ⟨pb, 0, none⟩) := h.det 23 (by decide) (by decide) (hd ⟨23, .data⟩ (by simp) rfl)
  exact step_value hF pop24 rfl (fun c e => by cases e) (prun24 a.eval w c39) (h.read 24 (by decide) (by decide))
theorem pop25 : parseOps[25]? = some { dst := none, op := Op.store 82 (Operand.tmp 40) (Operand.tmp 34), type := 0, pos := "text.go:226", after := #[{ on := 24, ground := Ground.data }, { on := 17, ground := Ground.data }, { on := 21, ground := Ground.chain }, { on := 0, ground := Ground.phase }, { on := 1, ground := Ground.phase }, { on := 2, ground := Ground.phase }, { on := 3, ground := Ground.phase }, { on := 4, ground := Ground.phase }, { on := 5, ground := Ground.phase }, { on := 6, ground := Ground.phase }, { on := 7, ground := Ground.phase }, { on := 8, ground := Ground.phase }, { on := 9, ground := Ground.phase }, { on := 10, ground := Ground.phase }, { on := 11, ground := Ground.phase }, { on := 12, ground := Ground.phase }, { on := 13, ground := Ground.phase }, { on := 14, ground := Ground.phase }, { on := 15, ground := Ground.phase }, { on := 16, ground := Ground.phase }, { on := 17, ground := Ground.phase }, { on := 18, ground := Ground.phase }, { on := 19, ground := Ground.phase }, { on := 20, ground := Ground.phase }, { on := 21, ground := Ground.phase }], guard := none } := rfl
theorem prun25 (ρ : Operand → Value) (w : World) (v : Value) (hv : ∃ p k c, v = .slice p k c) (c1 : ρ (.tmp 40) = .pointer (some ⟨pb, 1, none⟩)) (c2 : ρ (.tmp 34) = v) (u : Value) (hc : w.cell? ⟨pb, 1, none⟩ = some u) (hf : w.frozen? ⟨pb, 1, none⟩ = false) : (execOp ρ { dst := none, op := Op.store 82 (Operand.tmp 40) (Operand.tmp 34), type := 0, pos := "text.go:226", after := #[{ on := 24, ground := Ground.data }, { on := 17, ground := Ground.data }, { on := 21, ground := Ground.chain }, { on := 0, ground := Ground.phase }, { on := 1, ground := Ground.phase }, { on := 2, ground := Ground.phase }, { on := 3, ground := Ground.phase }, { on := 4, ground := Ground.phase }, { on := 5, ground := Ground.phase }, { on := 6, ground := Ground.phase }, { on := 7, ground := Ground.phase }, { on := 8, ground := Ground.phase }, { on := 9, ground := Ground.phase }, { on := 10, ground := Ground.phase }, { on := 11, ground := Ground.phase }, { on := 12, ground := Ground.phase }, { on := 13, ground := Ground.phase }, { on := 14, ground := Ground.phase }, { on := 15, ground := Ground.phase }, { on := 16, ground := Ground.phase }, { on := 17, ground := Ground.phase }, { on := 18, ground := Ground.phase }, { on := 19, ground := Ground.phase }, { on := 20, ground := Ground.phase }, { on := 21, ground := Ground.phase }], guard := none }).run Tryz.prog w = .ok .skip (w.setCell ⟨pb, 1, none⟩ v) := by
  obtain ⟨p, k, c, rfl⟩ := hv
  simp [execOp, c1, c2, hc, hf, go_sem]
theorem pstep25 (hF : ∀ f, F.fn f) (hpb : pb < B) (hpx : pbox < B) (hne : pbox ≠ pb) (hB : B ≤ W0.heap.size) (o : Oper) (l : Array Bool) (a : Act) (w : World) (ho : parseOps[25]? = some o) (h : PInv W0 B pbox pb sz pv xv n ps xs at_ x l a w) (hl : l.getD 25 false = false)
    (hd : ∀ e ∈ o.after, Region.binds .any e = true → l.getD e.on false = true) :
    wpOpIn F m Tryz.prog parseOps Q 25 (fun a' w' => PInv W0 B pbox pb sz pv xv n ps xs at_ x (l.setIfInBounds 25 true) a' w') a w := by
  have e := Option.some.inj (ho.symm.trans pop25)
  subst e
  have c1 : a.eval (.tmp 40) = .pointer (some ⟨pb, 1, none⟩) := h.det 24 (by decide) (by decide) (hd ⟨24, .data⟩ (by simp) rfl)
  have e9 := hd ⟨17, .data⟩ (by simp) rfl
  have hv : ∃ p k c, a.tmps.getD 34 undef = .slice p k c := by
    have := h.w17
    rw [e9] at this
    rcases this.2 with ⟨hv, _⟩ | ⟨g, cap, cur, hv, _⟩
    · exact ⟨_, _, _, hv⟩
    · exact ⟨_, _, _, hv⟩
  exact step_skip hF pop25 rfl (fun c e => by cases e) (prun25 a.eval w _ hv c1 rfl _ (cell_of_blk h.pbk 1 _ rfl) (free_of_blk h.pbk 1)) (h.store25 hpb hpx hne hB hl (hd ⟨21, .chain⟩ (by simp) rfl))
end
end Go.Proofs.YtokfgdpmbmnijaaGreatDoor
/- Parse's range over tokens: a round, whole. -/
namespace Go.Proofs.YtokfgdpmbmnijaaGreatDoor
open Go.RowKit

section
variable {W0 : World} {B pbox pb : Nat} {sz : Int} {pv xv : Value} {n m : Nat} {ps xs : List Value} {at_ : Nat} {x : ByteArray} {F : Fence} {Q : Exit → Act → World → Prop}
theorem parse_step (hF : ∀ f, F.fn f) (hpb : pb < B) (hpx : pbox < B) (hne : pbox ≠ pb) (hB : B ≤ W0.heap.size) (hn : n ≤ 1000000) (hpv : ∃ p k c, pv = .slice p k c) (hxv : ∃ p k c, xv = .slice p k c)
    (hlp : ∀ k, pv.ownBlock = some k → k < W0.heap.size) (hlx : ∀ k, xv.ownBlock = some k → k < W0.heap.size)
    (i : Nat) (o : Oper) (l : Array Bool) (a : Act) (w : World) (ho : parseOps[i]? = some o) (h : PInv W0 B pbox pb sz pv xv n ps xs at_ x l a w) (hl' : l.getD i true = false)
    (hd : ∀ e ∈ o.after, Region.binds .any e = true → l.getD e.on false = true) :
    wpOpIn F m Tryz.prog parseOps Q i (fun a' w' => PInv W0 B pbox pb sz pv xv n ps xs at_ x (l.setIfInBounds i true) a' w') a w := by
  have hi : i < 26 := by
    rcases Nat.lt_or_ge i 26 with h' | h'
    · exact h'
    · rw [Array.getElem?_eq_none (by rw [parseOps_size]; exact h')] at ho; cases ho
  have hl := getD_false hl'
  match i, hi with
  | 0, _ => exact pstep0 hF o l a w ho h hl hd
  | 1, _ => exact pstep1 hF o l a w ho h hl hd
  | 2, _ => exact pstep2 hF o l a w ho h hl hd
  | 3, _ => exact pstep3 hF o l a w ho h hl hd
  | 4, _ => exact pstep4 hF o l a w ho h hl hd
  | 5, _ => exact pstep5 hF o l a w ho h hl hd
  | 6, _ => exact pstep6 hF hpv o l a w ho h hl hd
  | 7, _ => exact pstep7 hF o l a w ho h hl hd
  | 8, _ => exact pstep8 hF hpb hpx o l a w ho h hl hd
  | 9, _ => exact pstep9 hF hpb hpx hB hn hlp o l a w ho h hl hd
  | 10, _ => exact pstep10 hF o l a w ho h hl hd
  | 11, _ => exact pstep11 hF o l a w ho h hl hd
  | 12, _ => exact pstep12 hF o l a w ho h hl hd
  | 13, _ => exact pstep13 hF o l a w ho h hl hd
  | 14, _ => exact pstep14 hF hxv o l a w ho h hl hd
  | 15, _ => exact pstep15 hF o l a w ho h hl hd
  | 16, _ => exact pstep16 hF hpb hpx o l a w ho h hl hd
  | 17, _ => exact pstep17 hF hpb hpx hB hn hlx o l a w ho h hl hd
  | 18, _ => exact pstep18 hF o l a w ho h hl hd
  | 19, _ => exact pstep19 hF o l a w ho h hl hd
  | 20, _ => exact pstep20 hF o l a w ho h hl hd
  | 21, _ => exact pstep21 hF hpb hpx hne hB o l a w ho h hl hd
  | 22, _ => exact pstep22 hF o l a w ho h hl hd
  | 23, _ => exact pstep23 hF o l a w ho h hl hd
  | 24, _ => exact pstep24 hF o l a w ho h hl hd
  | 25, _ => exact pstep25 hF hpb hpx hne hB o l a w ho h hl hd
end

/-- Between two rounds: the parser holds what has come. -/
structure PAt (B pbox pb : Nat) (sz : Int) (s : ByteArray) (w0 : World) (pre : List Tk) (W : World) : Prop where
  rows : ∃ pv xv, W.ownsRow B 3 1 pv pre.length (pre.map fun t => Value.int .i64 (t.1 : Nat)) ∧ W.ownsRow B 9 1 xv pre.length (pre.map fun t => Value.string (s.extract t.1 t.2)) ∧
    W.heap[pb]? = some (.cells #[pv, xv, .int .i64 sz, .int .i64 0, .int .i64 0, .slice none 0 0] 86 (0, 0))
  box : W.cell? ⟨pbox, 0, none⟩ = some (.pointer (some ⟨pb, 0, none⟩))
  below : Below w0.heap.size w0 W
  size : B ≤ W.heap.size
theorem parse_region {r m id : Nat} {B pbox pb : Nat} {sz : Int} {s : ByteArray} {w0 : World} {pre : List Tk} {W : World} {S : Nat → Prop} (hpb : pb < B) (hpx : pbox < B) (hne : pbox ≠ pb) (hw0 : w0.heap.size ≤ pb) (_hw1 : w0.heap.size ≤ pbox)
    (hS : ∀ k, S k → k < B ∧ k ≠ pb) (h : PAt B pbox pb sz s w0 pre W) (hn : pre.length ≤ 1000000) (x : Tk) (a : Act) (has : a.tmps.size = 86) (h5 : a.tmps.getD 5 undef = .pointer (some ⟨pbox, 0, none⟩)) (h6 : a.tmps.getD 6 undef = .int .i64 (x.1 : Nat)) (h7 : a.tmps.getD 7 undef = .string (s.extract x.1 x.2))
    {Q : Exit → Act → World → Prop} (hQ : ∀ a' w', KeepsOthers W w' → Kept S W w' → PAt B pbox pb sz s w0 (pre ++ [x]) w' → Q .normal a' w') :
    (Code.region id parseOps true).wpIn (Fence.wide.inRound r) m Tryz.prog Q a W := by
  obtain ⟨pv, xv, hp, hx, hk⟩ := h.rows
  have hpv : ∃ p k c, pv = .slice p k c := let ⟨p, c, e⟩ := own_form hp; ⟨p, _, c, e⟩
  have hxv : ∃ p k c, xv = .slice p k c := let ⟨p, c, e⟩ := own_form hx; ⟨p, _, c, e⟩
  have hlp := fun k e => (hp.lt k e).2
  have hlx := fun k e => (hx.lt k e).2
  refine wpIn_region_inv (by kernel_rfl) (PInv W B pbox pb sz pv xv pre.length (pre.map fun t => Value.int .i64 (t.1 : Nat)) (pre.map fun t => Value.string (s.extract t.1 t.2)) x.1 (s.extract x.1 x.2)) parseOps_back
    (fun i o l a w ho h1 h2 h3 => parse_step (fun _ => trivial) hpb hpx hne h.size hn hpv hxv hlp hlx i o l a w ho h1 h2 h3) ?_ ?_
  · intro l a' w' hI hall
    have e9 : l.getD 9 false = true := hall 9 (by decide)
    have e17 : l.getD 17 false = true := hall 17 (by decide)
    have e21 : l.getD 21 false = true := hall 21 (by decide)
    have e25 : l.getD 25 false = true := hall 25 (by decide)
    have r1 := hI.w9
    have r2 := hI.w17
    have r3 := hI.pbk
    rw [e9] at r1
    rw [e17] at r2
    rw [e21, e25] at r3
    refine hQ a' w' hI.oth ⟨hI.keep.os, hI.keep.tape, hI.keep.output, hI.keep.size, fun k hk => hI.keep.block k ?_⟩ ⟨⟨_, _, ?_, ?_, r3⟩, hI.box, h.below.trans (hI.keep.below ?_), Nat.le_trans h.size hI.keep.size⟩
    · have := hS k hk
      have := h.size
      exact ⟨by omega, (hS k hk).2, fun e => by have := (hp.lt k e.symm).1; omega, fun e => by have := (hx.lt k e.symm).1; omega⟩
    · rw [List.length_append, List.map_append]; exact r1
    · rw [List.length_append, List.map_append]; exact r2
    · intro k hkk
      have := h.size
      exact ⟨by omega, by omega, fun e => by have := (hp.lt k e.symm).1; omega, fun e => by have := (hx.lt k e.symm).1; omega⟩
  · have hrep : ∀ k, (Array.replicate parseOps.size false).getD k false = false := fun k => by
      rw [Array.getD_eq_getD_getElem?, Array.getElem?_replicate]; split <;> rfl
    refine ⟨by simp [parseOps_size], has, h5, h6, h7, ?_, ?_, ?_, ?_, ?_, ?_, ?_, ?_, ?_, ?_, h.box, ⟨rfl, rfl, rfl, Nat.le_refl _, fun _ _ => rfl⟩, ⟨Nat.le_refl _, fun _ _ e _ => e⟩⟩
    · intro j _ _ e; rw [hrep] at e; cases e
    · intro e; rw [hrep] at e; cases e
    · intro e; rw [hrep] at e; cases e
    · intro e; rw [hrep] at e; cases e
    · intro e; rw [hrep] at e; cases e
    · intro e; rw [hrep] at e; cases e
    · intro e; rw [hrep] at e; cases e
    · rw [hrep]; exact hp
    · rw [hrep]; exact hx
    · rw [hrep, hrep]; exact hk
theorem PAt.own {B' B pbox pb : Nat} {sz : Int} {s : ByteArray} {w0 : World} (hB : w0.heap.size ≤ B') : OwnFrom B' (PAt B pbox pb sz s w0) := by
  intro pre W W' row h hg hr
  have nc : ∀ k cs t fr, W.heap[k]? = some (.cells cs t fr) → some k ≠ row := by
    intro k cs t fr hk e
    obtain ⟨_, o, ho, hc⟩ := hr k e.symm
    rw [hk] at ho; cases ho; cases hc
  obtain ⟨pv, xv, hp, hx, hk⟩ := h.rows
  have hlt : pb < W.heap.size := (Array.getElem?_eq_some_iff.1 hk).1
  have keep : ∀ {e : TypeId} {v : Value} {k : Nat} {zs : List Value}, W.ownsRow B e 1 v k zs → W'.ownsRow B e 1 v k zs := fun {e v k zs} ho => ho.kept hg (by
    cases hv : v.ownBlock with
    | none => exact .inl rfl
    | some j => obtain ⟨_, c, hc⟩ := own_type ho j hv; exact .inr (nc j _ _ _ hc))
  refine ⟨⟨pv, xv, keep hp, keep hx, (hg.block pb hlt (nc _ _ _ _ hk)).trans hk⟩, hg.cell h.box ?_, h.below.grown hg h.below.size (fun k e => ?_), Nat.le_trans h.size hg.size⟩
  · intro e
    obtain ⟨_, o, ho, hc⟩ := hr pbox e.symm
    have := h.box
    simp only [World.cell?, ho] at this
    cases o <;> first | (cases hc; done) | (simp at this; done)
  · have := (hr k e).1; omega

theorem text_tokens (s : ByteArray) (w : World) :
    Calls Tryz.prog 47 #[.string s] w fun e w' => e = .returned (.func (.func 84) #[] #[.pointer (some ⟨w.heap.size, 0, none⟩)]) ∧ w' = w.alloc (.cells #[.string s] 9) := by
  go_enter Tryz.func47, Tryz.ntmps47
  go_wp2_with fail
  go_ret
  exact ⟨rfl, rfl⟩
theorem text_tokens_stops (n B1 : Nat) (s : ByteArray) (hs : s.size ≤ 1000000) (S : Nat → Prop) (hS1 : S B1) (w : World) (hSW : ∀ k, S k → k < w.heap.size) (h1 : w.cell? ⟨B1, 0, none⟩ = some (.string s)) :
    SeqStopsK Fence.wide n Tryz.prog 84 #[.pointer (some ⟨B1, 0, none⟩)] (fun x : Tk => #[Value.int .i64 (x.1 : Nat), Value.string (s.extract x.1 x.2)]) (Kept S)
      (fun ys => ys = toks s) (fun pre => pre.length ≤ s.size) s.size w := fun l J Jx W hW _ _ hY h0 =>
  (text_tokens1 n l B1 s hs S hS1 J Jx W (fun k hk => Nat.lt_of_lt_of_le (hSW k hk) hW.size) (fun pre x W1 a b _ => hY pre x W1 a b) ((hW.cell (p := ⟨B1, 0, none⟩) (hSW _ hS1)).trans h1) h0).mono
    fun _ _ ⟨a, b⟩ => ⟨a, b.imp (fun c => ⟨_, rfl, c⟩) id⟩
end Go.Proofs.YtokfgdpmbmnijaaGreatDoor
