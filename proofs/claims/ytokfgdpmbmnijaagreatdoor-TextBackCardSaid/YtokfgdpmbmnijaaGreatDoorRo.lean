/- From what a row's listed variables read as to what the walks ask of the world; a slice of nodes opened. -/
import Derived.Test.YtokfgdpmbmnijaaGreatDoorRows
import Derived.Test.YtokfgdpmbmnijaaGreatDoorWb
import Derived.Test.YtokfgdpmbmnijaaGreatDoorWa
import Derived.Test.YtokfgdpmbmnijaaGreatDoorWc
import Derived.ProofKit
import Derived.Lay
import Derived.LaidLaws
import Derived.Lib.LaidU8
import Derived.Shelf.Vars
import Derived.HandedShaped
import Derived.Deep.Slices
import Derived.Carry
import Derived.LaidMore
import Derived.SevenTiedAt
namespace Go.Proofs.YtokfgdpmbmnijaaGreatDoor
open Go.RowKit Go.ChangeShapes Go.WideShapes Go.Lib

theorem reads_cells {W : World} {n : String} {d : DataW Unit} {g : Nat} {t : TypeId} (h : VarReads Tryz.prog W n d) (hg : Tryz.prog.globalNamed n = some g) (ht : (Tryz.prog.globals[g]?).map (·.type) = some t) :
    ∃ cs fuel p, W.var? Tryz.prog n = some cs ∧ DataW.trod (fun _ => ()) Tryz.prog W 0 (fun _ => true) false fuel t cs.toList = some (d, p) ∧ ∀ i, W.cell? ⟨g, i, none⟩ = cs[i]? := by
  obtain ⟨g', t', cs, fuel, p, h1, h2, h3, h4⟩ := h
  obtain rfl := Option.some.inj (hg.symm.trans h1)
  obtain rfl := Option.some.inj (ht.symm.trans h2)
  exact ⟨cs, fuel, p, h3, h4, fun i => World.var?_cell hg h3 i⟩
theorem drop_one {cs : List Value} {i : Nat} {v : Value} (h : (cs.drop i).take 1 = [v]) : cs[i]? = some v := by
  have := congrArg (·[0]?) h
  simpa [List.getElem?_take, List.getElem?_drop] using this
theorem drop_more {cs : List Value} {a b i : Nat} {v : Value} (h : ((cs.drop a).take b)[i]? = some v) : cs[a + i]? = some v := by
  rw [List.getElem?_take] at h
  split at h
  · rwa [List.getElem?_drop] at h
  · cases h
theorem lit_int {w : World} {fuel : Nat} {t : TypeId} {k : IntKind} {cs : List Value} {n : Int} {p : List MemPlace} (ht : Tryz.prog.underlying t = some (.int k)) (h : DataW.trod (fun _ => ()) Tryz.prog w 0 (fun _ => true) false fuel t cs = some (.lit (.int k n), p)) : cs = [.int k n] := by
  obtain ⟨m, h1, h2, _⟩ := DataW.trod_int ht h
  simp only [Prod.mk.injEq, DataW.lit.injEq, Lit.int.injEq, true_and] at h2
  rw [h1, h2.1]
theorem lit_string {w : World} {fuel : Nat} {t : TypeId} {cs : List Value} {l : List UInt8} {p : List MemPlace} (ht : Tryz.prog.underlying t = some .string) (h : DataW.trod (fun _ => ()) Tryz.prog w 0 (fun _ => true) false fuel t cs = some (.lit (.string l), p)) : cs = [.string ⟨l.toArray⟩] := by
  obtain ⟨s, h1, h2, _⟩ := DataW.trod_string ht h
  simp only [Prod.mk.injEq, DataW.lit.injEq, Lit.string.injEq] at h2
  rw [h1, h2.1]
theorem read_fields {w : World} {fuel : Nat} {t : TypeId} {fs : Array Field} {cs : List Value} {ds : List (DataW Unit)} {p : List MemPlace} (ht : Tryz.prog.underlying t = some (.struct fs)) (h : DataW.trod (fun _ => ()) Tryz.prog w 0 (fun _ => true) false fuel t cs = some (.agg ds, p)) (i : Nat) (f : Field) (d : DataW Unit) (hf : fs[i]? = some f) (hd : ds[i]? = some d) :
    ∃ fuel' q, DataW.trod (fun _ => ()) Tryz.prog w 0 (fun _ => true) false fuel' f.type ((cs.drop f.offset).take (Tryz.prog.cellsOf f.type)) = some (d, q) := by
  obtain ⟨xs, n, _, hx, _, _, hall⟩ := DataW.trod_struct ht h
  have hds : xs.map (·.1) = ds := by
    have := congrArg Prod.fst hx
    simpa using this.symm
  rw [← hds, List.getElem?_map, Option.map_eq_some_iff] at hd
  obtain ⟨x, hx1, hx2⟩ := hd
  refine ⟨n, x.2, ?_⟩
  rw [hall i f hf, hx1, ← hx2]
theorem elem_of {w : World} {fuel : Nat} {t e : TypeId} {n : Nat} {cs : List Value} {ds : List (DataW Unit)} {p : List MemPlace} (ht : Tryz.prog.underlying t = some (.array n e)) (h : DataW.trod (fun _ => ()) Tryz.prog w 0 (fun _ => true) false fuel t cs = some (.agg ds, p)) (i : Nat) (hi : i < n) (d : DataW Unit) (hd : ds[i]? = some d) :
    ∃ fuel' q, DataW.trod (fun _ => ()) Tryz.prog w 0 (fun _ => true) false fuel' e ((cs.drop (i * Tryz.prog.cellsOf e)).take (Tryz.prog.cellsOf e)) = some (d, q) := by
  obtain ⟨fuel', d', q, h1, h2⟩ := array_elem ht h i hi
  obtain rfl := Option.some.inj (hd.symm.trans h1)
  exact ⟨fuel', q, h2⟩

theorem cells_int : Tryz.prog.cellsOf 3 = 1 := by kernel_rfl
theorem cells_string : Tryz.prog.cellsOf 9 = 1 := by kernel_rfl
theorem cells_cur : Tryz.prog.cellsOf 211 = 2 := by kernel_rfl
theorem cells_shape : Tryz.prog.cellsOf 149 = 6 := by kernel_rfl
theorem cells_four : Tryz.prog.cellsOf 147 = 4 := by kernel_rfl
def wordD (k : Nat) : DataW Unit := .lit (.string (wordN k).data.toList)
def curD (k : Nat) : DataW Unit := .agg [.lit (.string (curName k).data.toList), .lit (.int .i64 (curDigits k))]
def shapeD (k : Nat) : DataW Unit := .agg [.lit (.int .i64 (makesN k)), .lit (.int .i64 (manyN k)), .agg ((List.range 4).map fun i => .lit (.int .i64 (belowN k i)))]
theorem words_data : (Rows.laid_chattel_text_words : DataW Unit) = .agg ((List.range 18).map wordD) := by kernel_rfl
theorem curs_data : (Rows.laid_chattel_cash_currencies : DataW Unit) = .agg ((List.range 8).map curD) := by kernel_rfl
theorem shapes_data : (Rows.laid_chattel_term_shapes : DataW Unit) = .agg ((List.range 18).map shapeD) := by kernel_rfl
theorem ahead_data : (Rows.laid_chattel_days_ahead : DataW Unit) = tabData .i64 ((List.range 13).map aheadN) := by kernel_rfl
theorem pow_data : (Rows.laid_internal_strconv_uint64pow10 : DataW Unit) = tabData .u64 pow10Tab := by kernel_rfl
theorem at_range {α : Type} {f : Nat → α} {n k : Nat} (h : k < n) : ((List.range n).map f)[k]? = some (f k) := by simp [h]
theorem words_of {W : World} (h : VarReads Tryz.prog W "chattel/text.words" Rows.laid_chattel_text_words) : ∀ k, k < 18 → W.cell? ⟨1, k, none⟩ = some (.string (wordN k)) := by
  rw [words_data] at h
  obtain ⟨cs, fuel, p, h1, h2, h3⟩ := reads_cells h (by kernel_rfl : Tryz.prog.globalNamed "chattel/text.words" = some 1) (by kernel_rfl : _ = some 176)
  intro k hk
  obtain ⟨f', q, h4⟩ := elem_of Tryz.underlying176 h2 k hk (wordD k) (at_range hk)
  rw [cells_string, Nat.mul_one] at h4
  have h5 := lit_string Tryz.underlying9 h4
  rw [h3 k]
  have := drop_one h5
  rw [Array.getElem?_toList] at this
  exact this
theorem cur_of {W : World} (h : VarReads Tryz.prog W "chattel/cash.currencies" Rows.laid_chattel_cash_currencies) (hz : 3 < W.heap.size) : CurTab W := by
  rw [curs_data] at h
  obtain ⟨cs, fuel, p, h1, h2, h3⟩ := reads_cells h (by kernel_rfl : Tryz.prog.globalNamed "chattel/cash.currencies" = some 3) (by kernel_rfl : _ = some 212)
  have key : ∀ k, k < 8 → cs[k * 2]? = some (.string (curName k)) ∧ cs[k * 2 + 1]? = some (.int .i64 (curDigits k)) := by
    intro k hk
    obtain ⟨f', q, h4⟩ := elem_of Tryz.underlying212 h2 k hk (curD k) (at_range hk)
    rw [cells_cur] at h4
    obtain ⟨f1, q1, h5⟩ := read_fields Tryz.underlying211 h4 0 _ _ rfl rfl
    obtain ⟨f2, q2, h6⟩ := read_fields Tryz.underlying211 h4 1 _ _ rfl rfl
    have e1 := lit_string Tryz.underlying9 h5
    have e2 := lit_int Tryz.underlying3 h6
    change (((cs.toList.drop (k * 2)).take 2).drop 0).take (Tryz.prog.cellsOf 9) = _ at e1
    change (((cs.toList.drop (k * 2)).take 2).drop 1).take (Tryz.prog.cellsOf 3) = _ at e2
    rw [cells_string] at e1
    rw [cells_int] at e2
    have g1 := drop_more (drop_one e1)
    have g2 := drop_more (drop_one e2)
    rw [Array.getElem?_toList] at g1 g2
    exact ⟨g1, g2⟩
  exact ⟨fun k hk => (h3 _).trans (key k hk).1, fun k hk => (h3 _).trans (key k hk).2, hz⟩
theorem shape_of {W : World} (h : VarReads Tryz.prog W "chattel/term.shapes" Rows.laid_chattel_term_shapes) (hz : 2 < W.heap.size) : ShapeTab W := by
  rw [shapes_data] at h
  obtain ⟨cs, fuel, p, h1, h2, h3⟩ := reads_cells h (by kernel_rfl : Tryz.prog.globalNamed "chattel/term.shapes" = some 2) (by kernel_rfl : _ = some 188)
  have key : ∀ k, k < 18 → cs[k * 6]? = some (.int .i64 (makesN k)) ∧ cs[k * 6 + 1]? = some (.int .i64 (manyN k)) ∧ ∀ i, i < 4 → cs[k * 6 + 2 + i]? = some (.int .i64 (belowN k i)) := by
    intro k hk
    obtain ⟨f', q, h4⟩ := elem_of Tryz.underlying188 h2 k hk (shapeD k) (at_range hk)
    rw [cells_shape] at h4
    obtain ⟨f1, q1, h5⟩ := read_fields Tryz.underlying149 h4 0 _ _ rfl rfl
    obtain ⟨f2, q2, h6⟩ := read_fields Tryz.underlying149 h4 1 _ _ rfl rfl
    obtain ⟨f3, q3, h7⟩ := read_fields Tryz.underlying149 h4 2 _ _ rfl rfl
    have e1 := lit_int Tryz.underlying3 h5
    have e2 := lit_int Tryz.underlying3 h6
    change (((cs.toList.drop (k * 6)).take 6).drop 0).take (Tryz.prog.cellsOf 3) = _ at e1
    change (((cs.toList.drop (k * 6)).take 6).drop 1).take (Tryz.prog.cellsOf 3) = _ at e2
    rw [cells_int] at e1 e2
    have g1 := drop_more (drop_one e1)
    have g2 := drop_more (drop_one e2)
    rw [Array.getElem?_toList] at g1 g2
    refine ⟨g1, g2, fun i hi => ?_⟩
    obtain ⟨f4, q4, h8⟩ := elem_of Tryz.underlying147 h7 i hi (.lit (.int .i64 (belowN k i))) (at_range hi)
    have e3 := lit_int Tryz.underlying3 h8
    change (((((cs.toList.drop (k * 6)).take 6).drop 2).take (Tryz.prog.cellsOf 147)).drop (i * Tryz.prog.cellsOf 3)).take (Tryz.prog.cellsOf 3) = _ at e3
    rw [cells_int, cells_four, Nat.mul_one] at e3
    have g3 := drop_more (drop_more (drop_one e3))
    rw [Array.getElem?_toList] at g3
    rw [Nat.add_assoc]
    exact g3
  exact ⟨fun k hk => (h3 _).trans (key k hk).1, fun k hk => (h3 _).trans (key k hk).2.1, fun k i hk hi => (h3 _).trans ((key k hk).2.2 i hi), hz⟩
theorem ahead_of {W : World} (h : VarReads Tryz.prog W "chattel/days.ahead" Rows.laid_chattel_days_ahead) (hz : 8 < W.heap.size) : AheadTab W := by
  rw [ahead_data] at h
  obtain ⟨cs, fuel, p, h1, h2, h3⟩ := reads_cells h (by kernel_rfl : Tryz.prog.globalNamed "chattel/days.ahead" = some 8) (by kernel_rfl : _ = some 274)
  have e := cells_of_tab Tryz.underlying274 Tryz.underlying3 cells_int (by kernel_rfl) h2
  refine ⟨fun k hk => ?_, hz⟩
  rw [h3 k, ← Array.getElem?_toList, e, List.getElem?_map, at_range (by omega)]
  rfl
theorem pow_of {W : World} (h : VarReads Tryz.prog W "internal/strconv.uint64pow10" Rows.laid_internal_strconv_uint64pow10) : Lib.TabIs Tryz.prog W "internal/strconv.uint64pow10" .u64 Lib.pow10Tab := by
  rw [pow_data] at h
  obtain ⟨cs, fuel, p, h1, h2, h3⟩ := reads_cells h (by kernel_rfl : Tryz.prog.globalNamed "internal/strconv.uint64pow10" = some 5) (by kernel_rfl : _ = some 264)
  unfold TabIs
  rw [h1, ← cells_of_tab Tryz.underlying264 Tryz.underlying191 (by kernel_rfl) (by kernel_rfl) h2]
theorem err_of {W : World} {n : String} {g : Nat} {nm : String} {d : DataW Unit} (h : VarReads Tryz.prog W n (.iface nm d)) (hg : Tryz.prog.globalNamed n = some g) (ht : (Tryz.prog.globals[g]?).map (·.type) = some 103) : ∃ te pe, W.cell? ⟨g, 0, none⟩ = some (.iface te pe) := by
  obtain ⟨cs, fuel, p, h1, h2, h3⟩ := reads_cells h hg ht
  obtain ⟨f', u, v, e, _, _⟩ := iface_of_trod Tryz.underlying103 h2
  refine ⟨u, v, ?_⟩
  rw [h3 0, ← Array.getElem?_toList, e]
  rfl
theorem size_of {W : World} (h : W.ShapedOpen Tryz.prog) : 16 < W.heap.size := by
  obtain ⟨o, _, ho, _⟩ := h.2 16 (of_decide_eq_true (by kernel_rfl : decide (Tryz.prog.globals.size ≤ 16) = true)) (of_decide_eq_true (by kernel_rfl : decide (16 < (begin Tryz.prog (fun _ _ => 0) default).world.heap.size) = true))
  exact (Array.getElem?_eq_some_iff.1 ho).1
/-- From a row's condition to what the walks ask. -/
theorem env_of {W : World} {l : List (String × DataW Unit)} (hs : W.ShapedOpen Tryz.prog) (h : laidMet Tryz.prog l W) (h1 : ("chattel/text.words", Rows.laid_chattel_text_words) ∈ l) (h2 : ("chattel/cash.currencies", Rows.laid_chattel_cash_currencies) ∈ l)
    (h3 : ("chattel/term.shapes", Rows.laid_chattel_term_shapes) ∈ l) (h4 : ("chattel/days.ahead", Rows.laid_chattel_days_ahead) ∈ l) (h5 : ("internal/strconv.uint64pow10", Rows.laid_internal_strconv_uint64pow10) ∈ l)
    (h6 : ("strconv.ErrSyntax", Rows.laid_strconv_ErrSyntax) ∈ l) (h7 : ("strconv.ErrRange", Rows.laid_strconv_ErrRange) ∈ l) : Env W := by
  have hz := size_of hs
  exact ⟨cur_of (laidMet.reads h h2) (by omega), shape_of (laidMet.reads h h3) (by omega), ahead_of (laidMet.reads h h4) (by omega), words_of (laidMet.reads h h1), pow_of (laidMet.reads h h5),
    err_of (laidMet.reads h h6) (by kernel_rfl) (by kernel_rfl), err_of (laidMet.reads h h7) (by kernel_rfl) (by kernel_rfl),
    cell_of_shapedOpen_int (g := 4) (t := 3) (zero := #[.int .i64 0]) (k := .i64) hs (of_decide_eq_true (by kernel_rfl)) (by kernel_rfl) rfl (by kernel_rfl) (by kernel_rfl) Tryz.underlying3, hz⟩
end Go.Proofs.YtokfgdpmbmnijaaGreatDoor
/- A slice of nodes among the arguments, opened; the wrap with the world's shape and a condition. -/
namespace Go.Proofs.YtokfgdpmbmnijaaGreatDoor
open Go.RowKit Go.ChangeShapes Go.WideShapes Go.Lib Go.Deep

section
variable {H : Type} {enc : TypeId × Value → H}
theorem read_fields' {w : World} {sp : Nat → Bool} {hd : Bool} {b : Nat} {fuel : Nat} {t : TypeId} {fs : Array Field} {cs : List Value} {x : DataW H × List MemPlace} (ht : Tryz.prog.underlying t = some (.struct fs)) (h : DataW.trod enc Tryz.prog w b sp hd fuel t cs = some x) (i : Nat) (f : Field) (hf : fs[i]? = some f) :
    ∃ n y, DataW.trod enc Tryz.prog w b sp hd n f.type ((cs.drop f.offset).take (Tryz.prog.cellsOf f.type)) = some y := by
  obtain ⟨xs, n, _, _, _, hl, hall⟩ := DataW.trod_struct ht h
  have hi : i < fs.size := (Array.getElem?_eq_some_iff.1 hf).1
  refine ⟨n, xs[i]'(by omega), ?_⟩
  rw [hall i f hf, List.getElem?_eq_getElem (by omega)]
theorem cells_node : Tryz.prog.cellsOf 48 = 5 := by kernel_rfl
theorem cells_ratio : Tryz.prog.cellsOf 46 = 2 := by kernel_rfl
theorem wf_i64 {n : Int} (h : (Lit.int .i64 n).wf = true) : i64ok n := by
  simp [Lit.wf, IntKind.min, IntKind.max, IntKind.signed, IntKind.bits] at h
  exact ⟨h.1, h.2⟩
set_option maxRecDepth 100000 in
/-- A node's cells. -/
theorem node_cells {w : World} {sp : Nat → Bool} {hd : Bool} {b fuel : Nat} {cs : List Value} {x : DataW H × List MemPlace} (h : DataW.trod enc Tryz.prog w b sp hd fuel 48 cs = some x) :
    ∃ n : Nd, n.ok ∧ cs[0]? = some (.int .i64 n.op) ∧ cs[1]? = some (.int .i64 n.a) ∧ cs[2]? = some (.int .i64 n.b) ∧ cs[3]? = some (.int .i64 n.num) ∧ cs[4]? = some (.int .i64 n.den) := by
  have int : ∀ (i : Nat) (f : Field) (o : Nat), Tryz.prog.underlying f.type = some (.int .i64) → f.type = 3 → f.offset = o → ∀ (fs : Array Field) (t : TypeId) (fuel : Nat) (cs : List Value) (x : DataW H × List MemPlace), Tryz.prog.underlying t = some (.struct fs) → DataW.trod enc Tryz.prog w b sp hd fuel t cs = some x → fs[i]? = some f →
      ∃ m, i64ok m ∧ cs[o]? = some (.int .i64 m) := by
    intro i f o hu ht ho fs t fuel cs x hs h hf
    obtain ⟨n, y, h1⟩ := read_fields' hs h i f hf
    obtain ⟨m, h2, _, h3⟩ := DataW.trod_int hu h1
    rw [ht, cells_int, ho] at h2
    exact ⟨m, wf_i64 h3, drop_one h2⟩
  obtain ⟨op, k0, e0⟩ := int 0 _ 0 Tryz.underlying3 rfl rfl _ _ _ _ _ Tryz.underlying48 h rfl
  obtain ⟨a, k1, e1⟩ := int 1 _ 1 Tryz.underlying3 rfl rfl _ _ _ _ _ Tryz.underlying48 h rfl
  obtain ⟨bb, k2, e2⟩ := int 2 _ 2 Tryz.underlying3 rfl rfl _ _ _ _ _ Tryz.underlying48 h rfl
  obtain ⟨n, y, h1⟩ := read_fields' Tryz.underlying48 h 3 _ rfl
  obtain ⟨num, k3, e3⟩ := int 0 _ 0 Tryz.underlying3 rfl rfl _ _ _ _ _ Tryz.underlying46 h1 rfl
  obtain ⟨den, k4, e4⟩ := int 1 _ 1 Tryz.underlying3 rfl rfl _ _ _ _ _ Tryz.underlying46 h1 rfl
  exact ⟨⟨op, a, bb, num, den⟩, ⟨k0, k1, k2, k3, k4⟩, e0, e1, e2, drop_more e3, drop_more e4⟩
theorem add_at (a : Addr) (j : Nat) (h : a.spot = none) : a.add j = ⟨a.block, a.off + j, none⟩ := by
  obtain ⟨b, o, s⟩ := a
  simp only at h
  subst h
  unfold Addr.add
  split <;> simp_all
theorem spot_none {w : World} {a : Addr} {v : Value} (h : w.cell? a = some v) : a.spot = none := by
  obtain ⟨b, o, s⟩ := a
  exact cell_spot h
set_option maxRecDepth 100000 in
/-- The argument: a slice; the nodes that it reads as, if they are not too many. -/
theorem open_nodes {W : World} {b0 : Nat} {v : Value} {d : DataW H} {ps : List MemPlace} (hv : Value.okWide Tryz.prog W .any b0 22 v) (h : DataW.Trod enc Tryz.prog W 0 (fun _ => true) true 22 v d ps) :
    ∃ p n c, v = .slice p n c ∧ n ≤ maxLen ∧ (n ≤ 100 → ∃ t : List Nd, t.length = n ∧ Nodes W p t) := by
  obtain ⟨a, l, c, rfl⟩ := okWide_slice Tryz.underlying22 hv
  obtain ⟨fuel, hf⟩ := h
  rcases open_slice Tryz.underlying22 hf with ⟨h1, _⟩ | ⟨ad, len, cap, m, n, D, Pl, h1, _, hlc, hcm, hm, _, hel⟩
  · simp [Value.cells] at h1
    obtain ⟨rfl, rfl, rfl⟩ := h1
    exact ⟨_, _, _, rfl, Nat.zero_le _, fun _ => ⟨[], rfl, (by rw [List.length_nil]; omega), (fun k hk => by cases hk), fun h => absurd rfl h⟩⟩
  · simp [Value.cells] at h1
    obtain ⟨rfl, rfl, rfl⟩ := h1
    refine ⟨_, _, _, rfl, Nat.le_trans hlc hcm, fun hle => ?_⟩
    have hm' : m = c := by simpa using hm
    subst hm'
    have each : ∀ i, i < l → ∃ x : Nd, x.ok ∧ W.cell? ((ad.add (i * 5)).add 0) = some (.int .i64 x.op) ∧ W.cell? ((ad.add (i * 5)).add 1) = some (.int .i64 x.a) ∧ W.cell? ((ad.add (i * 5)).add 2) = some (.int .i64 x.b) ∧ W.cell? ((ad.add (i * 5)).add 3) = some (.int .i64 x.num) ∧ W.cell? ((ad.add (i * 5)).add 4) = some (.int .i64 x.den) := by
      intro i hi
      obtain ⟨cs', k1, k2⟩ := hel i (by omega)
      rw [cells_node] at k1
      obtain ⟨_, _, hc⟩ := World.cells?_some k1
      obtain ⟨x, hx, e0, e1, e2, e3, e4⟩ := node_cells k2
      have h0 := hc 0 (by decide)
      exact ⟨x, hx, h0.trans e0, (hc 1 (by decide)).trans e1, (hc 2 (by decide)).trans e2, (hc 3 (by decide)).trans e3, (hc 4 (by decide)).trans e4⟩
    obtain ⟨f, spec⟩ : ∃ f : Nat → Nd, ∀ k, k < l → (f k).ok ∧ W.cell? ((ad.add (k * 5)).add 0) = some (.int .i64 (f k).op) ∧ W.cell? ((ad.add (k * 5)).add 1) = some (.int .i64 (f k).a) ∧ W.cell? ((ad.add (k * 5)).add 2) = some (.int .i64 (f k).b) ∧ W.cell? ((ad.add (k * 5)).add 3) = some (.int .i64 (f k).num) ∧ W.cell? ((ad.add (k * 5)).add 4) = some (.int .i64 (f k).den) :=
      ⟨fun i => if hi : i < l then Classical.choose (each i hi) else Nd.zero, fun k hk => by
        dsimp only
        rw [dif_pos hk]
        exact Classical.choose_spec (each k hk)⟩
    have hnd : ∀ k, k < l → nd ((List.range l).map f) k = f k := by
      intro k hk
      unfold nd
      rw [List.getElem?_map, List.getElem?_range hk]
      rfl
    refine ⟨(List.range l).map f, by simp, by rw [List.length_map, List.length_range]; omega, ?_, ?_⟩
    · intro k hk
      have hk' : k < l := by simpa using hk
      rw [hnd k hk']
      exact (spec k hk').1
    · intro hne
      have hl : 0 < l := by
        rcases Nat.eq_zero_or_pos l with h0 | h0
        · subst h0; exact absurd rfl hne
        · exact h0
      obtain ⟨x0, _, e0, _⟩ := each 0 hl
      have hs : ad.spot = none := by
        have := spot_none e0
        obtain ⟨b, o, s⟩ := ad
        cases s with
        | none => rfl
        | some s => simp [Addr.add] at this
      have hblk : ad.block < W.heap.size := by
        have h1 : (ad.add (0 * 5)).add 0 = ⟨ad.block, ad.off + 0 * 5 + 0, none⟩ := by rw [add_at ad _ hs]; exact add_at _ _ rfl
        rw [h1] at e0
        have := World.block_lt_of_cell? W _ e0
        exact this
      have key : ∀ i j, ad.add (i * 5) = ⟨ad.block, ad.off + i * 5, none⟩ ∧ (ad.add (i * 5)).add j = ⟨ad.block, ad.off + i * 5 + j, none⟩ := fun i j => by
        rw [add_at ad _ hs]
        exact ⟨rfl, add_at _ _ rfl⟩
      have hlen : ((List.range l).map f).length = l := by simp
      refine ⟨ad.block, ad.off, by obtain ⟨b, o, s⟩ := ad; simp only at hs; rw [hs], hblk, ?_, ?_, ?_, ?_, ?_⟩
      all_goals
        intro k hk
        have hk' : k < l := by rwa [hlen] at hk
        have hsp := spec k hk'
        rw [hnd k hk']
      · have := hsp.2.1; rwa [(key k 0).2] at this
      · have := hsp.2.2.1; rwa [(key k 1).2] at this
      · have := hsp.2.2.2.1; rwa [(key k 2).2] at this
      · have := hsp.2.2.2.2.1; rwa [(key k 3).2] at this
      · have := hsp.2.2.2.2.2; rwa [(key k 4).2] at this
end
/-- The wrap: a condition on the world, and its shape, are handed on. -/
theorem wrap_law {H : Type} {enc : TypeId × Value → H} {a : Assume} {C : Checked} {os : Os} {f : FuncId} {fn : Func} {s : ChangeSpec} {conds : List PathCond} {apart fresh handsOn again : Bool} {X : World → Array Value → Prop}
    (hX : ∀ (w w' : World) (args : Array Value), w.heap = w'.heap → X w args → X w' args)
    (own : ownKnob C.prog.godebug = none) (started : os.Started) (noInit : C.prog.inits.idxOf? f = none) (hfn : C.prog.funcs[f]? = some fn)
    (witness : ∃ (w : World) (tape : Tape) (i : Input), w.os = os ∧ (w.forCall tape i).Shaped C.prog ∧ i.vars = [] ∧ Input.okWide C.prog (w.forCall tape i) .any w.heap.size f i ∧
      ((s.pre enc C.prog fn conds apart (w.forCall tape i).memory i.args ∧ X (w.forCall tape i).memory i.args) ∧ sizedMet enc C.prog fn (OpenSpec.ofChange s) apart (w.forCall tape i).memory i.args) ∧ a.holds C.prog (lone (Frame.enter C.prog f i.args .normal) [] (w.forCall tape i)))
    (contract : ∀ (W : World) (base : Nat) (args : Array Value) (ds gs : List (DataW H)) (before : List MemPlace),
      (∀ (j : Nat) t v, fn.params[j]? = some t → args[j]? = some v → Value.okWide C.prog W .any base t v) →
      DataW.Whole enc C.prog fn.params.toList s.vars apart W args.toList ds gs before →
      W.ShapedOpen C.prog → X W args →
      Calls C.prog f args W fun e W' => ∃ v, e = .returned v ∧ s.post enc C.prog fn apart fresh handsOn again W args v W') :
    ReturnsInHanded a C os f .any (fun w args => (s.pre enc C.prog fn conds apart w args ∧ X w args) ∧ sizedMet enc C.prog fn (OpenSpec.ofChange s) apart w args) (s.post enc C.prog fn apart fresh handsOn again) := by
  refine returnsInHanded_of_calls own started noInit witness ?_
  intro w tape i _ hsh _ hok hpre hholds
  obtain ⟨_, _, _, fn', hfn', _, _, _, _, hval⟩ := hok
  have e : fn' = fn := Option.some.inj (hfn'.symm.trans hfn)
  subst e
  obtain ⟨⟨⟨ds, gs, before, hw, hc⟩, hx⟩, hz⟩ := hpre
  have hw' := DataW.Whole.of_heap (w' := w.forCall tape i) (by rfl) hw
  refine (contract (w.forCall tape i) w.heap.size i.args ds gs before hval hw' hsh (hX _ _ _ (by rfl) hx)).mono fun e W' ⟨v, he, hp⟩ => ?_
  subst he
  exact ChangeSpec.post_blind hp
theorem laidOut_ : laidOutB Tryz.prog = true := by kernel_rfl
theorem own_ : ownKnob Tryz.prog.godebug = none := by kernel_rfl
end Go.Proofs.YtokfgdpmbmnijaaGreatDoor
