/- text's reader and parser: the state, next, wrong. -/
import Derived.Test.YtokfgdpmbmnijaaGreatDoorWb
import Derived.BigRegion
import Derived.Test.YtokfgdpmbmnijaaGreatDoorWz
import Derived.Test.YtokfgdpmbmnijaaGreatDoorWa
import Derived.Deep.RegionHeld3
import Derived.Shelf.Strings.SlTrimAscii
namespace Go.Proofs.YtokfgdpmbmnijaaGreatDoor
open Go.RowKit

/-- What a reader has: tokens that are left, the last one's place, the error. -/
structure PS where
  tk : List (Nat × ByteArray)
  last : Int
  e : Int
def wrongP (is : Bool) (er : Int) (st : PS) : PS := if is = true ∧ st.e = 0 then { st with e := er } else st
def nextT (st : PS) : ByteArray := match st.tk with | [] => ⟨#[]⟩ | t :: _ => t.2
def nextP (sz : Int) (st : PS) : PS := match st.tk with | [] => wrongP true 13 { st with last := sz } | t :: r => { st with tk := r, last := t.1 }
/-- Only pb's block may have changed. -/
structure Only (pb : Nat) (w w' : World) : Prop where
  os : w'.os = w.os
  tape : w'.tape = w.tape
  output : w'.output = w.output
  size : w.heap.size ≤ w'.heap.size
  block : ∀ k, k < w.heap.size → k ≠ pb → w'.heap[k]? = w.heap[k]?
theorem Only.refl (pb : Nat) (w : World) : Only pb w w := ⟨rfl, rfl, rfl, Nat.le_refl _, fun _ _ _ => rfl⟩
theorem Only.trans {pb : Nat} {a b c : World} (h : Only pb a b) (k : Only pb b c) : Only pb a c :=
  ⟨k.os.trans h.os, k.tape.trans h.tape, k.output.trans h.output, Nat.le_trans h.size k.size, fun i hi hp => (k.block i (Nat.lt_of_lt_of_le hi h.size) hp).trans (h.block i hi hp)⟩
theorem Only.of_below {pb : Nat} {w w' : World} (h : Below w.heap.size w w') : Only pb w w' := ⟨h.os, h.tape, h.output, h.size, fun k hk _ => h.block k hk⟩
theorem Only.set {pb i : Nat} {a w : World} {v : Value} (h : Only pb a w) : Only pb a (w.setCell ⟨pb, i, none⟩ v) :=
  h.trans ⟨rfl, rfl, rfl, by simp [World.setCell], fun k _ hk => Below.heap_setCell _ _ _ _ hk⟩
theorem Only.drew {pb : Nat} {a w : World} (h : Only pb a w) : Only pb a w.drew := ⟨h.os, h.tape, h.output, h.size, h.block⟩
theorem Only.below {pb B : Nat} {a w : World} (h : Only pb a w) (hB : B ≤ pb) (hs : B ≤ a.heap.size) : Below B a w := ⟨h.os, h.tape, h.output, h.size, fun k hk => h.block k (by omega) (by omega)⟩

structure PSt (B pb : Nat) (sz : Int) (tv : Value) (st : PS) (w : World) : Prop where
  lt : pb < B
  ex : ∃ pa pc xa xc, w.heap[pb]? = some (.cells #[.slice pa st.tk.length pc, .slice xa st.tk.length xc, .int .i64 sz, .int .i64 st.last, .int .i64 st.e, tv] 86 (0, 0)) ∧ st.tk.length ≤ pc ∧ st.tk.length ≤ xc ∧
    (st.tk ≠ [] → ∃ ga oa gx ox, pa = some ⟨ga, oa, none⟩ ∧ xa = some ⟨gx, ox, none⟩ ∧ ga ≠ pb ∧ gx ≠ pb ∧ ga < B ∧ gx < B ∧ ∀ j t, st.tk[j]? = some t → w.cell? ⟨ga, oa + j, none⟩ = some (.int .i64 (t.1 : Nat)) ∧ w.cell? ⟨gx, ox + j, none⟩ = some (.string t.2))
theorem PSt.heap_lt {B pb : Nat} {sz : Int} {tv : Value} {st : PS} {w : World} (h : PSt B pb sz tv st w) : pb < w.heap.size := by
  obtain ⟨_, _, _, _, h1, _⟩ := h.ex
  exact (Array.getElem?_eq_some_iff.1 h1).1
/-- Where other blocks turn alone the state stands. -/
theorem PSt.kept {B pb : Nat} {sz : Int} {tv : Value} {st : PS} {w w' : World} (h : PSt B pb sz tv st w) (hb : ∀ k, k < w.heap.size → k < B → w'.heap[k]? = w.heap[k]?) : PSt B pb sz tv st w' := by
  have hl := h.heap_lt
  obtain ⟨pa, pc, xa, xc, h1, h2, h3, h4⟩ := h.ex
  refine ⟨h.lt, pa, pc, xa, xc, (hb pb hl h.lt).trans h1, h2, h3, fun hne => ?_⟩
  obtain ⟨ga, oa, gx, ox, e1, e2, e3, e4, e5, e6, e7⟩ := h4 hne
  refine ⟨ga, oa, gx, ox, e1, e2, e3, e4, e5, e6, fun j t hj => ?_⟩
  obtain ⟨c1, c2⟩ := e7 j t hj
  exact ⟨(World.cell?_of_block (w := w) (hb ga (World.block_lt_of_cell? w _ c1) e5)).trans c1, (World.cell?_of_block (w := w) (hb gx (World.block_lt_of_cell? w _ c2) e6)).trans c2⟩
theorem PSt.below_ {B pb : Nat} {sz : Int} {tv : Value} {st : PS} {w w' : World} (h : PSt B pb sz tv st w) (hb : Below w.heap.size w w') : PSt B pb sz tv st w' := h.kept fun k hk _ => hb.block k hk
theorem heap_set_ {W : World} {b i : Nat} {cs : Array Value} {t : TypeId} {fr : Nat × Nat} (v : Value) (h : W.heap[b]? = some (.cells cs t fr)) : (W.setCell ⟨b, i, none⟩ v).heap[b]? = some (.cells (cs.setIfInBounds i v) t fr) := by
  obtain ⟨hlt, hk⟩ := Array.getElem?_eq_some_iff.1 h
  show (W.heap.modify b _)[b]? = _
  rw [Array.getElem?_eq_getElem (by rw [Array.size_modify]; exact hlt), Array.getElem_modify_self, hk]
  rfl
/-- The parser's own block rewritten. -/
theorem PSt.set {B pb : Nat} {sz : Int} {tv : Value} {st st' : PS} {w w' : World} (h : PSt B pb sz tv st w) (ht : st'.tk = st.tk) (hk : ∀ k, k < w.heap.size → k ≠ pb → w'.heap[k]? = w.heap[k]?)
    (hs : ∀ pv xv, w.heap[pb]? = some (.cells #[pv, xv, .int .i64 sz, .int .i64 st.last, .int .i64 st.e, tv] 86 (0, 0)) → w'.heap[pb]? = some (.cells #[pv, xv, .int .i64 sz, .int .i64 st'.last, .int .i64 st'.e, tv] 86 (0, 0))) : PSt B pb sz tv st' w' := by
  obtain ⟨pa, pc, xa, xc, h1, h2, h3, h4⟩ := h.ex
  refine ⟨h.lt, pa, pc, xa, xc, by rw [ht]; exact hs _ _ h1, by rw [ht]; exact h2, by rw [ht]; exact h3, fun hne => ?_⟩
  rw [ht] at hne
  obtain ⟨ga, oa, gx, ox, e1, e2, e3, e4, e5, e6, e7⟩ := h4 hne
  refine ⟨ga, oa, gx, ox, e1, e2, e3, e4, e5, e6, fun j t hj => ?_⟩
  rw [ht] at hj
  obtain ⟨c1, c2⟩ := e7 j t hj
  exact ⟨(World.cell?_of_block (w := w) (hk ga (World.block_lt_of_cell? w _ c1) e3)).trans c1, (World.cell?_of_block (w := w) (hk gx (World.block_lt_of_cell? w _ c2) e4)).trans c2⟩

/-- 'wrong' notes an error, if there is none. -/
theorem text_wrong {B pb : Nat} {sz : Int} {tv : Value} {st : PS} {w : World} (is : Bool) (er : Int) (h : PSt B pb sz tv st w) :
    Calls Tryz.prog 50 #[.pointer (some ⟨pb, 0, none⟩), .bool is, .int .i64 er] w fun e w' => e = .returned (.tuple #[]) ∧ PSt B pb sz tv (wrongP is er st) w' ∧ Only pb w w' := by
  obtain ⟨pa, pc, xa, xc, h1, _⟩ := h.ex
  have c4 := cell_of_blk h1 4 _ rfl
  have f4 := free_of_blk h1 4
  have HS := Lib.hid h
  clear h h1
  cases is
  · go_enter Tryz.func50, Tryz.ntmps50
    go_wp2_with fail
    go_end0
    refine ⟨rfl, ?_, Only.refl _ _⟩
    have : wrongP false er st = st := by unfold wrongP; rw [if_neg (fun h => by cases h.1)]
    rw [this]; exact HS.out
  · cases hb : (st.e == 0)
    · go_enter Tryz.func50, Tryz.ntmps50
      go_wp2_with fail
      go_end0
      refine ⟨rfl, ?_, Only.refl _ _⟩
      have : wrongP true er st = st := by unfold wrongP; rw [if_neg (fun h => by rw [h.2] at hb; cases hb)]
      rw [this]; exact HS.out
    · go_enter Tryz.func50, Tryz.ntmps50
      go_wp2_with fail
      go_end0
      refine ⟨rfl, ?_, (Only.refl _ _).set⟩
      have e : wrongP true er st = { st with e := er } := by unfold wrongP; rw [if_pos ⟨rfl, eq_of_beq hb⟩]
      rw [e]
      exact HS.out.set rfl (fun k _ hk => Below.heap_setCell _ _ _ _ hk) (fun pv xv hh => heap_set_ _ hh)

set_option maxHeartbeats 2000000 in
set_option maxRecDepth 100000 in
/-- 'next' takes a token. -/
theorem text_next {B pb : Nat} {sz : Int} {tv : Value} {st : PS} {w : World} (h : PSt B pb sz tv st w) (hl : st.tk.length ≤ 1000000) :
    Calls Tryz.prog 49 #[.pointer (some ⟨pb, 0, none⟩)] w fun e w' => e = .returned (.string (nextT st)) ∧ PSt B pb sz tv (nextP sz st) w' ∧ Only pb w w' := by
  obtain ⟨tk, last, er⟩ := st
  obtain ⟨pa, pc, xa, xc, h1, h2, h3, h4⟩ := h.ex
  dsimp only at h1 h2 h3 h4 hl
  have c0 := cell_of_blk h1 0 _ rfl
  have c1 := cell_of_blk h1 1 _ rfl
  have c2 := cell_of_blk h1 2 _ rfl
  have c3 := cell_of_blk h1 3 _ rfl
  have f0 := free_of_blk h1 0
  have f1 := free_of_blk h1 1
  have f3 := free_of_blk h1 3
  have hlt := h.lt
  have HS := Lib.hid h
  have HB := Lib.hid h1
  clear h h1
  cases tk with
  | nil =>
    clear h4
    go_enter Tryz.func49, Tryz.ntmps49
    go_wp2_with fail
    have hs' : PSt B pb sz tv ⟨[], sz, er⟩ (w.setCell ⟨pb, 3, none⟩ (.int .i64 sz)) := HS.out.set rfl (fun k _ hk => Below.heap_setCell _ _ _ _ hk) (fun pv xv hh => heap_set_ _ hh)
    refine (text_wrong true 13 hs').mono ?_
    rintro e w1 ⟨rfl, hs1, ho1⟩
    go_wp2_with fail
    go_ret
    exact ⟨rfl, hs1, (Only.refl _ _).set.trans ho1⟩
  | cons t r =>
    obtain ⟨ga, oa, gx, ox, rfl, rfl, e3, e4, e5, e6, e7⟩ := h4 (by simp)
    have ca := (e7 0 t rfl).1
    have cx := (e7 0 t rfl).2
    simp only [Nat.add_zero] at ca cx
    simp only [List.length_cons] at *
    clear h4
    have H7 := Lib.hid e7
    clear e7
    go_enter Tryz.func49, Tryz.ntmps49
    go_wp2_with fail
    generalize hW : (w.setCell ⟨pb, 3, none⟩ (.int .i64 sz)).setCell ⟨pb, 3, none⟩ (.int .i64 (t.1 : Nat)) = W
    have hO : Only pb w W := by rw [← hW]; exact ((Only.refl _ _).set).set
    have hblk : W.heap[pb]? = some (.cells #[.slice (some ⟨ga, oa, none⟩) (r.length + 1) pc, .slice (some ⟨gx, ox, none⟩) (r.length + 1) xc, .int .i64 sz, .int .i64 (t.1 : Nat), .int .i64 er, tv] 86 (0, 0)) := by
      rw [← hW, heap_set_ _ (heap_set_ _ HB.out)]; rfl
    clear hW c0 c1 c2 c3 f0 f1 f3 ca cx
    have c0 := cell_of_blk hblk 0 _ rfl
    have c1 := cell_of_blk hblk 1 _ rfl
    have f0 := free_of_blk hblk 0
    have f1 := free_of_blk hblk 1
    have HK := Lib.hid hblk
    clear hblk
    go_region
    generalize hpx : (if xc = 1 then (some ⟨gx, ox, none⟩ : Option Addr) else some ⟨gx, ox + 1, none⟩) = px
    generalize hpp : (if pc = 1 then (some ⟨ga, oa, none⟩ : Option Addr) else some ⟨ga, oa + 1, none⟩) = pp
    have HPX := Lib.hid hpx
    have HPP := Lib.hid hpp
    clear hpx hpp
    go_wp2_with fail
    go_ret
    refine ⟨rfl, ⟨hlt, _, _, _, _, (heap_set_ _ (heap_set_ _ HK.out)), ?_, ?_, ?_⟩, (((hO.set).set).drew)⟩
    · show r.length ≤ pc - 1; omega
    · show r.length ≤ xc - 1; omega
    · intro hne
      have hr : r.length ≠ 0 := fun e => hne (List.eq_nil_of_length_eq_zero e)
      have e1 : px = some ⟨gx, ox + 1, none⟩ := by rw [← HPX.out, if_neg (by omega)]
      have e2 : pp = some ⟨ga, oa + 1, none⟩ := by rw [← HPP.out, if_neg (by omega)]
      refine ⟨ga, oa + 1, gx, ox + 1, e2, e1, e3, e4, e5, e6, fun j u hj => ?_⟩
      obtain ⟨k1, k2⟩ := H7.out (j + 1) u (by simpa [nextP] using hj)
      have hk : ∀ g, g ≠ pb → ∀ o v, w.cell? ⟨g, o, none⟩ = some v → (((W.setCell ⟨pb, 1, none⟩ (Value.slice px r.length (xc - 1))).setCell ⟨pb, 0, none⟩ (Value.slice pp r.length (pc - 1))).drew).cell? ⟨g, o, none⟩ = some v := fun g hg o v hv =>
        (World.cell?_of_block (w := w) (((hO.set).set).block g (World.block_lt_of_cell? w _ hv) hg)).trans hv
      exact ⟨hk ga e3 _ _ (by rw [show oa + 1 + j = oa + (j + 1) by omega]; exact k1), hk gx e4 _ _ (by rw [show ox + 1 + j = ox + (j + 1) by omega]; exact k2)⟩
end Go.Proofs.YtokfgdpmbmnijaaGreatDoor
/- text's parser: mark, key, day, when, any, one. -/
namespace Go.Proofs.YtokfgdpmbmnijaaGreatDoor
open Go.RowKit

def neB (a b : ByteArray) : Bool := !(a.toList == b.toList)
/-- 'mark' reads a mark. -/
def markP (sz : Int) (m : ByteArray) (st : PS) : PS := if st.e = 0 then wrongP (neB (nextT st) m) 13 (nextP sz st) else st

set_option maxHeartbeats 2000000 in
set_option maxRecDepth 100000 in
theorem text_mark {B pb : Nat} {sz : Int} {tv : Value} {st : PS} {w : World} (m : ByteArray) (h : PSt B pb sz tv st w) (hl : st.tk.length ≤ 1000000) :
    Calls Tryz.prog 90 #[.pointer (some ⟨pb, 0, none⟩), .string m] w fun e w' => e = .returned (.tuple #[]) ∧ PSt B pb sz tv (markP sz m st) w' ∧ Only pb w w' := by
  obtain ⟨pa, pc, xa, xc, h1, _⟩ := h.ex
  have c4 := cell_of_blk h1 4 _ rfl
  have HS := Lib.hid h
  clear h h1
  cases hb : (st.e == 0)
  · have HM : Hid (markP sz m st = st) := by show _ = _; unfold markP; rw [if_neg (by intro e; rw [e] at hb; cases hb)]
    go_enter Tryz.func90, Tryz.ntmps90
    go_wp2_with fail
    go_end0
    exact ⟨rfl, by rw [HM.out]; exact HS.out, Only.refl _ _⟩
  · have HM : Hid (markP sz m st = wrongP (neB (nextT st) m) 13 (nextP sz st)) := by show _ = _; unfold markP; rw [if_pos (eq_of_beq hb)]
    go_enter Tryz.func90, Tryz.ntmps90
    go_wp2_with fail
    go_region_with (first
      | (go_at_call 49; refine (text_next (B := B) (sz := sz) (tv := tv) (st := st) (by first | exact HS.out | exact HS.out.kept (fun _ _ _ => rfl)) hl).mono ?_; rintro e w1 ⟨rfl, hs1, ho1⟩)
      | (go_at_call 50; refine (text_wrong (B := B) (sz := sz) (tv := tv) (st := nextP sz st) _ 13 hs1).mono ?_; rintro e w2 ⟨rfl, hs2, ho2⟩))
    go_wp2_with fail
    go_end0
    exact ⟨rfl, by rw [HM.out]; exact hs2, Only.trans ⟨ho1.os, ho1.tape, ho1.output, ho1.size, ho1.block⟩ ho2⟩

theorem bel_only {w0 w w' : World} {pb : Nat} (hw : Below w0.heap.size w0 w) (h0 : w0.heap.size ≤ pb) (ho : Only pb w w') : Below w0.heap.size w0 w' := hw.trans (ho.below h0 hw.size)
def dayP (sz : Int) (st : PS) : PS := wrongP (dayPE (nextT st) != 0) 10 (wrongP (dayPE (nextT st) == 13) 13 (nextP sz st))

set_option maxHeartbeats 2000000 in
set_option maxRecDepth 100000 in
/-- The day that a token is, or what is wrong with it. -/
theorem text_pday {B pb : Nat} {sz : Int} {tv : Value} {st : PS} {w0 w : World} (h : PSt B pb sz tv st w) (hl : st.tk.length ≤ 1000000) (ha : AheadTab w0) (hw : Below w0.heap.size w0 w) (h0 : w0.heap.size ≤ pb) :
    Calls Tryz.prog 164 #[.pointer (some ⟨pb, 0, none⟩)] w fun e w' => e = .returned (.int .i64 (dayPR (nextT st))) ∧ PSt B pb sz tv (dayP sz st) w' ∧ Only pb w w' := by
  have HA := Lib.hid ha
  clear ha
  go_enter Tryz.func164, Tryz.ntmps164
  go_wp2_with fail
  refine (text_next h hl).mono ?_
  rintro e w1 ⟨rfl, hs1, ho1⟩
  go_wp2_with fail
  refine (days_Parse _ _ (HA.out.below_ (bel_only hw h0 ho1))).mono ?_
  rintro e w2 ⟨rfl, hb2⟩
  have hs2 := hs1.below_ hb2
  have ho2 := ho1.trans (Only.of_below hb2)
  clear hs1 hb2 ho1
  go_wp2_with fail
  refine (text_wrong _ 13 hs2).mono ?_
  rintro e w3 ⟨rfl, hs3, ho3⟩
  go_wp2_with fail
  refine (text_wrong _ 10 hs3).mono ?_
  rintro e w4 ⟨rfl, hs4, ho4⟩
  go_wp2_with fail
  go_ret
  exact ⟨rfl, hs4, (ho2.trans ho3).trans ho4⟩
end Go.Proofs.YtokfgdpmbmnijaaGreatDoor
/- text's parser: when, one, key, any. -/
namespace Go.Proofs.YtokfgdpmbmnijaaGreatDoor
open Go.RowKit

/-- A node in a block of its own. -/
def NdAt (w : World) (nb : Nat) (n : Nd) : Prop := w.heap[nb]? = some (.cells #[.int .i64 n.op, .int .i64 n.a, .int .i64 n.b, .int .i64 n.num, .int .i64 n.den] 48 (0, 0))
/-- Two blocks alone may have changed. -/
structure Two (p q : Nat) (w w' : World) : Prop where
  os : w'.os = w.os
  tape : w'.tape = w.tape
  output : w'.output = w.output
  size : w.heap.size ≤ w'.heap.size
  block : ∀ k, k < w.heap.size → k ≠ p → k ≠ q → w'.heap[k]? = w.heap[k]?
theorem Two.trans {p q : Nat} {a b c : World} (h : Two p q a b) (k : Two p q b c) : Two p q a c :=
  ⟨k.os.trans h.os, k.tape.trans h.tape, k.output.trans h.output, Nat.le_trans h.size k.size, fun i hi h1 h2 => (k.block i (Nat.lt_of_lt_of_le hi h.size) h1 h2).trans (h.block i hi h1 h2)⟩
theorem Two.of {p q : Nat} {a b : World} (h : Only p a b) : Two p q a b := ⟨h.os, h.tape, h.output, h.size, fun k hk h1 _ => h.block k hk h1⟩
theorem Two.set {p q i : Nat} {a w : World} {v : Value} (h : Two p q a w) : Two p q a (w.setCell ⟨q, i, none⟩ v) :=
  h.trans ⟨rfl, rfl, rfl, by simp [World.setCell], fun k _ _ hk => Below.heap_setCell _ _ _ _ hk⟩
theorem NdAt.lt {w : World} {nb : Nat} {n : Nd} (h : NdAt w nb n) : nb < w.heap.size := (Array.getElem?_eq_some_iff.1 h).1
theorem NdAt.only {w w' : World} {nb pb : Nat} {n : Nd} (h : NdAt w nb n) (hne : nb ≠ pb) (ho : Only pb w w') : NdAt w' nb n := (ho.block nb h.lt hne).trans h
theorem PSt.setNd {B pb : Nat} {sz : Int} {tv : Value} {st : PS} {w : World} {nb i : Nat} {v : Value} (h : PSt B pb sz tv st w) (hB : B ≤ nb) : PSt B pb sz tv st (w.setCell ⟨nb, i, none⟩ v) :=
  h.kept fun k _ hk => Below.heap_setCell _ _ _ _ (by dsimp only; omega)

/-- What a reader of what stands behind a word comes to. -/
def RdPost (B pb nb : Nat) (sz : Int) (tv : Value) (w : World) (G : Nd → PS → Prop) (e : Ending) (w' : World) : Prop :=
  e = .returned (.tuple #[]) ∧ ∃ n' st', G n' st' ∧ PSt B pb sz tv st' w' ∧ NdAt w' nb n' ∧ Two pb nb w w'

set_option maxHeartbeats 2000000 in
set_option maxRecDepth 100000 in
theorem text_when {B pb nb : Nat} {sz : Int} {tv : Value} {st : PS} {n : Nd} {w0 w : World} (h : PSt B pb sz tv st w) (hn : NdAt w nb n) (hB : B ≤ nb) (hl : st.tk.length ≤ 1000000) (ha : AheadTab w0) (hw : Below w0.heap.size w0 w) (h0 : w0.heap.size ≤ pb) :
    Calls Tryz.prog 135 #[.pointer (some ⟨pb, 0, none⟩), .pointer (some ⟨nb, 0, none⟩)] w
      (RdPost B pb nb sz tv w fun n' st' => n' = { n with a := dayPR (nextT st) } ∧ st' = dayP sz st) := by
  have hlt := h.lt
  go_enter Tryz.func135, Tryz.ntmps135
  go_wp2_with fail
  refine (text_pday h hl ha hw h0).mono ?_
  rintro e w1 ⟨rfl, hs1, ho1⟩
  have hn1 := hn.only (by omega) ho1
  have c1 := cell_of_blk hn1 1 _ rfl
  have f1 := free_of_blk hn1 1
  have HN := Lib.hid hn1
  clear hn hn1
  go_wp2_with fail
  go_end0
  exact ⟨rfl, _, _, ⟨rfl, rfl⟩, hs1.setNd hB, heap_set_ _ HN.out, (Two.of ho1).set⟩

set_option maxHeartbeats 2000000 in
set_option maxRecDepth 100000 in
theorem text_one {B pb nb : Nat} {sz : Int} {tv : Value} {st : PS} {n : Nd} {w0 w : World} (h : PSt B pb sz tv st w) (hn : NdAt w nb n) (hB : B ≤ nb) (hl : st.tk.length ≤ 1000000) (hc : CurTab w0) (hw : Below w0.heap.size w0 w) (h0 : w0.heap.size ≤ pb) :
    Calls Tryz.prog 134 #[.pointer (some ⟨pb, 0, none⟩), .pointer (some ⟨nb, 0, none⟩)] w
      (RdPost B pb nb sz tv w fun n' st' => n' = { n with a := curOf (nextT st) } ∧ st' = wrongP (curErr (nextT st) != 0) 13 (nextP sz st)) := by
  have hlt := h.lt
  have HC := Lib.hid hc
  clear hc
  go_enter Tryz.func134, Tryz.ntmps134
  go_wp2_with fail
  refine (text_next h hl).mono ?_
  rintro e w1 ⟨rfl, hs1, ho1⟩
  go_wp2_with fail
  refine (cash_Of _ _ (HC.out.below (bel_only hw h0 ho1))).mono ?_
  rintro e w2 ⟨rfl, hb2⟩
  have hs2 := hs1.below_ hb2
  have ho2 := ho1.trans (Only.of_below hb2)
  clear hs1 hb2 ho1
  go_wp2_with fail
  refine (text_wrong _ 13 hs2).mono ?_
  rintro e w3 ⟨rfl, hs3, ho3⟩
  have hn1 := hn.only (by omega) (ho2.trans ho3)
  have c1 := cell_of_blk hn1 1 _ rfl
  have f1 := free_of_blk hn1 1
  have HN := Lib.hid hn1
  clear hn hn1
  go_wp2_with fail
  go_end0
  exact ⟨rfl, _, _, ⟨rfl, rfl⟩, hs3.setNd hB, heap_set_ _ HN.out, (Two.of (ho2.trans ho3)).set⟩
end Go.Proofs.YtokfgdpmbmnijaaGreatDoor
/- text's parser: key. -/
namespace Go.Proofs.YtokfgdpmbmnijaaGreatDoor
open Go.RowKit

def digitsB : ByteArray := ⟨#[48, 49, 50, 51, 52, 53, 54, 55, 56, 57]⟩
def trimT (s : ByteArray) : ByteArray := ⟨(Lib.trimS s.data.toList digitsB.data.toList).toArray⟩
theorem info_bools : (Tryz.prog.info? 235).map (fun i => (i.zero, i.size)) = some (some (.agg (Array.replicate 256 (.bool false))), 256) := by kernel_rfl
set_option maxRecDepth 100000 in
theorem go_Trim (s : ByteArray) (w : World) (hs : s.size ≤ 1000000) :
    Calls Tryz.prog 162 #[.string s, .string ⟨#[48, 49, 50, 51, 52, 53, 54, 55, 56, 57]⟩] w fun e w' => e = .returned (.string (trimT s)) ∧ Below w.heap.size w w' :=
  Any.strings_Trim_laid Tryz.lays160 info_bools s digitsB w (by omega) (by decide) (ascii_of_all (by decide))
def emptyB : ByteArray := ⟨#[]⟩
def kb1 (s : ByteArray) : Bool := s.toList.isEmpty
def kb2 (s : ByteArray) : Bool := !(trimT s).toList.isEmpty
def kb3 (s : ByteArray) : Bool := decide (1 < s.size) && (((byteAt s 0).toNat : Int) == 48)
def keyBad (s : ByteArray) : Bool := kb1 s || kb2 s || kb3 s
/-- Whether a key's text is out of range, or no number. -/
def keyFar (s : ByteArray) : Bool := match Lib.atoiAll s.data.toList with | .ok v => decide (63 < v) | _ => true
def keyP (sz : Int) (st : PS) : PS := wrongP (keyFar (nextT st)) 10 (wrongP (keyBad (nextT st)) 13 (nextP sz st))

/-- The first half of 'key': the token's form. -/
def KeyMid (B pb : Nat) (sz : Int) (tv : Value) (st : PS) (w w' : World) : Prop := PSt B pb sz tv (wrongP (keyBad (nextT st)) 13 (nextP sz st)) w' ∧ Only pb w w'

set_option maxHeartbeats 4000000 in
set_option maxRecDepth 100000 in
theorem text_key {B pb nb : Nat} {sz : Int} {tv : Value} {st : PS} {n : Nd} {w0 w : World} (h : PSt B pb sz tv st w) (hn : NdAt w nb n) (hB : B ≤ nb) (hl : st.tk.length ≤ 1000000) (hz : (nextT st).size ≤ 1000000) (he : Env w0) (hw : Below w0.heap.size w0 w) (h0 : w0.heap.size ≤ pb) :
    Calls Tryz.prog 133 #[.pointer (some ⟨pb, 0, none⟩), .pointer (some ⟨nb, 0, none⟩)] w
      (RdPost B pb nb sz tv w fun n' st' => (∃ k, n' = { n with a := k } ∧ i64ok k ∧ ∀ v, Lib.atoiAll (nextT st).data.toList = .ok v → k = v) ∧ st' = keyP sz st) := by
  have hlt := h.lt
  have HE := Lib.hid he
  clear he
  go_enter Tryz.func133, Tryz.ntmps133
  go_wp2_with fail
  refine (text_next h hl).mono ?_
  rintro e w1 ⟨rfl, hs1, ho1⟩
  have HW1 := Lib.hid (bel_only hw h0 ho1)
  have HN1 := Lib.hid (hn.only (by omega) ho1)
  have HO1 := Lib.hid ho1
  have HKP : Hid (keyP sz st = wrongP (keyFar (nextT st)) 10 (wrongP (keyBad (nextT st)) 13 (nextP sz st))) := rfl
  clear hn ho1 hw
  generalize hs : nextT st = s at hz
  rw [hs] at HKP
  generalize hst1 : nextP sz st = st1 at hs1 HKP
  have HS := Lib.hid hs
  have HST := Lib.hid hst1
  clear hs hst1 h
  go_wp2_with fail
  have hkb : Hid (keyBad s = (kb1 s || kb2 s || kb3 s)) := rfl
  cases k1 : kb1 s
  case true =>
    have k1' : s.toList.isEmpty = true := k1
    have HB : Hid (keyBad s = true) := by show _ = _; rw [hkb.out, k1]; rfl
    clear k1
    refine wp_region_tail1 20 _ (by kernel_rfl) rfl (by kernel_rfl) ?_
    simp only [List.take_succ_cons, List.take_zero]
    repeat (go_big_quiet_step (fail))
    refine wpQuiet_nil ?_
    rintro ⟨w2, hb2⟩
    go_wp2_with fail
    have hs2 := hs1.below_ hb2
    refine (text_wrong (B := B) (sz := sz) (tv := tv) (st := st1) true 13 hs2).mono ?_
    rintro e w3 ⟨rfl, hs3, ho3⟩
    rw [← HB.out] at hs3
    have HO3 := (Only.of_below (pb := pb) hb2).trans ho3
    have HE3 := Lib.hid (HE.out.below_ (bel_only HW1.out h0 HO3))
    clear hs1 hb2 ho3 hs2
    go_wp2_with fail
    refine (go_Atoi _ _ (by omega) HE3.out).mono ?_
    rintro e w4 (⟨v, rfl, ha, hv, hb4⟩ | ⟨v, x, rfl, ha, hv, hb4⟩)
    · have HAT := Lib.hid ha
      have HF0 : Hid (keyFar s = decide (63 < v)) := by show _ = _; unfold keyFar; rw [ha]
      clear ha
      cases hk : decide (63 < v)
      · have hk' : ¬ (63 < v) := of_decide_eq_false hk
        have HF : Hid (keyFar s = false) := by show _ = _; rw [HF0.out]; exact hk
        go_wp2_with fail
        have hs4 := hs3.below_ hb4
        refine wp_region_tail1 9 _ (by kernel_rfl) rfl (by kernel_rfl) ?_
        simp only [List.take_succ_cons, List.take_zero]
        repeat (go_big_quiet_step (fail))
        refine wpQuiet_nil ?_
        rintro ⟨w5, hb5⟩
        go_wp2_with fail
        refine (text_wrong (B := B) (sz := sz) (tv := tv) (st := wrongP (keyBad s) 13 st1) false 10 (hs4.below_ hb5)).mono ?_
        rintro e w6 ⟨rfl, hs6, ho6⟩
        have HO6 := (HO3.trans (Only.of_below (below_two hb4 hb5))).trans ho6
        have hn6 := HN1.out.only (by omega) HO6
        have c1 := cell_of_blk hn6 1 _ rfl
        have f1 := free_of_blk hn6 1
        have HN := Lib.hid hn6
        clear hn6
        go_wp2_with fail
        go_end0
        refine ⟨rfl, _, _, ⟨⟨v, rfl, hv, fun u hu => by rw [HS.out, HAT.out] at hu; injection hu⟩, ?_⟩, hs6.setNd hB, heap_set_ _ HN.out, (Two.of (HO1.out.trans HO6)).set⟩
        rw [HKP.out, HF.out]
      · have hk' : 63 < v := of_decide_eq_true hk
        have HF : Hid (keyFar s = true) := by show _ = _; rw [HF0.out]; exact hk
        go_wp2_with fail
        have hs4 := hs3.below_ hb4
        refine wp_region_tail1 9 _ (by kernel_rfl) rfl (by kernel_rfl) ?_
        simp only [List.take_succ_cons, List.take_zero]
        repeat (go_big_quiet_step (fail))
        refine wpQuiet_nil ?_
        rintro ⟨w5, hb5⟩
        go_wp2_with fail
        refine (text_wrong (B := B) (sz := sz) (tv := tv) (st := wrongP (keyBad s) 13 st1) true 10 (hs4.below_ hb5)).mono ?_
        rintro e w6 ⟨rfl, hs6, ho6⟩
        have HO6 := (HO3.trans (Only.of_below (below_two hb4 hb5))).trans ho6
        have hn6 := HN1.out.only (by omega) HO6
        have c1 := cell_of_blk hn6 1 _ rfl
        have f1 := free_of_blk hn6 1
        have HN := Lib.hid hn6
        clear hn6
        go_wp2_with fail
        go_end0
        refine ⟨rfl, _, _, ⟨⟨v, rfl, hv, fun u hu => by rw [HS.out, HAT.out] at hu; injection hu⟩, ?_⟩, hs6.setNd hB, heap_set_ _ HN.out, (Two.of (HO1.out.trans HO6)).set⟩
        rw [HKP.out, HF.out]
    · have HF : Hid (keyFar s = true) := by
        show _ = _
        unfold keyFar
        split
        · rename_i u hu; exact absurd hu (ha u)
        · rfl
      have HAT := Lib.hid ha
      clear ha
      go_wp2_with fail
      have hs4 := hs3.below_ hb4
      refine wp_region_tail1 9 _ (by kernel_rfl) rfl (by kernel_rfl) ?_
      simp only [List.take_succ_cons, List.take_zero]
      repeat (go_big_quiet_step (fail))
      refine wpQuiet_nil ?_
      rintro ⟨w5, hb5⟩
      go_wp2_with fail
      refine (text_wrong (B := B) (sz := sz) (tv := tv) (st := wrongP (keyBad s) 13 st1) true 10 (hs4.below_ hb5)).mono ?_
      rintro e w6 ⟨rfl, hs6, ho6⟩
      have HO6 := (HO3.trans (Only.of_below (below_two hb4 hb5))).trans ho6
      have hn6 := HN1.out.only (by omega) HO6
      have c1 := cell_of_blk hn6 1 _ rfl
      have f1 := free_of_blk hn6 1
      have HN := Lib.hid hn6
      clear hn6
      go_wp2_with fail
      go_end0
      refine ⟨rfl, _, _, ⟨⟨v, rfl, hv, fun u hu => by rw [HS.out] at hu; exact absurd hu (HAT.out u)⟩, ?_⟩, hs6.setNd hB, heap_set_ _ HN.out, (Two.of (HO1.out.trans HO6)).set⟩
      rw [HKP.out, HF.out]
  case false =>
    have k1' : s.toList.isEmpty = false := k1
    cases k2 : kb2 s
    case true =>
      have k2' : (!(trimT s).toList.isEmpty) = true := k2
      have k2'' : (trimT s).toList.isEmpty = false := by simpa [kb2] using k2
      have HB : Hid (keyBad s = true) := by show _ = _; rw [hkb.out, k1, k2]; rfl
      clear k1 k2
      refine wp_region_tail1 20 _ (by kernel_rfl) rfl (by kernel_rfl) ?_
      simp only [List.take_succ_cons, List.take_zero]
      repeat (go_big_quiet_step ((go_at_call 162; exact Calls.later (go_Trim _ _ hz))))
      refine wpQuiet_nil ?_
      rintro ⟨w2, hb2⟩
      go_wp2_with fail
      have hs2 := hs1.below_ hb2
      refine (text_wrong (B := B) (sz := sz) (tv := tv) (st := st1) true 13 hs2).mono ?_
      rintro e w3 ⟨rfl, hs3, ho3⟩
      rw [← HB.out] at hs3
      have HO3 := (Only.of_below (pb := pb) hb2).trans ho3
      have HE3 := Lib.hid (HE.out.below_ (bel_only HW1.out h0 HO3))
      clear hs1 hb2 ho3 hs2
      go_wp2_with fail
      refine (go_Atoi _ _ (by omega) HE3.out).mono ?_
      rintro e w4 (⟨v, rfl, ha, hv, hb4⟩ | ⟨v, x, rfl, ha, hv, hb4⟩)
      · have HAT := Lib.hid ha
        have HF0 : Hid (keyFar s = decide (63 < v)) := by show _ = _; unfold keyFar; rw [ha]
        clear ha
        cases hk : decide (63 < v)
        · have hk' : ¬ (63 < v) := of_decide_eq_false hk
          have HF : Hid (keyFar s = false) := by show _ = _; rw [HF0.out]; exact hk
          go_wp2_with fail
          have hs4 := hs3.below_ hb4
          refine wp_region_tail1 9 _ (by kernel_rfl) rfl (by kernel_rfl) ?_
          simp only [List.take_succ_cons, List.take_zero]
          repeat (go_big_quiet_step (fail))
          refine wpQuiet_nil ?_
          rintro ⟨w5, hb5⟩
          go_wp2_with fail
          refine (text_wrong (B := B) (sz := sz) (tv := tv) (st := wrongP (keyBad s) 13 st1) false 10 (hs4.below_ hb5)).mono ?_
          rintro e w6 ⟨rfl, hs6, ho6⟩
          have HO6 := (HO3.trans (Only.of_below (below_two hb4 hb5))).trans ho6
          have hn6 := HN1.out.only (by omega) HO6
          have c1 := cell_of_blk hn6 1 _ rfl
          have f1 := free_of_blk hn6 1
          have HN := Lib.hid hn6
          clear hn6
          go_wp2_with fail
          go_end0
          refine ⟨rfl, _, _, ⟨⟨v, rfl, hv, fun u hu => by rw [HS.out, HAT.out] at hu; injection hu⟩, ?_⟩, hs6.setNd hB, heap_set_ _ HN.out, (Two.of (HO1.out.trans HO6)).set⟩
          rw [HKP.out, HF.out]
        · have hk' : 63 < v := of_decide_eq_true hk
          have HF : Hid (keyFar s = true) := by show _ = _; rw [HF0.out]; exact hk
          go_wp2_with fail
          have hs4 := hs3.below_ hb4
          refine wp_region_tail1 9 _ (by kernel_rfl) rfl (by kernel_rfl) ?_
          simp only [List.take_succ_cons, List.take_zero]
          repeat (go_big_quiet_step (fail))
          refine wpQuiet_nil ?_
          rintro ⟨w5, hb5⟩
          go_wp2_with fail
          refine (text_wrong (B := B) (sz := sz) (tv := tv) (st := wrongP (keyBad s) 13 st1) true 10 (hs4.below_ hb5)).mono ?_
          rintro e w6 ⟨rfl, hs6, ho6⟩
          have HO6 := (HO3.trans (Only.of_below (below_two hb4 hb5))).trans ho6
          have hn6 := HN1.out.only (by omega) HO6
          have c1 := cell_of_blk hn6 1 _ rfl
          have f1 := free_of_blk hn6 1
          have HN := Lib.hid hn6
          clear hn6
          go_wp2_with fail
          go_end0
          refine ⟨rfl, _, _, ⟨⟨v, rfl, hv, fun u hu => by rw [HS.out, HAT.out] at hu; injection hu⟩, ?_⟩, hs6.setNd hB, heap_set_ _ HN.out, (Two.of (HO1.out.trans HO6)).set⟩
          rw [HKP.out, HF.out]
      · have HF : Hid (keyFar s = true) := by
          show _ = _
          unfold keyFar
          split
          · rename_i u hu; exact absurd hu (ha u)
          · rfl
        have HAT := Lib.hid ha
        clear ha
        go_wp2_with fail
        have hs4 := hs3.below_ hb4
        refine wp_region_tail1 9 _ (by kernel_rfl) rfl (by kernel_rfl) ?_
        simp only [List.take_succ_cons, List.take_zero]
        repeat (go_big_quiet_step (fail))
        refine wpQuiet_nil ?_
        rintro ⟨w5, hb5⟩
        go_wp2_with fail
        refine (text_wrong (B := B) (sz := sz) (tv := tv) (st := wrongP (keyBad s) 13 st1) true 10 (hs4.below_ hb5)).mono ?_
        rintro e w6 ⟨rfl, hs6, ho6⟩
        have HO6 := (HO3.trans (Only.of_below (below_two hb4 hb5))).trans ho6
        have hn6 := HN1.out.only (by omega) HO6
        have c1 := cell_of_blk hn6 1 _ rfl
        have f1 := free_of_blk hn6 1
        have HN := Lib.hid hn6
        clear hn6
        go_wp2_with fail
        go_end0
        refine ⟨rfl, _, _, ⟨⟨v, rfl, hv, fun u hu => by rw [HS.out] at hu; exact absurd hu (HAT.out u)⟩, ?_⟩, hs6.setNd hB, heap_set_ _ HN.out, (Two.of (HO1.out.trans HO6)).set⟩
        rw [HKP.out, HF.out]
    case false =>
      have k2' : (!(trimT s).toList.isEmpty) = false := k2
      have k2'' : (trimT s).toList.isEmpty = true := by simpa [kb2] using k2
      by_cases h1 : 1 < s.size
      · have h1' : decide ((1 : Int) < (s.size : Int)) = true := by simp; omega
        have hb0 := byteAt_eq (show 0 < s.size by omega)
        have h0i : (0 : Int) < (s.size : Int) := by omega
        have h0n : 0 < s.size := by omega
        have HBY := Lib.hid hb0
        have HB : Hid (keyBad s = (((byteAt s 0).toNat : Int) == 48)) := by show _ = _; rw [hkb.out, k1, k2]; unfold kb3; simp [h1]
        clear k1 k2 hb0
        refine wp_region_tail1 20 _ (by kernel_rfl) rfl (by kernel_rfl) ?_
        simp only [List.take_succ_cons, List.take_zero]
        repeat (go_big_quiet_step ((go_at_call 162; exact Calls.later (go_Trim _ _ hz))))
        refine wpQuiet_nil ?_
        rintro ⟨w2, hb2⟩
        go_wp2_with fail
        simp only [HBY.out]
        have hs2 := hs1.below_ hb2
        refine (text_wrong (B := B) (sz := sz) (tv := tv) (st := st1) _ 13 hs2).mono ?_
        rintro e w3 ⟨rfl, hs3, ho3⟩
        rw [← HB.out] at hs3
        have HO3 := (Only.of_below (pb := pb) hb2).trans ho3
        have HE3 := Lib.hid (HE.out.below_ (bel_only HW1.out h0 HO3))
        clear hs1 hb2 ho3 hs2
        go_wp2_with fail
        refine (go_Atoi _ _ (by omega) HE3.out).mono ?_
        rintro e w4 (⟨v, rfl, ha, hv, hb4⟩ | ⟨v, x, rfl, ha, hv, hb4⟩)
        · have HAT := Lib.hid ha
          have HF0 : Hid (keyFar s = decide (63 < v)) := by show _ = _; unfold keyFar; rw [ha]
          clear ha
          cases hk : decide (63 < v)
          · have hk' : ¬ (63 < v) := of_decide_eq_false hk
            have HF : Hid (keyFar s = false) := by show _ = _; rw [HF0.out]; exact hk
            go_wp2_with fail
            have hs4 := hs3.below_ hb4
            refine wp_region_tail1 9 _ (by kernel_rfl) rfl (by kernel_rfl) ?_
            simp only [List.take_succ_cons, List.take_zero]
            repeat (go_big_quiet_step (fail))
            refine wpQuiet_nil ?_
            rintro ⟨w5, hb5⟩
            go_wp2_with fail
            refine (text_wrong (B := B) (sz := sz) (tv := tv) (st := wrongP (keyBad s) 13 st1) false 10 (hs4.below_ hb5)).mono ?_
            rintro e w6 ⟨rfl, hs6, ho6⟩
            have HO6 := (HO3.trans (Only.of_below (below_two hb4 hb5))).trans ho6
            have hn6 := HN1.out.only (by omega) HO6
            have c1 := cell_of_blk hn6 1 _ rfl
            have f1 := free_of_blk hn6 1
            have HN := Lib.hid hn6
            clear hn6
            go_wp2_with fail
            go_end0
            refine ⟨rfl, _, _, ⟨⟨v, rfl, hv, fun u hu => by rw [HS.out, HAT.out] at hu; injection hu⟩, ?_⟩, hs6.setNd hB, heap_set_ _ HN.out, (Two.of (HO1.out.trans HO6)).set⟩
            rw [HKP.out, HF.out]
          · have hk' : 63 < v := of_decide_eq_true hk
            have HF : Hid (keyFar s = true) := by show _ = _; rw [HF0.out]; exact hk
            go_wp2_with fail
            have hs4 := hs3.below_ hb4
            refine wp_region_tail1 9 _ (by kernel_rfl) rfl (by kernel_rfl) ?_
            simp only [List.take_succ_cons, List.take_zero]
            repeat (go_big_quiet_step (fail))
            refine wpQuiet_nil ?_
            rintro ⟨w5, hb5⟩
            go_wp2_with fail
            refine (text_wrong (B := B) (sz := sz) (tv := tv) (st := wrongP (keyBad s) 13 st1) true 10 (hs4.below_ hb5)).mono ?_
            rintro e w6 ⟨rfl, hs6, ho6⟩
            have HO6 := (HO3.trans (Only.of_below (below_two hb4 hb5))).trans ho6
            have hn6 := HN1.out.only (by omega) HO6
            have c1 := cell_of_blk hn6 1 _ rfl
            have f1 := free_of_blk hn6 1
            have HN := Lib.hid hn6
            clear hn6
            go_wp2_with fail
            go_end0
            refine ⟨rfl, _, _, ⟨⟨v, rfl, hv, fun u hu => by rw [HS.out, HAT.out] at hu; injection hu⟩, ?_⟩, hs6.setNd hB, heap_set_ _ HN.out, (Two.of (HO1.out.trans HO6)).set⟩
            rw [HKP.out, HF.out]
        · have HF : Hid (keyFar s = true) := by
            show _ = _
            unfold keyFar
            split
            · rename_i u hu; exact absurd hu (ha u)
            · rfl
          have HAT := Lib.hid ha
          clear ha
          go_wp2_with fail
          have hs4 := hs3.below_ hb4
          refine wp_region_tail1 9 _ (by kernel_rfl) rfl (by kernel_rfl) ?_
          simp only [List.take_succ_cons, List.take_zero]
          repeat (go_big_quiet_step (fail))
          refine wpQuiet_nil ?_
          rintro ⟨w5, hb5⟩
          go_wp2_with fail
          refine (text_wrong (B := B) (sz := sz) (tv := tv) (st := wrongP (keyBad s) 13 st1) true 10 (hs4.below_ hb5)).mono ?_
          rintro e w6 ⟨rfl, hs6, ho6⟩
          have HO6 := (HO3.trans (Only.of_below (below_two hb4 hb5))).trans ho6
          have hn6 := HN1.out.only (by omega) HO6
          have c1 := cell_of_blk hn6 1 _ rfl
          have f1 := free_of_blk hn6 1
          have HN := Lib.hid hn6
          clear hn6
          go_wp2_with fail
          go_end0
          refine ⟨rfl, _, _, ⟨⟨v, rfl, hv, fun u hu => by rw [HS.out] at hu; exact absurd hu (HAT.out u)⟩, ?_⟩, hs6.setNd hB, heap_set_ _ HN.out, (Two.of (HO1.out.trans HO6)).set⟩
          rw [HKP.out, HF.out]
      · have h1' : decide ((1 : Int) < (s.size : Int)) = false := by simp; omega
        have HB : Hid (keyBad s = false) := by show _ = _; rw [hkb.out, k1, k2]; unfold kb3; simp [h1]
        clear k1 k2
        refine wp_region_tail1 20 _ (by kernel_rfl) rfl (by kernel_rfl) ?_
        simp only [List.take_succ_cons, List.take_zero]
        repeat (go_big_quiet_step ((go_at_call 162; exact Calls.later (go_Trim _ _ hz))))
        refine wpQuiet_nil ?_
        rintro ⟨w2, hb2⟩
        go_wp2_with fail
        have hs2 := hs1.below_ hb2
        refine (text_wrong (B := B) (sz := sz) (tv := tv) (st := st1) false 13 hs2).mono ?_
        rintro e w3 ⟨rfl, hs3, ho3⟩
        rw [← HB.out] at hs3
        have HO3 := (Only.of_below (pb := pb) hb2).trans ho3
        have HE3 := Lib.hid (HE.out.below_ (bel_only HW1.out h0 HO3))
        clear hs1 hb2 ho3 hs2
        go_wp2_with fail
        refine (go_Atoi _ _ (by omega) HE3.out).mono ?_
        rintro e w4 (⟨v, rfl, ha, hv, hb4⟩ | ⟨v, x, rfl, ha, hv, hb4⟩)
        · have HAT := Lib.hid ha
          have HF0 : Hid (keyFar s = decide (63 < v)) := by show _ = _; unfold keyFar; rw [ha]
          clear ha
          cases hk : decide (63 < v)
          · have hk' : ¬ (63 < v) := of_decide_eq_false hk
            have HF : Hid (keyFar s = false) := by show _ = _; rw [HF0.out]; exact hk
            go_wp2_with fail
            have hs4 := hs3.below_ hb4
            refine wp_region_tail1 9 _ (by kernel_rfl) rfl (by kernel_rfl) ?_
            simp only [List.take_succ_cons, List.take_zero]
            repeat (go_big_quiet_step (fail))
            refine wpQuiet_nil ?_
            rintro ⟨w5, hb5⟩
            go_wp2_with fail
            refine (text_wrong (B := B) (sz := sz) (tv := tv) (st := wrongP (keyBad s) 13 st1) false 10 (hs4.below_ hb5)).mono ?_
            rintro e w6 ⟨rfl, hs6, ho6⟩
            have HO6 := (HO3.trans (Only.of_below (below_two hb4 hb5))).trans ho6
            have hn6 := HN1.out.only (by omega) HO6
            have c1 := cell_of_blk hn6 1 _ rfl
            have f1 := free_of_blk hn6 1
            have HN := Lib.hid hn6
            clear hn6
            go_wp2_with fail
            go_end0
            refine ⟨rfl, _, _, ⟨⟨v, rfl, hv, fun u hu => by rw [HS.out, HAT.out] at hu; injection hu⟩, ?_⟩, hs6.setNd hB, heap_set_ _ HN.out, (Two.of (HO1.out.trans HO6)).set⟩
            rw [HKP.out, HF.out]
          · have hk' : 63 < v := of_decide_eq_true hk
            have HF : Hid (keyFar s = true) := by show _ = _; rw [HF0.out]; exact hk
            go_wp2_with fail
            have hs4 := hs3.below_ hb4
            refine wp_region_tail1 9 _ (by kernel_rfl) rfl (by kernel_rfl) ?_
            simp only [List.take_succ_cons, List.take_zero]
            repeat (go_big_quiet_step (fail))
            refine wpQuiet_nil ?_
            rintro ⟨w5, hb5⟩
            go_wp2_with fail
            refine (text_wrong (B := B) (sz := sz) (tv := tv) (st := wrongP (keyBad s) 13 st1) true 10 (hs4.below_ hb5)).mono ?_
            rintro e w6 ⟨rfl, hs6, ho6⟩
            have HO6 := (HO3.trans (Only.of_below (below_two hb4 hb5))).trans ho6
            have hn6 := HN1.out.only (by omega) HO6
            have c1 := cell_of_blk hn6 1 _ rfl
            have f1 := free_of_blk hn6 1
            have HN := Lib.hid hn6
            clear hn6
            go_wp2_with fail
            go_end0
            refine ⟨rfl, _, _, ⟨⟨v, rfl, hv, fun u hu => by rw [HS.out, HAT.out] at hu; injection hu⟩, ?_⟩, hs6.setNd hB, heap_set_ _ HN.out, (Two.of (HO1.out.trans HO6)).set⟩
            rw [HKP.out, HF.out]
        · have HF : Hid (keyFar s = true) := by
            show _ = _
            unfold keyFar
            split
            · rename_i u hu; exact absurd hu (ha u)
            · rfl
          have HAT := Lib.hid ha
          clear ha
          go_wp2_with fail
          have hs4 := hs3.below_ hb4
          refine wp_region_tail1 9 _ (by kernel_rfl) rfl (by kernel_rfl) ?_
          simp only [List.take_succ_cons, List.take_zero]
          repeat (go_big_quiet_step (fail))
          refine wpQuiet_nil ?_
          rintro ⟨w5, hb5⟩
          go_wp2_with fail
          refine (text_wrong (B := B) (sz := sz) (tv := tv) (st := wrongP (keyBad s) 13 st1) true 10 (hs4.below_ hb5)).mono ?_
          rintro e w6 ⟨rfl, hs6, ho6⟩
          have HO6 := (HO3.trans (Only.of_below (below_two hb4 hb5))).trans ho6
          have hn6 := HN1.out.only (by omega) HO6
          have c1 := cell_of_blk hn6 1 _ rfl
          have f1 := free_of_blk hn6 1
          have HN := Lib.hid hn6
          clear hn6
          go_wp2_with fail
          go_end0
          refine ⟨rfl, _, _, ⟨⟨v, rfl, hv, fun u hu => by rw [HS.out] at hu; exact absurd hu (HAT.out u)⟩, ?_⟩, hs6.setNd hB, heap_set_ _ HN.out, (Two.of (HO1.out.trans HO6)).set⟩
          rw [HKP.out, HF.out]
end Go.Proofs.YtokfgdpmbmnijaaGreatDoor
/- text's parser: any, none, behind. -/
namespace Go.Proofs.YtokfgdpmbmnijaaGreatDoor
open Go.RowKit

def keyR (s : ByteArray) (k : Int) : Prop := i64ok k ∧ ∀ v, Lib.atoiAll s.data.toList = .ok v → k = v
/-- What 'any' reads: a key and a day. -/
def anyR (sz : Int) (st : PS) (n n' : Nd) (st' : PS) : Prop :=
  ∃ k, keyR (nextT st) k ∧ ((((keyP sz st).e = 0) ∧ n' = { n with a := k, b := dayPR (nextT (keyP sz st)) } ∧ st' = dayP sz (keyP sz st)) ∨ ((keyP sz st).e ≠ 0 ∧ n' = { n with a := k } ∧ st' = keyP sz st))
theorem wrongP_tk (b : Bool) (er : Int) (st : PS) : (wrongP b er st).tk = st.tk := by unfold wrongP; split <;> rfl
theorem nextP_tk (sz : Int) (st : PS) : (nextP sz st).tk = st.tk.tail := by
  unfold nextP
  split
  · rename_i h; rw [wrongP_tk]; rw [h]; rfl
  · rename_i h; rw [h]; rfl
theorem keyP_tk (sz : Int) (st : PS) : (keyP sz st).tk = st.tk.tail := by unfold keyP; rw [wrongP_tk, wrongP_tk, nextP_tk]

set_option maxHeartbeats 2000000 in
set_option maxRecDepth 100000 in
theorem text_any {B pb nb : Nat} {sz : Int} {tv : Value} {st : PS} {n : Nd} {w0 w : World} (h : PSt B pb sz tv st w) (hn : NdAt w nb n) (hB : B ≤ nb) (hl : st.tk.length ≤ 1000000) (hz : (nextT st).size ≤ 1000000) (he : Env w0) (hw : Below w0.heap.size w0 w) (h0 : w0.heap.size ≤ pb) :
    Calls Tryz.prog 136 #[.pointer (some ⟨pb, 0, none⟩), .pointer (some ⟨nb, 0, none⟩)] w (RdPost B pb nb sz tv w fun n' st' => anyR sz st n n' st') := by
  have hlt := h.lt
  have HE := Lib.hid he
  clear he
  go_enter Tryz.func136, Tryz.ntmps136
  go_wp2_with fail
  refine (text_key h hn hB hl hz HE.out hw h0).mono ?_
  rintro e w1 ⟨rfl, n1, st1, ⟨⟨k, rfl, hk1, hk2⟩, hst1⟩, hs1, hn1, ht1⟩
  have HW1 : Hid (Below w0.heap.size w0 w1) := hw.trans ⟨ht1.os, ht1.tape, ht1.output, ht1.size, fun j hj => ht1.block j (Nat.lt_of_lt_of_le hj hw.size) (by omega) (by omega)⟩
  have HK : Hid (keyR (nextT st) k) := ⟨hk1, hk2⟩
  obtain ⟨pa, pc, xa, xc, hb1, _⟩ := hs1.ex
  have c4 := cell_of_blk hb1 4 _ rfl
  have HST := Lib.hid hst1
  have htl : st1.tk.length ≤ 1000000 := by rw [hst1, keyP_tk, List.length_tail]; omega
  clear hb1 hst1 hn hk1 hk2 h
  cases hb : (st1.e == 0)
  · have HE1 : Hid (st1.e ≠ 0) := by intro e; rw [e] at hb; cases hb
    go_wp2_with fail
    go_end0
    exact ⟨rfl, _, _, ⟨k, HK.out, .inr ⟨by rw [← HST.out]; exact HE1.out, rfl, HST.out⟩⟩, hs1, hn1, ht1⟩
  · have HE1 : Hid (st1.e = 0) := eq_of_beq hb
    go_wp2_with fail
    refine (text_pday hs1 htl HE.out.ahead HW1.out h0).mono ?_
    rintro e w2 ⟨rfl, hs2, ho2⟩
    have hn2 := hn1.only (by omega) ho2
    have c1 := cell_of_blk hn2 2 _ rfl
    have f1 := free_of_blk hn2 2
    have HN := Lib.hid hn2
    clear hn1 hn2
    go_wp2_with fail
    go_end0
    exact ⟨rfl, { n with a := k, b := dayPR (nextT st1) }, _, ⟨k, HK.out, .inl ⟨by rw [← HST.out]; exact HE1.out, by rw [← HST.out], by rw [← HST.out]⟩⟩, hs2.setNd hB, heap_set_ _ HN.out, (ht1.trans (Two.of ho2)).set⟩
theorem text_none {B pb nb : Nat} {sz : Int} {tv : Value} {st : PS} {n : Nd} {w : World} (h : PSt B pb sz tv st w) (hn : NdAt w nb n) :
    Calls Tryz.prog 137 #[.pointer (some ⟨pb, 0, none⟩), .pointer (some ⟨nb, 0, none⟩)] w (RdPost B pb nb sz tv w fun n' st' => n' = n ∧ st' = st) := by
  go_enter Tryz.func137, Tryz.ntmps137
  go_wp2_with fail
  go_end0
  exact ⟨rfl, _, _, ⟨rfl, rfl⟩, h, hn, ⟨rfl, rfl, rfl, Nat.le_refl _, fun _ _ _ _ => rfl⟩⟩
end Go.Proofs.YtokfgdpmbmnijaaGreatDoor
/- text's parser: behind, node. -/
namespace Go.Proofs.YtokfgdpmbmnijaaGreatDoor
open Go.RowKit

/-- The reader of what stands behind an op's word. -/
def behindF (op : Int) : FuncId := if op = 2 ∨ op = 16 then 133 else if op = 10 then 134 else if op = 14 then 135 else if op = 17 then 136 else 137
set_option maxHeartbeats 1000000 in
set_option maxRecDepth 100000 in
theorem text_behind (op : Int) (w : World) : Calls Tryz.prog 89 #[.int .i64 op] w fun e w' => e = .returned (.func (.func (behindF op)) #[] #[]) ∧ w = w' := by
  have go : ∀ f, behindF op = f → Calls Tryz.prog 89 #[.int .i64 op] w (fun e w' => e = .returned (.func (.func f) #[] #[]) ∧ w = w') → Calls Tryz.prog 89 #[.int .i64 op] w fun e w' => e = .returned (.func (.func (behindF op)) #[] #[]) ∧ w = w' := fun f e h => by rw [e]; exact h
  cases b1 : (op == 2)
  case true =>
    obtain rfl := eq_of_beq b1
    refine go _ rfl ?_
    go_enter Tryz.func89, Tryz.ntmps89
    go_wp2_with fail
    go_ret
    exact ⟨rfl, rfl⟩
  cases b2 : (op == 16)
  case true =>
    obtain rfl := eq_of_beq b2
    refine go _ rfl ?_
    go_enter Tryz.func89, Tryz.ntmps89
    go_wp2_with fail
    go_ret
    exact ⟨rfl, rfl⟩
  cases b3 : (op == 10)
  case true =>
    obtain rfl := eq_of_beq b3
    refine go _ rfl ?_
    go_enter Tryz.func89, Tryz.ntmps89
    go_wp2_with fail
    go_ret
    exact ⟨rfl, rfl⟩
  cases b4 : (op == 14)
  case true =>
    obtain rfl := eq_of_beq b4
    refine go _ rfl ?_
    go_enter Tryz.func89, Tryz.ntmps89
    go_wp2_with fail
    go_ret
    exact ⟨rfl, rfl⟩
  cases b5 : (op == 17)
  case true =>
    obtain rfl := eq_of_beq b5
    refine go _ rfl ?_
    go_enter Tryz.func89, Tryz.ntmps89
    go_wp2_with fail
    go_ret
    exact ⟨rfl, rfl⟩
  refine go 137 ?_ ?_
  · simp only [beq_eq_false_iff_ne] at b1 b2 b3 b4 b5
    unfold behindF
    rw [if_neg (by omega), if_neg b3, if_neg b4, if_neg b5]
  · go_enter Tryz.func89, Tryz.ntmps89
    go_wp2_with fail
    go_ret
    exact ⟨rfl, rfl⟩

def wordsL : List ByteArray := (List.range 18).map wordN
def wordIx (s : ByteArray) : Int := Lib.idxOfS wordsL s
/-- The ratio that a text is. -/
def ratO (s : ByteArray) : Option (Int × Int) :=
  match Lib.atoiAll (cutN s).data.toList, Lib.atoiAll (denT s).data.toList with
  | .ok n, .ok d => if ratioErr n d = 0 ∧ (ratT n d).toList = s.toList then some (n, d) else none
  | _, _ => none
theorem ratO_some {s : ByteArray} {p q : Int} (h : ratIs s p q) : ratO s = some (p, q) := by
  obtain ⟨h1, h2, h3, h4⟩ := h
  unfold ratO
  rw [h1, h2]
  simp only
  rw [if_pos ⟨h3, h4⟩]
theorem ratO_is {s : ByteArray} {p q : Int} (h : ratO s = some (p, q)) : ratIs s p q := by
  unfold ratO at h
  split at h
  · rename_i n d h1 h2
    split at h
    · rename_i h3
      cases h
      exact ⟨h1, h2, h3.1, h3.2⟩
    · cases h
  · cases h
theorem ratO_none {s : ByteArray} (h : ∀ p q, ¬ ratIs s p q) : ratO s = none := by
  cases e : ratO s with
  | none => rfl
  | some x => obtain ⟨p, q⟩ := x; exact absurd (ratO_is e) (h p q)
/-- What a token begins: a node with no more than its op, or a number; and whether it is one. -/
def nodeN (s : ByteArray) : Nd := match ratO s with | some x => ⟨1, 0, 0, x.1, x.2⟩ | none => ⟨wordIx s, 0, 0, 0, 0⟩
def nodeB (s : ByteArray) : Bool := match ratO s with | some _ => true | none => !s.toList.isEmpty && decide (0 < wordIx s)

theorem node_results (tmps : Array Value) (W : World) (b : Nat) (n : Nd) (is : Bool) (h2 : tmps.getD 2 undef = .pointer (some ⟨b, 0, none⟩)) (h3 : tmps.getD 3 undef = .bool is) (hb : NdAt W b n) :
    (results Tryz.f87 tmps).run Tryz.prog W = .ok (.tuple #[ndV n, .bool is]) W := by
  have c0 : W.cell? ⟨b, 0, none⟩ = some (.int .i64 n.op) := cell_of_blk hb 0 _ rfl
  have c1 : W.cell? ⟨b, 1, none⟩ = some (.int .i64 n.a) := cell_of_blk hb 1 _ rfl
  have c2 : W.cell? ⟨b, 2, none⟩ = some (.int .i64 n.b) := cell_of_blk hb 2 _ rfl
  have c3 : W.cell? ⟨b, 3, none⟩ = some (.int .i64 n.num) := cell_of_blk hb 3 _ rfl
  have c4 : W.cell? ⟨b, 4, none⟩ = some (.int .i64 n.den) := cell_of_blk hb 4 _ rfl
  rw [Array.getD_eq_getD_getElem?] at h2 h3
  simp [results, Tryz.results87, go_sem, ndV, h2, h3, c0, c1, c2, c3, c4]

theorem heap_alloc_old (w : World) (o : Obj) {b : Nat} (h : b < w.heap.size) : (w.alloc o).heap[b]? = w.heap[b]? := by
  show (w.heap.push _)[b]? = _
  rw [Array.getElem?_push, if_neg (by omega)]
theorem alloc_at (w : World) (o : Obj) : (w.alloc o).heap[w.heap.size]? = some o := by
  show (w.heap.push _)[w.heap.size]? = _
  rw [Array.getElem?_push_size]

set_option maxHeartbeats 2000000 in
set_option maxRecDepth 100000 in
theorem text_node (s : ByteArray) (w : World) (hs : s.size ≤ 1000000) (he : Env w) :
    Calls Tryz.prog 87 #[.string s] w fun e w' => e = .returned (.tuple #[ndV (nodeN s), .bool (nodeB s)]) ∧ Below w.heap.size w w' := by
  have HE := Lib.hid he
  clear he
  go_enter Tryz.func87, Tryz.ntmps87
  go_wp2_with fail
  refine (ratio_Parse s _ hs (HE.out.below_ (below_alloc _ _))).mono ?_
  rintro e w1 ⟨(⟨p, q, rfl, hr⟩ | ⟨rfl, hr⟩), hb1⟩
  · have HR : Hid (nodeN s = ⟨1, 0, 0, p, q⟩ ∧ nodeB s = true) := by unfold nodeN nodeB; rw [ratO_some hr]; exact ⟨rfl, rfl⟩
    have blk1 := (hb1.block w.heap.size (by simp)).trans (alloc_at w _)
    have HB1 := Lib.hid (below_two (below_alloc w _) hb1)
    have r0 := cell_of_blk blk1 0 _ rfl
    have r1 := cell_of_blk blk1 1 _ rfl
    have r2 := cell_of_blk blk1 2 _ rfl
    have r3 := cell_of_blk blk1 3 _ rfl
    have r4 := cell_of_blk blk1 4 _ rfl
    have q0 := free_of_blk blk1 0
    have q1 := free_of_blk blk1 1
    have q2 := free_of_blk blk1 2
    have q3 := free_of_blk blk1 3
    have q4 := free_of_blk blk1 4
    have hz1 := new_lt hb1
    have HBL := Lib.hid blk1
    clear hr hb1 blk1
    go_wp2_with fail
    refine bodyPost_ret (node_results _ _ w.heap.size ⟨1, 0, 0, p, q⟩ true rfl rfl ?_) rfl ⟨by rw [HR.out.1, HR.out.2], ?_⟩
    · refine (heap_alloc_old _ _ ?_).trans ?_
      · simp only [World.setCell, Array.size_modify]; exact hz1
      · exact (heap_set_ _ (heap_set_ _ (heap_set_ _ (heap_set_ _ (heap_set_ _ HBL.out)))))
    · refine below_two (b := ((((w1.setCell _ _).setCell _ _).setCell _ _).setCell _ _).setCell _ _) ?_ (below_alloc _ _)
      exact below_set (below_set (below_set (below_set (below_set HB1.out))))
  · have HR : Hid (nodeN s = ⟨wordIx s, 0, 0, 0, 0⟩ ∧ nodeB s = (!s.toList.isEmpty && decide (0 < wordIx s))) := by unfold nodeN nodeB; rw [ratO_none hr]; exact ⟨rfl, rfl⟩
    have blk1 := (hb1.block w.heap.size (by simp)).trans (alloc_at w _)
    have HB1 := Lib.hid (below_two (below_alloc w _) hb1)
    have HE1 := Lib.hid (HE.out.below_ HB1.out)
    have HBL := Lib.hid blk1
    have hz1 := new_lt hb1
    clear hr hb1 blk1
    go_wp2_with fail
    have hc : ∀ j, j < wordsL.length → (w1.alloc (.cells #[.int .i64 0, .int .i64 0] 46)).cell? ⟨1, 0 + j, none⟩ = some (.string (wordsL.getD j ByteArray.empty)) := by
      intro j hj
      have hj' : j < 18 := by simpa [wordsL] using hj
      rw [(HE1.out.below_ (below_alloc w1 _)).word (0 + j) (by omega)]
      simp [wordsL, hj']
    refine (Tryz.slices_Index_string _ 0 18 _ wordsL s _ (by decide) (by decide) hc).mono ?_
    rintro e w2 ⟨rfl, rfl⟩
    clear hc
    have hb2 : Below w.heap.size w (w1.alloc (.cells #[.int .i64 0, .int .i64 0] 46)) := below_two HB1.out (below_alloc w1 _)
    have hbl2 := (heap_alloc_old w1 (.cells #[.int .i64 0, .int .i64 0] 46) hz1).trans HBL.out
    generalize w1.alloc (.cells #[.int .i64 0, .int .i64 0] 46) = W at hb2 hbl2 ⊢
    have HW := Lib.hid hb2
    have r0 := cell_of_blk hbl2 0 _ rfl
    have r1 := cell_of_blk hbl2 1 _ rfl
    have r2 := cell_of_blk hbl2 2 _ rfl
    have r3 := cell_of_blk hbl2 3 _ rfl
    have r4 := cell_of_blk hbl2 4 _ rfl
    have q0 := free_of_blk hbl2 0
    have q1 := free_of_blk hbl2 1
    have q2 := free_of_blk hbl2 2
    have q3 := free_of_blk hbl2 3
    have q4 := free_of_blk hbl2 4
    have HBW := Lib.hid hbl2
    change Hid (nodeN s = ⟨Lib.idxOfS wordsL s, 0, 0, 0, 0⟩ ∧ nodeB s = (!s.toList.isEmpty && decide (0 < Lib.idxOfS wordsL s))) at HR
    rw [show List.take 18 wordsL = wordsL from rfl]
    generalize Lib.idxOfS wordsL s = ix at HR ⊢
    clear hb2 hbl2 hz1
    cases hs0 : s.toList.isEmpty
    · have hs1 : (!s.toList.isEmpty) = true := by rw [hs0]; rfl
      go_wp2_with fail
      refine bodyPost_ret (node_results _ _ w.heap.size ⟨ix, 0, 0, 0, 0⟩ (decide (0 < ix)) rfl rfl ?_) rfl ⟨?_, ?_⟩
      · exact (heap_set_ _ (heap_set_ _ (heap_set_ _ (heap_set_ _ (heap_set_ _ HBW.out)))))
      · rw [HR.out.1, HR.out.2, hs0]; rfl
      · exact below_set (below_set (below_set (below_set (below_set HW.out))))
    · have hs1 : (!s.toList.isEmpty) = false := by rw [hs0]; rfl
      go_wp2_with fail
      refine bodyPost_ret (node_results _ _ w.heap.size ⟨ix, 0, 0, 0, 0⟩ false rfl rfl ?_) rfl ⟨?_, ?_⟩
      · exact (heap_set_ _ (heap_set_ _ (heap_set_ _ (heap_set_ _ (heap_set_ _ HBW.out)))))
      · rw [HR.out.1, HR.out.2, hs0]; rfl
      · exact below_set (below_set (below_set (below_set (below_set HW.out))))
end Go.Proofs.YtokfgdpmbmnijaaGreatDoor
/- text's parser as plain functions; what stands behind an op's word, at once. -/
namespace Go.Proofs.YtokfgdpmbmnijaaGreatDoor
open Go.RowKit

def keyN (s : ByteArray) : Int := match Lib.atoiAll s.data.toList with | .ok v => v | _ => 0
/-- What stands behind an op's word, read into a node. -/
def behindP (sz : Int) (n : Nd) (st : PS) : Nd × PS :=
  if n.op = 2 ∨ n.op = 16 then ({ n with a := keyN (nextT st) }, keyP sz st)
  else if n.op = 10 then ({ n with a := curOf (nextT st) }, wrongP (curErr (nextT st) != 0) 13 (nextP sz st))
  else if n.op = 14 then ({ n with a := dayPR (nextT st) }, dayP sz st)
  else if n.op = 17 then (if (keyP sz st).e = 0 then ({ n with a := keyN (nextT st), b := dayPR (nextT (keyP sz st)) }, dayP sz (keyP sz st)) else (n, keyP sz st))
  else (n, st)
def markOf (i : Nat) : ByteArray := if i = 0 then ⟨#[40]⟩ else ⟨#[44]⟩
def closeB : ByteArray := ⟨#[41]⟩
def kidsP (rec : Int → PS × List Nd → PS × List Nd) (sz : Int) : List Int → Nat → PS × List Nd → PS × List Nd
  | [], _, x => x
  | k :: ks, i, x => if (markP sz (markOf i) x.1).e = 0 then kidsP rec sz ks (i + 1) (rec k (markP sz (markOf i) x.1, x.2)) else (markP sz (markOf i) x.1, x.2)
/-- The first token of a term: the reader's state behind the tests. -/
def headP (sz so : Int) (m len : Nat) (st : PS) : PS :=
  wrongP (decide (64 ≤ len) || decide (m = 0)) 15 (wrongP (!nodeB (nextT st) || makes (nodeN (nextT st)).op != so) 13 (nextP sz st))
def bodyP (sz : Int) (rec : Int → PS × List Nd → PS × List Nd) (n : Nd) (y : Nd × PS) (t : List Nd) : PS × List Nd :=
  let z := kidsP rec sz (kidsL n.op) 0 (y.2, t ++ [y.1])
  if many n.op = 0 then z else (markP sz closeB z.1, z.2)
/-- A term of a sort, read; m: how many nodes may stand above one another, and one more. -/
def termP (sz : Int) : Nat → Int → PS × List Nd → PS × List Nd
  | 0, _, x => x
  | m + 1, so, x =>
    if (headP sz so m x.2.length x.1).e = 0 then bodyP sz (termP sz m) (nodeN (nextT x.1)) (behindP sz (nodeN (nextT x.1)) (headP sz so m x.2.length x.1)) x.2
    else (headP sz so m x.2.length x.1, x.2)

theorem wrongP_zero {b : Bool} {er : Int} {st : PS} (h : (wrongP b er st).e = 0) (her : er ≠ 0) : b = false ∧ st.e = 0 := by
  unfold wrongP at h
  split at h
  · exact absurd h her
  · rename_i hc
    refine ⟨?_, h⟩
    cases b
    · rfl
    · exact absurd ⟨rfl, h⟩ hc
theorem headP_zero {sz so : Int} {m len : Nat} {st : PS} (h : (headP sz so m len st).e = 0) : len < 64 ∧ m ≠ 0 ∧ nodeB (nextT st) = true ∧ makes (nodeN (nextT st)).op = so ∧ (nextP sz st).e = 0 := by
  obtain ⟨h1, h2⟩ := wrongP_zero h (by decide)
  obtain ⟨h3, h4⟩ := wrongP_zero h2 (by decide)
  simp only [Bool.or_eq_false_iff, decide_eq_false_iff_not, Bool.not_eq_false', bne_eq_false_iff_eq] at h1 h3
  exact ⟨by omega, h1.2, h3.1, h3.2, h4⟩
theorem keyP_zero {sz : Int} {st : PS} (h : (keyP sz st).e = 0) {k : Int} (hk : ∀ v, Lib.atoiAll (nextT st).data.toList = .ok v → k = v) : k = keyN (nextT st) := by
  have h1 := (wrongP_zero h (by decide)).1
  cases e : Lib.atoiAll (nextT st).data.toList with
  | ok v =>
    have : keyN (nextT st) = v := by unfold keyN; rw [e]
    rw [this]
    exact hk v e
  | _ => unfold keyFar at h1; rw [e] at h1; cases h1
theorem nextT_size {st : PS} {M : Nat} (h : ∀ t ∈ st.tk, t.2.size ≤ M) : (nextT st).size ≤ M := by
  unfold nextT
  split
  · exact Nat.zero_le _
  · rename_i t r e; exact h t (by rw [e]; exact List.mem_cons_self)
/-- The reader of what stands behind an op's word, whichever it is. -/
theorem text_behind_run {B pb nb : Nat} {sz : Int} {tv : Value} {st : PS} {n : Nd} {w0 w : World} (h : PSt B pb sz tv st w) (hn : NdAt w nb n) (hB : B ≤ nb) (hl : st.tk.length ≤ 1000000) (hz : ∀ t ∈ st.tk, t.2.size ≤ 1000000) (he : Env w0) (hw : Below w0.heap.size w0 w) (h0 : w0.heap.size ≤ pb) :
    Calls Tryz.prog (behindF n.op) #[.pointer (some ⟨pb, 0, none⟩), .pointer (some ⟨nb, 0, none⟩)] w
      (RdPost B pb nb sz tv w fun n' st' => st' = (behindP sz n st).2 ∧ n'.op = n.op ∧ (st'.e = 0 → n' = (behindP sz n st).1)) := by
  have hz' := nextT_size hz
  unfold behindF behindP
  by_cases b1 : n.op = 2 ∨ n.op = 16
  · rw [if_pos b1, if_pos b1]
    refine (text_key h hn hB hl hz' he hw h0).mono ?_
    rintro e w' ⟨rfl, n', st', ⟨⟨k, rfl, _, hk⟩, rfl⟩, hr⟩
    exact ⟨rfl, _, _, ⟨rfl, by rfl, fun hst => by rw [keyP_zero hst hk]⟩, hr⟩
  rw [if_neg b1, if_neg b1]
  by_cases b2 : n.op = 10
  · rw [if_pos b2, if_pos b2]
    refine (text_one h hn hB hl he.cur hw h0).mono ?_
    rintro e w' ⟨rfl, n', st', ⟨rfl, rfl⟩, hr⟩
    exact ⟨rfl, _, _, ⟨rfl, by rfl, fun _ => rfl⟩, hr⟩
  rw [if_neg b2, if_neg b2]
  by_cases b3 : n.op = 14
  · rw [if_pos b3, if_pos b3]
    refine (text_when h hn hB hl he.ahead hw h0).mono ?_
    rintro e w' ⟨rfl, n', st', ⟨rfl, rfl⟩, hr⟩
    exact ⟨rfl, _, _, ⟨rfl, by rfl, fun _ => rfl⟩, hr⟩
  rw [if_neg b3, if_neg b3]
  by_cases b4 : n.op = 17
  · rw [if_pos b4, if_pos b4]
    refine (text_any h hn hB hl hz' he hw h0).mono ?_
    rintro e w' ⟨rfl, n', st', ⟨k, ⟨hk1, hk2⟩, (⟨h1, rfl, rfl⟩ | ⟨h1, rfl, rfl⟩)⟩, hr⟩
    · exact ⟨rfl, _, _, ⟨by rw [if_pos h1], by rfl, fun _ => by rw [if_pos h1, keyP_zero h1 hk2]⟩, hr⟩
    · exact ⟨rfl, _, _, ⟨by rw [if_neg h1], by rfl, fun h2 => absurd h2 h1⟩, hr⟩
  rw [if_neg b4, if_neg b4]
  refine (text_none h hn).mono ?_
  rintro e w' ⟨rfl, n', st', ⟨rfl, rfl⟩, hr⟩
  exact ⟨rfl, _, _, ⟨rfl, by rfl, fun _ => rfl⟩, hr⟩

/-- Tokens that are left of others. -/
def Sub (a b : List (Nat × ByteArray)) : Prop := ∃ n, b = a.drop n
theorem Sub.refl (a : List (Nat × ByteArray)) : Sub a a := ⟨0, rfl⟩
theorem Sub.trans {a b c : List (Nat × ByteArray)} (h : Sub a b) (k : Sub b c) : Sub a c := by
  obtain ⟨n, rfl⟩ := h
  obtain ⟨m, rfl⟩ := k
  exact ⟨n + m, by rw [List.drop_drop]⟩
theorem Sub.len {a b : List (Nat × ByteArray)} (h : Sub a b) : b.length ≤ a.length := by obtain ⟨n, rfl⟩ := h; rw [List.length_drop]; omega
theorem Sub.mem {a b : List (Nat × ByteArray)} (h : Sub a b) : ∀ u ∈ b, u ∈ a := by obtain ⟨n, rfl⟩ := h; exact fun u hu => List.mem_of_mem_drop hu
theorem sub_next (sz : Int) (st : PS) : Sub st.tk (nextP sz st).tk := ⟨1, by rw [nextP_tk]; simp⟩
theorem sub_wrong (b : Bool) (er : Int) (st : PS) : Sub st.tk (wrongP b er st).tk := ⟨0, by rw [wrongP_tk]; rfl⟩
theorem sub_head (sz so : Int) (m len : Nat) (st : PS) : Sub st.tk (headP sz so m len st).tk := ((sub_next sz st).trans (sub_wrong _ _ _)).trans (sub_wrong _ _ _)
theorem sub_key (sz : Int) (st : PS) : Sub st.tk (keyP sz st).tk := ((sub_next sz st).trans (sub_wrong _ _ _)).trans (sub_wrong _ _ _)
theorem sub_day (sz : Int) (st : PS) : Sub st.tk (dayP sz st).tk := ((sub_next sz st).trans (sub_wrong _ _ _)).trans (sub_wrong _ _ _)
theorem sub_mark (sz : Int) (m : ByteArray) (st : PS) : Sub st.tk (markP sz m st).tk := by
  unfold markP
  split
  · exact (sub_next sz st).trans (sub_wrong _ _ _)
  · exact Sub.refl _
theorem sub_behind (sz : Int) (n : Nd) (st : PS) : Sub st.tk (behindP sz n st).2.tk := by
  unfold behindP
  split
  · exact sub_key sz st
  split
  · exact (sub_next sz st).trans (sub_wrong _ _ _)
  split
  · exact sub_day sz st
  split
  · split
    · exact (sub_key sz st).trans (sub_day sz _)
    · exact sub_key sz st
  exact Sub.refl _
theorem sub_kids {rec : Int → PS × List Nd → PS × List Nd} (h : ∀ k x, Sub x.1.tk (rec k x).1.tk) (sz : Int) : ∀ ks i x, Sub x.1.tk (kidsP rec sz ks i x).1.tk
  | [], _, x => Sub.refl _
  | k :: ks, i, x => by
    rw [kidsP]
    split
    · exact ((sub_mark sz _ x.1).trans (h k (_, x.2))).trans (sub_kids h sz ks (i + 1) _)
    · exact sub_mark sz _ x.1
theorem sub_term (sz : Int) : ∀ m so x, Sub x.1.tk (termP sz m so x).1.tk
  | 0, _, x => Sub.refl _
  | m + 1, so, x => by
    rw [termP]
    split
    · unfold bodyP
      have h := ((sub_head sz so m x.2.length x.1).trans (sub_behind sz (nodeN (nextT x.1)) _)).trans (sub_kids (sub_term sz m) sz (kidsL (nodeN (nextT x.1)).op) 0 ((behindP sz (nodeN (nextT x.1)) (headP sz so m x.2.length x.1)).2, x.2 ++ [(behindP sz (nodeN (nextT x.1)) (headP sz so m x.2.length x.1)).1]))
      simp only
      split
      · exact h
      · exact h.trans (sub_mark sz closeB _)
    · exact sub_head sz so m x.2.length x.1

/-- The cells of nodes. -/
def cellsNd : List Nd → List Value
  | [] => []
  | n :: t => [.int .i64 n.op, .int .i64 n.a, .int .i64 n.b, .int .i64 n.num, .int .i64 n.den] ++ cellsNd t
theorem cellsNd_append (a b : List Nd) : cellsNd (a ++ b) = cellsNd a ++ cellsNd b := by
  induction a with
  | nil => rfl
  | cons n t ih => simp only [List.cons_append, List.nil_append, cellsNd, ih]
/-- The parser's block and its nodes' may have changed. -/
structure Grown (pb : Nat) (tv : Value) (w w' : World) : Prop where
  os : w'.os = w.os
  tape : w'.tape = w.tape
  output : w'.output = w.output
  size : w.heap.size ≤ w'.heap.size
  block : ∀ k, k < w.heap.size → k ≠ pb → tv.ownBlock ≠ some k → w'.heap[k]? = w.heap[k]?
/-- The row is the one that was, or lies in a block that was not there. -/
def OwnOf (tv : Value) (w : World) (tv' : Value) : Prop := tv'.ownBlock = tv.ownBlock ∨ ∀ k, tv'.ownBlock = some k → w.heap.size ≤ k
theorem OwnOf.trans {tv tv1 tv2 : Value} {w w1 : World} (h : OwnOf tv w tv1) (k : OwnOf tv1 w1 tv2) (hs : w.heap.size ≤ w1.heap.size) : OwnOf tv w tv2 := by
  rcases k with k | k
  · rcases h with h | h
    · exact .inl (k.trans h)
    · exact .inr fun i hi => h i (by rw [← k]; exact hi)
  · exact .inr fun i hi => Nat.le_trans hs (k i hi)
theorem Grown.refl (pb : Nat) (tv : Value) (w : World) : Grown pb tv w w := ⟨rfl, rfl, rfl, Nat.le_refl _, fun _ _ _ _ => rfl⟩
theorem Grown.trans {pb : Nat} {tv tv1 : Value} {w w1 w2 : World} (h : Grown pb tv w w1) (ho : OwnOf tv w tv1) (k : Grown pb tv1 w1 w2) : Grown pb tv w w2 :=
  ⟨k.os.trans h.os, k.tape.trans h.tape, k.output.trans h.output, Nat.le_trans h.size k.size, fun i hi h1 h2 => (k.block i (Nat.lt_of_lt_of_le hi h.size) h1 (by
    rcases ho with e | e
    · rw [e]; exact h2
    · intro e'; have := e i e'; omega)).trans (h.block i hi h1 h2)⟩
theorem Grown.only {pb : Nat} {tv : Value} {w w' : World} (h : Only pb w w') : Grown pb tv w w' := ⟨h.os, h.tape, h.output, h.size, fun k hk h1 _ => h.block k hk h1⟩
theorem OwnOf.refl (tv : Value) (w : World) : OwnOf tv w tv := .inl rfl
theorem Grown.below {pb B : Nat} {tv : Value} {w w' : World} (h : Grown pb tv w w') (hB : B ≤ pb) (hs : B ≤ w.heap.size) (ho : ∀ k, tv.ownBlock = some k → B ≤ k) : Below B w w' :=
  ⟨h.os, h.tape, h.output, h.size, fun k hk => h.block k (by omega) (by omega) (fun e => by have := ho k e; omega)⟩

/-- What reading a term comes to: the state, nodes (those of the plain function, if nothing is wrong), and what may have changed. -/
structure TermQ (B pb : Nat) (sz : Int) (tv : Value) (w : World) (x : PS × List Nd) (w' : World) : Prop where
  ex : ∃ tv' t, PSt B pb sz tv' x.1 w' ∧ w'.ownsRow B 48 5 tv' t.length (cellsNd t) ∧ t.length ≤ 64 ∧ (x.1.e = 0 → t = x.2) ∧ OwnOf tv w tv'
  grown : Grown pb tv w w'
end Go.Proofs.YtokfgdpmbmnijaaGreatDoor
