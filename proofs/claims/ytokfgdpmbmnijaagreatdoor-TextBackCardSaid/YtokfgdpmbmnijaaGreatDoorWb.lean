/- What the package-level variables hold, as one word; Go's Itoa, Atoi and Cut at this translation. -/
import Derived.Test.YtokfgdpmbmnijaaGreatDoorShelf
import Derived.Test.YtokfgdpmbmnijaaGreatDoorWa
import Derived.Test.YtokfgdpmbmnijaaGreatDoorWz
import Derived.Lib.ItoaLen
import Derived.Lib.AtoiAllCases
import Derived.Lib.AppendIntMem
import Derived.WalkSmall
import Derived.Shelf.Strings.Builder1
namespace Go.Proofs.YtokfgdpmbmnijaaGreatDoor
open Go.RowKit

def wordN (k : Nat) : ByteArray :=
  match k with
  | 2 => ⟨#[102, 105, 120]⟩ | 3 => ⟨#[110, 101, 103]⟩ | 4 => ⟨#[112, 108, 117, 115]⟩ | 5 => ⟨#[109, 105, 110, 117, 115]⟩ | 6 => ⟨#[116, 105, 109, 101, 115]⟩
  | 7 => ⟨#[108, 101, 97, 115, 116]⟩ | 8 => ⟨#[109, 111, 115, 116]⟩ | 9 => ⟨#[122, 101, 114, 111]⟩ | 10 => ⟨#[111, 110, 101]⟩ | 11 => ⟨#[103, 105, 118, 101]⟩
  | 12 => ⟨#[97, 110, 100]⟩ | 13 => ⟨#[115, 99, 97, 108, 101]⟩ | 14 => ⟨#[119, 104, 101, 110]⟩ | 15 => ⟨#[99, 111, 110, 100]⟩ | 16 => ⟨#[111, 114]⟩ | 17 => ⟨#[97, 110, 121]⟩ | _ => ⟨#[]⟩

structure Env (w : World) : Prop where
  cur : CurTab w
  shape : ShapeTab w
  ahead : AheadTab w
  word : ∀ k, k < 18 → w.cell? ⟨1, k, none⟩ = some (.string (wordN k))
  pow : Lib.TabIs Tryz.prog w "internal/strconv.uint64pow10" .u64 Lib.pow10Tab
  es : ∃ te pe, w.cell? ⟨6, 0, none⟩ = some (.iface te pe)
  er : ∃ te pe, w.cell? ⟨7, 0, none⟩ = some (.iface te pe)
  ml : ∃ m, w.cell? ⟨4, 0, none⟩ = some (.int .i64 m)
  size : 16 < w.heap.size
theorem Env.below_ {w w' : World} (h : Env w) (hb : Below w.heap.size w w') : Env w' := by
  have hz := h.size
  refine ⟨h.cur.below hb, h.shape.below_ hb, h.ahead.below_ hb, fun k hk => (hb.cell (p := ⟨1, k, none⟩) (by dsimp; omega)).trans (h.word k hk), ?_, ?_, ?_, ?_, Nat.lt_of_lt_of_le hz hb.size⟩
  · exact var?_below hb (g := 5) (by kernel_rfl) (by omega) h.pow
  · obtain ⟨te, pe, e⟩ := h.es; exact ⟨te, pe, (hb.cell (p := ⟨6, 0, none⟩) (by dsimp; omega)).trans e⟩
  · obtain ⟨te, pe, e⟩ := h.er; exact ⟨te, pe, (hb.cell (p := ⟨7, 0, none⟩) (by dsimp; omega)).trans e⟩
  · obtain ⟨m, e⟩ := h.ml; exact ⟨m, (hb.cell (p := ⟨4, 0, none⟩) (by dsimp; omega)).trans e⟩

/-- A number's decimal numeral. -/
def itoaB (n : Int) : ByteArray := ⟨(Lib.itoa n).toArray⟩
theorem itoaB_size {n : Int} (h : i64ok n) : (itoaB n).size ≤ 21 := by
  have := Lib.itoa_length_le n h.1 h.2
  show (Lib.itoa n).toArray.size ≤ 21
  simpa using this
theorem go_Itoa (n : Int) (w : World) (hn : i64ok n) (he : Env w) :
    Calls Tryz.prog 104 #[.int .i64 n] w fun e w' => e = .returned (.string (itoaB n)) ∧ Below w.heap.size w w' :=
  (Tryz.strconv_Itoa n hn.1 hn.2 w he.pow).mono fun _ _ ⟨h1, k, os, h2⟩ => ⟨h1, by rw [h2]; exact Go.Lib.below_grow _ w (Nat.le_refl _) k os⟩

/-- What 'Atoi' gives: a number, or an error that is not nil. -/
def AtPost (s : ByteArray) (w : World) (e : Ending) (w' : World) : Prop :=
  (∃ v, e = .returned (.tuple #[.int .i64 v, .nilIface]) ∧ Lib.atoiAll s.data.toList = .ok v ∧ i64ok v ∧ Below w.heap.size w w') ∨
  (∃ v x, e = .returned (.tuple #[.int .i64 v, .iface 253 x]) ∧ (∀ u, Lib.atoiAll s.data.toList ≠ .ok u) ∧ i64ok v ∧ Below w.heap.size w w')
theorem atoiAll_bd {l : List UInt8} {v : Int} (h : Lib.atoiAll l = .ok v) : i64ok v := by
  unfold Lib.atoiAll at h
  split at h
  · cases h
  · simp only at h
    split at h
    · cases h
    · cases h
    · split at h
      · cases h
      · split at h
        · cases h
        · rename_i h1 h2
          injection h with h
          subst h
          unfold i64ok
          split <;> omega
theorem go_Atoi (s : ByteArray) (w : World) (hs : s.size ≤ 1099511627776) (he : Env w) : Calls Tryz.prog 151 #[.string s] w (AtPost s w) := by
  cases h : Lib.atoiAll s.data.toList with
  | ok v =>
    refine (Tryz.strconv_Atoi_ok s (by omega) v h w).mono fun e w' ⟨h1, h2⟩ => .inl ⟨v, h1, h, atoiAll_bd h, ?_⟩
    rcases h2 with rfl | ⟨t, rfl⟩
    · exact Below.refl _ _
    · exact ⟨rfl, rfl, rfl, by rw [Lib.bytesWorld_size]; omega, fun k hk => Lib.bytesWorld_at_old w _ t k hk⟩
  | range =>
    obtain ⟨te, pe, hv⟩ := he.er
    refine (Tryz.strconv_Atoi_range s (by omega) h _ w hv (.inr ⟨te, pe, rfl⟩)).mono fun e w' ⟨N, h1, _, _, h2⟩ => .inr ⟨_, _, h1, (fun u e => (by rw [h] at e; cases e)), Lib.atoiSat_bounds _, h2⟩
  | _ =>
    obtain ⟨te, pe, hv⟩ := he.es
    refine (Tryz.strconv_Atoi_syntax s (by omega) h _ w hv (.inr ⟨te, pe, rfl⟩)).mono fun e w' ⟨N, h1, _, _, h2⟩ => .inr ⟨0, _, h1, (fun u e => (by rw [h] at e; cases e)), ⟨by omega, by omega⟩, h2⟩
end Go.Proofs.YtokfgdpmbmnijaaGreatDoor
/- What chattel/ratio's Print and Parse answer. -/
namespace Go.Proofs.YtokfgdpmbmnijaaGreatDoor
open Go.RowKit

/-- A ratio's text. -/
def ratT (num den : Int) : ByteArray := if den = 1 then itoaB num else itoaB num ++ (⟨#[47]⟩ ++ itoaB den)
/-- 'Print''s text. -/
def ratPT (num den : Int) : ByteArray := if ratioErr num den = 0 then ratT num den else ⟨#[]⟩

@[go_sem] theorem mk1_size' (a : UInt8) : (ByteArray.mk #[a]).size = 1 := rfl
attribute [local go_sem] ByteArray.size_append

theorem ret_str_int {s t : ByteArray} {k : IntKind} {a b : Int} (h : s = t) (h' : a = b) : Ending.returned (.tuple #[.string s, .int k a]) = .returned (.tuple #[.string t, .int k b]) := by rw [h, h']

set_option maxHeartbeats 1000000 in
theorem ratio_Print (num den : Int) (w : World) (h1 : i64ok num) (h2 : i64ok den) (he : Env w) :
    Calls Tryz.prog 61 #[.agg #[.int .i64 num, .int .i64 den]] w fun e w' => e = .returned (.tuple #[.string (ratPT num den), .int .i64 (ratioErr num den)]) ∧ Below w.heap.size w w' := by
  have HE := Lib.hid he
  have z1 := itoaB_size h1
  have z2 := itoaB_size h2
  clear he
  by_cases h0 : ratioErr num den = 0
  · have b0 : (ratioErr num den == 0) = true := by simp [h0]
    by_cases hd : den = 1
    · subst hd
      have HR : Hid (ratPT num 1 = itoaB num) := by show _ = _; unfold ratPT ratT; rw [if_pos h0, if_pos rfl]
      have HZ := Lib.hid h0
      clear h0
      go_enter Tryz.func61, Tryz.ntmps61
      go_wp2_with fail
      refine (ratio_Check _ _ _ h1 h2).mono ?_
      rintro e w1 ⟨rfl, hb1⟩
      have c0 := new_cell hb1 0 _ rfl
      have c1 := new_cell hb1 1 _ rfl
      have hz := new_lt hb1
      have hB := below_two (below_alloc _ _) hb1
      have HE1 := Lib.hid (HE.out.below_ hB)
      rw [HZ.out]
      clear hb1
      go_wp2_with fail
      refine (go_Itoa _ _ h1 HE1.out).mono ?_
      rintro e w2 ⟨rfl, hb2⟩
      have d1 : w2.cell? ⟨w.heap.size, 1, none⟩ = some (.int .i64 1) := (hb2.cell (p := ⟨w.heap.size, 1, none⟩) hz).trans c1
      go_wp2_with fail
      go_ret2
      exact ⟨ret_str_int HR.out.symm HZ.out.symm, below_two hB hb2⟩
    · have HR : Hid (ratPT num den = itoaB num ++ (⟨#[47]⟩ ++ itoaB den)) := by show _ = _; unfold ratPT ratT; rw [if_pos h0, if_neg hd]
      have HZ := Lib.hid h0
      have hdb : (den == 1) = false := by simp [hd]
      clear h0 hd
      go_enter Tryz.func61, Tryz.ntmps61
      go_wp2_with fail
      refine (ratio_Check _ _ _ h1 h2).mono ?_
      rintro e w1 ⟨rfl, hb1⟩
      have c0 := new_cell hb1 0 _ rfl
      have c1 := new_cell hb1 1 _ rfl
      have hz := new_lt hb1
      have hB := below_two (below_alloc _ _) hb1
      have HE1 := Lib.hid (HE.out.below_ hB)
      rw [HZ.out]
      clear hb1
      go_wp2_with fail
      refine (go_Itoa _ _ h1 HE1.out).mono ?_
      rintro e w2 ⟨rfl, hb2⟩
      have d1 := (hb2.cell (p := ⟨w.heap.size, 1, none⟩) hz).trans c1
      have HE2 := Lib.hid (HE1.out.below_ hb2)
      go_wp2_with fail
      refine (go_Itoa _ _ h2 HE2.out).mono ?_
      rintro e w3 ⟨rfl, hb3⟩
      go_wp2_with fail
      go_ret2
      exact ⟨ret_str_int HR.out.symm HZ.out.symm, below_two hB (below_two hb2 hb3)⟩
  · have b0 : (ratioErr num den == 0) = false := by simp [h0]
    have HR : Hid (ratPT num den = ⟨#[]⟩) := by show _ = _; unfold ratPT; rw [if_neg h0]
    clear h0
    go_enter Tryz.func61, Tryz.ntmps61
    go_wp2_with (go_at_call 105; refine (ratio_Check _ _ _ h1 h2).mono ?_; rintro e w1 ⟨rfl, hb1⟩)
    go_ret2
    exact ⟨ret_str_int HR.out.symm rfl, below_two (below_alloc _ _) hb1⟩

/-- The text ahead of the first '/', the one behind it, and whether there is one. -/
def cutN (s : ByteArray) : ByteArray := ⟨(Lib.cut s.data.toList [47]).1.toArray⟩
def cutD (s : ByteArray) : ByteArray := ⟨(Lib.cut s.data.toList [47]).2.1.toArray⟩
def cutIs (s : ByteArray) : Bool := (Lib.cut s.data.toList [47]).2.2
def denT (s : ByteArray) : ByteArray := if cutIs s then cutD s else ⟨#[49]⟩
/-- The ratio that a text is, if it is one. -/
def ratIs (s : ByteArray) (n d : Int) : Prop := Lib.atoiAll (cutN s).data.toList = .ok n ∧ Lib.atoiAll (denT s).data.toList = .ok d ∧ ratioErr n d = 0 ∧ (ratT n d).toList = s.toList
theorem ratIs_one {s : ByteArray} {n d m e : Int} (h : ratIs s n d) (k : ratIs s m e) : n = m ∧ d = e := by
  obtain ⟨h1, h2, _⟩ := h
  obtain ⟨k1, k2, _⟩ := k
  rw [h1] at k1
  rw [h2] at k2
  injection k1 with k1
  injection k2 with k2
  exact ⟨k1, k2⟩
theorem ratIs_num {s : ByteArray} {n d m e : Int} (h1 : Lib.atoiAll (cutN s).data.toList = .ok n) (h2 : Lib.atoiAll (denT s).data.toList = .ok d) (k : ratIs s m e) : n = m ∧ d = e := by
  obtain ⟨k1, k2, _⟩ := k
  rw [h1] at k1
  rw [h2] at k2
  injection k1 with k1
  injection k2 with k2
  exact ⟨k1, k2⟩
theorem cell_of_blk {W : World} {b : Nat} {cs : Array Value} {t : TypeId} {fr : Nat × Nat} (h : W.heap[b]? = some (.cells cs t fr)) (i : Nat) (v : Value) (hv : cs[i]? = some v) : W.cell? ⟨b, i, none⟩ = some v := by
  simp only [World.cell?, h, hv]
  rfl
theorem free_of_blk {W : World} {b : Nat} {cs : Array Value} {t : TypeId} (h : W.heap[b]? = some (.cells cs t)) (i : Nat) : W.frozen? ⟨b, i, none⟩ = false := by
  simp only [World.frozen?, h]
  simp
def RatPost (s : ByteArray) (w : World) (e : Ending) (w' : World) : Prop :=
  ((∃ n d, e = .returned (.tuple #[.agg #[.int .i64 n, .int .i64 d], .int .i64 0]) ∧ ratIs s n d) ∨ (e = .returned (.tuple #[.agg #[.int .i64 0, .int .i64 0], .int .i64 13]) ∧ ∀ n d, ¬ ratIs s n d)) ∧ Below w.heap.size w w'

theorem cut_len (l sep : List UInt8) : (Lib.cut l sep).1.length ≤ l.length ∧ (Lib.cut l sep).2.1.length ≤ l.length := by
  unfold Lib.cut
  split
  · simp only [List.length_take, List.length_drop]; omega
  · simp
theorem cutN_size (s : ByteArray) : (cutN s).size ≤ s.size := by
  have := (cut_len s.data.toList [47]).1
  show (Lib.cut s.data.toList [47]).1.toArray.size ≤ s.data.size
  simpa using this
theorem cutD_size (s : ByteArray) : (cutD s).size ≤ s.size := by
  have := (cut_len s.data.toList [47]).2
  show (Lib.cut s.data.toList [47]).2.1.toArray.size ≤ s.data.size
  simpa using this
theorem go_Cut (s : ByteArray) (w : World) (hs : s.size ≤ 1000000) (he : Env w) :
    Calls Tryz.prog 150 #[.string s, .string ⟨#[47]⟩] w fun e w' => e = .returned (.tuple #[.string (cutN s), .string (cutD s), .bool (cutIs s)]) ∧ Below w.heap.size w w' := by
  obtain ⟨m, hm⟩ := he.ml
  exact (Tryz.strings_Cut s ⟨#[47]⟩ m w (by omega) hm).mono fun e w' ⟨h1, n, h2⟩ => ⟨h1, by rw [h2]; exact below_drewN (Below.refl _ _) n⟩

/-- What is left of 'Parse' behind the two numbers: the box of the answer, and what it is. -/
def ratEnd (s : ByteArray) (n d : Int) : Prop := ratioErr n d = 0 ∧ (ratPT n d).toList = s.toList

set_option maxRecDepth 20000 in
set_option maxHeartbeats 4000000 in
theorem ratio_Parse (s : ByteArray) (w : World) (hs : s.size ≤ 1000000) (he : Env w) :
    Calls Tryz.prog 132 #[.string s] w (RatPost s w) := by
  have HE := Lib.hid he
  clear he
  have z1 := cutN_size s
  have z2 := cutD_size s
  go_enter Tryz.func132, Tryz.ntmps132
  go_wp2_with fail
  refine (go_Cut s _ hs (HE.out.below_ (below_alloc _ _))).mono ?_
  rintro e w1 ⟨rfl, hb1⟩
  have r0 := new_cell hb1 0 _ rfl
  have r1 := new_cell hb1 1 _ rfl
  have q0 := new_free hb1 0
  have q1 := new_free hb1 1
  have hz1 := new_lt hb1
  have hB1 := below_two (below_alloc w (.cells #[.int .i64 0, .int .i64 0] 46)) hb1
  have HE1 := Lib.hid (HE.out.below_ hB1)
  have blk1 : w1.heap[w.heap.size]? = some (.cells #[.int .i64 0, .int .i64 0] 46) := (hb1.block w.heap.size (by simp)).trans (by show (w.heap.push _)[w.heap.size]? = _; simp)
  clear hb1 r0 r1 q0 q1
  cases hc : cutIs s
  · have HD : Hid (denT s = (⟨#[49]⟩ : ByteArray)) := by show _ = _; unfold denT; rw [hc]; rfl
    have HC := Lib.hid hc
    clear hc
    go_wp2_with fail
    refine (go_Atoi _ _ (by omega) HE1.out).mono ?_
    rintro e w2 (⟨n, rfl, ha, hn, hb2⟩ | ⟨n, x, rfl, ha, hn, hb2⟩)
    · have HA := Lib.hid ha
      have HE2 := Lib.hid (HE1.out.below_ hb2)
      clear ha
      go_wp2_with fail
      refine (go_Atoi _ _ (by decide) HE2.out).mono ?_
      rintro e w3 (⟨d, rfl, hx, hd, hb3⟩ | ⟨d, y, rfl, hx, hd, hb3⟩)
      · have HX : Hid (Lib.atoiAll (denT s).data.toList = .ok d) := by show _ = _; rw [HD.out]; exact hx
        clear hx
        have B3 := below_two hB1 (below_two hb2 hb3)
        have HE3 := Lib.hid (HE.out.below_ B3)
        have blk3 := (hb3.block w.heap.size (Nat.lt_of_lt_of_le hz1 hb2.size)).trans ((hb2.block w.heap.size hz1).trans blk1)
        have hz3 : w.heap.size < w3.heap.size := Nat.lt_of_lt_of_le hz1 (Nat.le_trans hb2.size hb3.size)
        clear hb2 hb3
        go_wp2_with fail
        refine (ratio_Print _ _ _ (by assumption) (by assumption) (HE3.out.below_ (below_alloc _ _))).mono ?_
        rintro e w4 ⟨rfl, hb4⟩
        have o0 := new_cell hb4 0 _ rfl
        have o1 := new_cell hb4 1 _ rfl
        have hz4 := new_lt hb4
        have hb5 := below_two (below_alloc w3 _) hb4
        have blk4 := (hb5.block w.heap.size hz3).trans blk3
        have B4 := below_two B3 hb5
        have r0 := cell_of_blk blk4 0 _ rfl
        have r1 := cell_of_blk blk4 1 _ rfl
        have q0 := free_of_blk blk4 0
        have q1 := free_of_blk blk4 1
        have hzz : w.heap.size < w4.heap.size := Nat.lt_of_lt_of_le hz3 hb5.size
        clear hb4 hb5 blk1 blk3 blk4 hz4
        by_cases he0 : ratioErr n d = 0
        case neg =>
          have b0 : (ratioErr n d == 0) = false := by simp [he0]
          have HNO : Hid (∀ m e, ¬ ratIs s m e) := fun m e hr => he0 (by have := ratIs_num HA.out HX.out hr; rw [this.1, this.2]; exact hr.2.2.1)
          go_wp2_with fail
          refine bodyPost_ret (v := .tuple #[.agg #[.int .i64 0, .int .i64 0], .int .i64 13]) (by simp [results, Tryz.results132, go_sem, r0, r1]) rfl ⟨.inr ⟨rfl, HNO.out⟩, ?_⟩
          repeat (first | exact B4 | apply below_set)
        have b0 : (ratioErr n d == 0) = true := by simp [he0]
        cases ht : ((ratPT n d).toList == s.toList)
        case false =>
          have HNO : Hid (∀ m e, ¬ ratIs s m e) := fun m e hr => by
            have h1 := ratIs_num HA.out HX.out hr
            have h2 := hr.2.2.2
            rw [← h1.1, ← h1.2] at h2
            rw [show ratPT n d = ratT n d from if_pos he0] at ht
            rw [h2] at ht
            simp at ht
          have HT := Lib.hid ht
          have ht' : (!((ratPT n d).toList == s.toList)) = true := by rw [ht]; rfl
          clear ht
          go_wp2_with fail
          refine bodyPost_ret (v := .tuple #[.agg #[.int .i64 0, .int .i64 0], .int .i64 13]) (by simp [results, Tryz.results132, go_sem, r0, r1]) rfl ⟨.inr ⟨rfl, HNO.out⟩, ?_⟩
          repeat (first | exact B4 | apply below_set)
        have HYES : Hid (ratIs s n d) := ⟨HA.out, HX.out, he0, by rw [show ratPT n d = ratT n d from if_pos he0] at ht; exact eq_of_beq ht⟩
        have ht' : (!((ratPT n d).toList == s.toList)) = false := by rw [ht]; rfl
        clear ht
        go_wp2_with fail
        refine bodyPost_ret (v := .tuple #[.agg #[.int .i64 n, .int .i64 d], .int .i64 0]) (by simp [results, Tryz.results132, go_sem, r0, r1]) rfl ⟨.inl ⟨n, d, rfl, HYES.out⟩, ?_⟩
        repeat (first | exact B4 | apply below_set)
      · have HNO : Hid (∀ m e, ¬ ratIs s m e) := fun m e hr => hx e (by have := hr.2.1; rwa [HD.out] at this)
        clear hx
        have B3 := below_two hB1 (below_two hb2 hb3)
        have HE3 := Lib.hid (HE.out.below_ B3)
        have blk3 := (hb3.block w.heap.size (Nat.lt_of_lt_of_le hz1 hb2.size)).trans ((hb2.block w.heap.size hz1).trans blk1)
        have hz3 : w.heap.size < w3.heap.size := Nat.lt_of_lt_of_le hz1 (Nat.le_trans hb2.size hb3.size)
        clear hb2 hb3
        go_wp2_with fail
        refine (ratio_Print _ _ _ (by assumption) (by assumption) (HE3.out.below_ (below_alloc _ _))).mono ?_
        rintro e w4 ⟨rfl, hb4⟩
        have o0 := new_cell hb4 0 _ rfl
        have o1 := new_cell hb4 1 _ rfl
        have hz4 := new_lt hb4
        have hb5 := below_two (below_alloc w3 _) hb4
        have blk4 := (hb5.block w.heap.size hz3).trans blk3
        have B4 := below_two B3 hb5
        have r0 := cell_of_blk blk4 0 _ rfl
        have r1 := cell_of_blk blk4 1 _ rfl
        have q0 := free_of_blk blk4 0
        have q1 := free_of_blk blk4 1
        have hzz : w.heap.size < w4.heap.size := Nat.lt_of_lt_of_le hz3 hb5.size
        clear hb4 hb5 blk1 blk3 blk4 hz4
        go_wp2_with fail
        refine bodyPost_ret (v := .tuple #[.agg #[.int .i64 0, .int .i64 0], .int .i64 13]) (by simp [results, Tryz.results132, go_sem, r0, r1]) rfl ⟨.inr ⟨rfl, HNO.out⟩, ?_⟩
        repeat (first | exact B4 | apply below_set)
    · have HA := Lib.hid ha
      have HE2 := Lib.hid (HE1.out.below_ hb2)
      clear ha
      go_wp2_with fail
      refine (go_Atoi _ _ (by decide) HE2.out).mono ?_
      rintro e w3 (⟨d, rfl, hx, hd, hb3⟩ | ⟨d, y, rfl, hx, hd, hb3⟩)
      · have HNO : Hid (∀ m e, ¬ ratIs s m e) := fun m e hr => HA.out m hr.1
        clear hx
        have B3 := below_two hB1 (below_two hb2 hb3)
        have HE3 := Lib.hid (HE.out.below_ B3)
        have blk3 := (hb3.block w.heap.size (Nat.lt_of_lt_of_le hz1 hb2.size)).trans ((hb2.block w.heap.size hz1).trans blk1)
        have hz3 : w.heap.size < w3.heap.size := Nat.lt_of_lt_of_le hz1 (Nat.le_trans hb2.size hb3.size)
        clear hb2 hb3
        go_wp2_with fail
        refine (ratio_Print _ _ _ (by assumption) (by assumption) (HE3.out.below_ (below_alloc _ _))).mono ?_
        rintro e w4 ⟨rfl, hb4⟩
        have o0 := new_cell hb4 0 _ rfl
        have o1 := new_cell hb4 1 _ rfl
        have hz4 := new_lt hb4
        have hb5 := below_two (below_alloc w3 _) hb4
        have blk4 := (hb5.block w.heap.size hz3).trans blk3
        have B4 := below_two B3 hb5
        have r0 := cell_of_blk blk4 0 _ rfl
        have r1 := cell_of_blk blk4 1 _ rfl
        have q0 := free_of_blk blk4 0
        have q1 := free_of_blk blk4 1
        have hzz : w.heap.size < w4.heap.size := Nat.lt_of_lt_of_le hz3 hb5.size
        clear hb4 hb5 blk1 blk3 blk4 hz4
        go_wp2_with fail
        refine bodyPost_ret (v := .tuple #[.agg #[.int .i64 0, .int .i64 0], .int .i64 13]) (by simp [results, Tryz.results132, go_sem, r0, r1]) rfl ⟨.inr ⟨rfl, HNO.out⟩, ?_⟩
        repeat (first | exact B4 | apply below_set)
      · have HNO : Hid (∀ m e, ¬ ratIs s m e) := fun m e hr => HA.out m hr.1
        clear hx
        have B3 := below_two hB1 (below_two hb2 hb3)
        have HE3 := Lib.hid (HE.out.below_ B3)
        have blk3 := (hb3.block w.heap.size (Nat.lt_of_lt_of_le hz1 hb2.size)).trans ((hb2.block w.heap.size hz1).trans blk1)
        have hz3 : w.heap.size < w3.heap.size := Nat.lt_of_lt_of_le hz1 (Nat.le_trans hb2.size hb3.size)
        clear hb2 hb3
        go_wp2_with fail
        refine (ratio_Print _ _ _ (by assumption) (by assumption) (HE3.out.below_ (below_alloc _ _))).mono ?_
        rintro e w4 ⟨rfl, hb4⟩
        have o0 := new_cell hb4 0 _ rfl
        have o1 := new_cell hb4 1 _ rfl
        have hz4 := new_lt hb4
        have hb5 := below_two (below_alloc w3 _) hb4
        have blk4 := (hb5.block w.heap.size hz3).trans blk3
        have B4 := below_two B3 hb5
        have r0 := cell_of_blk blk4 0 _ rfl
        have r1 := cell_of_blk blk4 1 _ rfl
        have q0 := free_of_blk blk4 0
        have q1 := free_of_blk blk4 1
        have hzz : w.heap.size < w4.heap.size := Nat.lt_of_lt_of_le hz3 hb5.size
        clear hb4 hb5 blk1 blk3 blk4 hz4
        go_wp2_with fail
        refine bodyPost_ret (v := .tuple #[.agg #[.int .i64 0, .int .i64 0], .int .i64 13]) (by simp [results, Tryz.results132, go_sem, r0, r1]) rfl ⟨.inr ⟨rfl, HNO.out⟩, ?_⟩
        repeat (first | exact B4 | apply below_set)
  · have HD : Hid (denT s = cutD s) := by show _ = _; unfold denT; rw [hc]; rfl
    have HC := Lib.hid hc
    clear hc
    go_wp2_with fail
    refine (go_Atoi _ _ (by omega) HE1.out).mono ?_
    rintro e w2 (⟨n, rfl, ha, hn, hb2⟩ | ⟨n, x, rfl, ha, hn, hb2⟩)
    · have HA := Lib.hid ha
      have HE2 := Lib.hid (HE1.out.below_ hb2)
      clear ha
      go_wp2_with fail
      refine (go_Atoi _ _ (by omega) HE2.out).mono ?_
      rintro e w3 (⟨d, rfl, hx, hd, hb3⟩ | ⟨d, y, rfl, hx, hd, hb3⟩)
      · have HX : Hid (Lib.atoiAll (denT s).data.toList = .ok d) := by show _ = _; rw [HD.out]; exact hx
        clear hx
        have B3 := below_two hB1 (below_two hb2 hb3)
        have HE3 := Lib.hid (HE.out.below_ B3)
        have blk3 := (hb3.block w.heap.size (Nat.lt_of_lt_of_le hz1 hb2.size)).trans ((hb2.block w.heap.size hz1).trans blk1)
        have hz3 : w.heap.size < w3.heap.size := Nat.lt_of_lt_of_le hz1 (Nat.le_trans hb2.size hb3.size)
        clear hb2 hb3
        go_wp2_with fail
        refine (ratio_Print _ _ _ (by assumption) (by assumption) (HE3.out.below_ (below_alloc _ _))).mono ?_
        rintro e w4 ⟨rfl, hb4⟩
        have o0 := new_cell hb4 0 _ rfl
        have o1 := new_cell hb4 1 _ rfl
        have hz4 := new_lt hb4
        have hb5 := below_two (below_alloc w3 _) hb4
        have blk4 := (hb5.block w.heap.size hz3).trans blk3
        have B4 := below_two B3 hb5
        have r0 := cell_of_blk blk4 0 _ rfl
        have r1 := cell_of_blk blk4 1 _ rfl
        have q0 := free_of_blk blk4 0
        have q1 := free_of_blk blk4 1
        have hzz : w.heap.size < w4.heap.size := Nat.lt_of_lt_of_le hz3 hb5.size
        clear hb4 hb5 blk1 blk3 blk4 hz4
        by_cases he0 : ratioErr n d = 0
        case neg =>
          have b0 : (ratioErr n d == 0) = false := by simp [he0]
          have HNO : Hid (∀ m e, ¬ ratIs s m e) := fun m e hr => he0 (by have := ratIs_num HA.out HX.out hr; rw [this.1, this.2]; exact hr.2.2.1)
          go_wp2_with fail
          refine bodyPost_ret (v := .tuple #[.agg #[.int .i64 0, .int .i64 0], .int .i64 13]) (by simp [results, Tryz.results132, go_sem, r0, r1]) rfl ⟨.inr ⟨rfl, HNO.out⟩, ?_⟩
          repeat (first | exact B4 | apply below_set)
        have b0 : (ratioErr n d == 0) = true := by simp [he0]
        cases ht : ((ratPT n d).toList == s.toList)
        case false =>
          have HNO : Hid (∀ m e, ¬ ratIs s m e) := fun m e hr => by
            have h1 := ratIs_num HA.out HX.out hr
            have h2 := hr.2.2.2
            rw [← h1.1, ← h1.2] at h2
            rw [show ratPT n d = ratT n d from if_pos he0] at ht
            rw [h2] at ht
            simp at ht
          have HT := Lib.hid ht
          have ht' : (!((ratPT n d).toList == s.toList)) = true := by rw [ht]; rfl
          clear ht
          go_wp2_with fail
          refine bodyPost_ret (v := .tuple #[.agg #[.int .i64 0, .int .i64 0], .int .i64 13]) (by simp [results, Tryz.results132, go_sem, r0, r1]) rfl ⟨.inr ⟨rfl, HNO.out⟩, ?_⟩
          repeat (first | exact B4 | apply below_set)
        have HYES : Hid (ratIs s n d) := ⟨HA.out, HX.out, he0, by rw [show ratPT n d = ratT n d from if_pos he0] at ht; exact eq_of_beq ht⟩
        have ht' : (!((ratPT n d).toList == s.toList)) = false := by rw [ht]; rfl
        clear ht
        go_wp2_with fail
        refine bodyPost_ret (v := .tuple #[.agg #[.int .i64 n, .int .i64 d], .int .i64 0]) (by simp [results, Tryz.results132, go_sem, r0, r1]) rfl ⟨.inl ⟨n, d, rfl, HYES.out⟩, ?_⟩
        repeat (first | exact B4 | apply below_set)
      · have HNO : Hid (∀ m e, ¬ ratIs s m e) := fun m e hr => hx e (by have := hr.2.1; rwa [HD.out] at this)
        clear hx
        have B3 := below_two hB1 (below_two hb2 hb3)
        have HE3 := Lib.hid (HE.out.below_ B3)
        have blk3 := (hb3.block w.heap.size (Nat.lt_of_lt_of_le hz1 hb2.size)).trans ((hb2.block w.heap.size hz1).trans blk1)
        have hz3 : w.heap.size < w3.heap.size := Nat.lt_of_lt_of_le hz1 (Nat.le_trans hb2.size hb3.size)
        clear hb2 hb3
        go_wp2_with fail
        refine (ratio_Print _ _ _ (by assumption) (by assumption) (HE3.out.below_ (below_alloc _ _))).mono ?_
        rintro e w4 ⟨rfl, hb4⟩
        have o0 := new_cell hb4 0 _ rfl
        have o1 := new_cell hb4 1 _ rfl
        have hz4 := new_lt hb4
        have hb5 := below_two (below_alloc w3 _) hb4
        have blk4 := (hb5.block w.heap.size hz3).trans blk3
        have B4 := below_two B3 hb5
        have r0 := cell_of_blk blk4 0 _ rfl
        have r1 := cell_of_blk blk4 1 _ rfl
        have q0 := free_of_blk blk4 0
        have q1 := free_of_blk blk4 1
        have hzz : w.heap.size < w4.heap.size := Nat.lt_of_lt_of_le hz3 hb5.size
        clear hb4 hb5 blk1 blk3 blk4 hz4
        go_wp2_with fail
        refine bodyPost_ret (v := .tuple #[.agg #[.int .i64 0, .int .i64 0], .int .i64 13]) (by simp [results, Tryz.results132, go_sem, r0, r1]) rfl ⟨.inr ⟨rfl, HNO.out⟩, ?_⟩
        repeat (first | exact B4 | apply below_set)
    · have HA := Lib.hid ha
      have HE2 := Lib.hid (HE1.out.below_ hb2)
      clear ha
      go_wp2_with fail
      refine (go_Atoi _ _ (by omega) HE2.out).mono ?_
      rintro e w3 (⟨d, rfl, hx, hd, hb3⟩ | ⟨d, y, rfl, hx, hd, hb3⟩)
      · have HNO : Hid (∀ m e, ¬ ratIs s m e) := fun m e hr => HA.out m hr.1
        clear hx
        have B3 := below_two hB1 (below_two hb2 hb3)
        have HE3 := Lib.hid (HE.out.below_ B3)
        have blk3 := (hb3.block w.heap.size (Nat.lt_of_lt_of_le hz1 hb2.size)).trans ((hb2.block w.heap.size hz1).trans blk1)
        have hz3 : w.heap.size < w3.heap.size := Nat.lt_of_lt_of_le hz1 (Nat.le_trans hb2.size hb3.size)
        clear hb2 hb3
        go_wp2_with fail
        refine (ratio_Print _ _ _ (by assumption) (by assumption) (HE3.out.below_ (below_alloc _ _))).mono ?_
        rintro e w4 ⟨rfl, hb4⟩
        have o0 := new_cell hb4 0 _ rfl
        have o1 := new_cell hb4 1 _ rfl
        have hz4 := new_lt hb4
        have hb5 := below_two (below_alloc w3 _) hb4
        have blk4 := (hb5.block w.heap.size hz3).trans blk3
        have B4 := below_two B3 hb5
        have r0 := cell_of_blk blk4 0 _ rfl
        have r1 := cell_of_blk blk4 1 _ rfl
        have q0 := free_of_blk blk4 0
        have q1 := free_of_blk blk4 1
        have hzz : w.heap.size < w4.heap.size := Nat.lt_of_lt_of_le hz3 hb5.size
        clear hb4 hb5 blk1 blk3 blk4 hz4
        go_wp2_with fail
        refine bodyPost_ret (v := .tuple #[.agg #[.int .i64 0, .int .i64 0], .int .i64 13]) (by simp [results, Tryz.results132, go_sem, r0, r1]) rfl ⟨.inr ⟨rfl, HNO.out⟩, ?_⟩
        repeat (first | exact B4 | apply below_set)
      · have HNO : Hid (∀ m e, ¬ ratIs s m e) := fun m e hr => HA.out m hr.1
        clear hx
        have B3 := below_two hB1 (below_two hb2 hb3)
        have HE3 := Lib.hid (HE.out.below_ B3)
        have blk3 := (hb3.block w.heap.size (Nat.lt_of_lt_of_le hz1 hb2.size)).trans ((hb2.block w.heap.size hz1).trans blk1)
        have hz3 : w.heap.size < w3.heap.size := Nat.lt_of_lt_of_le hz1 (Nat.le_trans hb2.size hb3.size)
        clear hb2 hb3
        go_wp2_with fail
        refine (ratio_Print _ _ _ (by assumption) (by assumption) (HE3.out.below_ (below_alloc _ _))).mono ?_
        rintro e w4 ⟨rfl, hb4⟩
        have o0 := new_cell hb4 0 _ rfl
        have o1 := new_cell hb4 1 _ rfl
        have hz4 := new_lt hb4
        have hb5 := below_two (below_alloc w3 _) hb4
        have blk4 := (hb5.block w.heap.size hz3).trans blk3
        have B4 := below_two B3 hb5
        have r0 := cell_of_blk blk4 0 _ rfl
        have r1 := cell_of_blk blk4 1 _ rfl
        have q0 := free_of_blk blk4 0
        have q1 := free_of_blk blk4 1
        have hzz : w.heap.size < w4.heap.size := Nat.lt_of_lt_of_le hz3 hb5.size
        clear hb4 hb5 blk1 blk3 blk4 hz4
        go_wp2_with fail
        refine bodyPost_ret (v := .tuple #[.agg #[.int .i64 0, .int .i64 0], .int .i64 13]) (by simp [results, Tryz.results132, go_sem, r0, r1]) rfl ⟨.inr ⟨rfl, HNO.out⟩, ?_⟩
        repeat (first | exact B4 | apply below_set)
end Go.Proofs.YtokfgdpmbmnijaaGreatDoor
/- text.day, text.own. -/
namespace Go.Proofs.YtokfgdpmbmnijaaGreatDoor
open Go.RowKit
attribute [local go_sem] ByteArray.size_append

theorem text_day (n : Int) (w : World) (h1 : 0 ≤ n) (h2 : n ≤ 73048) (ht : AheadTab w) :
    Calls Tryz.prog 127 #[.int .i64 n] w fun e w' => e = .returned (.string (dayT n)) ∧ Below w.heap.size w w' := by
  have hd := ofD_bd h1 h2
  have HT := Lib.hid ht
  clear ht
  go_enter Tryz.func127, Tryz.ntmps127
  go_wp2_with (go_at_call 158; refine (days_Print _ _ h1 h2 (by omega) (by omega) HT.out).mono ?_; rintro e w1 ⟨rfl, hb1⟩)
  go_ret
  exact ⟨rfl, hb1⟩
theorem dayT_size (n : Int) : (dayT n).size = 10 := by
  unfold dayT
  simp only [ByteArray.size_append, digs2_size, digs4_size]
  rfl
def sp : ByteArray := ⟨#[32]⟩
theorem sp_size : sp.size = 1 := rfl
/-- What stands behind an op's word. -/
def restT (n : Nd) : ByteArray :=
  if n.op = 2 ∨ n.op = 16 then sp ++ itoaB n.a else if n.op = 10 then sp ++ curName n.a.toNat else if n.op = 14 then sp ++ dayT n.a
  else if n.op = 17 then sp ++ itoaB n.a ++ sp ++ dayT n.b else ⟨#[]⟩
/-- A node's own text. -/
def ownT (n : Nd) : ByteArray := if n.op = 1 then ratPT n.num n.den else wordN n.op.toNat ++ restT n
theorem wordN_size (k : Nat) : (wordN k).size ≤ 5 := by unfold wordN; split <;> decide
theorem curName_size (k : Nat) : (curName k).size ≤ 3 := by unfold curName; split <;> decide
theorem fits_bd {la lb : Int} {n : Nd} (h : fitsB la lb n = true) : 0 ≤ n.a ∧ n.a ≤ la ∧ 0 ≤ n.b ∧ n.b ≤ lb := by
  simp only [fitsB, Bool.and_eq_true, decide_eq_true_eq] at h
  omega

set_option maxHeartbeats 1000000 in
theorem text_own_1 (a b num den : Int) (w : World) (h1 : i64ok num) (h2 : i64ok den) (he : Env w) :
    Calls Tryz.prog 75 #[.agg #[.int .i64 1, .int .i64 a, .int .i64 b, .int .i64 num, .int .i64 den]] w fun e w' => e = .returned (.string (ownT ⟨1, a, b, num, den⟩)) ∧ Below w.heap.size w w' := by
  have hz := he.size
  have HC := Lib.hid he.cur
  have HE := Lib.hid (he.below_ (below_alloc w (.cells #[.int .i64 1, .int .i64 a, .int .i64 b, .int .i64 num, .int .i64 den] 48)))
  have hw : (w.alloc (.cells #[.int .i64 1, .int .i64 a, .int .i64 b, .int .i64 num, .int .i64 den] 48)).cell? ⟨1, 1, none⟩ = some (.string (wordN 1)) := HE.out.word _ (by omega)
  have hws := wordN_size 1
  generalize hwn : wordN 1 = wd at hw hws
  have HW := Lib.hid hwn
  clear he hwn
  have HR : Hid (ownT ⟨1, a, b, num, den⟩ = ratPT num den) := rfl
  go_enter Tryz.func75, Tryz.ntmps75
  go_wp2_with (go_at_call 61; refine (ratio_Print _ _ _ h1 h2 HE.out).mono ?_; rintro e w1 ⟨rfl, hb1⟩)
  go_ret
  exact ⟨by rw [HR.out]; rfl, below_two (below_alloc _ _) hb1⟩
set_option maxHeartbeats 1000000 in
theorem text_own_2 (a b num den : Int) (w : World) (h1 : i64ok a) (he : Env w) :
    Calls Tryz.prog 75 #[.agg #[.int .i64 2, .int .i64 a, .int .i64 b, .int .i64 num, .int .i64 den]] w fun e w' => e = .returned (.string (ownT ⟨2, a, b, num, den⟩)) ∧ Below w.heap.size w w' := by
  have hz := he.size
  have HC := Lib.hid he.cur
  have HE := Lib.hid (he.below_ (below_alloc w (.cells #[.int .i64 2, .int .i64 a, .int .i64 b, .int .i64 num, .int .i64 den] 48)))
  have hw : (w.alloc (.cells #[.int .i64 2, .int .i64 a, .int .i64 b, .int .i64 num, .int .i64 den] 48)).cell? ⟨1, 2, none⟩ = some (.string (wordN 2)) := HE.out.word _ (by omega)
  have hws := wordN_size 2
  generalize hwn : wordN 2 = wd at hw hws
  have HW := Lib.hid hwn
  clear he hwn
  have z1 := itoaB_size h1
  have HR : Hid (ownT ⟨2, a, b, num, den⟩ = wordN 2 ++ (sp ++ itoaB a)) := rfl
  go_enter Tryz.func75, Tryz.ntmps75
  go_wp2_with (go_at_call 104; refine (go_Itoa _ _ h1 HE.out).mono ?_; rintro e w1 ⟨rfl, hb1⟩)
  go_ret
  refine ⟨?_, below_two (below_alloc _ _) hb1⟩
  rw [HR.out, HW.out]
  rfl
set_option maxHeartbeats 1000000 in
theorem text_own_16 (a b num den : Int) (w : World) (h1 : i64ok a) (he : Env w) :
    Calls Tryz.prog 75 #[.agg #[.int .i64 16, .int .i64 a, .int .i64 b, .int .i64 num, .int .i64 den]] w fun e w' => e = .returned (.string (ownT ⟨16, a, b, num, den⟩)) ∧ Below w.heap.size w w' := by
  have hz := he.size
  have HC := Lib.hid he.cur
  have HE := Lib.hid (he.below_ (below_alloc w (.cells #[.int .i64 16, .int .i64 a, .int .i64 b, .int .i64 num, .int .i64 den] 48)))
  have hw : (w.alloc (.cells #[.int .i64 16, .int .i64 a, .int .i64 b, .int .i64 num, .int .i64 den] 48)).cell? ⟨1, 16, none⟩ = some (.string (wordN 16)) := HE.out.word _ (by omega)
  have hws := wordN_size 16
  generalize hwn : wordN 16 = wd at hw hws
  have HW := Lib.hid hwn
  clear he hwn
  have z1 := itoaB_size h1
  have HR : Hid (ownT ⟨16, a, b, num, den⟩ = wordN 16 ++ (sp ++ itoaB a)) := rfl
  go_enter Tryz.func75, Tryz.ntmps75
  go_wp2_with (go_at_call 104; refine (go_Itoa _ _ h1 HE.out).mono ?_; rintro e w1 ⟨rfl, hb1⟩)
  go_ret
  refine ⟨?_, below_two (below_alloc _ _) hb1⟩
  rw [HR.out, HW.out]
  rfl
set_option maxHeartbeats 1000000 in
theorem text_own_10 (a b num den : Int) (w : World) (h1 : 0 ≤ a) (h2 : a < 8) (he : Env w) :
    Calls Tryz.prog 75 #[.agg #[.int .i64 10, .int .i64 a, .int .i64 b, .int .i64 num, .int .i64 den]] w fun e w' => e = .returned (.string (ownT ⟨10, a, b, num, den⟩)) ∧ Below w.heap.size w w' := by
  have hz := he.size
  have HC := Lib.hid he.cur
  have HE := Lib.hid (he.below_ (below_alloc w (.cells #[.int .i64 10, .int .i64 a, .int .i64 b, .int .i64 num, .int .i64 den] 48)))
  have hw : (w.alloc (.cells #[.int .i64 10, .int .i64 a, .int .i64 b, .int .i64 num, .int .i64 den] 48)).cell? ⟨1, 10, none⟩ = some (.string (wordN 10)) := HE.out.word _ (by omega)
  have hws := wordN_size 10
  generalize hwn : wordN 10 = wd at hw hws
  have HW := Lib.hid hwn
  clear he hwn
  have z1 := curName_size a.toNat
  have HR : Hid (ownT ⟨10, a, b, num, den⟩ = wordN 10 ++ (sp ++ curName a.toNat)) := rfl
  go_enter Tryz.func75, Tryz.ntmps75
  go_wp2_with (go_at_call 126; refine (cash_Name _ _ h1 h2 HE.out.cur).mono ?_; rintro e w1 ⟨rfl, rfl⟩)
  go_ret
  refine ⟨?_, (below_alloc _ _)⟩
  rw [HR.out, HW.out]
  rfl
set_option maxHeartbeats 1000000 in
theorem text_own_14 (a b num den : Int) (w : World) (h1 : 0 ≤ a) (h2 : a ≤ 73048) (he : Env w) :
    Calls Tryz.prog 75 #[.agg #[.int .i64 14, .int .i64 a, .int .i64 b, .int .i64 num, .int .i64 den]] w fun e w' => e = .returned (.string (ownT ⟨14, a, b, num, den⟩)) ∧ Below w.heap.size w w' := by
  have hz := he.size
  have HC := Lib.hid he.cur
  have HE := Lib.hid (he.below_ (below_alloc w (.cells #[.int .i64 14, .int .i64 a, .int .i64 b, .int .i64 num, .int .i64 den] 48)))
  have hw : (w.alloc (.cells #[.int .i64 14, .int .i64 a, .int .i64 b, .int .i64 num, .int .i64 den] 48)).cell? ⟨1, 14, none⟩ = some (.string (wordN 14)) := HE.out.word _ (by omega)
  have hws := wordN_size 14
  generalize hwn : wordN 14 = wd at hw hws
  have HW := Lib.hid hwn
  clear he hwn
  have z1 := dayT_size a
  have HR : Hid (ownT ⟨14, a, b, num, den⟩ = wordN 14 ++ (sp ++ dayT a)) := rfl
  go_enter Tryz.func75, Tryz.ntmps75
  go_wp2_with (go_at_call 127; refine (text_day _ _ h1 h2 HE.out.ahead).mono ?_; rintro e w1 ⟨rfl, hb1⟩)
  go_ret
  refine ⟨?_, below_two (below_alloc _ _) hb1⟩
  rw [HR.out, HW.out]
  rfl
set_option maxHeartbeats 1000000 in
theorem text_own_17 (a b num den : Int) (w : World) (h1 : i64ok a) (h2 : 0 ≤ b) (h3 : b ≤ 73048) (he : Env w) :
    Calls Tryz.prog 75 #[.agg #[.int .i64 17, .int .i64 a, .int .i64 b, .int .i64 num, .int .i64 den]] w fun e w' => e = .returned (.string (ownT ⟨17, a, b, num, den⟩)) ∧ Below w.heap.size w w' := by
  have hz := he.size
  have HC := Lib.hid he.cur
  have HE := Lib.hid (he.below_ (below_alloc w (.cells #[.int .i64 17, .int .i64 a, .int .i64 b, .int .i64 num, .int .i64 den] 48)))
  have hw : (w.alloc (.cells #[.int .i64 17, .int .i64 a, .int .i64 b, .int .i64 num, .int .i64 den] 48)).cell? ⟨1, 17, none⟩ = some (.string (wordN 17)) := HE.out.word _ (by omega)
  have hws := wordN_size 17
  generalize hwn : wordN 17 = wd at hw hws
  have HW := Lib.hid hwn
  clear he hwn
  have z1 := dayT_size b
  have z2 := itoaB_size h1
  have hL1 : ∀ x : Later (w.alloc (.cells #[.int .i64 17, .int .i64 a, .int .i64 b, .int .i64 num, .int .i64 den] 48)), x.val.cell? ⟨w.heap.size, 1, none⟩ = some (.int .i64 a) := fun x => x.new 1 _ rfl
  have hL2 : ∀ x : Later (w.alloc (.cells #[.int .i64 17, .int .i64 a, .int .i64 b, .int .i64 num, .int .i64 den] 48)), x.val.cell? ⟨w.heap.size, 2, none⟩ = some (.int .i64 b) := fun x => x.new 2 _ rfl
  have HR : Hid (ownT ⟨17, a, b, num, den⟩ = wordN 17 ++ (sp ++ itoaB a ++ sp ++ dayT b)) := rfl
  go_enter Tryz.func75, Tryz.ntmps75
  go_wp2_with fail
  refine wp_region_later (by kernel_rfl) (by kernel_rfl) ?_
  repeat (go_big_quiet_step (first | (go_at_call 104; exact Calls.later (go_Itoa _ _ h1 (HE.out.below_ (by first | assumption | exact Later.is _)))) | (go_at_call 127; exact Calls.later (text_day _ _ h2 h3 (HE.out.below_ (Later.is _)).ahead))))
  refine wpQuiet_nil ?_
  rintro ⟨w1, hb1⟩
  go_wp2_with fail
  go_ret
  refine ⟨?_, below_two (below_alloc _ _) hb1⟩
  rw [HR.out, HW.out]
  rfl
set_option maxHeartbeats 1000000 in
theorem text_own_else (op a b num den : Int) (w : World) (h0 : 0 ≤ op) (h18 : op < 18) (b1 : (op == 1) = false) (b2 : (op == 2) = false) (b3 : (op == 16) = false) (b4 : (op == 10) = false) (b5 : (op == 14) = false) (b6 : (op == 17) = false) (he : Env w) :
    Calls Tryz.prog 75 #[.agg #[.int .i64 op, .int .i64 a, .int .i64 b, .int .i64 num, .int .i64 den]] w fun e w' => e = .returned (.string (ownT ⟨op, a, b, num, den⟩)) ∧ Below w.heap.size w w' := by
  have hz := he.size
  have HC := Lib.hid he.cur
  have HE := Lib.hid (he.below_ (below_alloc w (.cells #[.int .i64 op, .int .i64 a, .int .i64 b, .int .i64 num, .int .i64 den] 48)))
  have hw : (w.alloc (.cells #[.int .i64 op, .int .i64 a, .int .i64 b, .int .i64 num, .int .i64 den] 48)).cell? ⟨1, op.toNat, none⟩ = some (.string (wordN op.toNat)) := HE.out.word _ (by omega)
  have hws := wordN_size op.toNat
  generalize hwn : wordN op.toNat = wd at hw hws
  have HW := Lib.hid hwn
  clear he hwn
  have HR : Hid (ownT ⟨op, a, b, num, den⟩ = wordN op.toNat) := by
    simp only [beq_eq_false_iff_ne] at b1 b2 b3 b4 b5 b6
    have hr : restT ⟨op, a, b, num, den⟩ = ⟨#[]⟩ := by unfold restT; simp only [if_neg b4, if_neg b5, if_neg b6, if_neg (not_or.2 ⟨b2, b3⟩)]
    show _ = _
    unfold ownT
    rw [hr]
    simp only [if_neg b1]
    exact ByteArray.append_empty
  go_enter Tryz.func75, Tryz.ntmps75
  go_wp2_with fail
  go_ret
  exact ⟨by rw [HR.out, HW.out]; rfl, below_alloc _ _⟩
/-- 'own' at a node that fits its op. -/
theorem text_own (n : Nd) (w : World) (h0 : 0 ≤ n.op) (h1 : n.op < 18) (hf : fieldsB n = true) (hk : n.ok) (he : Env w) :
    Calls Tryz.prog 75 #[ndV n] w fun e w' => e = .returned (.string (ownT n)) ∧ Below w.heap.size w w' := by
  obtain ⟨op, a, b, num, den⟩ := n
  obtain ⟨_, k1, _, k2, k3⟩ := hk
  dsimp only at h0 h1 k1 k2 k3
  unfold fieldsB at hf
  dsimp only at hf
  cases b1 : (op == 1)
  case true => rw [eq_of_beq b1]; exact text_own_1 a b num den w k2 k3 he
  cases b2 : (op == 2)
  case true => rw [eq_of_beq b2]; exact text_own_2 a b num den w k1 he
  cases b3 : (op == 16)
  case true => rw [eq_of_beq b3]; exact text_own_16 a b num den w k1 he
  rw [b1, b2, b3] at hf
  simp only [cond_false, Bool.or_self] at hf
  cases b4 : (op == 10)
  case true =>
    rw [b4] at hf
    have := fits_bd hf
    rw [eq_of_beq b4]; exact text_own_10 a b num den w this.1 (by have := this.2.1; dsimp only at this; omega) he
  cases b5 : (op == 14)
  case true =>
    rw [b4, b5] at hf
    have := fits_bd hf
    rw [eq_of_beq b5]; exact text_own_14 a b num den w this.1 this.2.1 he
  cases b6 : (op == 17)
  case true =>
    rw [b4, b5, b6] at hf
    have := fits_bd hf
    rw [eq_of_beq b6]; exact text_own_17 a b num den w k1 this.2.2.1 this.2.2.2 he
  exact text_own_else op a b num den w h0 h1 b1 b2 b3 b4 b5 b6 he
end Go.Proofs.YtokfgdpmbmnijaaGreatDoor
/- strings.Builder: copyCheck, WriteString (not laid by the shelf here: walked after the shelf's own proofs). -/
namespace Go.Proofs.YtokfgdpmbmnijaaGreatDoor
open Go.RowKit

set_option maxHeartbeats 1000000 in
set_option maxRecDepth 100000 in
theorem sb_check_used (b : Nat) (w : World) (h0 : w.cell? ⟨b, 0, none⟩ = some (.pointer (some ⟨b, 0, none⟩))) :
    Calls Tryz.prog 103 #[.pointer (some ⟨b, 0, none⟩)] w fun e w' => e = .returned (.tuple #[]) ∧ w' = w := by
  obtain ⟨j, hj, _⟩ := Option.map_eq_some_iff.1 Tryz.Builder_Extra_169.sizeBuilder
  go_enter Tryz.func103, Tryz.ntmps103
  go_wp2_with fail
  rw [Lib.run_neq_ptr_same w _ Tryz.underlying69 hj]
  go_wp2_with fail
  go_end0
  exact ⟨rfl, rfl⟩
set_option maxHeartbeats 1000000 in
set_option maxRecDepth 100000 in
theorem sb_check_fresh (b : Nat) (w : World) (h0 : w.cell? ⟨b, 0, none⟩ = some (.pointer none)) (hsh : w.shape? b = some (72, 2)) (hfz : w.frozen? ⟨b, 0, none⟩ = false) :
    Calls Tryz.prog 103 #[.pointer (some ⟨b, 0, none⟩)] w fun e w' => e = .returned (.tuple #[]) ∧ w' = w.setCell ⟨b, 0, none⟩ (.pointer (some ⟨b, 0, none⟩)) := by
  obtain ⟨j, hj, hjs⟩ := Option.map_eq_some_iff.1 Tryz.Builder_Extra_169.sizeBuilder
  go_enter Tryz.func103, Tryz.ntmps103
  go_wp2_with fail
  rw [Lib.run_to_unsafe w ⟨b, 0, none⟩ Tryz.underlying69 Tryz.underlying189 hj (by rw [hjs]; decide) hsh (Nat.zero_lt_succ 1)]
  simp only [Result.andThen]
  rw [Oper.upon_value]
  go_wp2_with fail
  rw [run_callFunc_extern Tryz.func145 (by kernel_rfl) (by kernel_rfl) (by kernel_rfl) (e := Extern.AbiNoEscape.same) (by kernel_rfl)]
  rw [Lib.run_noEscape]
  simp only [Result.andThen]
  rw [Oper.upon_value]
  go_wp2_with fail
  rw [Lib.run_from_unsafe w ⟨b, 0, none⟩ Tryz.underlying189 Tryz.underlying69 hj hsh Tryz.Builder_Extra_169.liesBuilder]
  simp only [Result.andThen]
  rw [Oper.upon_value]
  go_wp2_with fail
  go_end0
  exact ⟨rfl, rfl⟩
theorem sb_check (B b : Nat) (bs : List Value) (w : World) (h : Lib.IsBuilder 72 5 B b bs w) :
    Calls Tryz.prog 103 #[.pointer (some ⟨b, 0, none⟩)] w fun e w' => e = .returned (.tuple #[]) ∧ (Lib.BuilderAt 72 5 B b (.pointer (some ⟨b, 0, none⟩)) bs w' ∧ Below B w w') := by
  rcases h with h | h
  · refine (sb_check_fresh b w h.cell0 h.shape h.frozen0).mono ?_
    rintro e w' ⟨rfl, rfl⟩
    exact ⟨rfl, h.used _, (Below.refl B w).setCell (p := ⟨b, 0, none⟩) h.1 _⟩
  · refine (sb_check_used b w h.cell0).mono ?_
    rintro e w' ⟨rfl, rfl⟩
    exact ⟨rfl, h, Below.refl B _⟩

set_option maxHeartbeats 2000000 in
theorem sb_WriteString (B b : Nat) (bs : List Value) (s : ByteArray) (w : World) (h : Lib.IsBuilder 72 5 B b bs w) (hlen : bs.length + s.size ≤ 140737488355328) (hBw : B ≤ w.heap.size) :
    Calls Tryz.prog 56 #[.pointer (some ⟨b, 0, none⟩), .string s] w fun e w' => e = .returned (.tuple #[.int .i64 s.size, .nilIface]) ∧ (Lib.BuilderAt 72 5 B b (.pointer (some ⟨b, 0, none⟩)) (bs ++ Lib.strCells s) w' ∧ Below B w w') := by
  have X := Tryz.Builder_Extra_169
  obtain ⟨i0, hi, hz0, hz1, hz2⟩ := info_parts X.infoByte
  have hnb := X.neB5
  clear X
  go_enter Tryz.func56, Tryz.ntmps56
  go_wp2_with (go_at_call 103; refine (sb_check B b bs _ h).mono ?_)
  rintro e w1 ⟨rfl, h1, hb1⟩
  obtain ⟨hB, v, hbk, hown, hne⟩ := h1
  have c0 : w1.cell? ⟨b, 0, none⟩ = some (.pointer (some ⟨b, 0, none⟩)) := by rw [Lib.cell_of_heap hbk]; rfl
  have c1 : w1.cell? ⟨b, 1, none⟩ = some v := by rw [Lib.cell_of_heap hbk]; rfl
  go_wp2_with (at_builtin; refine Lib.wpList_append_own_string _ rfl _ _ 70 9 rfl B 5 i0 Tryz.underlying70 Tryz.underlying9 hi hz0 hz1 hz2 _ _ _ rfl hown s rfl ?c3 ?c4 ?c5 ?_)
  case c3 => unfold maxLen; omega
  case c4 => omega
  case c5 => have := hb1.size; omega
  intro v' w2 hown' hgrow _
  have hlt : b < w1.heap.size := by
    rcases Nat.lt_or_ge b w1.heap.size with h' | h'
    · exact h'
    · simp [Array.getElem?_eq_none h'] at hbk
  have hb2 : w2.heap[b]? = some (.cells #[.pointer (some ⟨b, 0, none⟩), v] 72 (0, 0)) := by
    rw [hgrow.block b hlt (fun e => hne e.symm)]
    exact hbk
  have d0 : w2.cell? ⟨b, 0, none⟩ = some (.pointer (some ⟨b, 0, none⟩)) := by rw [Lib.cell_of_heap hb2]; rfl
  have d1 : w2.cell? ⟨b, 1, none⟩ = some v := by rw [Lib.cell_of_heap hb2]; rfl
  have f1 : w2.frozen? ⟨b, 1, none⟩ = false := Lib.frozen_of_heap hb2 1
  obtain ⟨ao, n', cap, rfl⟩ : ∃ ao n' cap, v' = .slice ao n' cap := by
    rcases hown'.2 with ⟨hv, _⟩ | ⟨g, cap, cur, hv, _⟩
    · exact ⟨_, _, _, hv⟩
    · exact ⟨_, _, _, hv⟩
  go_wp2_with fail
  go_ret2
  refine ⟨rfl, ?_, ?_⟩
  · exact Lib.BuilderAt.put (T := 72) (e := 5) hB hb2 (bs' := bs ++ Lib.strCells s) (by simpa [Lib.strCells_length] using hown') hnb
  · exact (hb1.grown hgrow (by have := hb1.size; omega) (fun k hk => (hown.lt k hk).1)).setCell (p := ⟨b, 1, none⟩) hB _
end Go.Proofs.YtokfgdpmbmnijaaGreatDoor
/- term.Kids, text.write, text.Print. -/
namespace Go.Proofs.YtokfgdpmbmnijaaGreatDoor
open Go.RowKit

/-- The sorts of the terms below an op. -/
def kidsL (op : Int) : List Int := [belowS op 0, belowS op 1, belowS op 2, belowS op 3].take (many op)
theorem kidsL_length (op : Int) : (kidsL op).length = many op := by
  have := many_le op
  simp [kidsL]
  omega
def KidsPost (op : Int) (w : World) (e : Ending) (w' : World) : Prop :=
  ∃ v', e = .returned v' ∧ w'.ownsRow w.heap.size 3 1 v' (many op) ((kidsL op).map (Value.int .i64)) ∧ v' ≠ .slice none 0 0 ∧ Below w.heap.size w w'

theorem slice_four (b m : Nat) (hm : m ≤ 4) (W : World) : (Instr.sliceAt 147 (.pointer (some ⟨b, 2, none⟩)) none (some (.int .i64 (m : Int))) none).run Tryz.prog W = .ok (.slice (some ⟨b, 2, none⟩) m 4) W := by
  rcases (by omega : m = 0 ∨ m = 1 ∨ m = 2 ∨ m = 3 ∨ m = 4) with h | h | h | h | h <;> (subst h; kernel_rfl)

set_option maxHeartbeats 1000000 in
set_option maxRecDepth 100000 in
theorem term_Kids (op : Int) (w : World) (hs : ShapeTab w) : Calls Tryz.prog 76 #[.int .i64 op] w (KidsPost op w) := by
  have hm := many_le op
  have HS := Lib.hid hs
  clear hs
  go_enter Tryz.func76, Tryz.ntmps76
  go_wp2_with fail
  refine (term_of _ _ HS.out).mono ?_
  rintro e w1 ⟨rfl, hb1⟩
  go_wp2_with fail
  generalize hW : w1.alloc (.cells #[.int .i64 (makes op), .int .i64 (many op), .int .i64 (belowS op 0), .int .i64 (belowS op 1), .int .i64 (belowS op 2), .int .i64 (belowS op 3)] 149) = W
  have hbW : Below w.heap.size w W := by rw [← hW]; exact below_two hb1 (below_alloc _ _)
  have hc : ∀ j, j < [belowS op 0, belowS op 1, belowS op 2, belowS op 3].length → W.cell? ⟨w1.heap.size, 2 + j, none⟩ = some (.int .i64 ([belowS op 0, belowS op 1, belowS op 2, belowS op 3].getD j 0)) := by
    intro j hj
    rw [← hW, cell_alloc_eq _ _ _ _ _ rfl]
    simp only [List.length_cons, List.length_nil, Nat.zero_add, Nat.reduceAdd] at hj
    match j, hj with
    | 0, _ => rfl
    | 1, _ => rfl
    | 2, _ => rfl
    | 3, _ => rfl
  clear hW
  go_wp2_with fail
  rw [slice_four w1.heap.size (many op) hm W]
  simp only [Result.andThen]
  rw [Oper.upon_value]
  go_wp2_with fail
  refine (Tryz.slices_Clone_int _ 2 (many op) _ [belowS op 0, belowS op 1, belowS op 2, belowS op 3] _ (by simpa using hm) (by omega) hc).mono ?_
  rintro e w2 ⟨v', rfl, h1, h2, h3⟩
  go_wp2_with fail
  go_ret
  exact ⟨v', rfl, ⟨h1.1, h1.2.imp id fun ⟨g, cap, cur, x1, x2, x3⟩ => ⟨g, cap, cur, x1, Nat.le_trans hbW.size x2, x3⟩⟩, h2, below_two hbW h3⟩
end Go.Proofs.YtokfgdpmbmnijaaGreatDoor
/- text.write, text.Print. -/
namespace Go.Proofs.YtokfgdpmbmnijaaGreatDoor
open Go.RowKit

/-- What lies below a node: its terms' texts, each behind its mark. -/
def joinT (g : Nat → List UInt8) : Nat → List UInt8
  | 0 => []
  | k + 1 => joinT g k ++ ((if k = 0 then [40] else [44, 32]) ++ g k)
def closeT (k : Nat) : List UInt8 := if k = 0 then [] else [41]
def txtF (t : List Nd) : Nat → Nat → List UInt8
  | 0, _ => []
  | f + 1, a => (ownT (nd t a)).data.toList ++ joinT (fun i => txtF t f (kidN t a i)) (many (nd t a).op) ++ closeT (many (nd t a).op)
def txtAt (t : List Nd) (a : Nat) : List UInt8 := txtF t (t.length + 1) a
theorem joinT_congr {f g : Nat → List UInt8} : ∀ {k : Nat}, (∀ i, i < k → f i = g i) → joinT f k = joinT g k
  | 0, _ => rfl
  | k + 1, h => by simp only [joinT]; rw [joinT_congr (k := k) fun i hi => h i (by omega), h k (by omega)]
theorem txtF_fuel (t : List Nd) : ∀ f g a, KidsOk t a → t.length < f + a → t.length < g + a → txtF t f a = txtF t g a
  | 0, _, a, h, hf, _ => by have := h.lt; omega
  | _ + 1, 0, a, h, _, hg => by have := h.lt; omega
  | f + 1, g + 1, a, h, hf, hg => by
    simp only [txtF]
    rw [joinT_congr (fun i hi => txtF_fuel t f g (kidN t a i) (kidsOk (h.step hi)) (by have := (h.bounds (i := i) (by omega)).1; omega) (by have := (h.bounds (i := i) (by omega)).1; omega))]
theorem txtAt_eq {t : List Nd} {a : Nat} (h : KidsOk t a) : txtAt t a = (ownT (nd t a)).data.toList ++ joinT (fun i => txtAt t (kidN t a i)) (many (nd t a).op) ++ closeT (many (nd t a).op) := by
  unfold txtAt
  rw [txtF]
  rw [joinT_congr (fun i hi => txtF_fuel t t.length (t.length + 1) (kidN t a i) (kidsOk (h.step hi)) (by have := (h.bounds (i := i) (by omega)).1; omega) (by have := (h.bounds (i := i) (by omega)).1; omega))]

theorem ratPT_size {n d : Int} (h1 : i64ok n) (h2 : i64ok d) : (ratPT n d).size ≤ 43 := by
  have z1 := itoaB_size h1
  have z2 := itoaB_size h2
  unfold ratPT ratT
  split
  · split
    · omega
    · simp only [ByteArray.size_append, mk1_size']; omega
  · decide
theorem restT_size {n : Nd} (h : n.ok) : (restT n).size ≤ 33 := by
  have z1 := itoaB_size h.2.1
  have z2 := curName_size n.a.toNat
  have z3 := dayT_size n.a
  have z4 := dayT_size n.b
  have z5 := sp_size
  unfold restT
  repeat' split
  all_goals (first | (simp only [ByteArray.size_append]; omega) | decide)
theorem ownT_size {n : Nd} (h : n.ok) : (ownT n).size ≤ 43 := by
  have z1 := ratPT_size h.2.2.2.1 h.2.2.2.2
  have z2 := restT_size h
  have z3 := wordN_size n.op.toNat
  unfold ownT
  split
  · omega
  · rw [ByteArray.size_append]; omega
theorem nd_ok {t : List Nd} (h : ∀ k, k < t.length → (nd t k).ok) (a : Nat) : (nd t a).ok := by
  by_cases ha : a < t.length
  · exact h a ha
  · have : nd t a = Nd.zero := by unfold nd; rw [List.getElem?_eq_none (by omega)]; rfl
    rw [this]
    simp only [Nd.ok, Nd.zero, i64ok]
    omega
theorem joinT_len {t : List Nd} {a : Nat} (h : KidsOk t a) (hk : ∀ i, i < many (nd t a).op → (txtAt t (kidN t a i)).length + 2 + 50 * kidN t a i ≤ 50 * kidN t a (i + 1)) :
    ∀ i, i ≤ many (nd t a).op → (joinT (fun i => txtAt t (kidN t a i)) i).length + 50 * (a + 1) ≤ 50 * kidN t a i
  | 0, _ => by
    have := h.some_ 0 (by omega)
    simp only [endK, Option.some.injEq] at this
    simp only [joinT, List.length_nil]
    omega
  | i + 1, hi => by
    have h1 := joinT_len h hk i (by omega)
    have h2 := hk i (by omega)
    have : (if i = 0 then [40] else [44, 32] : List UInt8).length ≤ 2 := by split <;> simp
    simp only [joinT, List.length_append]
    omega
theorem txtAt_len {t : List Nd} (hok : ∀ k, k < t.length → (nd t k).ok) : ∀ (m a e : Nat), t.length ≤ a + m → endAt t a = some e → (txtAt t a).length + 2 + 50 * a ≤ 50 * e
  | 0, a, e, hm, h => by have := (kidsOk h).lt; omega
  | m + 1, a, e, hm, h => by
    have hk := kidsOk h
    rw [txtAt_eq hk]
    have h1 := joinT_len hk (fun i hi => txtAt_len hok m (kidN t a i) (kidN t a (i + 1)) (by have := (hk.bounds (i := i) (by omega)).1; omega) (hk.step hi)) _ (Nat.le_refl _)
    have h2 := ownT_size (nd_ok hok a)
    have h3 : (ownT (nd t a)).data.toList.length = (ownT (nd t a)).size := rfl
    have h4 : (closeT (many (nd t a).op)).length ≤ 1 := by unfold closeT; split <;> simp
    have h5 : kidN t a (many (nd t a).op) = e := by
      have h6 := hk.some_ _ (Nat.le_refl _)
      have h7 := h
      rw [endAt_eq, if_neg (by simp only [not_or]; exact ⟨by have := hk.lt; omega, hk.made⟩), h6] at h7
      exact Option.some.inj h7
    simp only [List.length_append]
    omega
theorem end_kid {t : List Nd} {a : Nat} (h : KidsOk t a) : endAt t a = some (kidN t a (many (nd t a).op)) := by
  rw [endAt_eq, if_neg (by simp only [not_or]; exact ⟨by have := h.lt; omega, h.made⟩)]
  exact h.some_ _ (Nat.le_refl _)
theorem end_kidI {t : List Nd} {a : Nat} (h : KidsOk t a) : endI t a = kidN t a (many (nd t a).op) := endI_some (end_kid h)

theorem own_form {w : World} {B : Nat} {e : TypeId} {k n : Nat} {v : Value} {zs : List Value} (h : w.ownsRow B e k v n zs) : ∃ p c, v = .slice p n c := by
  rcases h.2 with ⟨hv, h0⟩ | ⟨g, cap, cur, hv, _⟩
  · exact ⟨none, 0, by rw [hv, h0]⟩
  · exact ⟨_, _, hv⟩
/-- A builder in a later world. -/
theorem own_below_ {w w' : World} {B e size n : Nat} {v : Value} {xs : List Value} (h : w.ownsRow B e size v n xs) (hb : Below w.heap.size w w') : w'.ownsRow B e size v n xs :=
  ⟨h.1, h.2.imp id fun ⟨g, cap, cur, h1, h2, h3, h4⟩ => ⟨g, cap, cur, h1, h2, by
    have hg : g < w.heap.size := by
      rcases Nat.lt_or_ge g w.heap.size with h' | h'
      · exact h'
      · simp [Array.getElem?_eq_none h'] at h3
    rw [hb.block g hg]; exact h3, h4⟩⟩
theorem at_below {T e : TypeId} {B b : Nat} {p : Value} {bs : List Value} {w w' : World} (h : Lib.BuilderAt T e B b p bs w) (hb : Below w.heap.size w w') : Lib.BuilderAt T e B b p bs w' := by
  have hlt := h.lt
  obtain ⟨h1, v, h2, h3, h4⟩ := h
  exact ⟨h1, v, (hb.block b hlt).trans h2, own_below_ h3 hb, h4⟩
theorem is_below {T e : TypeId} {B b : Nat} {bs : List Value} {w w' : World} (h : Lib.IsBuilder T e B b bs w) (hb : Below w.heap.size w w') : Lib.IsBuilder T e B b bs w' :=
  h.imp (fun k => at_below k hb) (fun k => at_below k hb)
end Go.Proofs.YtokfgdpmbmnijaaGreatDoor
/- text.write, text.Print: the walks. -/
namespace Go.Proofs.YtokfgdpmbmnijaaGreatDoor
open Go.RowKit

theorem mk_size1 (a : UInt8) : (ByteArray.mk #[a]).size = 1 := rfl
theorem mk_size2 (a b : UInt8) : (ByteArray.mk #[a, b]).size = 2 := rfl
/-- Behind 'write': the place behind the term, and a builder that holds its text too. -/
def WrPost (t : List Nd) (a B b : Nat) (bs : List UInt8) (w0 : World) (e : Ending) (w' : World) : Prop :=
  e = .returned (.int .i64 (endI t a)) ∧ Lib.IsBuilder 72 5 B b (Lib.byteCells (bs ++ txtAt t a)) w' ∧ Below B w0 w'

theorem byte_str (bs : List UInt8) (s : ByteArray) : Lib.byteCells bs ++ Lib.strCells s = Lib.byteCells (bs ++ s.data.toList) := by rw [Lib.strCells_eq, Lib.byteCells_append]

set_option maxHeartbeats 4000000 in
set_option maxRecDepth 100000 in
theorem text_write_step (p : Option Addr) (c : Nat) (t : List Nd) (b : Nat) (w0 : World) (he : Env w0) (hn : Nodes w0 p t) (hops : ∀ k, k < t.length → fieldsB (nd t k) = true) (hl : t.length ≤ 64) (m : Nat)
    (ih : ∀ (a : Nat) (bs : List UInt8) (w : World), t.length ≤ a + m → KidsOk t a → bs.length ≤ 1000000 * a → Lib.IsBuilder 72 5 w0.heap.size b (Lib.byteCells bs) w → Below w0.heap.size w0 w →
      Calls Tryz.prog 37 #[.pointer (some ⟨b, 0, none⟩), .slice p t.length c, .int .i64 a] w (WrPost t a w0.heap.size b bs w0))
    (a : Nat) (bs : List UInt8) (w : World) (hm : t.length ≤ a + (m + 1)) (hk : KidsOk t a) (hbs : bs.length ≤ 1000000 * a) (hb : Lib.IsBuilder 72 5 w0.heap.size b (Lib.byteCells bs) w) (hw : Below w0.heap.size w0 w) :
      Calls Tryz.prog 37 #[.pointer (some ⟨b, 0, none⟩), .slice p t.length c, .int .i64 a] w (WrPost t a w0.heap.size b bs w0) := by
  have h1 := hk.lt
  have hlen := hn.len
  have hfa := hops a h1
  have hoka := hn.ok a h1
  have hsz := ownT_size hoka
  have hmy := many_le (nd t a).op
  have HFULL := Lib.hid hn
  have HE := Lib.hid he
  have HK := Lib.hid hk
  have IH := Lib.hid ih
  have HOK := Lib.hid hn.ok
  obtain ⟨nb, o, rfl, hin⟩ := nodes_mem hn h1
  have hin1 := hin.below_ hw
  have c0 := hin1.c0 a h1
  have c1 := hin1.c1 a h1
  have c2 := hin1.c2 a h1
  have c3 := hin1.c3 a h1
  have c4 := hin1.c4 a h1
  have hz := hin1.blk
  have hw0 := hw.size
  have hmade : 0 ≤ (nd t a).op ∧ (nd t a).op < 18 := by
    rcases Decidable.em (0 ≤ (nd t a).op ∧ (nd t a).op < 18) with h | h
    · exact h
    · exact absurd (by unfold makes; rw [opN_out (by omega)]; rfl) hk.made
  have HFA := Lib.hid hfa
  have HMA := Lib.hid hmade
  have HKA := Lib.hid hoka
  have HW0 := Lib.hid hw
  clear he hn hk ih hops hfa hmade hoka hin1
  have hndv : Hid (ndV (nd t a) = .agg #[.int .i64 (nd t a).op, .int .i64 (nd t a).a, .int .i64 (nd t a).b, .int .i64 (nd t a).num, .int .i64 (nd t a).den]) := rfl
  go_enter Tryz.func37, Tryz.ntmps37
  go_wp2_with fail
  refine (text_own (nd t a) _ HMA.out.1 HMA.out.2 HFA.out HKA.out (HE.out.below_ HW0.out)).mono ?_
  rintro e w1 ⟨rfl, hb1⟩
  have hB1 := HW0.out.trans (hb1.mono hw0)
  have IB1 := is_below hb hb1
  have hz1 := hb1.size
  clear hb1 c0 c1 c2 c3 c4
  go_wp2_with fail
  refine (sb_WriteString _ _ _ _ _ IB1 (by rw [Lib.byteCells_length]; omega) (by omega)).mono ?_
  rintro e w2 ⟨rfl, hb2, hb3⟩
  have IB2 : Lib.IsBuilder 72 5 w0.heap.size b (Lib.byteCells (bs ++ (ownT (nd t a)).data.toList)) w2 := .inr (by rw [← byte_str]; exact hb2)
  have hB2 := hB1.trans hb3
  have d0 := (hin.below_ hB2).c0 a h1
  have hz2 := hB2.size
  have HB2 := Lib.hid hB2
  clear hb2 hb3 hB1 IB1 hz1 hB2 hb
  go_wp2_with fail
  refine (term_Kids _ _ (HE.out.below_ HB2.out).shape).mono ?_
  rintro e w3 ⟨kv, rfl, ho, hnn, hb3⟩
  obtain ⟨ka, kc, rfl⟩ : ∃ ka kc, kv = .slice ka (many (nd t a).op) kc := by
    rcases ho.2 with ⟨hv, h0⟩ | ⟨g, cap, cur, hv, _⟩
    · exact absurd hv hnn
    · exact ⟨_, _, hv⟩
  have IB3 := is_below IB2 hb3
  have hB3 := HB2.out.trans (hb3.mono hz2)
  have hz3 := hb3.size
  clear IB2 HB2 ho hnn hb3 d0
  have hnx0 : kidN t a 0 = a + 1 := by
    have := HK.out.some_ 0 (by omega)
    simp only [endK, Option.some.injEq] at this
    exact this.symm
  have HNX := Lib.hid hnx0
  clear hnx0
  go_wp2_with fail
  go_loopw [7, 27] (fun x i wr => ∃ k : Nat, x = .int .i64 (kidN t a k) ∧ i = .int .i64 k ∧ k ≤ many (nd t a).op ∧
      Hid (Lib.IsBuilder 72 5 w0.heap.size b (Lib.byteCells (bs ++ (ownT (nd t a)).data.toList ++ joinT (fun i => txtAt t (kidN t a i)) k)) wr) ∧ Below w0.heap.size w0 wr)
      (fun _ i _ => many (nd t a).op - (intOf i).toNat)
  case atStart => exact ⟨0, by rw [HNX.out]; go_num, rfl, by omega, by show Lib.IsBuilder _ _ _ _ _ _; simpa only [joinT, List.append_nil] using IB3, hB3⟩
  case round =>
    obtain ⟨k, rfl, rfl, hk, hib, hb⟩ := hrel
    have hzr := hb.size
    have hlenJ : Hid (∀ k, k ≤ many (nd t a).op → (bs ++ (ownT (nd t a)).data.toList ++ joinT (fun i => txtAt t (kidN t a i)) k).length + 1000 ≤ 1000000 * kidN t a k) := by
      intro k hk
      have h5 := joinT_len HK.out (fun i hi => txtAt_len HOK.out t.length (kidN t a i) (kidN t a (i + 1)) (by omega) (HK.out.step hi)) k hk
      have h3 : (ownT (nd t a)).data.toList.length = (ownT (nd t a)).size := rfl
      simp only [List.length_append]
      omega
    have hJk := hlenJ.out k hk
    have hbk := HK.out.bounds hk
    by_cases hlt : k < many (nd t a).op
    · have hbk1 := HK.out.bounds (i := k + 1) (by omega)
      have hHB := Lib.hid hb
      clear IB3 hB3 hin
      by_cases hk0 : k = 0
      · have hmin : min (k : Int) 1 = 0 := by omega
        have HKK : Hid ((if k = 0 then [40] else [44, 32] : List UInt8) = [40]) := if_pos hk0
        clear hk0
        go_wp2_with fail
        refine (sb_WriteString _ _ _ _ _ (is_below hib.out (below_alloc _ _)) (by rw [Lib.byteCells_length]; simp only [mk_size1]; omega) (by simp; omega)).mono ?_
        rintro e w4 ⟨rfl, hb4, hb5⟩
        have IB4 : Lib.IsBuilder 72 5 w0.heap.size b (Lib.byteCells (bs ++ (ownT (nd t a)).data.toList ++ joinT (fun i => txtAt t (kidN t a i)) k ++ [40])) w4 := .inr (by rw [Lib.byteCells_append]; exact hb4)
        have HB4 := Lib.hid (hHB.out.trans (((below_alloc wr (.cells #[.string ⟨#[40]⟩, .string ⟨#[44, 32]⟩] 9)).mono hzr).trans hb5))
        clear hb4 hb5
        go_wp2_with fail
        refine (IH.out (kidN t a k) _ _ (by omega) (kidsOk (HK.out.step hlt)) (by rw [List.length_append]; simp only [List.length_cons, List.length_nil]; omega) IB4 HB4.out).mono ?_
        rintro e w5 ⟨rfl, hi5, hb5⟩
        have hei : endI t (kidN t a k) = kidN t a (k + 1) := endI_some (HK.out.step hlt)
        rw [hei]
        have HI5 : Hid (Lib.IsBuilder 72 5 w0.heap.size b (Lib.byteCells (bs ++ (ownT (nd t a)).data.toList ++ joinT (fun i => txtAt t (kidN t a i)) (k + 1))) w5) := by
          show Lib.IsBuilder _ _ _ _ _ _
          simp only [joinT]
          rw [HKK.out]
          simpa only [List.append_assoc] using hi5
        have HB5 := Lib.hid hb5
        clear hi5 hb5 IB4 hei hmin
        go_wp2_with fail
        go_roundw
        case rel => exact ⟨k + 1, rfl, by go_num, by omega, HI5, HB5.out⟩
        case measure => simp [intOf]; omega
      · have hmin : min (k : Int) 1 = 1 := by omega
        have HKK : Hid ((if k = 0 then [40] else [44, 32] : List UInt8) = [44, 32]) := if_neg hk0
        clear hk0
        go_wp2_with fail
        refine (sb_WriteString _ _ _ _ _ (is_below hib.out (below_alloc _ _)) (by rw [Lib.byteCells_length]; simp only [mk_size2]; omega) (by simp; omega)).mono ?_
        rintro e w4 ⟨rfl, hb4, hb5⟩
        have IB4 : Lib.IsBuilder 72 5 w0.heap.size b (Lib.byteCells (bs ++ (ownT (nd t a)).data.toList ++ joinT (fun i => txtAt t (kidN t a i)) k ++ [44, 32])) w4 := .inr (by rw [Lib.byteCells_append]; exact hb4)
        have HB4 := Lib.hid (hHB.out.trans (((below_alloc wr (.cells #[.string ⟨#[40]⟩, .string ⟨#[44, 32]⟩] 9)).mono hzr).trans hb5))
        clear hb4 hb5
        go_wp2_with fail
        refine (IH.out (kidN t a k) _ _ (by omega) (kidsOk (HK.out.step hlt)) (by rw [List.length_append]; simp only [List.length_cons, List.length_nil]; omega) IB4 HB4.out).mono ?_
        rintro e w5 ⟨rfl, hi5, hb5⟩
        have hei : endI t (kidN t a k) = kidN t a (k + 1) := endI_some (HK.out.step hlt)
        rw [hei]
        have HI5 : Hid (Lib.IsBuilder 72 5 w0.heap.size b (Lib.byteCells (bs ++ (ownT (nd t a)).data.toList ++ joinT (fun i => txtAt t (kidN t a i)) (k + 1))) w5) := by
          show Lib.IsBuilder _ _ _ _ _ _
          simp only [joinT]
          rw [HKK.out]
          simpa only [List.append_assoc] using hi5
        have HB5 := Lib.hid hb5
        clear hi5 hb5 IB4 hei hmin
        go_wp2_with fail
        go_roundw
        case rel => exact ⟨k + 1, rfl, by go_num, by omega, HI5, HB5.out⟩
        case measure => simp [intOf]; omega
    · have hkm : kidN t a k = kidN t a (many (nd t a).op) := by rw [show k = many (nd t a).op from by omega]
      have HFIN : Hid (Lib.IsBuilder 72 5 w0.heap.size b (Lib.byteCells (bs ++ (ownT (nd t a)).data.toList ++ joinT (fun i => txtAt t (kidN t a i)) (many (nd t a).op))) wr) := by
        have := hib
        rwa [show k = many (nd t a).op from by omega] at this
      have HTX : Hid (bs ++ txtAt t a = bs ++ (ownT (nd t a)).data.toList ++ joinT (fun i => txtAt t (kidN t a i)) (many (nd t a).op) ++ closeT (many (nd t a).op)) := by
        show _ = _
        rw [txtAt_eq HK.out]
        simp only [List.append_assoc]
      have HEI := Lib.hid (end_kidI HK.out)
      have HKM := Lib.hid hkm
      have HHB := Lib.hid hb
      clear IB3 hB3 hin hib hb hkm
      by_cases hmz : 0 < many (nd t a).op
      · have hmt : decide (0 < many (nd t a).op) = true := by simp [hmz]
        go_wp2_with fail
        refine (sb_WriteString _ _ _ _ _ HFIN.out (by rw [Lib.byteCells_length]; simp only [mk_size1]; have := hlenJ.out _ (Nat.le_refl _); have := HK.out.bounds (Nat.le_refl _); omega) (by omega)).mono ?_
        rintro e w4 ⟨rfl, hb4, hb5⟩
        go_wp2_with fail
        go_ret
        refine ⟨by rw [HEI.out, ← HKM.out]; rfl, .inr ?_, HHB.out.trans hb5⟩
        rw [HTX.out, show closeT (many (nd t a).op) = [41] from if_neg (by omega), Lib.byteCells_append]
        exact hb4
      · have hmt : decide (0 < many (nd t a).op) = false := by simp; omega
        go_wp2_with fail
        go_ret
        refine ⟨by rw [HEI.out, ← HKM.out]; rfl, ?_, HHB.out⟩
        rw [HTX.out, show closeT (many (nd t a).op) = [] from if_pos (by omega), List.append_nil]
        exact HFIN.out

/-- 'write': the term's text is written. -/
theorem text_write (p : Option Addr) (c : Nat) (t : List Nd) (b : Nat) (w0 : World) (he : Env w0) (hn : Nodes w0 p t) (hops : ∀ k, k < t.length → fieldsB (nd t k) = true) (hl : t.length ≤ 64) (a : Nat) (bs : List UInt8) (w : World)
    (hk : KidsOk t a) (hbs : bs.length ≤ 1000000 * a) (hb : Lib.IsBuilder 72 5 w0.heap.size b (Lib.byteCells bs) w) (hw : Below w0.heap.size w0 w) :
      Calls Tryz.prog 37 #[.pointer (some ⟨b, 0, none⟩), .slice p t.length c, .int .i64 a] w (WrPost t a w0.heap.size b bs w0) := by
  have main : ∀ (m a : Nat) (bs : List UInt8) (w : World), t.length ≤ a + m → KidsOk t a → bs.length ≤ 1000000 * a → Lib.IsBuilder 72 5 w0.heap.size b (Lib.byteCells bs) w → Below w0.heap.size w0 w →
      Calls Tryz.prog 37 #[.pointer (some ⟨b, 0, none⟩), .slice p t.length c, .int .i64 a] w (WrPost t a w0.heap.size b bs w0) := by
    intro m
    induction m with
    | zero => intro a bs w h1 h2 _ _ _; have := h2.lt; omega
    | succ m ih => intro a bs w h1 h2 h3 h4 h5; exact text_write_step p c t b w0 he hn hops hl m ih a bs w h1 h2 h3 h4 h5
  exact main t.length a bs w (by omega) hk hbs hb hw
/-- 'Print''s text. -/
def printT (t : List Nd) : ByteArray := if checkE t = 0 then ⟨(txtAt t 0).toArray⟩ else ⟨#[]⟩
theorem check_parts {t : List Nd} (h : checkE t = 0) : ofE t = 0 ∧ ofS t = 2 ∧ t.length ≤ 64 ∧ endAt t 0 = some t.length ∧ (∀ k, k < t.length → fieldsB (nd t k) = true) ∧ sortsOk t = true ∧ deepAt t 0 ≤ 12 := by
  unfold checkE at h
  split at h
  · omega
  · rename_i hne
    have hs : ofS t = 2 := by
      rcases Decidable.em (ofS t = 2) with e | e
      · exact e
      · exact absurd ⟨h, e⟩ hne
    refine ⟨h, hs, ?_⟩
    unfold ofE at h
    split at h
    · omega
    · split at h
      · omega
      · rename_i h1 h2
        split at h
        · omega
        · split at h
          · omega
          · rename_i h3 h4
            split at h
            · omega
            · rename_i h5
              simp only [not_or, Decidable.not_not] at h2
              refine ⟨by omega, ?_, ?_, by simpa using h4, by omega⟩
              · rcases endI_cases t 0 with ⟨e1, _⟩ | ⟨b, e1, e2, _⟩
                · have := h2.2; omega
                · rw [e2]; have := h2.2; rw [e1] at this; congr 1; omega
              · intro k hk
                have h6 : allFields t = true := by simpa using h3
                exact List.all_eq_true.1 h6 k (List.mem_range.2 hk)

set_option maxHeartbeats 1000000 in
set_option maxRecDepth 100000 in
/-- 'Print'. -/
theorem text_Print (p : Option Addr) (c : Nat) (t : List Nd) (w : World) (he : Env w) (hn : Nodes w p t) :
    Calls Tryz.prog 15 #[.slice p t.length c] w fun e w' => e = .returned (.tuple #[.string (printT t), .int .i64 (checkE t)]) ∧ Below w.heap.size w w' := by
  have HE := Lib.hid he
  have HN := Lib.hid hn
  clear he hn
  by_cases h : checkE t = 0
  · have hb : (checkE t == 0) = true := by simp [h]
    have hb' : (checkE t != 0) = false := by simp [h]
    obtain ⟨_, _, h3, h4, h5, _⟩ := check_parts h
    have HP : Hid (printT t = ⟨(txtAt t 0).toArray⟩) := if_pos h
    have HK := Lib.hid (kidsOk h4)
    have H5 := Lib.hid h5
    have HC := Lib.hid h
    clear h4 h5 h
    go_enter Tryz.func15, Tryz.ntmps15
    go_wp2_with fail
    refine (term_Check _ _ _ _ HE.out.shape HN.out).mono ?_
    rintro e w1 ⟨rfl, hb1⟩
    go_wp2_with fail
    have IB : Lib.IsBuilder 72 5 w1.heap.size w1.heap.size (Lib.byteCells []) (w1.alloc (.cells #[.pointer none, .slice none 0 0] 72)) :=
      .inl ⟨Nat.le_refl _, .slice none 0 0, by show (w1.heap.push _)[w1.heap.size]? = _; rw [Array.getElem?_push_size], World.ownsRow_nil _ _ _ _, fun e => by cases e⟩
    refine (text_write _ _ _ _ _ (HE.out.below_ hb1) (HN.out.below_ hb1) H5.out h3 0 [] _ HK.out (by simp) IB (below_alloc _ _)).mono ?_
    rintro e w2 ⟨rfl, hb2, hb3⟩
    go_wp2_with fail
    refine (Tryz.Builder_String_any _ _ _ _ hb2 hb3.size).mono ?_
    rintro e w3 ⟨rfl, hb4⟩
    go_wp2_with fail
    go_ret2
    refine ⟨ret_str_int (by rw [HP.out]) HC.out.symm, below_two hb1 (hb3.trans hb4)⟩
  · have hb : (checkE t == 0) = false := by simp [h]
    have hb' : (checkE t != 0) = true := by simp [h]
    have HP : Hid (printT t = ⟨#[]⟩) := if_neg h
    go_enter Tryz.func15, Tryz.ntmps15
    go_wp2_with fail
    refine (term_Check _ _ _ _ HE.out.shape HN.out).mono ?_
    rintro e w1 ⟨rfl, hb1⟩
    go_wp2_with fail
    go_ret2
    exact ⟨ret_str_int HP.out.symm rfl, hb1⟩
end Go.Proofs.YtokfgdpmbmnijaaGreatDoor
/- text.gap; what the tokens of a text are. -/
namespace Go.Proofs.YtokfgdpmbmnijaaGreatDoor
open Go.RowKit

def gapB (x : Int) : Bool := x == 32 || x == 10
theorem text_gap (x : Int) (w : World) : Calls Tryz.prog 85 #[.int .u8 x] w fun e w' => e = .returned (.bool (gapB x)) ∧ w = w' := by
  unfold gapB
  cases h1 : (x == 32)
  · cases h2 : (x == 10)
    · go_enter Tryz.func85, Tryz.ntmps85
      go_wp2_with fail
      go_ret
      exact ⟨rfl, rfl⟩
    · go_enter Tryz.func85, Tryz.ntmps85
      go_wp2_with fail
      go_ret
      exact ⟨rfl, rfl⟩
  · go_enter Tryz.func85, Tryz.ntmps85
    go_wp2_with fail
    go_ret
    exact ⟨rfl, rfl⟩

/-- Where a byte stands among the marks. -/
def markI (c : UInt8) : Int := if c = 40 then 0 else if c = 41 then 1 else if c = 44 then 2 else -1
theorem markI_eq (c : UInt8) : Lib.indexByte [40, 41, 44] c = markI c := by
  unfold markI
  by_cases h1 : c = 40
  · subst h1; rfl
  · by_cases h2 : c = 41
    · subst h2; rfl
    · by_cases h3 : c = 44
      · subst h3; rfl
      · have e1 : ((40 : UInt8) == c) = false := by simpa using fun e => h1 e.symm
        have e2 : ((41 : UInt8) == c) = false := by simpa using fun e => h2 e.symm
        have e3 : ((44 : UInt8) == c) = false := by simpa using fun e => h3 e.symm
        simp [Lib.indexByte, e1, e2, e3, h1, h2, h3]
theorem text_marks (c : UInt8) (w : World) : Calls Tryz.prog 86 #[.string ⟨#[40, 41, 44]⟩, .int .u8 c.toNat] w fun e w' => e = .returned (.int .i64 (markI c)) ∧ w = w' :=
  (Tryz.strings_IndexByte ⟨#[40, 41, 44]⟩ c.toNat w).mono fun e w' ⟨h1, h2⟩ => ⟨by
    rw [h1, ← markI_eq c]
    have : ((c.toNat : Int).toNat.toUInt8) = c := by simp
    rw [this], h2.symm⟩

def byteAt (s : ByteArray) (a : Nat) : UInt8 := if h : a < s.size then s[a] else 0
theorem byteAt_eq {s : ByteArray} {a : Nat} (h : a < s.size) : s[a] = byteAt s a := by unfold byteAt; rw [dif_pos h]
def isGap (c : UInt8) : Bool := gapB c.toNat
def isMark (c : UInt8) : Bool := !decide (markI c < 0)
/-- A byte that goes on with a word. -/
def inWord (s : ByteArray) (e : Nat) : Bool := decide (e < s.size) && (!isGap (byteAt s e) && !isMark (byteAt s e))
def wordF (s : ByteArray) : Nat → Nat → Nat
  | 0, e => e
  | f + 1, e => if inWord s e then wordF s f (e + 1) else e
theorem inWord_lt {s : ByteArray} {e : Nat} (h : inWord s e = true) : e < s.size := by
  simp only [inWord, Bool.and_eq_true, decide_eq_true_eq] at h; exact h.1
theorem wordF_fuel (s : ByteArray) : ∀ f g e, s.size ≤ f + e → s.size ≤ g + e → wordF s f e = wordF s g e
  | 0, 0, _, _, _ => rfl
  | 0, g + 1, e, h, _ => by
    simp only [wordF]
    split
    · rename_i hi; have := inWord_lt hi; omega
    · rfl
  | f + 1, 0, e, _, h => by
    simp only [wordF]
    split
    · rename_i hi; have := inWord_lt hi; omega
    · rfl
  | f + 1, g + 1, e, hf, hg => by
    simp only [wordF]
    split
    · exact wordF_fuel s f g (e + 1) (by omega) (by omega)
    · rfl
/-- The place behind a word. -/
def wordE (s : ByteArray) (e : Nat) : Nat := wordF s s.size e
theorem wordE_eq (s : ByteArray) (e : Nat) : wordE s e = if inWord s e then wordE s (e + 1) else e := by
  unfold wordE
  rw [wordF_fuel s s.size (s.size + 1) e (by omega) (by omega), wordF]
theorem wordF_bd (s : ByteArray) : ∀ f e, e ≤ s.size → e ≤ wordF s f e ∧ wordF s f e ≤ s.size
  | 0, e, h => ⟨Nat.le_refl _, h⟩
  | f + 1, e, h => by
    simp only [wordF]
    split
    · rename_i hi
      have := inWord_lt hi
      have := wordF_bd s f (e + 1) (by omega)
      omega
    · exact ⟨Nat.le_refl _, h⟩
theorem wordE_bd {s : ByteArray} {e : Nat} (h : e ≤ s.size) : e ≤ wordE s e ∧ wordE s e ≤ s.size := wordF_bd s _ e h
/-- A token: where it begins, and the place behind it. -/
abbrev Tk := Nat × Nat
def tokE (s : ByteArray) (a : Nat) : Nat := if isMark (byteAt s a) then a + 1 else wordE s (a + 1)
theorem tokE_bd {s : ByteArray} {a : Nat} (h : a < s.size) : a < tokE s a ∧ tokE s a ≤ s.size := by
  unfold tokE
  split
  · omega
  · have := wordE_bd (s := s) (e := a + 1) (by omega); omega
def toksF (s : ByteArray) : Nat → Nat → List Tk
  | 0, _ => []
  | f + 1, a => if a < s.size then (if isGap (byteAt s a) then toksF s f (a + 1) else (a, tokE s a) :: toksF s f (tokE s a)) else []
theorem toksF_fuel (s : ByteArray) : ∀ f g a, s.size ≤ f + a → s.size ≤ g + a → toksF s f a = toksF s g a
  | 0, 0, _, _, _ => rfl
  | 0, g + 1, a, h, _ => by simp only [toksF]; rw [if_neg (by omega)]
  | f + 1, 0, a, _, h => by simp only [toksF]; rw [if_neg (by omega)]
  | f + 1, g + 1, a, hf, hg => by
    simp only [toksF]
    split
    · rename_i hlt
      have := tokE_bd hlt
      split
      · exact toksF_fuel s f g (a + 1) (by omega) (by omega)
      · rw [toksF_fuel s f g (tokE s a) (by omega) (by omega)]
    · rfl
def toksFrom (s : ByteArray) (a : Nat) : List Tk := toksF s s.size a
/-- A text's tokens. -/
def toks (s : ByteArray) : List Tk := toksFrom s 0
theorem toksFrom_end {s : ByteArray} {a : Nat} (h : s.size ≤ a) : toksFrom s a = [] := by
  unfold toksFrom
  rw [toksF_fuel s s.size 0 a (by omega) (by omega)]; rfl
theorem toksFrom_eq {s : ByteArray} {a : Nat} (h : a < s.size) : toksFrom s a = if isGap (byteAt s a) then toksFrom s (a + 1) else (a, tokE s a) :: toksFrom s (tokE s a) := by
  unfold toksFrom
  rw [toksF_fuel s s.size (s.size + 1) a (by omega) (by omega), toksF, if_pos h]

set_option maxRecDepth 100000 in
set_option maxHeartbeats 2000000 in
theorem text_tokens1 (n : Nat) (l B1 : Nat) (s : ByteArray) (hs : s.size ≤ 1000000) (S : Nat → Prop) (hS1 : S B1) (J Jx : List Tk → World → Prop)
    (W : World) (hSW : ∀ k, S k → k < W.heap.size)
    (hY : ∀ pre x W1, J pre W1 → pre.length < s.size → x.1 ≤ s.size → YieldAt Fence.wide (n - 1) Tryz.prog l #[.int .i64 (x.1 : Nat), .string (s.extract x.1 x.2)] W1 fun e W' =>
      (e = .returned (.bool true) ∧ J (pre ++ [x]) W' ∧ Kept S W1 W') ∨ (e = .returned (.bool false) ∧ Jx (pre ++ [x]) W'))
    (h1 : W.cell? ⟨B1, 0, none⟩ = some (.string s)) (h0 : J [] W) :
    CallsIn Fence.wide n Tryz.prog 84 #[.func (.yield l) #[] #[], .pointer (some ⟨B1, 0, none⟩)] W fun e W' => (∃ v, e = .returned v) ∧
      (J (toks s) W' ∨ (∃ pre : List Tk, pre.length ≤ s.size ∧ Jx pre W')) := by
  refine callsIn_of_wp Tryz.func84 rfl trivial ?_ rfl
  simp only [Tryz.ntmps84, List.size_toArray, List.length_cons, List.length_nil, Nat.reduceAdd, Nat.reduceSub, Array.replicate_succ, Array.replicate_zero, List.push_toArray, List.append_toArray, List.nil_append, List.cons_append]
  have HY := Lib.hid hY
  have HSW := Lib.hid hSW
  clear hY hSW
  gi_wp2_with fail
  gi_loopw [3] (fun x wr => ∃ a : Nat, a ≤ s.size ∧ x = .int .i64 a ∧ Hid (∃ pre : List Tk, pre.length ≤ a ∧ pre ++ toksFrom s a = toks s ∧ J pre wr) ∧ Kept S W wr) (fun x _ => s.size - (intOf x).toNat)
  case atStart => exact ⟨0, by omega, rfl, ⟨[], Nat.le_refl _, rfl, h0⟩, Kept.refl _ _⟩
  case round =>
    obtain ⟨a, ha, rfl, hJr, hkr⟩ := hrel
    have c1 := (hkr.cell (p := ⟨B1, 0, none⟩) hS1).trans h1
    by_cases hlt : a < s.size
    · have HTF := Lib.hid (toksFrom_eq hlt)
      have hbe := byteAt_eq hlt
      have htb := tokE_bd hlt
      obtain ⟨ch, hch⟩ : ∃ ch, byteAt s a = ch := ⟨_, rfl⟩
      rw [hch] at hbe
      have HCH := Lib.hid hch
      have HBE := Lib.hid hbe
      clear hch hbe
      gi_wp2_with fail
      simp only [HBE.out]
      refine ⟨trivial, fun h => (by cases h), ?_⟩
      refine (callsIn_wide.2 (text_gap _ _)).mono ?_
      rintro e w1 ⟨rfl, rfl⟩
      cases hg : gapB (ch.toNat : Int)
      · have HG : Hid (toksFrom s a = (a, tokE s a) :: toksFrom s (tokE s a)) := by show _ = _; rw [HTF.out, HCH.out, if_neg (show ¬ isGap ch = true by unfold isGap; rw [hg]; exact Bool.false_ne_true)]
        obtain ⟨pre, p1, p2, p3⟩ := hJr
        have HP1 : Hid ((pre ++ [(a, tokE s a)]) ++ toksFrom s (tokE s a) = toks s) := by show _ = _; rw [List.append_assoc, ← p2, HG.out]; rfl
        have HJ3 := Lib.hid p3
        clear hg p2 p3 HTF
        gi_wp2_with fail
        simp only [HBE.out]
        refine ⟨trivial, fun h => (by cases h), ?_⟩
        refine (callsIn_wide.2 (text_marks _ _)).mono ?_
        rintro e w1 ⟨rfl, rfl⟩
        cases hm : (decide (markI ch < 0))
        · have HTE : Hid (tokE s a = a + 1) := by
            show _ = _
            unfold tokE
            rw [HCH.out, if_pos (by unfold isMark; rw [hm]; rfl)]
          obtain ⟨fn, tmps, assign, body, hy, hR⟩ := HY.out pre (a, tokE s a) wr HJ3.out (by omega) (by dsimp only; omega)
          dsimp only at hy
          rw [HTE.out] at hy
          have HR := Lib.hid hR
          clear hR
          gi_wp2_with fail
          refine ⟨fun h => (by cases h), ?_⟩
          refine HR.out.mono ?_
          clear HR
          rintro e W3 (⟨rfl, hJ3, hk3⟩ | ⟨rfl, hJx3⟩)
          · have hk4 := hkr.trans hk3
            gi_wp2_with fail
            go_roundw
            case rel => exact ⟨tokE s a, htb.2, by rw [HTE.out]; go_num, ⟨_, by rw [List.length_append]; simp only [List.length_cons, List.length_nil]; omega, HP1.out, hJ3⟩, hk4⟩
            case measure => simp [intOf]; omega
          · gi_wp2_with fail
            refine bodyPost_ret (results_none rfl _ _ _) rfl ?_
            exact ⟨⟨_, rfl⟩, .inr ⟨_, by rw [List.length_append]; simp only [List.length_cons, List.length_nil]; omega, hJx3⟩⟩
        · have HTE : Hid (tokE s a = wordE s (a + 1)) := by
            show _ = _
            unfold tokE
            rw [HCH.out, if_neg (by unfold isMark; rw [hm]; exact Bool.false_ne_true)]
          gi_wp2_with fail
          gi_loopw [4] (fun x wr' => ∃ e : Nat, e ≤ s.size ∧ a < e ∧ x = .int .i64 e ∧ Hid (wordE s e = wordE s (a + 1)) ∧ wr' = wr) (fun x _ => s.size - (intOf x).toNat)
          case atStart => exact ⟨a + 1, by omega, by omega, by go_num, rfl, rfl⟩
          case round =>
            obtain ⟨e, he, hae, rfl, hwe, rfl⟩ := hrel
            by_cases hel : e < s.size
            · obtain ⟨c2, hc2⟩ : ∃ c2, byteAt s e = c2 := ⟨_, rfl⟩
              have HB2 := Lib.hid (show s[e] = c2 from (byteAt_eq hel).trans hc2)
              have HC2 := Lib.hid hc2
              clear hc2
              cases hg2 : gapB (c2.toNat : Int)
              · cases hm2 : (decide (markI c2 < 0))
                · gi_wp2_with fail
                  simp only [HB2.out]
                  refine ⟨trivial, fun h => (by cases h), ?_⟩
                  refine (callsIn_wide.2 (text_gap _ _)).mono ?_
                  rintro e' w1 ⟨rfl, rfl⟩
                  rw [hg2]
                  gi_wp2_with fail
                  simp only [HB2.out]
                  refine ⟨trivial, fun h => (by cases h), ?_⟩
                  refine (callsIn_wide.2 (text_marks _ _)).mono ?_
                  rintro e' w1 ⟨rfl, rfl⟩
                  have HTE2 : Hid (tokE s a = e) := by
                    show _ = _
                    rw [HTE.out, ← hwe.out, wordE_eq, if_neg (by unfold inWord isMark; rw [HC2.out, hm2]; simp)]
                  obtain ⟨fn, tmps, assign, body, hy, hR⟩ := HY.out pre (a, tokE s a) wr HJ3.out (by omega) (by dsimp only; omega)
                  dsimp only at hy
                  rw [HTE2.out] at hy
                  have HR := Lib.hid hR
                  clear hR
                  gi_wp2_with fail
                  refine ⟨fun h => (by cases h), ?_⟩
                  refine HR.out.mono ?_
                  clear HR
                  rintro e0 W3 (⟨rfl, hJ3, hk3⟩ | ⟨rfl, hJx3⟩)
                  · have hk4 := hkr.trans hk3
                    gi_wp2_with fail
                    go_roundw
                    case rel => exact ⟨tokE s a, htb.2, by rw [HTE2.out], ⟨_, by rw [List.length_append]; simp only [List.length_cons, List.length_nil]; omega, HP1.out, hJ3⟩, hk4⟩
                    case measure => simp [intOf]; omega
                  · gi_wp2_with fail
                    refine bodyPost_ret (results_none rfl _ _ _) rfl ?_
                    exact ⟨⟨_, rfl⟩, .inr ⟨_, by rw [List.length_append]; simp only [List.length_cons, List.length_nil]; omega, hJx3⟩⟩
                · have HIN : Hid (wordE s (e + 1) = wordE s (a + 1)) := by
                    show _ = _
                    rw [← hwe.out, wordE_eq s e, if_pos (by unfold inWord isMark isGap; rw [HC2.out, hm2, hg2]; simpa using hel)]
                  gi_wp2_with fail
                  simp only [HB2.out]
                  refine ⟨trivial, fun h => (by cases h), ?_⟩
                  refine (callsIn_wide.2 (text_gap _ _)).mono ?_
                  rintro e' w1 ⟨rfl, rfl⟩
                  rw [hg2]
                  gi_wp2_with fail
                  simp only [HB2.out]
                  refine ⟨trivial, fun h => (by cases h), ?_⟩
                  refine (callsIn_wide.2 (text_marks _ _)).mono ?_
                  rintro e' w1 ⟨rfl, rfl⟩
                  gi_wp2_with fail
                  go_roundw
                  case rel => exact ⟨e + 1, by omega, by omega, by go_num, HIN, trivial⟩
                  case measure => simp [intOf]; omega
              · gi_wp2_with fail
                simp only [HB2.out]
                refine ⟨trivial, fun h => (by cases h), ?_⟩
                refine (callsIn_wide.2 (text_gap _ _)).mono ?_
                rintro e' w1 ⟨rfl, rfl⟩
                rw [hg2]
                have HTE2 : Hid (tokE s a = e) := by
                  show _ = _
                  rw [HTE.out, ← hwe.out, wordE_eq, if_neg (by unfold inWord isGap; rw [HC2.out, hg2]; simp)]
                obtain ⟨fn, tmps, assign, body, hy, hR⟩ := HY.out pre (a, tokE s a) wr HJ3.out (by omega) (by dsimp only; omega)
                dsimp only at hy
                rw [HTE2.out] at hy
                have HR := Lib.hid hR
                clear hR
                gi_wp2_with fail
                refine ⟨trivial, ?_⟩
                gi_wp2_with fail
                refine ⟨fun h => (by cases h), ?_⟩
                refine HR.out.mono ?_
                clear HR
                rintro e0 W3 (⟨rfl, hJ3, hk3⟩ | ⟨rfl, hJx3⟩)
                · have hk4 := hkr.trans hk3
                  gi_wp2_with fail
                  go_roundw
                  case rel => exact ⟨tokE s a, htb.2, by rw [HTE2.out], ⟨_, by rw [List.length_append]; simp only [List.length_cons, List.length_nil]; omega, HP1.out, hJ3⟩, hk4⟩
                  case measure => simp [intOf]; omega
                · gi_wp2_with fail
                  refine bodyPost_ret (results_none rfl _ _ _) rfl ?_
                  exact ⟨⟨_, rfl⟩, .inr ⟨_, by rw [List.length_append]; simp only [List.length_cons, List.length_nil]; omega, hJx3⟩⟩
            · have HTE2 : Hid (tokE s a = e) := by
                show _ = _
                rw [HTE.out, ← hwe.out, wordE_eq, if_neg (by intro hi; exact hel (inWord_lt hi))]
              obtain ⟨fn, tmps, assign, body, hy, hR⟩ := HY.out pre (a, tokE s a) wr HJ3.out (by omega) (by dsimp only; omega)
              dsimp only at hy
              rw [HTE2.out] at hy
              have HR := Lib.hid hR
              clear hR
              gi_wp2_with fail
              refine ⟨trivial, ?_⟩
              gi_wp2_with fail
              refine ⟨trivial, ?_⟩
              gi_wp2_with fail
              refine ⟨fun h => (by cases h), ?_⟩
              refine HR.out.mono ?_
              clear HR
              rintro e0 W3 (⟨rfl, hJ3, hk3⟩ | ⟨rfl, hJx3⟩)
              · have hk4 := hkr.trans hk3
                gi_wp2_with fail
                go_roundw
                case rel => exact ⟨tokE s a, htb.2, by rw [HTE2.out], ⟨_, by rw [List.length_append]; simp only [List.length_cons, List.length_nil]; omega, HP1.out, hJ3⟩, hk4⟩
                case measure => simp [intOf]; omega
              · gi_wp2_with fail
                refine bodyPost_ret (results_none rfl _ _ _) rfl ?_
                exact ⟨⟨_, rfl⟩, .inr ⟨_, by rw [List.length_append]; simp only [List.length_cons, List.length_nil]; omega, hJx3⟩⟩
      · have HG : Hid (toksFrom s a = toksFrom s (a + 1)) := by show _ = _; rw [HTF.out, HCH.out, if_pos (show isGap ch = true from hg)]
        clear hg
        gi_wp2_with fail
        go_roundw
        case rel => exact ⟨a + 1, by omega, by go_num, (let ⟨pre, p1, p2, p3⟩ := hJr; ⟨pre, by omega, by rw [← HG.out]; exact p2, p3⟩), hkr⟩
        case measure => simp [intOf]; omega
    · have HT : Hid (toksFrom s a = []) := toksFrom_end (by omega)
      gi_wp2_with fail
      go_end0
      refine ⟨⟨_, rfl⟩, .inl ?_⟩
      obtain ⟨pre, p1, p2, p3⟩ := hJr
      rw [HT.out, List.append_nil] at p2
      rw [← p2]; exact p3
end Go.Proofs.YtokfgdpmbmnijaaGreatDoor
/- A law for a region that draws its order: what holds of what has come up, whatever the order. -/
namespace Go.Proofs.YtokfgdpmbmnijaaGreatDoor
open Go.RowKit

section
variable {P : Program} {ops : Array Oper} {md : Region.Mode} {F : Fence} {n : Nat} {Q : Exit → Act → World → Prop}

def falses (l : Array Bool) : Nat := (l.toList.filter (! ·)).length
theorem falses_set {l : Array Bool} {i : Nat} (h : l.getD i true = false) : falses (l.setIfInBounds i true) + 1 = falses l := by
  have hi : i < l.size := by
    rcases Nat.lt_or_ge i l.size with h' | h'
    · exact h'
    · rw [Array.getD_eq_getD_getElem?, Array.getElem?_eq_none h'] at h; simp at h
  obtain ⟨l⟩ := l
  simp only [List.size_toArray] at hi
  have he : l[i] = false := by simpa [Array.getD_eq_getD_getElem?, hi] using h
  simp only [falses, List.setIfInBounds_toArray]
  clear h
  induction l generalizing i with
  | nil => simp at hi
  | cons b l ih =>
    cases i with
    | zero => simp at he; subst he; simp
    | succ i =>
      simp at hi he
      have := ih hi he
      cases b
      · simp only [List.set_cons_succ, List.filter_cons, Bool.not_false, if_true, List.length_cons]; omega
      · simp only [List.set_cons_succ, List.filter_cons, Bool.not_true, Bool.false_eq_true, if_false]; omega
theorem ready_of {listed : Array Bool} {i : Nat} (h : i ∈ Region.ready md ops listed) : ∃ o, ops[i]? = some o ∧ listed.getD i true = false ∧ ∀ e ∈ o.after, Region.binds md e = true → listed.getD e.on false = true := by
  simp only [Region.ready, List.mem_filter, List.mem_range, Bool.and_eq_true, Bool.not_eq_true'] at h
  obtain ⟨h1, h2, h3⟩ := h
  refine ⟨ops[i], Array.getElem?_eq_getElem h1, h2, ?_⟩
  rw [Array.getElem?_eq_getElem h1] at h3
  simp only [Option.map_some, Option.getD_some, Array.all_eq_true_iff_forall_mem, Bool.or_eq_true, Bool.not_eq_true'] at h3
  intro e he hb
  rcases h3 e he with h | h
  · rw [h] at hb; cases hb
  · exact h
theorem all_of_none {listed : Array Bool} (hs : listed.size = ops.size) (hback : ∀ (i : Nat) (o : Oper), ops[i]? = some o → ∀ e ∈ o.after, Region.binds md e = true → e.on < i) (h : Region.ready md ops listed = []) : ∀ i, i < ops.size → listed.getD i false = true := by
  intro i
  induction i using Nat.strongRecOn with
  | _ i ih =>
    intro hi
    rcases hb : listed.getD i false with _ | _
    · exfalso
      have hlt : i < listed.size := by omega
      have ht : listed.getD i true = false := by
        rw [Array.getD_eq_getD_getElem?, Array.getElem?_eq_getElem hlt] at hb ⊢
        simpa using hb
      have : i ∈ Region.ready md ops listed := by
        simp only [Region.ready, List.mem_filter, List.mem_range, Bool.and_eq_true, Bool.not_eq_true']
        refine ⟨hi, ht, ?_⟩
        rw [Array.getElem?_eq_getElem hi]
        simp only [Option.map_some, Option.getD_some, Array.all_eq_true_iff_forall_mem, Bool.or_eq_true, Bool.not_eq_true']
        intro e he
        rcases hbe : Region.binds md e with _ | _
        · exact .inl rfl
        · have hl := hback i _ (Array.getElem?_eq_getElem hi) e he hbe
          exact .inr (ih e.on hl (by omega))
      rw [h] at this
      cases this
    · rfl
theorem anyIn_inv (I : Array Bool → Act → World → Prop) (hback : ∀ (i : Nat) (o : Oper), ops[i]? = some o → ∀ e ∈ o.after, Region.binds md e = true → e.on < i)
    (hstep : ∀ (i : Nat) (o : Oper) listed a w, ops[i]? = some o → I listed a w → listed.getD i true = false → (∀ e ∈ o.after, Region.binds md e = true → listed.getD e.on false = true) →
      wpOpIn F n P ops Q i (fun a' w' => I (listed.setIfInBounds i true) a' w') a w)
    (hend : ∀ listed a w, I listed a w → (∀ i, i < ops.size → listed.getD i false = true) → Q .normal a w) :
    ∀ fuel listed a w, listed.size = ops.size → falses listed ≤ fuel → I listed a w → wpAnyIn F n P md ops Q fuel listed a w
  | 0, listed, a, w, hs, hf, h => by
    have hr : Region.ready md ops listed = [] := by
      apply List.eq_nil_iff_forall_not_mem.2
      intro i hi
      obtain ⟨o, _, h2, _⟩ := ready_of hi
      have := falses_set h2
      omega
    exact ⟨hr, hend _ _ _ h (all_of_none hs hback hr)⟩
  | fuel + 1, listed, a, w, hs, hf, h => by
    refine ⟨fun hr => hend _ _ _ h (all_of_none hs hback hr), fun i hi => ?_⟩
    obtain ⟨o, ho, h2, h3⟩ := ready_of hi
    have hc := falses_set h2
    have h4 := hstep i o listed a w ho h h2 h3
    have mono : ∀ a' w', I (listed.setIfInBounds i true) a' w' → wpAnyIn F n P md ops Q fuel (listed.setIfInBounds i true) a' w' :=
      fun a' w' h' => anyIn_inv I hback hstep hend fuel _ a' w' (by simpa using hs) (by omega) h'
    unfold wpOpIn at h4 ⊢
    simp only [ho] at h4 ⊢
    split
    · rename_i hw; simp only [hw, if_true] at h4; exact Oper.wpIn_mono mono h4
    · rename_i hw; simp only [hw, Bool.false_eq_true, if_false] at h4; exact ⟨h4.1, mono _ _ h4.2⟩
theorem falses_replicate (k : Nat) : falses (Array.replicate k false) = k := by simp [falses]
/-- THE LAW. -/
theorem wpIn_region_inv {id : Nat} {a : Act} {w : World} (hm : P.follows .mixedOrders = true) (I : Array Bool → Act → World → Prop) (hback : ∀ (i : Nat) (o : Oper), ops[i]? = some o → ∀ e ∈ o.after, Region.binds .any e = true → e.on < i)
    (hstep : ∀ (i : Nat) (o : Oper) listed a w, ops[i]? = some o → I listed a w → listed.getD i true = false → (∀ e ∈ o.after, Region.binds .any e = true → listed.getD e.on false = true) →
      wpOpIn F n P ops Q i (fun a' w' => I (listed.setIfInBounds i true) a' w') a w)
    (hend : ∀ listed a w, I listed a w → (∀ i, i < ops.size → listed.getD i false = true) → Q .normal a w)
    (h0 : I (Array.replicate ops.size false) a { w with drawn := w.drawn + 1 }) : (Code.region id ops true).wpIn F n P Q a w :=
  wpIn_region_any hm (anyIn_inv I hback hstep hend _ _ _ _ (by simp) (by rw [falses_replicate]; exact Nat.le_refl _) h0)
/-- A step: the operation yields a value. -/
theorem step_value {i : Nat} {o : Oper} {a : Act} {w w' : World} {K : Act → World → Prop} {v : Value} (hF : ∀ f, F.fn f) (ho : ops[i]? = some o) (hg : o.guard = none) (hnd : ∀ c, o.op ≠ .defer c) (hr : (execOp a.eval o).run P w = .ok (.value v) w')
    (hK : K (a.put o.dst v) w') : wpOpIn F n P ops Q i K a w := by
  unfold wpOpIn
  simp only [ho]
  rw [if_pos (by simp [Region.wanted, hg])]
  refine ⟨fun _ _ => hF _, ?_⟩
  rw [Oper.semAt_plain F _ _ hnd, hr]
  exact hK
theorem step_skip {i : Nat} {o : Oper} {a : Act} {w w' : World} {K : Act → World → Prop} (hF : ∀ f, F.fn f) (ho : ops[i]? = some o) (hg : o.guard = none) (hnd : ∀ c, o.op ≠ .defer c) (hr : (execOp a.eval o).run P w = .ok .skip w')
    (hK : K (a.put o.dst undef) w') : wpOpIn F n P ops Q i K a w := by
  unfold wpOpIn
  simp only [ho]
  rw [if_pos (by simp [Region.wanted, hg])]
  refine ⟨fun _ _ => hF _, ?_⟩
  rw [Oper.semAt_plain F _ _ hnd, hr]
  exact hK
end
end Go.Proofs.YtokfgdpmbmnijaaGreatDoor
/- A region that draws its order, all of whose operations but the last one are quiet, and whose last one waits for all others. -/
namespace Go.Proofs.YtokfgdpmbmnijaaGreatDoor
open Go.RowKit

section
variable {P : Program} {l : Array Oper} {o : Oper} {C : World → Prop} {Q : Exit → Act → World → Prop}

/-- What is listed has come behind what it waits for. -/
def Closed (ops : Array Oper) (listed : Array Bool) : Prop := ∀ (i : Nat) (p : Oper), ops[i]? = some p → listed.getD i false = true → ∀ e ∈ p.after, Region.binds .any e = true → listed.getD e.on false = true
/-- Each operation has one behind it that waits for it, the last one at the end. -/
def Covered (l : Array Oper) (o : Oper) : Prop := ∀ j, j < l.size → (∃ e ∈ o.after, Region.binds .any e = true ∧ e.on = j) ∨ (∃ i p, l[i]? = some p ∧ j < i ∧ ∃ e ∈ p.after, Region.binds .any e = true ∧ e.on = j)
theorem all_listed {listed : Array Bool} (hc : Closed l listed) (hv : Covered l o) (ho : ∀ e ∈ o.after, Region.binds .any e = true → listed.getD e.on false = true) : ∀ k j, j < l.size → l.size ≤ j + k → listed.getD j false = true
  | 0, j, hj, hk => by omega
  | k + 1, j, hj, hk => by
    rcases hv j hj with ⟨e, h1, h2, rfl⟩ | ⟨i, p, h0, hi, e, h1, h2, rfl⟩
    · exact ho e h1 h2
    · have hil : i < l.size := (Array.getElem?_eq_some_iff.1 h0).1
      exact hc i p h0 (all_listed hc hv ho k i hil (by omega)) e h1 h2
theorem none_of_all {listed : Array Bool} (h : ∀ j, j < l.size → listed.getD j false = true) (hs : listed.size = l.size) : Region.ready .any l listed = [] := by
  apply List.eq_nil_iff_forall_not_mem.2
  intro i hi
  obtain ⟨p, h1, h2, _⟩ := ready_of hi
  have hil : i < l.size := (Array.getElem?_eq_some_iff.1 h1).1
  have h3 := h i hil
  rw [Array.getD_eq_getD_getElem?] at h2 h3
  rw [Array.getElem?_eq_getElem (by omega)] at h2 h3
  simp at h2 h3
  rw [h2] at h3; cases h3
theorem push_getD {listed : Array Bool} {b : Bool} {i : Nat} {d : Bool} (h : i < listed.size) : (listed.push b).getD i d = listed.getD i d := by
  simp only [Array.getD_eq_getD_getElem?, Array.getElem?_push, if_neg (Nat.ne_of_lt h)]
theorem ready_push {listed : Array Bool} {b : Bool} (hs : listed.size = l.size) {i : Nat} (hi : i < l.size) (hback : ∀ (i : Nat) (p : Oper), l[i]? = some p → ∀ e ∈ p.after, Region.binds .any e = true → e.on < i) :
    i ∈ Region.ready .any (l.push o) (listed.push b) → i ∈ Region.ready .any l listed := by
  intro h
  obtain ⟨p, h1, h2, h3⟩ := ready_of h
  rw [Array.getElem?_push, if_neg (Nat.ne_of_lt hi)] at h1
  rw [push_getD (by omega)] at h2
  simp only [Region.ready, List.mem_filter, List.mem_range, Bool.and_eq_true, Bool.not_eq_true']
  refine ⟨hi, h2, ?_⟩
  rw [h1]
  simp only [Option.map_some, Option.getD_some, Array.all_eq_true_iff_forall_mem, Bool.or_eq_true, Bool.not_eq_true']
  intro e he
  rcases hb : Region.binds .any e with _ | _
  · exact .inl rfl
  · have := hback i p h1 e he hb
    have h4 := h3 e he hb
    rw [push_getD (by omega)] at h4
    exact .inr h4
theorem ready_last {listed : Array Bool} (hs : listed.size = l.size) (hall : ∀ j, j < l.size → listed.getD j false = true) (hob : ∀ e ∈ o.after, Region.binds .any e = true → e.on < l.size) : l.size ∈ Region.ready .any (l.push o) (listed.push false) := by
  simp only [Region.ready, List.mem_filter, List.mem_range, Bool.and_eq_true, Bool.not_eq_true', Array.size_push]
  refine ⟨by omega, ?_, ?_⟩
  · rw [Array.getD_eq_getD_getElem?, Array.getElem?_push, if_pos hs.symm]; rfl
  · rw [Array.getElem?_push, if_pos rfl]
    simp only [Option.map_some, Option.getD_some, Array.all_eq_true_iff_forall_mem, Bool.or_eq_true, Bool.not_eq_true']
    intro e he
    rcases hb : Region.binds .any e with _ | _
    · exact .inl rfl
    · have := hob e he hb
      rw [push_getD (by omega)]
      exact .inr (hall _ this)
theorem wanted_push {p : Oper} {t : Array Value} (hg : ∀ g b, p.guard = some (g, b) → g < l.size) : Region.wanted p (yielded (l.push o) t) = Region.wanted p (yielded l t) := by
  unfold Region.wanted
  cases hp : p.guard with
  | none => rfl
  | some g =>
    obtain ⟨g, b⟩ := g
    have := hg g b hp
    have e : yielded (l.push o) t g = yielded l t g := by unfold yielded; rw [Array.getElem?_push, if_neg (Nat.ne_of_lt this)]
    simp only [e]
theorem push_set {listed : Array Bool} {b : Bool} {i : Nat} (h : i < listed.size) : (listed.push b).setIfInBounds i true = (listed.setIfInBounds i true).push b := by
  apply Array.ext_getElem?
  intro j
  simp only [Array.getElem?_setIfInBounds, Array.getElem?_push, Array.size_push, Array.size_setIfInBounds]
  by_cases h1 : i = j
  · subst h1
    rw [if_pos rfl, if_pos (by omega), if_neg (by omega), if_pos rfl, if_pos h]
  · rw [if_neg h1, if_neg h1]
theorem closed_set {listed : Array Bool} {i : Nat} (hs : listed.size = l.size) (hc : Closed l listed) (hi : i ∈ Region.ready .any l listed) : Closed l (listed.setIfInBounds i true) := by
  obtain ⟨p, h1, h2, h3⟩ := ready_of hi
  have hil : i < listed.size := by rw [hs]; exact (Array.getElem?_eq_some_iff.1 h1).1
  have up : ∀ j, listed.getD j false = true → (listed.setIfInBounds i true).getD j false = true := by
    intro j hj
    rw [Array.getD_eq_getD_getElem?] at hj ⊢
    rw [Array.getElem?_setIfInBounds]
    split
    · rename_i e; subst e; first | rfl | (rw [if_pos hil]; rfl)
    · exact hj
  intro j q hq hj e he hb
  by_cases hji : j = i
  · subst hji
    have : p = q := Option.some.inj (h1.symm.trans hq)
    subst this
    exact up _ (h3 e he hb)
  · refine up _ (hc j q hq ?_ e he hb)
    rw [Array.getD_eq_getD_getElem?, Array.getElem?_setIfInBounds, if_neg (fun e => hji e.symm)] at hj
    rwa [Array.getD_eq_getD_getElem?]
theorem any_last (hback : ∀ (i : Nat) (p : Oper), l[i]? = some p → ∀ e ∈ p.after, Region.binds .any e = true → e.on < i) (hob : ∀ e ∈ o.after, Region.binds .any e = true → e.on < l.size) (hv : Covered l o)
    (hg : ∀ (i : Nat) (p : Oper), l[i]? = some p → ∀ g b, p.guard = some (g, b) → g < l.size) (hog : o.guard = none) :
    ∀ fuel listed a w, C w → Closed l listed → listed.size = l.size → wpAnyQ P .any l C (fun a' => ∀ w', C w' → o.wp P a' w' (Q .normal) Q) fuel listed a → wpAny P .any (l.push o) Q (fuel + 1) (listed.push false) a w := by
  have last : ∀ fuel (listed : Array Bool) a w, listed.size = l.size → (∀ j, j < l.size → listed.getD j false = true) → o.wp P a w (Q .normal) Q → wpOp P (l.push o) Q l.size (wpAny P .any (l.push o) Q fuel ((listed.push false).setIfInBounds l.size true)) a w := by
    intro fuel listed a w hs hall h
    unfold wpOp
    rw [Array.getElem?_push, if_pos rfl]
    simp only
    rw [if_pos (by simp [Region.wanted, hog])]
    refine .inl (Oper.wp_mono (fun a' w' h' => ?_) h)
    have hr : Region.ready .any (l.push o) ((listed.push false).setIfInBounds l.size true) = [] := by
      apply none_of_all
      · intro j hj
        rw [Array.getD_eq_getD_getElem?, Array.getElem?_setIfInBounds]
        split
        · rw [if_pos (by simp [hs])]; rfl
        · rename_i hne
          simp only [Array.size_push] at hj
          rw [← Array.getD_eq_getD_getElem?, push_getD (by omega)]
          exact hall j (by omega)
      · simp [hs]
    cases fuel with
    | zero => exact ⟨hr, h'⟩
    | succ fuel => exact ⟨fun _ => h', fun i hi => by rw [hr] at hi; cases hi⟩
  have split_ready : ∀ (listed : Array Bool) i, listed.size = l.size → i ∈ Region.ready .any (l.push o) (listed.push false) → i < l.size ∨ i = l.size := by
    intro listed i hs hi
    obtain ⟨p, h1, _⟩ := ready_of hi
    have := (Array.getElem?_eq_some_iff.1 h1).1
    simp at this
    omega
  have at_last : ∀ (listed : Array Bool), listed.size = l.size → Closed l listed → l.size ∈ Region.ready .any (l.push o) (listed.push false) → ∀ j, j < l.size → listed.getD j false = true := by
    intro listed hs hc hi j hj
    obtain ⟨p, h1, _, h3⟩ := ready_of hi
    rw [Array.getElem?_push, if_pos rfl] at h1
    obtain rfl := Option.some.inj h1
    exact all_listed hc hv (fun e he hb => by have := h3 e he hb; rwa [push_getD (by have := hob e he hb; omega)] at this) l.size j hj (by omega)
  have ready_ne : ∀ (listed : Array Bool), listed.size = l.size → Region.ready .any (l.push o) (listed.push false) ≠ [] := by
    intro listed hs h
    have hr : Region.ready .any l listed = [] := by
      apply List.eq_nil_iff_forall_not_mem.2
      intro i hi
      have hi' := ready_of hi
      obtain ⟨p, h1, h2, h3⟩ := hi'
      have hil := (Array.getElem?_eq_some_iff.1 h1).1
      have : i ∈ Region.ready .any (l.push o) (listed.push false) := by
        simp only [Region.ready, List.mem_filter, List.mem_range, Bool.and_eq_true, Bool.not_eq_true', Array.size_push]
        refine ⟨by omega, by rw [push_getD (by omega)]; exact h2, ?_⟩
        rw [Array.getElem?_push, if_neg (Nat.ne_of_lt hil), h1]
        simp only [Option.map_some, Option.getD_some, Array.all_eq_true_iff_forall_mem, Bool.or_eq_true, Bool.not_eq_true']
        intro e he
        rcases hb : Region.binds .any e with _ | _
        · exact .inl rfl
        · have := hback i p h1 e he hb
          rw [push_getD (by omega)]
          exact .inr (h3 e he hb)
      rw [h] at this; cases this
    have hall := all_of_none hs hback hr
    have := ready_last (o := o) hs hall hob
    rw [h] at this; cases this
  intro fuel
  induction fuel with
  | zero =>
    intro listed a w hw hc hs h
    refine ⟨fun hr => absurd hr (ready_ne listed hs), fun i hi => ?_⟩
    rcases split_ready listed i hs hi with hlt | rfl
    · have := ready_push hs hlt hback hi
      rw [h.1] at this; cases this
    · exact last 0 listed a w hs (at_last listed hs hc hi) (h.2 w hw)
  | succ fuel ih =>
    intro listed a w hw hc hs h
    refine ⟨fun hr => absurd hr (ready_ne listed hs), fun i hi => ?_⟩
    rcases split_ready listed i hs hi with hlt | rfl
    · have hri := ready_push hs hlt hback hi
      have hq := h.2 i hri
      rw [push_set (by omega)]
      have key : ∀ a' w', C w' → wpAnyQ P .any l C (fun a' => ∀ w', C w' → o.wp P a' w' (Q .normal) Q) fuel (listed.setIfInBounds i true) a' → wpAny P .any (l.push o) Q (fuel + 1) ((listed.setIfInBounds i true).push false) a' w' :=
        fun a' w' hw' h' => ih _ a' w' hw' (closed_set hs hc hri) (by simpa using hs) h'
      unfold qOp at hq
      unfold wpOp
      rw [Array.getElem?_push, if_neg (Nat.ne_of_lt hlt)]
      rw [Array.getElem?_eq_getElem hlt] at hq ⊢
      simp only at hq ⊢
      rw [wanted_push (hg i _ (Array.getElem?_eq_getElem hlt))]
      split
      · rename_i hwt
        rw [if_pos hwt] at hq
        exact .inl (Oper.wp_of_quiet hw key hq)
      · rename_i hwt
        rw [if_neg hwt] at hq
        exact key _ _ hw hq
    · have hall := at_last listed hs hc hi
      exact last (fuel + 1) listed a w hs hall ((h.1 (none_of_all hall hs)) w hw)
/-- THE LAW: a walk of all but the last in the text's order, then the last. -/
theorem wp_region_last {id : Nat} {a : Act} {w : World} {ll : List Oper} (hm : P.follows .mixedOrders = true) (hB : Region.lexB .any ll.toArray = true)
    (hback : ∀ (i : Nat) (p : Oper), ll.toArray[i]? = some p → ∀ e ∈ p.after, Region.binds .any e = true → e.on < i) (hob : ∀ e ∈ o.after, Region.binds .any e = true → e.on < ll.toArray.size) (hv : Covered ll.toArray o)
    (hg : ∀ (i : Nat) (p : Oper), ll.toArray[i]? = some p → ∀ g b, p.guard = some (g, b) → g < ll.toArray.size) (hog : o.guard = none)
    (h : wpQuiet P ll.toArray (fun w' => ∃ x : Later w, w' = x.val) (fun a' => ∀ x : Later w, o.wp P a' x.val (Q .normal) Q) ll a) : (Code.region id (ll.toArray.push o) true).wp P Q a w := by
  simp only [Region.lexB, Bool.and_eq_true] at hB
  refine wp_region_any hm ?_
  have hq := wpAnyQ_lex (P := P) (C := fun w' => ∃ x : Later w, w' = x.val) (md := .any) (ops := ll.toArray) (Q := fun a' => ∀ w', (∃ x : Later w, w' = x.val) → o.wp P a' w' (Q .normal) Q) hB.1 ll 0 (Array.replicate ll.toArray.size false) a (by simp) (by simpa using hB.2)
    (by
      have e : (fun a' => ∀ w', (∃ x : Later w, w' = x.val) → o.wp P a' w' (Q .normal) Q) = (fun a' => ∀ x : Later w, o.wp P a' x.val (Q .normal) Q) := by
        funext a'
        exact propext ⟨fun h x => h _ ⟨x, rfl⟩, fun h w' ⟨x, hx⟩ => by rw [hx]; exact h x⟩
      rw [e]; exact h)
  have := any_last (P := P) (l := ll.toArray) (o := o) (C := fun w' => ∃ x : Later w, w' = x.val) (Q := Q) hback hob hv hg hog ll.length (Array.replicate ll.toArray.size false) a { w with drawn := w.drawn + 1 }
    ⟨⟨{ w with drawn := w.drawn + 1 }, ⟨rfl, rfl, rfl, Nat.le_refl _, fun _ _ => rfl⟩⟩, rfl⟩
    (fun i p _ hl => by rw [Array.getD_eq_getD_getElem?, Array.getElem?_replicate] at hl; split at hl <;> cases hl) (by simp) hq
  simpa [Array.replicate_succ] using this
/-- The law's conditions, as one test. -/
def lastB (l : List Oper) (n : Nat) (o : Oper) : Bool :=
  Region.lexB .any (l.take n).toArray && ((List.range n).all (fun i => (((l.take n).toArray[i]?).map (fun p => p.after.all (fun e => !Region.binds .any e || decide (e.on < i)) && (match p.guard with | some (g, _) => decide (g < n) | none => true))).getD true)
    && (o.after.all (fun e => !Region.binds .any e || decide (e.on < n)) && ((List.range n).all (fun j => o.after.any (fun e => Region.binds .any e && e.on == j) || (List.range n).any (fun i => decide (j < i) && (((l.take n).toArray[i]?).map (fun p => p.after.any (fun e => Region.binds .any e && e.on == j))).getD false))
    && (o.guard.isNone && decide (l.length = n + 1)))))
theorem wp_region_tail1 {id : Nat} {a : Act} {w : World} {l : List Oper} (n : Nat) (o : Oper) (hm : P.follows .mixedOrders = true) (hl : l = l.take n ++ [o]) (hB : lastB l n o = true)
    (h : wpQuiet P (l.take n).toArray (fun w' => ∃ x : Later w, w' = x.val) (fun a' => ∀ x : Later w, o.wp P a' x.val (Q .normal) Q) (l.take n) a) : (Code.region id l.toArray true).wp P Q a w := by
  simp only [lastB, Bool.and_eq_true, decide_eq_true_eq] at hB
  obtain ⟨h1, h2, h3, h4, h5, h6⟩ := hB
  have hsz : (l.take n).toArray.size = n := by simp; omega
  have hlt : ∀ (i : Nat) (p : Oper), (l.take n).toArray[i]? = some p → i < n := fun i p hp => by have := (Array.getElem?_eq_some_iff.1 hp).1; omega
  have h2' : ∀ (i : Nat) (p : Oper), (l.take n).toArray[i]? = some p → (p.after.all (fun e => !Region.binds .any e || decide (e.on < i))) = true ∧ (match p.guard with | some (g, _) => decide (g < n) | none => true) = true := by
    intro i p hp
    have := List.all_eq_true.1 h2 i (List.mem_range.2 (hlt i p hp))
    rw [hp] at this
    simpa only [Option.map_some, Option.getD_some, Bool.and_eq_true] using this
  have hall : ∀ (es : Array Edge) (m : Nat), es.all (fun e => !Region.binds .any e || decide (e.on < m)) = true → ∀ e ∈ es, Region.binds .any e = true → e.on < m := by
    intro es m hh e he hb
    rw [Array.all_eq_true_iff_forall_mem] at hh
    have := hh e he
    simpa [hb] using this
  have key := wp_region_last (P := P) (Q := Q) (o := o) (id := id) (a := a) (w := w) (ll := l.take n) hm h1 (fun i p hp => hall _ _ (h2' i p hp).1) (by rw [hsz]; exact hall _ _ h3) ?_ ?_ (by simpa using h5) h
  · have e : (l.take n).toArray.push o = l.toArray := by
      rw [List.push_toArray, ← hl]
    rwa [e] at key
  · intro j hj
    rw [hsz] at hj
    have := List.all_eq_true.1 h4 j (List.mem_range.2 hj)
    rw [Bool.or_eq_true] at this
    rcases this with hh | hh
    · left
      rw [Array.any_eq_true'] at hh
      obtain ⟨e, he, hx⟩ := hh
      simp only [Bool.and_eq_true, beq_iff_eq] at hx
      exact ⟨e, he, hx.1, hx.2⟩
    · right
      rw [List.any_eq_true] at hh
      obtain ⟨i, hi, hx⟩ := hh
      rw [Bool.and_eq_true, decide_eq_true_eq] at hx
      obtain ⟨hji, hx⟩ := hx
      have hin : i < (l.take n).toArray.size := by rw [hsz]; exact List.mem_range.1 hi
      rw [Array.getElem?_eq_getElem hin] at hx
      simp only [Option.map_some, Option.getD_some] at hx
      rw [Array.any_eq_true'] at hx
      obtain ⟨e, he, hx⟩ := hx
      simp only [Bool.and_eq_true, beq_iff_eq] at hx
      exact ⟨i, _, Array.getElem?_eq_getElem hin, hji, e, he, hx.1, hx.2⟩
  · intro i p hp g b hgb
    rw [hsz]
    have := (h2' i p hp).2
    rw [hgb] at this
    simpa using this
end
end Go.Proofs.YtokfgdpmbmnijaaGreatDoor
