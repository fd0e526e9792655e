/- Plain functions on days: what the package days computes. No program in sight. -/
import Derived.Below
import Derived.Test.YtokfgdpmbmnijaaGreatDoorWo
import Derived.LoopN
import Derived.Deep.OwnRows
import Derived.Laws.IdiomStrings
import Derived.Lib.ConvBytes
namespace Go.Proofs.YtokfgdpmbmnijaaGreatDoor

def leapI (y : Int) : Int := if (y % 4 = 0 ∧ y % 100 ≠ 0) ∨ y % 400 = 0 then 1 else 0
def over2100 (y : Int) : Int := if 2100 < y then 1 else 0
def yearI (y : Int) : Int := 365 * (y - 2000) + ((y - 2000 + 3) / 4 - over2100 y)
def aheadN (k : Nat) : Int :=
  match k with
  | 0 => 0 | 1 => 31 | 2 => 59 | 3 => 90 | 4 => 120 | 5 => 151 | 6 => 181 | 7 => 212 | 8 => 243 | 9 => 273 | 10 => 304 | 11 => 334 | 12 => 365 | _ => 0
def leapPart (m : Int) : Int := if 2 ≤ m % 12 then leapI (2000 + m / 12) else 0
/-- The first day of a month. -/
def startI (m : Int) : Int := yearI (2000 + m / 12) + aheadN (m % 12).toNat + leapPart m
/-- A day's month, looked for from one on. -/
def monthF (day : Int) : Nat → Int → Int
  | 0, m => m
  | f + 1, m => if m < 2399 ∧ startI (m + 1) ≤ day then monthF day f (m + 1) else m
def monthI (day : Int) : Int := monthF day 2400 (day / 31)
def ofY (day : Int) : Int := 2000 + monthI day / 12
def ofM (day : Int) : Int := monthI day % 12 + 1
def ofD (day : Int) : Int := day - startI (monthI day) + 1

theorem leapI_bd (y : Int) : 0 ≤ leapI y ∧ leapI y ≤ 1 := by unfold leapI; split <;> omega
theorem aheadN_bd (k : Nat) : 0 ≤ aheadN k ∧ aheadN k ≤ 365 := by unfold aheadN; split <;> omega
theorem yearI_bd {y : Int} (h1 : 2000 ≤ y) (h2 : y ≤ 2200) : 0 ≤ yearI y ∧ yearI y ≤ 100000 := by unfold yearI over2100; split <;> omega
theorem leapPart_bd (m : Int) : 0 ≤ leapPart m ∧ leapPart m ≤ 1 := by unfold leapPart; have := leapI_bd (2000 + m / 12); split <;> omega
theorem startI_bd {m : Int} (h1 : 0 ≤ m) (h2 : m ≤ 2400) : 0 ≤ startI m ∧ startI m ≤ 110000 := by
  unfold startI
  have h3 := yearI_bd (y := 2000 + m / 12) (by omega) (by omega)
  have := aheadN_bd (m % 12).toNat
  have := leapPart_bd m
  omega
theorem monthF_bd (day : Int) : ∀ (f : Nat) (m : Int), 0 ≤ m → m ≤ 2399 → 0 ≤ monthF day f m ∧ monthF day f m ≤ 2399
  | 0, m, h1, h2 => ⟨h1, h2⟩
  | f + 1, m, h1, h2 => by
    simp only [monthF]
    split
    · exact monthF_bd day f (m + 1) (by omega) (by omega)
    · exact ⟨h1, h2⟩
theorem monthI_bd {day : Int} (h1 : 0 ≤ day) (h2 : day ≤ 73048) : 0 ≤ monthI day ∧ monthI day ≤ 2399 := monthF_bd day _ _ (by omega) (by omega)
theorem monthF_fuel (day : Int) : ∀ (f g : Nat) (m : Int), 0 ≤ m → 2399 ≤ m + f → 2399 ≤ m + g → monthF day f m = monthF day g m
  | 0, 0, _, _, _, _ => rfl
  | 0, g + 1, m, _, h, _ => by simp only [monthF]; rw [if_neg (by omega)]
  | f + 1, 0, m, _, _, h => by simp only [monthF]; rw [if_neg (by omega)]
  | f + 1, g + 1, m, h0, hf, hg => by
    simp only [monthF]
    split
    · exact monthF_fuel day f g (m + 1) (by omega) (by omega) (by omega)
    · rfl
/-- One step of the search. -/
theorem monthF_on {day m : Int} {f : Nat} (h0 : 0 ≤ m) (h1 : m < 2399) (h2 : startI (m + 1) ≤ day) (hf : 2399 ≤ m + f) : monthF day f m = monthF day f (m + 1) := by
  rw [monthF_fuel day f (f + 1) m h0 hf (by omega), monthF, if_pos ⟨h1, h2⟩]
theorem monthF_stop {day m : Int} {f : Nat} (h0 : 0 ≤ m) (h : ¬ (m < 2399 ∧ startI (m + 1) ≤ day)) (hf : 2399 ≤ m + f) : monthF day f m = m := by
  rw [monthF_fuel day f (f + 1) m h0 hf (by omega), monthF, if_neg h]
/-- The number that a date is; -1: there is none such. -/
def dayI (y m d : Int) : Int :=
  if y < 2000 ∨ 2199 < y ∨ m < 1 ∨ 12 < m ∨ d < 1 ∨ 31 < d then -1
  else
    let n := startI ((y - 2000) * 12 + m - 1) + d - 1
    if n < 0 ∨ 73048 < n ∨ ofY n ≠ y ∨ ofM n ≠ m ∨ ofD n ≠ d then -1 else n
end Go.Proofs.YtokfgdpmbmnijaaGreatDoor
/- What chattel/days's inner functions and Day answer. -/
namespace Go.Proofs.YtokfgdpmbmnijaaGreatDoor
open Go.RowKit

structure AheadTab (w : World) : Prop where
  at_ : ∀ k : Nat, k ≤ 12 → w.cell? ⟨8, k, none⟩ = some (.int .i64 (aheadN k))
  size : 8 < w.heap.size
theorem AheadTab.below_ {w w' : World} (h : AheadTab w) (hb : Below w.heap.size w w') : AheadTab w' :=
  ⟨fun k hk => (hb.cell (p := ⟨8, k, none⟩) h.size).trans (h.at_ k hk), Nat.lt_of_lt_of_le h.size hb.size⟩

set_option maxHeartbeats 400000 in
theorem days_leap (y : Int) (w : World) (h1 : 0 ≤ y) :
    Calls Tryz.prog 220 #[.int .i64 y] w fun e w' => e = .returned (.int .i64 (leapI y)) ∧ w = w' := by
  have HL : Hid (leapI y = if (y % 4 = 0 ∧ y % 100 ≠ 0) ∨ y % 400 = 0 then 1 else 0) := by show _ = _; rfl
  go_enter Tryz.func220, Tryz.ntmps220
  go_wp2
  all_goals
    go_ret
    refine ⟨ret_int ?_, rfl⟩
    rw [HL.out]
    simp only [beq_iff_eq, ne_eq, beq_eq_false_iff_ne] at *
    first | rw [if_pos (by omega)] | rw [if_neg (by omega)]

set_option maxHeartbeats 400000 in
theorem days_year (y : Int) (w : World) (h1 : 2000 ≤ y) (h2 : y ≤ 2200) :
    Calls Tryz.prog 219 #[.int .i64 y] w fun e w' => e = .returned (.int .i64 (yearI y)) ∧ w = w' := by
  have HL : Hid (yearI y = 365 * (y - 2000) + ((y - 2000 + 3) / 4 - over2100 y)) := by show _ = _; rfl
  have HO : Hid (over2100 y = if 2100 < y then 1 else 0) := by show _ = _; rfl
  go_enter Tryz.func219, Tryz.ntmps219
  go_wp2
  all_goals
    go_ret
    refine ⟨ret_int ?_, rfl⟩
    rw [HL.out, HO.out]
    first | rw [if_pos (by assumption)] | rw [if_neg (by omega)]
    try omega

set_option maxHeartbeats 1000000 in
theorem days_start (m : Int) (w : World) (h1 : 0 ≤ m) (h2 : m ≤ 2400) (ht : AheadTab w) :
    Calls Tryz.prog 199 #[.int .i64 m] w fun e w' => e = .returned (.int .i64 (startI m)) ∧ Below w.heap.size w w' := by
  have HS : Hid (startI m = yearI (2000 + m / 12) + aheadN (m % 12).toNat + leapPart m) := by show _ = _; rfl
  have b1 := yearI_bd (y := 2000 + m / 12) (by omega) (by omega)
  have b2 := aheadN_bd (m % 12).toNat
  have b3 := leapI_bd (2000 + m / 12)
  have hc : ∀ x : Later w, x.val.cell? ⟨8, (m % 12).toNat, none⟩ = some (.int .i64 (aheadN (m % 12).toNat)) := fun x => (x.cell (p := ⟨8, (m % 12).toNat, none⟩) ht.size).trans (ht.at_ _ (by omega))
  have q1 : 0 ≤ m % 12 := by omega
  have q2 : m % 12 < 12 := by omega
  have q3 : 0 ≤ m / 12 := by omega
  have q4 : m / 12 ≤ 200 := by omega
  by_cases hm : 2 ≤ m % 12
  · have HP : Hid (leapPart m = leapI (2000 + m / 12)) := if_pos hm
    go_enter Tryz.func199, Tryz.ntmps199
    go_wp2_with fail
    refine wp_region_later (by kernel_rfl) (by kernel_rfl) ?_
    repeat (go_big_quiet_step ((go_at_call 219; exact Calls.later_same (days_year _ _ (by omega) (by omega)))))
    refine wpQuiet_nil ?_
    rintro ⟨w1, hb1⟩
    go_wp2_with (go_at_call 220; refine (days_leap _ _ (by omega)).mono ?_; rintro e w2 ⟨rfl, rfl⟩)
    go_ret
    exact ⟨ret_int (by rw [HS.out, HP.out]), hb1⟩
  · have HP : Hid (leapPart m = 0) := if_neg hm
    go_enter Tryz.func199, Tryz.ntmps199
    go_wp2_with fail
    refine wp_region_later (by kernel_rfl) (by kernel_rfl) ?_
    repeat (go_big_quiet_step ((go_at_call 219; exact Calls.later_same (days_year _ _ (by omega) (by omega)))))
    refine wpQuiet_nil ?_
    rintro ⟨w1, hb1⟩
    go_wp2_with fail
    go_ret
    exact ⟨ret_int (by rw [HS.out, HP.out]; omega), hb1⟩

set_option maxHeartbeats 400000 in
theorem days_right (n : Int) (w : World) :
    Calls Tryz.prog 171 #[.int .i64 n] w fun e w' => e = .returned (.bool (decide (0 ≤ n) && decide (n ≤ 73048))) ∧ w = w' := by
  go_enter Tryz.func171, Tryz.ntmps171
  go_wp2
  all_goals
    go_ret
    refine ⟨?_, rfl⟩
    simp [*]
  all_goals omega

set_option maxHeartbeats 1000000 in
theorem days_month (day : Int) (w : World) (h1 : 0 ≤ day) (h2 : day ≤ 73048) (ht : AheadTab w) :
    Calls Tryz.prog 198 #[.int .i64 day] w fun e w' => e = .returned (.int .i64 (monthI day)) ∧ Below w.heap.size w w' := by
  have HT := Lib.hid ht
  have HM : Hid (monthI day = monthF day 2400 (day / 31)) := by show _ = _; rfl
  clear ht
  go_enter Tryz.func198, Tryz.ntmps198
  go_wp2_with fail
  go_loopw [3] (fun m wr => ∃ k : Int, m = .int .i64 k ∧ 0 ≤ k ∧ k ≤ 2399 ∧ Hid (monthF day 2400 k = monthI day) ∧ Below w.heap.size w wr) (fun m _ => (2399 - intOf m).toNat)
  case atStart => exact ⟨day / 31, rfl, by omega, by omega, HM.out.symm, Below.refl _ _⟩
  case round =>
    obtain ⟨k, rfl, hk0, hk1, hk, hb⟩ := hrel
    have HTr := Lib.hid (HT.out.below_ hb)
    by_cases hlt : k < 2399
    · by_cases hs : startI (k + 1) ≤ day
      · have hsb : decide (startI (k + 1) ≤ day) = true := by simpa using hs
        have HN : Hid (monthF day 2400 (k + 1) = monthI day) := by show _ = _; rw [← hk.out]; exact (monthF_on hk0 hlt hs (by omega)).symm
        clear hs
        go_wp2_with (go_at_call 199; refine (days_start _ _ (by omega) (by omega) HTr.out).mono ?_; rintro e w2 ⟨rfl, hb2⟩)
        go_roundw
        case rel => exact ⟨k + 1, rfl, by omega, by omega, HN, below_two hb hb2⟩
        case measure => simp [intOf]; omega
      · have hsb : decide (startI (k + 1) ≤ day) = false := by simpa using hs
        have HN : Hid (monthI day = k) := by show _ = _; rw [← hk.out]; exact monthF_stop hk0 (fun h => hs h.2) (by omega)
        clear hs
        go_wp2_with (go_at_call 199; refine (days_start _ _ (by omega) (by omega) HTr.out).mono ?_; rintro e w2 ⟨rfl, hb2⟩)
        go_ret
        exact ⟨ret_int HN.out.symm, below_two hb hb2⟩
    · have HN : Hid (monthI day = k) := by show _ = _; rw [← hk.out]; exact monthF_stop hk0 (fun h => hlt h.1) (by omega)
      go_wp2_with fail
      go_ret
      exact ⟨ret_int HN.out.symm, hb⟩

set_option maxHeartbeats 400000 in
theorem days_of (day : Int) (w : World) (h1 : 0 ≤ day) (h2 : day ≤ 73048) (ht : AheadTab w) :
    Calls Tryz.prog 173 #[.int .i64 day] w fun e w' => e = .returned (.agg #[.int .i64 (ofY day), .int .i64 (ofM day), .int .i64 (ofD day)]) ∧ Below w.heap.size w w' := by
  have HT := Lib.hid ht
  have bm := monthI_bd h1 h2
  have bs := startI_bd (m := monthI day) (by omega) (by omega)
  have HY : Hid (ofY day = 2000 + monthI day / 12) := by show _ = _; rfl
  have HM : Hid (ofM day = monthI day % 12 + 1) := by show _ = _; rfl
  have HD : Hid (ofD day = day - startI (monthI day) + 1) := by show _ = _; rfl
  clear ht
  go_enter Tryz.func173, Tryz.ntmps173
  go_wp2_with fail
  refine (days_month _ _ h1 h2 (HT.out.below_ (below_alloc _ _))).mono ?_
  rintro e w1 ⟨rfl, hb1⟩
  go_wp2_with fail
  refine (days_start _ _ (by omega) (by omega) (HT.out.below_ (below_two (below_alloc _ _) hb1))).mono ?_
  rintro e w2 ⟨rfl, hb2⟩
  have hb3 := below_two hb1 hb2
  have c0 := new_cell hb3 0 _ rfl
  have c1 := new_cell hb3 1 _ rfl
  have c2 := new_cell hb3 2 _ rfl
  have f0 := new_free hb3 0
  have f1 := new_free hb3 1
  have f2 := new_free hb3 2
  have hz := new_lt hb3
  have hB := below_two (below_alloc _ _) hb3
  clear hb1 hb2 hb3
  go_wp2_with fail
  refine bodyPost_ret (v := .agg #[.int .i64 (2000 + monthI day / 12), .int .i64 (monthI day % 12 + 1), .int .i64 (day - startI (monthI day) + 1)]) (by simp [results, Tryz.results173, go_sem, c0, c1, c2]) rfl ⟨by rw [HY.out, HM.out, HD.out], ?_⟩
  exact ((hB.setCell (Nat.le_refl _) _).setCell (Nat.le_refl _) _).setCell (Nat.le_refl _) _
end Go.Proofs.YtokfgdpmbmnijaaGreatDoor
/- What chattel/days's Day, Print and Parse answer. -/
namespace Go.Proofs.YtokfgdpmbmnijaaGreatDoor
open Go.RowKit

/-- 'Day''s two answers. -/
def dayR (y m d : Int) : Int := if dayI y m d = -1 then 0 else dayI y m d
def dayE (y m d : Int) : Int := if dayI y m d = -1 then 18 else 0
theorem day_out {y m d : Int} (h : y < 2000 ∨ 2199 < y ∨ m < 1 ∨ 12 < m ∨ d < 1 ∨ 31 < d) : dayR y m d = 0 ∧ dayE y m d = 18 := by
  have : dayI y m d = -1 := by unfold dayI; rw [if_pos h]
  unfold dayR dayE
  rw [if_pos this, if_pos this]
  exact ⟨rfl, rfl⟩
theorem day_no {y m d : Int} (h : ¬ (y < 2000 ∨ 2199 < y ∨ m < 1 ∨ 12 < m ∨ d < 1 ∨ 31 < d)) (h2 : startI ((y - 2000) * 12 + m - 1) + d - 1 < 0 ∨ 73048 < startI ((y - 2000) * 12 + m - 1) + d - 1 ∨ ofY (startI ((y - 2000) * 12 + m - 1) + d - 1) ≠ y ∨ ofM (startI ((y - 2000) * 12 + m - 1) + d - 1) ≠ m ∨ ofD (startI ((y - 2000) * 12 + m - 1) + d - 1) ≠ d) :
    dayR y m d = 0 ∧ dayE y m d = 18 := by
  have : dayI y m d = -1 := by unfold dayI; rw [if_neg h]; simp only; rw [if_pos h2]
  unfold dayR dayE
  rw [if_pos this, if_pos this]
  exact ⟨rfl, rfl⟩
theorem day_yes {y m d : Int} (h : ¬ (y < 2000 ∨ 2199 < y ∨ m < 1 ∨ 12 < m ∨ d < 1 ∨ 31 < d)) (h2 : ¬ (startI ((y - 2000) * 12 + m - 1) + d - 1 < 0 ∨ 73048 < startI ((y - 2000) * 12 + m - 1) + d - 1 ∨ ofY (startI ((y - 2000) * 12 + m - 1) + d - 1) ≠ y ∨ ofM (startI ((y - 2000) * 12 + m - 1) + d - 1) ≠ m ∨ ofD (startI ((y - 2000) * 12 + m - 1) + d - 1) ≠ d)) :
    dayR y m d = startI ((y - 2000) * 12 + m - 1) + d - 1 ∧ dayE y m d = 0 := by
  have : dayI y m d = startI ((y - 2000) * 12 + m - 1) + d - 1 := by unfold dayI; rw [if_neg h]; simp only; rw [if_neg h2]
  unfold dayR dayE
  rw [this, if_neg (by omega), if_neg (by omega)]
  exact ⟨rfl, rfl⟩

set_option maxHeartbeats 1000000 in
theorem days_Day_out (y m d : Int) (w : World) (h : y < 2000 ∨ 2199 < y ∨ m < 1 ∨ 12 < m ∨ d < 1 ∨ 31 < d) :
    Calls Tryz.prog 207 #[.int .i64 y, .int .i64 m, .int .i64 d] w fun e w' => e = .returned (.tuple #[.int .i64 0, .int .i64 18]) ∧ Below w.heap.size w w' := by
  rcases h with h | h | h | h | h | h
  all_goals
    go_enter Tryz.func207, Tryz.ntmps207
    go_wp2_with fail
  all_goals
    go_ret2
    exact ⟨rfl, Below.refl _ _⟩

set_option maxHeartbeats 2000000 in
theorem days_Day_in (y m d : Int) (w : World) (h : ¬ (y < 2000 ∨ 2199 < y ∨ m < 1 ∨ 12 < m ∨ d < 1 ∨ 31 < d)) (ht : AheadTab w) :
    Calls Tryz.prog 207 #[.int .i64 y, .int .i64 m, .int .i64 d] w fun e w' => e = .returned (.tuple #[.int .i64 (dayR y m d), .int .i64 (dayE y m d)]) ∧ Below w.heap.size w w' := by
  have HT := Lib.hid ht
  have HH := Lib.hid h
  simp only [not_or] at h
  obtain ⟨g1, g2, g3, g4, g5, g6⟩ := h
  have g1' : decide (y < 2000) = false := by simpa using g1
  have g2' : decide (2199 < y) = false := by simpa using g2
  have g3' : decide (m < 1) = false := by simpa using g3
  have g4' : decide (12 < m) = false := by simpa using g4
  have g5' : decide (d < 1) = false := by simpa using g5
  have g6' : decide (31 < d) = false := by simpa using g6
  have bs := startI_bd (m := (y - 2000) * 12 + m - 1) (by omega) (by omega)
  clear ht
  obtain ⟨s, hs⟩ : ∃ s, startI ((y - 2000) * 12 + m - 1) = s := ⟨_, rfl⟩
  have HS := Lib.hid hs
  rw [hs] at bs
  clear hs
  go_enter Tryz.func207, Tryz.ntmps207
  go_wp2_with fail
  refine (days_start _ _ (by omega) (by omega) HT.out).mono ?_
  rintro e w1 ⟨rfl, hb1⟩
  rw [HS.out]
  by_cases hr : s + d - 1 ≤ 73048
  · have hr' : decide (s + d - 1 ≤ 73048) = true := by simpa using hr
    have HT1 := Lib.hid (HT.out.below_ hb1)
    by_cases he : ofY (s + d - 1) = y ∧ ofM (s + d - 1) = m ∧ ofD (s + d - 1) = d
    · obtain ⟨e1, e2, e3⟩ := he
      have HR := Lib.hid (day_yes HH.out (by rw [HS.out]; simp only [not_or, Decidable.not_not]; exact ⟨by omega, by omega, e1, e2, e3⟩))
      rw [HS.out] at HR
      have k1 : (ofY (s + d - 1) == y) = true := by simp [e1]
      have k2 : (ofM (s + d - 1) == m) = true := by simp [e2]
      have k3 : (ofD (s + d - 1) == d) = true := by simp [e3]
      clear e1 e2 e3
      go_wp2_with (first | (go_at_call 171; refine (days_right _ _).mono ?_; rintro e w2 ⟨rfl, rfl⟩) | (go_at_call 173; refine (days_of _ _ (by omega) (by omega) HT1.out).mono ?_; rintro e w2 ⟨rfl, hb2⟩))
      go_ret2
      exact ⟨ret_int2 HR.out.1.symm HR.out.2.symm, below_two hb1 hb2⟩
    · have HR := Lib.hid (day_no HH.out (by rw [HS.out]; by_cases e1 : ofY (s + d - 1) = y <;> by_cases e2 : ofM (s + d - 1) = m <;> by_cases e3 : ofD (s + d - 1) = d <;> simp_all))
      have hcase : (ofY (s + d - 1) == y) = false ∨ ((ofY (s + d - 1) == y) = true ∧ (ofM (s + d - 1) == m) = false) ∨ ((ofY (s + d - 1) == y) = true ∧ (ofM (s + d - 1) == m) = true ∧ (ofD (s + d - 1) == d) = false) := by
        by_cases e1 : ofY (s + d - 1) = y <;> by_cases e2 : ofM (s + d - 1) = m <;> by_cases e3 : ofD (s + d - 1) = d <;> simp_all
      clear he
      rcases hcase with k1 | ⟨k1, k2⟩ | ⟨k1, k2, k3⟩
      all_goals
        go_wp2_with (first | (go_at_call 171; refine (days_right _ _).mono ?_; rintro e w2 ⟨rfl, rfl⟩) | (go_at_call 173; refine (days_of _ _ (by omega) (by omega) HT1.out).mono ?_; rintro e w2 ⟨rfl, hb2⟩))
        go_ret2
        exact ⟨ret_int2 HR.out.1.symm HR.out.2.symm, below_two hb1 hb2⟩
  · have hr' : decide (s + d - 1 ≤ 73048) = false := by simpa using hr
    have HR := Lib.hid (day_no HH.out (by rw [HS.out]; right; left; omega))
    go_wp2_with (go_at_call 171; refine (days_right _ _).mono ?_; rintro e w2 ⟨rfl, rfl⟩)
    go_ret2
    exact ⟨ret_int2 HR.out.1.symm HR.out.2.symm, hb1⟩

/-- 'Day': the number of a date. -/
theorem days_Day (y m d : Int) (w : World) (ht : AheadTab w) :
    Calls Tryz.prog 207 #[.int .i64 y, .int .i64 m, .int .i64 d] w fun e w' => e = .returned (.tuple #[.int .i64 (dayR y m d), .int .i64 (dayE y m d)]) ∧ Below w.heap.size w w' := by
  by_cases h : y < 2000 ∨ 2199 < y ∨ m < 1 ∨ 12 < m ∨ d < 1 ∨ 31 < d
  · rw [(day_out h).1, (day_out h).2]; exact days_Day_out y m d w h
  · exact days_Day_in y m d w h ht
end Go.Proofs.YtokfgdpmbmnijaaGreatDoor
/- What chattel/days's Print answers. -/
namespace Go.Proofs.YtokfgdpmbmnijaaGreatDoor
open Go.RowKit

def digB (n : Int) : UInt8 := UInt8.ofNat (48 + (n % 10).toNat)
theorem digB_nat (n : Int) : ((digB n).toNat : Int) = 48 + n % 10 := by
  unfold digB
  rw [UInt8.toNat_ofNat']
  omega
def dig2 (n : Int) : ByteArray := ⟨#[digB (n / 10), digB n]⟩
def dig4 (n : Int) : ByteArray := ⟨#[digB (n / 10 / 10 / 10), digB (n / 10 / 10), digB (n / 10), digB n]⟩
@[go_sem] theorem dig2_size (n : Int) : (dig2 n).size = 2 := rfl
@[go_sem] theorem dig4_size (n : Int) : (dig4 n).size = 4 := rfl
@[go_sem] theorem mk1_size (a : UInt8) : (ByteArray.mk #[a]).size = 1 := rfl
attribute [go_sem] ByteArray.size_append
/-- 'string(b)' of a new row of bytes. -/
theorem conv_new (w : World) (l : List UInt8) (cs : Array Value) (h : cs = (l.map fun b => Value.int .u8 (b.toNat : Int)).toArray) :
    (convert 70 9 (.slice (some ⟨w.heap.size, 0, none⟩) l.length l.length)).run Tryz.prog (w.alloc (.cells cs 5)) = .ok (.string ⟨l.toArray⟩) (w.alloc (.cells cs 5)) := by
  refine run_convert_bytes_back _ 70 9 5 _ _ l Tryz.underlying70 Tryz.underlying5 Tryz.underlying9 ?_
  intro j hj
  have := cell_at w cs 5 j (.int .u8 (l[j].toNat : Int)) (by rw [h]; simp [hj])
  rwa [show Addr.add ⟨w.heap.size, 0, none⟩ j = ⟨w.heap.size, j, none⟩ from by unfold Addr.add; by_cases hj0 : j = 0 <;> simp [hj0]]

set_option maxRecDepth 20000 in
set_option maxHeartbeats 1000000 in
theorem days_digits2 (n : Int) (w : World) (h0 : 0 ≤ n) (h1 : n ≤ 9999) :
    Calls Tryz.prog 172 #[.int .i64 n, .int .i64 2] w fun e w' => e = .returned (.string (dig2 n)) ∧ Below w.heap.size w w' := by
  have hmk : ∀ W : World, (Instr.makeSlice 70 (.int .i64 2) (.int .i64 2)).run Tryz.prog W = .ok (.slice (some ⟨W.heap.size, 0, none⟩) 2 2) (W.alloc (.cells #[.int .u8 0, .int .u8 0] 5)) := fun W => by kernel_rfl
  have hcv := conv_new w [digB (n / 10), digB n] #[.int .u8 (48 + n / 10 % 10), .int .u8 (48 + n % 10)] (by simp [digB_nat])
  simp only [List.length_cons, List.length_nil, Nat.zero_add, Nat.reduceAdd] at hcv
  go_enter Tryz.func172, Tryz.ntmps172
  go_wp2_with fail
  refine wp_loop_rounds 3 ?_
  rw [rounds_succ]
  go_wp2_with fail
  rw [rounds_succ]
  go_wp2_with fail
  rw [rounds_succ]
  go_wp2_with fail
  go_ret
  exact ⟨rfl, below_alloc _ _⟩

set_option maxRecDepth 20000 in
set_option maxHeartbeats 1000000 in
theorem days_digits4 (n : Int) (w : World) (h0 : 0 ≤ n) (h1 : n ≤ 9999) :
    Calls Tryz.prog 172 #[.int .i64 n, .int .i64 4] w fun e w' => e = .returned (.string (dig4 n)) ∧ Below w.heap.size w w' := by
  have hmk : ∀ W : World, (Instr.makeSlice 70 (.int .i64 4) (.int .i64 4)).run Tryz.prog W = .ok (.slice (some ⟨W.heap.size, 0, none⟩) 4 4) (W.alloc (.cells #[.int .u8 0, .int .u8 0, .int .u8 0, .int .u8 0] 5)) := fun W => by kernel_rfl
  have hcv := conv_new w [digB (n / 10 / 10 / 10), digB (n / 10 / 10), digB (n / 10), digB n] #[.int .u8 (48 + n / 10 / 10 / 10 % 10), .int .u8 (48 + n / 10 / 10 % 10), .int .u8 (48 + n / 10 % 10), .int .u8 (48 + n % 10)] (by simp [digB_nat])
  simp only [List.length_cons, List.length_nil, Nat.zero_add, Nat.reduceAdd] at hcv
  go_enter Tryz.func172, Tryz.ntmps172
  go_wp2_with fail
  refine wp_loop_rounds 5 ?_
  rw [rounds_succ]
  go_wp2_with fail
  rw [rounds_succ]
  go_wp2_with fail
  rw [rounds_succ]
  go_wp2_with fail
  rw [rounds_succ]
  go_wp2_with fail
  rw [rounds_succ]
  go_wp2_with fail
  go_ret
  exact ⟨rfl, below_alloc _ _⟩

/-- A number in so many digits (two, or four). -/
def digs (k n : Int) : ByteArray := if k = 4 then dig4 n else dig2 n
@[go_sem] theorem digs2_size (n : Int) : (digs 2 n).size = 2 := rfl
@[go_sem] theorem digs4_size (n : Int) : (digs 4 n).size = 4 := rfl
theorem days_digits (n k : Int) (w : World) (hk : k = 2 ∨ k = 4) (h0 : 0 ≤ n) (h1 : n ≤ 9999) :
    Calls Tryz.prog 172 #[.int .i64 n, .int .i64 k] w fun e w' => e = .returned (.string (digs k n)) ∧ Below w.heap.size w w' := by
  rcases hk with rfl | rfl
  · exact days_digits2 n w h0 h1
  · exact days_digits4 n w h0 h1

/-- A day's text. -/
def dayT (n : Int) : ByteArray := digs 4 (ofY n) ++ ⟨#[45]⟩ ++ digs 2 (ofM n) ++ ⟨#[45]⟩ ++ digs 2 (ofD n)
theorem ofY_bd {n : Int} (h1 : 0 ≤ n) (h2 : n ≤ 73048) : 2000 ≤ ofY n ∧ ofY n ≤ 2199 := by have := monthI_bd h1 h2; unfold ofY; omega
theorem ofM_bd {n : Int} (h1 : 0 ≤ n) (h2 : n ≤ 73048) : 1 ≤ ofM n ∧ ofM n ≤ 12 := by have := monthI_bd h1 h2; unfold ofM; omega

set_option maxRecDepth 20000 in
set_option maxHeartbeats 1000000 in
theorem days_Print (n : Int) (w : World) (h1 : 0 ≤ n) (h2 : n ≤ 73048) (hd : 0 ≤ ofD n) (hd2 : ofD n ≤ 9999) (ht : AheadTab w) :
    Calls Tryz.prog 158 #[.int .i64 n] w fun e w' => e = .returned (.tuple #[.string (dayT n), .int .i64 0]) ∧ Below w.heap.size w w' := by
  have HT := Lib.hid ht
  clear ht
  have HD : Hid (dayT n = digs 4 (ofY n) ++ ⟨#[45]⟩ ++ digs 2 (ofM n) ++ ⟨#[45]⟩ ++ digs 2 (ofD n)) := by show _ = _; rfl
  have b1 := ofY_bd h1 h2
  have b2 := ofM_bd h1 h2
  go_enter Tryz.func158, Tryz.ntmps158
  go_wp2_with (first | (go_at_call 171; refine (days_right _ _).mono ?_; rintro e w2 ⟨rfl, rfl⟩) | (go_at_call 173; refine (days_of _ _ (by omega) (by omega) HT.out).mono ?_; rintro e w2 ⟨rfl, hb2⟩))
  have hL0 : ∀ x : Later (w2.alloc (.cells #[.int .i64 (ofY n), .int .i64 (ofM n), .int .i64 (ofD n)] 227)), x.val.cell? ⟨w2.heap.size, 0, none⟩ = some (.int .i64 (ofY n)) := fun x => x.new 0 _ rfl
  have hL1 : ∀ x : Later (w2.alloc (.cells #[.int .i64 (ofY n), .int .i64 (ofM n), .int .i64 (ofD n)] 227)), x.val.cell? ⟨w2.heap.size, 1, none⟩ = some (.int .i64 (ofM n)) := fun x => x.new 1 _ rfl
  have hL2 : ∀ x : Later (w2.alloc (.cells #[.int .i64 (ofY n), .int .i64 (ofM n), .int .i64 (ofD n)] 227)), x.val.cell? ⟨w2.heap.size, 2, none⟩ = some (.int .i64 (ofD n)) := fun x => x.new 2 _ rfl
  refine wp_region_later (by kernel_rfl) (by kernel_rfl) ?_
  repeat (go_big_quiet_step ((go_at_call 172; exact Calls.later (days_digits _ _ _ (by omega) (by omega) (by omega)))))
  refine wpQuiet_nil ?_
  rintro ⟨w3, hb3⟩
  go_wp2_with fail
  go_ret2
  refine ⟨?_, below_two hb2 (below_two (below_alloc _ _) hb3)⟩
  rw [HD.out]
  rfl
end Go.Proofs.YtokfgdpmbmnijaaGreatDoor
/- What chattel/days's Parse answers. -/
namespace Go.Proofs.YtokfgdpmbmnijaaGreatDoor
open Go.RowKit

/-- '[]byte(s)': a new row that holds s's bytes. -/
theorem conv_bytes (w : World) (s : ByteArray) : ∃ (cap : Nat) (W : World), (convert 9 70 (.string s)).run Tryz.prog w = .ok (.slice (some ⟨w.heap.size, 0, none⟩) s.size cap) W ∧ Below w.heap.size w W ∧ w.heap.size < W.heap.size ∧
    (∀ j, j < s.size → W.cell? ⟨w.heap.size, j, none⟩ = some (.int .u8 ((s.data.toList.getD j 0).toNat : Int))) :=
  ⟨_, _, Lib.run_convert_string_bytes w 9 70 5 s Tryz.underlying9 Tryz.underlying70 Tryz.underlying5,
    ⟨rfl, rfl, rfl, by rw [Lib.bytesWorld_size]; omega, fun k hk => Lib.bytesWorld_at_old w _ s k hk⟩, by rw [Lib.bytesWorld_size]; omega, fun j hj => Lib.bytesWorld_cell w _ s j hj⟩

def isDig (c : UInt8) : Bool := decide (48 ≤ (c.toNat : Int)) && decide ((c.toNat : Int) ≤ 57)
def isBar (c : UInt8) : Bool := (c.toNat : Int) == 45
/-- The next number, by one digit more. -/
def dgt (n : Int) (c : UInt8) : Int := 10 * n + (c.toNat : Int) - 48
def dayForm (l : List UInt8) : Bool :=
  match l with
  | [a, b, c, d, e, f, g, h, i, j] => isDig a && (isDig b && (isDig c && (isDig d && (isBar e && (isDig f && (isDig g && (isBar h && (isDig i && isDig j))))))))
  | _ => false
def dayNums (l : List UInt8) : Int × Int × Int :=
  match l with
  | [a, b, c, d, _, f, g, _, i, j] => (dgt (dgt (dgt (dgt 0 a) b) c) d, dgt (dgt 0 f) g, dgt (dgt 0 i) j)
  | _ => (0, 0, 0)
/-- 'Parse''s two answers. -/
def dayPR (s : ByteArray) : Int := if dayForm s.data.toList then dayR (dayNums s.data.toList).1 (dayNums s.data.toList).2.1 (dayNums s.data.toList).2.2 else 0
def dayPE (s : ByteArray) : Int := if dayForm s.data.toList then dayE (dayNums s.data.toList).1 (dayNums s.data.toList).2.1 (dayNums s.data.toList).2.2 else 13

set_option maxHeartbeats 400000 in
theorem days_Parse_size (s : ByteArray) (w : World) (h : s.size ≠ 10) :
    Calls Tryz.prog 187 #[.string s] w fun e w' => e = .returned (.tuple #[.int .i64 0, .int .i64 13]) ∧ w = w' := by
  have h' : ((s.size : Int) == 10) = false := by rw [beq_eq_false_iff_ne]; omega
  have h'' : ((s.size : Int) != 10) = true := by rw [bne_iff_ne]; omega
  clear h
  go_enter Tryz.func187, Tryz.ntmps187
  go_wp2_with fail
  go_step3
  go_wp2_with fail
  rw [Exit.noGoto_ret]
  go_ret2
  exact ⟨rfl, rfl⟩

theorem isDig_yes {c : UInt8} (h : isDig c = true) : 48 ≤ (c.toNat : Int) ∧ (c.toNat : Int) ≤ 57 := by simpa only [isDig, Bool.and_eq_true, decide_eq_true_eq] using h
theorem isDig_no {c : UInt8} (h : ¬ isDig c = true) : (c.toNat : Int) < 48 ∨ 57 < (c.toNat : Int) := by
  simp only [isDig, Bool.and_eq_true, decide_eq_true_eq] at h
  omega
theorem isDig_no' {c : UInt8} (h : ¬ isDig c = true) : decide (48 ≤ (c.toNat : Int)) = false ∨ (decide (48 ≤ (c.toNat : Int)) = true ∧ decide ((c.toNat : Int) ≤ 57) = false) := by
  have h1 := isDig_no h
  simp only [decide_eq_false_iff_not, decide_eq_true_eq]
  omega
theorem byte_le (c : UInt8) : (c.toNat : Int) ≤ 255 := by have := c.toNat_lt; omega
theorem day_good {s : ByteArray} {x y z : Int} (h : dayForm s.data.toList = true) (h2 : dayNums s.data.toList = (x, y, z)) : dayPR s = dayR x y z ∧ dayPE s = dayE x y z := by
  unfold dayPR dayPE
  rw [h, h2]
  exact ⟨rfl, rfl⟩
theorem day_bad {s : ByteArray} (h : dayForm s.data.toList = false) : dayPR s = 0 ∧ dayPE s = 13 := by
  unfold dayPR dayPE
  rw [h]
  exact ⟨rfl, rfl⟩

/-- What 'Parse' holds: three numbers of its own, and the text's bytes. -/
structure DW (w : World) (bs : List UInt8) (W : World) (x y z : Int) : Prop where
  n0 : W.cell? ⟨w.heap.size, 0, none⟩ = some (.int .i64 x)
  n1 : W.cell? ⟨w.heap.size, 1, none⟩ = some (.int .i64 y)
  n2 : W.cell? ⟨w.heap.size, 2, none⟩ = some (.int .i64 z)
  free : ∀ k, W.frozen? ⟨w.heap.size, k, none⟩ = false
  at_ : ∀ k, k < 10 → W.cell? ⟨w.heap.size + 1, k, none⟩ = some (.int .u8 ((bs.getD k 0).toNat : Int))
  low : Below w.heap.size w W
theorem cell_set_off (W : World) (b k j : Nat) (v : Value) (h : k ≠ j) : (W.setCell ⟨b, k, none⟩ v).cell? ⟨b, j, none⟩ = W.cell? ⟨b, j, none⟩ := World.cell?_setCell_other W _ _ v (by intro e; cases e; exact h rfl)
theorem cell_set_blk (W : World) (b c k j : Nat) (v : Value) (h : b ≠ c) : (W.setCell ⟨b, k, none⟩ v).cell? ⟨c, j, none⟩ = W.cell? ⟨c, j, none⟩ := World.cell?_setCell_other W _ _ v (by intro e; cases e; exact h rfl)
theorem DW.set0 {w : World} {bs : List UInt8} {W : World} {x y z : Int} (h : DW w bs W x y z) (v : Int) : DW w bs (W.setCell ⟨w.heap.size, 0, none⟩ (.int .i64 v)) v y z :=
  ⟨World.cell?_setCell_same' _ _ _ (by rw [h.n0]; rfl), (cell_set_off _ _ _ _ _ (by decide)).trans h.n1, (cell_set_off _ _ _ _ _ (by decide)).trans h.n2, fun k => by rw [World.frozen?_setCell]; exact h.free k,
    fun k hk => (cell_set_blk _ _ _ _ _ _ (by omega)).trans (h.at_ k hk), below_set h.low⟩
theorem DW.set1 {w : World} {bs : List UInt8} {W : World} {x y z : Int} (h : DW w bs W x y z) (v : Int) : DW w bs (W.setCell ⟨w.heap.size, 1, none⟩ (.int .i64 v)) x v z :=
  ⟨(cell_set_off _ _ _ _ _ (by decide)).trans h.n0, World.cell?_setCell_same' _ _ _ (by rw [h.n1]; rfl), (cell_set_off _ _ _ _ _ (by decide)).trans h.n2, fun k => by rw [World.frozen?_setCell]; exact h.free k,
    fun k hk => (cell_set_blk _ _ _ _ _ _ (by omega)).trans (h.at_ k hk), below_set h.low⟩
theorem DW.set2 {w : World} {bs : List UInt8} {W : World} {x y z : Int} (h : DW w bs W x y z) (v : Int) : DW w bs (W.setCell ⟨w.heap.size, 2, none⟩ (.int .i64 v)) x y v :=
  ⟨(cell_set_off _ _ _ _ _ (by decide)).trans h.n0, (cell_set_off _ _ _ _ _ (by decide)).trans h.n1, World.cell?_setCell_same' _ _ _ (by rw [h.n2]; rfl), fun k => by rw [World.frozen?_setCell]; exact h.free k,
    fun k hk => (cell_set_blk _ _ _ _ _ _ (by omega)).trans (h.at_ k hk), below_set h.low⟩

set_option maxRecDepth 20000 in
set_option maxHeartbeats 4000000 in
theorem days_Parse_ten (b0 b1 b2 b3 b4 b5 b6 b7 b8 b9 : UInt8) (w : World) (ht : AheadTab w) :
    Calls Tryz.prog 187 #[.string ⟨#[b0, b1, b2, b3, b4, b5, b6, b7, b8, b9]⟩] w fun e w' =>
      e = .returned (.tuple #[.int .i64 (dayPR ⟨#[b0, b1, b2, b3, b4, b5, b6, b7, b8, b9]⟩), .int .i64 (dayPE ⟨#[b0, b1, b2, b3, b4, b5, b6, b7, b8, b9]⟩)]) ∧ Below w.heap.size w w' := by
  obtain ⟨cap, W0, hcv0, hbW, hltW, hce⟩ := conv_bytes (w.alloc (.cells #[.int .i64 0, .int .i64 0, .int .i64 0] 261)) ⟨#[b0, b1, b2, b3, b4, b5, b6, b7, b8, b9]⟩
  have hcv : (convert 9 70 (.string ⟨#[b0, b1, b2, b3, b4, b5, b6, b7, b8, b9]⟩)).run Tryz.prog (w.alloc (.cells #[.int .i64 0, .int .i64 0, .int .i64 0] 261)) = .ok (.slice (some ⟨w.heap.size + 1, 0, none⟩) 10 cap) W0 := by
    have := hcv0
    simp only [World.size_alloc] at this
    exact this
  have D : DW w [b0, b1, b2, b3, b4, b5, b6, b7, b8, b9] W0 0 0 0 := ⟨new_cell hbW 0 _ rfl, new_cell hbW 1 _ rfl, new_cell hbW 2 _ rfl, fun k => new_free hbW k, fun k hk => by have := hce k hk; simp only [World.size_alloc] at this; exact this, below_two (below_alloc _ _) hbW⟩
  have HT := Lib.hid ht
  clear hcv0 hce ht hbW hltW
  have n0 := D.n0
  have n1 := D.n1
  have n2 := D.n2
  have f0 := D.free 0
  have f1 := D.free 1
  have f2 := D.free 2
  have e0 : W0.cell? ⟨w.heap.size + 1, 0, none⟩ = some (.int .u8 (b0.toNat : Int)) := D.at_ 0 (by omega)
  go_enter Tryz.func187, Tryz.ntmps187
  go_wp2_with fail
  go_step3
  go_wp2_with fail
  go_step3
  go_wp2_with fail
  clear hcv
  refine wp_loop_rounds 11 ?_
  rw [rounds_succ]
  by_cases h0 : isDig b0 = true
  case neg =>
    have HR : Hid (dayPR ⟨#[b0, b1, b2, b3, b4, b5, b6, b7, b8, b9]⟩ = 0 ∧ dayPE ⟨#[b0, b1, b2, b3, b4, b5, b6, b7, b8, b9]⟩ = 13) := day_bad (by unfold dayForm; simp [h0])
    have g0 := isDig_no' h0
    clear h0
    have v0 : (b0.toNat : Int) ≤ 255 := byte_le _
    rcases g0 with g0 | ⟨g0, k0⟩
    all_goals
      go_wp2_with fail
      try rw [Exit.noGoto_ret]
      go_ret2
      exact ⟨ret_int2 HR.out.1.symm HR.out.2.symm, below_set D.low⟩
  obtain ⟨l0, u0⟩ := isDig_yes h0
  have H0 := Lib.hid h0
  clear h0
  go_wp2_with fail
  obtain ⟨x0, hx⟩ : ∃ x, (b0.toNat : Int) - 48 = x := ⟨_, rfl⟩
  have y0 : 0 ≤ x0 ∧ x0 ≤ 9 := by omega
  rw [hx]
  have X0 := Lib.hid hx
  clear hx
  obtain ⟨W1, hW⟩ : ∃ W', W0.setCell ⟨w.heap.size, 0, none⟩ (.int .i64 x0) = W' := ⟨_, rfl⟩
  replace D := D.set0 x0
  rw [hW] at D ⊢
  clear hW
  clear e0 n0 n1 n2 f0 f1 f2
  have n0 := D.n0
  have n1 := D.n1
  have n2 := D.n2
  have f0 := D.free 0
  have f1 := D.free 1
  have f2 := D.free 2
  have e1 : W1.cell? ⟨w.heap.size + 1, 1, none⟩ = some (.int .u8 (b1.toNat : Int)) := D.at_ 1 (by omega)
  rw [rounds_succ]
  by_cases h1 : isDig b1 = true
  case neg =>
    have HR : Hid (dayPR ⟨#[b0, b1, b2, b3, b4, b5, b6, b7, b8, b9]⟩ = 0 ∧ dayPE ⟨#[b0, b1, b2, b3, b4, b5, b6, b7, b8, b9]⟩ = 13) := day_bad (by unfold dayForm; simp [h1])
    have g1 := isDig_no' h1
    clear h1
    have v1 : (b1.toNat : Int) ≤ 255 := byte_le _
    rcases g1 with g1 | ⟨g1, k1⟩
    all_goals
      go_wp2_with fail
      try rw [Exit.noGoto_ret]
      go_ret2
      exact ⟨ret_int2 HR.out.1.symm HR.out.2.symm, below_set D.low⟩
  obtain ⟨l1, u1⟩ := isDig_yes h1
  have H1 := Lib.hid h1
  clear h1
  go_wp2_with fail
  obtain ⟨x1, hx⟩ : ∃ x, 10 * x0 + (b1.toNat : Int) - 48 = x := ⟨_, rfl⟩
  have y1 : 0 ≤ x1 ∧ x1 ≤ 99 := by omega
  rw [hx]
  have X1 := Lib.hid hx
  clear hx
  obtain ⟨W2, hW⟩ : ∃ W', W1.setCell ⟨w.heap.size, 0, none⟩ (.int .i64 x1) = W' := ⟨_, rfl⟩
  replace D := D.set0 x1
  rw [hW] at D ⊢
  clear hW
  clear e1 n0 n1 n2 f0 f1 f2
  have n0 := D.n0
  have n1 := D.n1
  have n2 := D.n2
  have f0 := D.free 0
  have f1 := D.free 1
  have f2 := D.free 2
  have e2 : W2.cell? ⟨w.heap.size + 1, 2, none⟩ = some (.int .u8 (b2.toNat : Int)) := D.at_ 2 (by omega)
  rw [rounds_succ]
  by_cases h2 : isDig b2 = true
  case neg =>
    have HR : Hid (dayPR ⟨#[b0, b1, b2, b3, b4, b5, b6, b7, b8, b9]⟩ = 0 ∧ dayPE ⟨#[b0, b1, b2, b3, b4, b5, b6, b7, b8, b9]⟩ = 13) := day_bad (by unfold dayForm; simp [h2])
    have g2 := isDig_no' h2
    clear h2
    have v2 : (b2.toNat : Int) ≤ 255 := byte_le _
    rcases g2 with g2 | ⟨g2, k2⟩
    all_goals
      go_wp2_with fail
      try rw [Exit.noGoto_ret]
      go_ret2
      exact ⟨ret_int2 HR.out.1.symm HR.out.2.symm, below_set D.low⟩
  obtain ⟨l2, u2⟩ := isDig_yes h2
  have H2 := Lib.hid h2
  clear h2
  go_wp2_with fail
  obtain ⟨x2, hx⟩ : ∃ x, 10 * x1 + (b2.toNat : Int) - 48 = x := ⟨_, rfl⟩
  have y2 : 0 ≤ x2 ∧ x2 ≤ 999 := by omega
  rw [hx]
  have X2 := Lib.hid hx
  clear hx
  obtain ⟨W3, hW⟩ : ∃ W', W2.setCell ⟨w.heap.size, 0, none⟩ (.int .i64 x2) = W' := ⟨_, rfl⟩
  replace D := D.set0 x2
  rw [hW] at D ⊢
  clear hW
  clear e2 n0 n1 n2 f0 f1 f2
  have n0 := D.n0
  have n1 := D.n1
  have n2 := D.n2
  have f0 := D.free 0
  have f1 := D.free 1
  have f2 := D.free 2
  have e3 : W3.cell? ⟨w.heap.size + 1, 3, none⟩ = some (.int .u8 (b3.toNat : Int)) := D.at_ 3 (by omega)
  rw [rounds_succ]
  by_cases h3 : isDig b3 = true
  case neg =>
    have HR : Hid (dayPR ⟨#[b0, b1, b2, b3, b4, b5, b6, b7, b8, b9]⟩ = 0 ∧ dayPE ⟨#[b0, b1, b2, b3, b4, b5, b6, b7, b8, b9]⟩ = 13) := day_bad (by unfold dayForm; simp [h3])
    have g3 := isDig_no' h3
    clear h3
    have v3 : (b3.toNat : Int) ≤ 255 := byte_le _
    rcases g3 with g3 | ⟨g3, k3⟩
    all_goals
      go_wp2_with fail
      try rw [Exit.noGoto_ret]
      go_ret2
      exact ⟨ret_int2 HR.out.1.symm HR.out.2.symm, below_set D.low⟩
  obtain ⟨l3, u3⟩ := isDig_yes h3
  have H3 := Lib.hid h3
  clear h3
  go_wp2_with fail
  obtain ⟨x3, hx⟩ : ∃ x, 10 * x2 + (b3.toNat : Int) - 48 = x := ⟨_, rfl⟩
  have y3 : 0 ≤ x3 ∧ x3 ≤ 9999 := by omega
  rw [hx]
  have X3 := Lib.hid hx
  clear hx
  obtain ⟨W4, hW⟩ : ∃ W', W3.setCell ⟨w.heap.size, 0, none⟩ (.int .i64 x3) = W' := ⟨_, rfl⟩
  replace D := D.set0 x3
  rw [hW] at D ⊢
  clear hW
  clear e3 n0 n1 n2 f0 f1 f2
  have n0 := D.n0
  have n1 := D.n1
  have n2 := D.n2
  have f0 := D.free 0
  have f1 := D.free 1
  have f2 := D.free 2
  have e4 : W4.cell? ⟨w.heap.size + 1, 4, none⟩ = some (.int .u8 (b4.toNat : Int)) := D.at_ 4 (by omega)
  rw [rounds_succ]
  by_cases h4 : isBar b4 = true
  case neg =>
    have HR : Hid (dayPR ⟨#[b0, b1, b2, b3, b4, b5, b6, b7, b8, b9]⟩ = 0 ∧ dayPE ⟨#[b0, b1, b2, b3, b4, b5, b6, b7, b8, b9]⟩ = 13) := day_bad (by unfold dayForm; simp [h4])
    have g4 : ((b4.toNat : Int) == 45) = false := by simpa [isBar] using h4
    clear h4
    go_wp2_with fail
    all_goals
      try rw [Exit.noGoto_ret]
      go_ret2
      exact ⟨ret_int2 HR.out.1.symm HR.out.2.symm, D.low⟩
  have g4 : ((b4.toNat : Int) == 45) = true := h4
  have H4 := Lib.hid h4
  clear h4
  go_wp2_with fail
  clear e4 n0 n1 n2 f0 f1 f2
  have n0 := D.n0
  have n1 := D.n1
  have n2 := D.n2
  have f0 := D.free 0
  have f1 := D.free 1
  have f2 := D.free 2
  have e5 : W4.cell? ⟨w.heap.size + 1, 5, none⟩ = some (.int .u8 (b5.toNat : Int)) := D.at_ 5 (by omega)
  rw [rounds_succ]
  by_cases h5 : isDig b5 = true
  case neg =>
    have HR : Hid (dayPR ⟨#[b0, b1, b2, b3, b4, b5, b6, b7, b8, b9]⟩ = 0 ∧ dayPE ⟨#[b0, b1, b2, b3, b4, b5, b6, b7, b8, b9]⟩ = 13) := day_bad (by unfold dayForm; simp [h5])
    have g5 := isDig_no' h5
    clear h5
    have v5 : (b5.toNat : Int) ≤ 255 := byte_le _
    rcases g5 with g5 | ⟨g5, k5⟩
    all_goals
      go_wp2_with fail
      try rw [Exit.noGoto_ret]
      go_ret2
      exact ⟨ret_int2 HR.out.1.symm HR.out.2.symm, below_set D.low⟩
  obtain ⟨l5, u5⟩ := isDig_yes h5
  have H5 := Lib.hid h5
  clear h5
  go_wp2_with fail
  obtain ⟨x5, hx⟩ : ∃ x, (b5.toNat : Int) - 48 = x := ⟨_, rfl⟩
  have y5 : 0 ≤ x5 ∧ x5 ≤ 9 := by omega
  rw [hx]
  have X5 := Lib.hid hx
  clear hx
  obtain ⟨W5, hW⟩ : ∃ W', W4.setCell ⟨w.heap.size, 1, none⟩ (.int .i64 x5) = W' := ⟨_, rfl⟩
  replace D := D.set1 x5
  rw [hW] at D ⊢
  clear hW
  clear e5 n0 n1 n2 f0 f1 f2
  have n0 := D.n0
  have n1 := D.n1
  have n2 := D.n2
  have f0 := D.free 0
  have f1 := D.free 1
  have f2 := D.free 2
  have e6 : W5.cell? ⟨w.heap.size + 1, 6, none⟩ = some (.int .u8 (b6.toNat : Int)) := D.at_ 6 (by omega)
  rw [rounds_succ]
  by_cases h6 : isDig b6 = true
  case neg =>
    have HR : Hid (dayPR ⟨#[b0, b1, b2, b3, b4, b5, b6, b7, b8, b9]⟩ = 0 ∧ dayPE ⟨#[b0, b1, b2, b3, b4, b5, b6, b7, b8, b9]⟩ = 13) := day_bad (by unfold dayForm; simp [h6])
    have g6 := isDig_no' h6
    clear h6
    have v6 : (b6.toNat : Int) ≤ 255 := byte_le _
    rcases g6 with g6 | ⟨g6, k6⟩
    all_goals
      go_wp2_with fail
      try rw [Exit.noGoto_ret]
      go_ret2
      exact ⟨ret_int2 HR.out.1.symm HR.out.2.symm, below_set D.low⟩
  obtain ⟨l6, u6⟩ := isDig_yes h6
  have H6 := Lib.hid h6
  clear h6
  go_wp2_with fail
  obtain ⟨x6, hx⟩ : ∃ x, 10 * x5 + (b6.toNat : Int) - 48 = x := ⟨_, rfl⟩
  have y6 : 0 ≤ x6 ∧ x6 ≤ 99 := by omega
  rw [hx]
  have X6 := Lib.hid hx
  clear hx
  obtain ⟨W6, hW⟩ : ∃ W', W5.setCell ⟨w.heap.size, 1, none⟩ (.int .i64 x6) = W' := ⟨_, rfl⟩
  replace D := D.set1 x6
  rw [hW] at D ⊢
  clear hW
  clear e6 n0 n1 n2 f0 f1 f2
  have n0 := D.n0
  have n1 := D.n1
  have n2 := D.n2
  have f0 := D.free 0
  have f1 := D.free 1
  have f2 := D.free 2
  have e7 : W6.cell? ⟨w.heap.size + 1, 7, none⟩ = some (.int .u8 (b7.toNat : Int)) := D.at_ 7 (by omega)
  rw [rounds_succ]
  by_cases h7 : isBar b7 = true
  case neg =>
    have HR : Hid (dayPR ⟨#[b0, b1, b2, b3, b4, b5, b6, b7, b8, b9]⟩ = 0 ∧ dayPE ⟨#[b0, b1, b2, b3, b4, b5, b6, b7, b8, b9]⟩ = 13) := day_bad (by unfold dayForm; simp [h7])
    have g7 : ((b7.toNat : Int) == 45) = false := by simpa [isBar] using h7
    clear h7
    go_wp2_with fail
    all_goals
      try rw [Exit.noGoto_ret]
      go_ret2
      exact ⟨ret_int2 HR.out.1.symm HR.out.2.symm, D.low⟩
  have g7 : ((b7.toNat : Int) == 45) = true := h7
  have H7 := Lib.hid h7
  clear h7
  go_wp2_with fail
  clear e7 n0 n1 n2 f0 f1 f2
  have n0 := D.n0
  have n1 := D.n1
  have n2 := D.n2
  have f0 := D.free 0
  have f1 := D.free 1
  have f2 := D.free 2
  have e8 : W6.cell? ⟨w.heap.size + 1, 8, none⟩ = some (.int .u8 (b8.toNat : Int)) := D.at_ 8 (by omega)
  rw [rounds_succ]
  by_cases h8 : isDig b8 = true
  case neg =>
    have HR : Hid (dayPR ⟨#[b0, b1, b2, b3, b4, b5, b6, b7, b8, b9]⟩ = 0 ∧ dayPE ⟨#[b0, b1, b2, b3, b4, b5, b6, b7, b8, b9]⟩ = 13) := day_bad (by unfold dayForm; simp [h8])
    have g8 := isDig_no' h8
    clear h8
    have v8 : (b8.toNat : Int) ≤ 255 := byte_le _
    rcases g8 with g8 | ⟨g8, k8⟩
    all_goals
      go_wp2_with fail
      try rw [Exit.noGoto_ret]
      go_ret2
      exact ⟨ret_int2 HR.out.1.symm HR.out.2.symm, below_set D.low⟩
  obtain ⟨l8, u8⟩ := isDig_yes h8
  have H8 := Lib.hid h8
  clear h8
  go_wp2_with fail
  obtain ⟨x8, hx⟩ : ∃ x, (b8.toNat : Int) - 48 = x := ⟨_, rfl⟩
  have y8 : 0 ≤ x8 ∧ x8 ≤ 9 := by omega
  rw [hx]
  have X8 := Lib.hid hx
  clear hx
  obtain ⟨W7, hW⟩ : ∃ W', W6.setCell ⟨w.heap.size, 2, none⟩ (.int .i64 x8) = W' := ⟨_, rfl⟩
  replace D := D.set2 x8
  rw [hW] at D ⊢
  clear hW
  clear e8 n0 n1 n2 f0 f1 f2
  have n0 := D.n0
  have n1 := D.n1
  have n2 := D.n2
  have f0 := D.free 0
  have f1 := D.free 1
  have f2 := D.free 2
  have e9 : W7.cell? ⟨w.heap.size + 1, 9, none⟩ = some (.int .u8 (b9.toNat : Int)) := D.at_ 9 (by omega)
  rw [rounds_succ]
  by_cases h9 : isDig b9 = true
  case neg =>
    have HR : Hid (dayPR ⟨#[b0, b1, b2, b3, b4, b5, b6, b7, b8, b9]⟩ = 0 ∧ dayPE ⟨#[b0, b1, b2, b3, b4, b5, b6, b7, b8, b9]⟩ = 13) := day_bad (by unfold dayForm; simp [h9])
    have g9 := isDig_no' h9
    clear h9
    have v9 : (b9.toNat : Int) ≤ 255 := byte_le _
    rcases g9 with g9 | ⟨g9, k9⟩
    all_goals
      go_wp2_with fail
      try rw [Exit.noGoto_ret]
      go_ret2
      exact ⟨ret_int2 HR.out.1.symm HR.out.2.symm, below_set D.low⟩
  obtain ⟨l9, u9⟩ := isDig_yes h9
  have H9 := Lib.hid h9
  clear h9
  go_wp2_with fail
  obtain ⟨x9, hx⟩ : ∃ x, 10 * x8 + (b9.toNat : Int) - 48 = x := ⟨_, rfl⟩
  have y9 : 0 ≤ x9 ∧ x9 ≤ 99 := by omega
  rw [hx]
  have X9 := Lib.hid hx
  clear hx
  obtain ⟨W8, hW⟩ : ∃ W', W7.setCell ⟨w.heap.size, 2, none⟩ (.int .i64 x9) = W' := ⟨_, rfl⟩
  replace D := D.set2 x9
  rw [hW] at D ⊢
  clear hW
  clear e9 n0 n1 n2 f0 f1 f2
  have n0 := D.n0
  have n1 := D.n1
  have n2 := D.n2
  rw [rounds_succ]
  have HR : Hid (dayPR ⟨#[b0, b1, b2, b3, b4, b5, b6, b7, b8, b9]⟩ = dayR x3 x6 x9 ∧ dayPE ⟨#[b0, b1, b2, b3, b4, b5, b6, b7, b8, b9]⟩ = dayE x3 x6 x9) := by
    have hf : dayForm [b0, b1, b2, b3, b4, b5, b6, b7, b8, b9] = true := by unfold dayForm; simp [H0.out, H1.out, H2.out, H3.out, H4.out, H5.out, H6.out, H7.out, H8.out, H9.out]
    have hn : dayNums [b0, b1, b2, b3, b4, b5, b6, b7, b8, b9] = (x3, x6, x9) := by
      unfold dayNums dgt
      have := X0.out
      have := X1.out
      have := X2.out
      have := X3.out
      have := X5.out
      have := X6.out
      have := X8.out
      have := X9.out
      simp only [Prod.mk.injEq]
      omega
    exact day_good hf hn
  go_wp2_with fail
  refine (days_Day _ _ _ _ (HT.out.below_ D.low)).mono ?_
  rintro e w1 ⟨rfl, hb1⟩
  go_wp2_with fail
  rw [Exit.noGoto_ret]
  go_ret2
  exact ⟨ret_int2 HR.out.1.symm HR.out.2.symm, below_two D.low (hb1.mono (Nat.le_refl _))⟩

/-- 'Parse': the day that a text is. -/
theorem days_Parse (s : ByteArray) (w : World) (ht : AheadTab w) :
    Calls Tryz.prog 187 #[.string s] w fun e w' => e = .returned (.tuple #[.int .i64 (dayPR s), .int .i64 (dayPE s)]) ∧ Below w.heap.size w w' := by
  by_cases h : s.size = 10
  · obtain ⟨l⟩ := s
    obtain ⟨l⟩ := l
    have hl : l.length = 10 := h
    match l, hl with
    | [b0, b1, b2, b3, b4, b5, b6, b7, b8, b9], _ => exact days_Parse_ten b0 b1 b2 b3 b4 b5 b6 b7 b8 b9 w ht
  · have hf : dayForm s.data.toList = false := by
      unfold dayForm
      split
      · rename_i e
        have := congrArg List.length e
        simp at this
        exact absurd this h
      · rfl
    rw [(day_bad hf).1, (day_bad hf).2]
    refine (days_Parse_size s w h).mono ?_
    rintro e w' ⟨he, rfl⟩
    exact ⟨he, Below.refl _ _⟩
end Go.Proofs.YtokfgdpmbmnijaaGreatDoor
/- Facts about the calendar's numbers; no program in sight. -/
namespace Go.Proofs.YtokfgdpmbmnijaaGreatDoor

def monthOk (k : Nat) : Bool := decide (startI k ≤ 31 * k) && decide (startI k < startI (k + 1)) && decide (startI (k + 1) ≤ startI k + 31)
theorem monthOk_all : (List.range 2400).all monthOk = true := by decide +kernel
theorem month_ok {m : Int} (h1 : 0 ≤ m) (h2 : m ≤ 2399) : startI m ≤ 31 * m ∧ startI m < startI (m + 1) ∧ startI (m + 1) ≤ startI m + 31 := by
  have h := List.all_eq_true.1 monthOk_all m.toNat (List.mem_range.2 (by omega))
  have e : ((m.toNat : Nat) : Int) = m := by omega
  simp only [monthOk, e, Bool.and_eq_true, decide_eq_true_eq] at h
  exact ⟨h.1.1, h.1.2, h.2⟩
theorem startI_2400 : startI 2400 = 73049 := by decide +kernel
theorem monthF_spec (day : Int) : ∀ (f : Nat) (m : Int), 0 ≤ m → m ≤ 2399 → startI m ≤ day → 2399 ≤ m + f →
    startI (monthF day f m) ≤ day ∧ (monthF day f m = 2399 ∨ day < startI (monthF day f m + 1))
  | 0, m, h1, h2, h3, h4 => ⟨h3, .inl (by have : m = 2399 := by omega
                                          exact this)⟩
  | f + 1, m, h1, h2, h3, h4 => by
    simp only [monthF]
    split
    · exact monthF_spec day f (m + 1) (by omega) (by omega) (by omega) (by omega)
    · exact ⟨h3, by omega⟩
theorem monthI_spec {n : Int} (h1 : 0 ≤ n) (h2 : n ≤ 73048) : startI (monthI n) ≤ n ∧ n < startI (monthI n + 1) := by
  have h0 := (month_ok (m := n / 31) (by omega) (by omega)).1
  have h := monthF_spec n 2400 (n / 31) (by omega) (by omega) (by omega) (by omega)
  refine ⟨h.1, ?_⟩
  rcases h.2 with e | e
  · have e' : monthI n = 2399 := e
    rw [e', show (2399 : Int) + 1 = 2400 from rfl, startI_2400]
    omega
  · exact e
theorem ofD_bd {n : Int} (h1 : 0 ≤ n) (h2 : n ≤ 73048) : 1 ≤ ofD n ∧ ofD n ≤ 31 := by
  have h := monthI_spec h1 h2
  have hb := monthI_bd h1 h2
  have hm := month_ok hb.1 hb.2
  unfold ofD
  omega
/-- The date of a day is that day. -/
theorem dayI_of {n : Int} (h1 : 0 ≤ n) (h2 : n ≤ 73048) : dayI (ofY n) (ofM n) (ofD n) = n := by
  have hb := monthI_bd h1 h2
  have hd := ofD_bd h1 h2
  have e : (ofY n - 2000) * 12 + ofM n - 1 = monthI n := by unfold ofY ofM; omega
  have e2 : startI (monthI n) + ofD n - 1 = n := by unfold ofD; omega
  have hy : 2000 ≤ ofY n ∧ ofY n ≤ 2199 := by unfold ofY; omega
  have hm : 1 ≤ ofM n ∧ ofM n ≤ 12 := by unfold ofM; omega
  unfold dayI
  rw [if_neg (by omega)]
  simp only [e, e2]
  rw [if_neg (by omega)]
end Go.Proofs.YtokfgdpmbmnijaaGreatDoor
