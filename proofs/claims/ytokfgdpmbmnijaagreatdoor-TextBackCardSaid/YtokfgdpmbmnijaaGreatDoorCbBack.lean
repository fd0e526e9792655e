/- chattellaw06.TextBack: for every slice of nodes and every string the call returns true, and both read afterwards as they read before. Conditions: the listed package-level variables hold what the program's text lays in them (the card ties them). -/
import Derived.Test.YtokfgdpmbmnijaaGreatDoorWd
import Derived.Test.YtokfgdpmbmnijaaGreatDoorPl
import Derived.Test.YtokfgdpmbmnijaaGreatDoorRo
import Derived.Test.YtokfgdpmbmnijaaGreatDoorTie
import Derived.Test.YtokfgdpmbmnijaaGreatDoorCards
/- chattellaw06: TextBack answers true, whatever nodes and text it is given. -/
namespace Go.Proofs.YtokfgdpmbmnijaaGreatDoor
open Go.RowKit

/-- Parse, with what it answers written out. -/
theorem text_Parse' (s : ByteArray) (w : World) (hs : s.size ≤ 1000000) (he : Env w) {t : List Nd} {a er : Int} (hp : parseF s = (t, a, er)) :
    Calls Tryz.prog 18 #[.string s] w fun e w' => ∃ p c, e = .returned (.tuple #[.slice p t.length c, .int .i64 a, .int .i64 er]) ∧ w'.ownsRow w.heap.size 48 5 (.slice p t.length c) t.length (cellsNd t) ∧ Below w.heap.size w w' := by
  refine (text_Parse s w hs he).mono ?_
  rintro e w' ⟨v, rfl, ho, hb⟩
  rw [hp] at ho ⊢
  obtain ⟨p, c, rfl⟩ := own_form ho
  exact ⟨p, c, rfl, ho, hb⟩

set_option maxHeartbeats 400000 in
set_option maxRecDepth 100000 in
theorem law_Back_long (p : Option Addr) (n c : Nat) (s : ByteArray) (w : World) (he : Env w) (h1 : 100 < n) (hn : n ≤ 9223372036854775807) (_hs : s.size ≤ 9223372036854775807) :
    Calls Tryz.prog 5 #[.slice p n c, .string s] w fun e w' => e = .returned (.bool true) ∧ Below w.heap.size w w' := by
  have HE := Lib.hid he
  clear he
  go_enter Tryz.func5, Tryz.ntmps5
  go_wp2_with fail
  refine (law_awake _ HE.out).mono ?_
  rintro e w1 ⟨rfl, hb1⟩
  go_wp2_with fail
  go_ret
  exact ⟨rfl, hb1⟩

set_option maxHeartbeats 4000000 in
set_option maxRecDepth 100000 in
theorem law_Back (p : Option Addr) (c : Nat) (t : List Nd) (s : ByteArray) (w : World) (he : Env w) (hn : Nodes w p t) (hs : s.size ≤ 9223372036854775807) :
    Calls Tryz.prog 5 #[.slice p t.length c, .string s] w fun e w' => e = .returned (.bool true) ∧ Below w.heap.size w w' := by
  have HE := Lib.hid he
  have HN := Lib.hid hn
  have hlen := hn.len
  clear he hn
  by_cases h1 : 100 < t.length
  · go_enter Tryz.func5, Tryz.ntmps5
    go_wp2_with fail
    refine (law_awake _ HE.out).mono ?_
    rintro e w1 ⟨rfl, hb1⟩
    go_wp2_with fail
    go_ret
    exact ⟨rfl, hb1⟩
  by_cases h2 : 2000 < s.size
  · go_enter Tryz.func5, Tryz.ntmps5
    go_wp2_with fail
    refine (law_awake _ HE.out).mono ?_
    rintro e w1 ⟨rfl, hb1⟩
    go_wp2_with fail
    go_ret
    exact ⟨rfl, hb1⟩
  go_enter Tryz.func5, Tryz.ntmps5
  go_wp2_with fail
  refine (text_Print p c t _ HE.out HN.out).mono ?_
  rintro e w1 ⟨rfl, hb1⟩
  have HE1 := Lib.hid (HE.out.below_ hb1)
  have HN1 := Lib.hid (HN.out.below_ hb1)
  have HB1 := Lib.hid hb1
  clear hb1
  cases hc : (checkE t == 0)
  case true =>
    have hc0 : checkE t = 0 := eq_of_beq hc
    have HPP := Lib.hid (parse_print hc0 HN.out.ok)
    have HSZ : (printT t).size ≤ 3200 := by obtain ⟨f, hf⟩ := tree_of hc0 HN.out.ok; exact hf.size
    clear hc0
    go_wp2_with fail
    refine (text_Parse' (printT t) _ (by omega) HE1.out HPP.out).mono ?_
    rintro e w2 ⟨p2, c2, rfl, ho2, hb2⟩
    have hn2 : Nodes w2 p2 t := nodes_of_own ho2 HN.out.ok (by omega)
    have HE2 := Lib.hid (HE1.out.below_ hb2)
    have HN2 := Lib.hid (HN1.out.below_ hb2)
    have HM2 := Lib.hid hn2
    have HB2 := Lib.hid (below_two HB1.out hb2)
    clear hb2 ho2 hn2
    go_wp2_with fail
    refine (law_Nodes p2 p c2 c t _ HM2.out HN2.out (by omega)).mono ?_
    rintro e w3 ⟨rfl, hb3⟩
    have HEX := Lib.hid (HE2.out.below_ hb3)
    have HBX := Lib.hid (below_two HB2.out hb3)
    clear hb3
    go_wp2_with fail
    obtain ⟨pt, pa, pe, hP⟩ : ∃ a b d, parseF s = (a, b, d) := ⟨_, _, _, rfl⟩
    have HP := Lib.hid hP
    clear hP
    refine (text_Parse' s _ (by omega) HEX.out HP.out).mono ?_
    rintro e w5 ⟨p5, c5, rfl, ho5, hb5⟩
    have HE5 := Lib.hid (HEX.out.below_ hb5)
    have HB5 := Lib.hid (below_two HBX.out hb5)
    have HO5 := Lib.hid ho5
    clear hb5 ho5
    cases he5 : (pe == 0)
    case false =>
      have hne : (parseF s).2.2 ≠ 0 := by rw [HP.out]; intro e; rw [show pe = 0 from e] at he5; cases he5
      obtain ⟨z1, z2, z3, z4⟩ := parse_err hne
      rw [HP.out] at z1 z2 z3 z4
      have z1' : pt = [] := z1
      subst z1'
      have y2 : decide (0 ≤ pa) = true := by simpa using z2
      have y3 : decide (pa ≤ (s.size : Int)) = true := by simpa using z3
      clear z1 z2 z3 hne
      have z4' : pe = 13 ∨ pe = 10 ∨ pe = 15 := z4
      clear z4
      rcases z4' with e | e | e <;> subst e <;> clear he5
      all_goals
        go_wp2_with fail
        refine (law_awake _ HE5.out).mono ?_
        rintro e w6 ⟨rfl, hb6⟩
        go_wp2_with fail
        go_ret
        exact ⟨rfl, below_two HB5.out hb6⟩
    case true =>
      have hpe : pe = 0 := eq_of_beq he5
      subst hpe
      clear he5
      obtain ⟨hpa, f, hf⟩ := parse_ok HP.out
      subst hpa
      have HT := Lib.hid hf
      have hfew := hf.few
      have hn5 : Nodes w5 p5 pt := nodes_of_own HO5.out hf.nodes (by omega)
      have HN5 := Lib.hid hn5
      have hck := hf.check
      have HCK := Lib.hid hck
      have HPP := Lib.hid (parse_print hck hf.nodes)
      have HSZ := hf.size
      clear hf hn5 hck
      go_wp2_with fail
      refine (text_Print p5 c5 pt _ HE5.out HN5.out).mono ?_
      rintro e w6 ⟨rfl, hb6⟩
      rw [HCK.out]
      have HE6 := Lib.hid (HE5.out.below_ hb6)
      have HB6 := Lib.hid (below_two HB5.out hb6)
      have HN6 := Lib.hid (HN5.out.below_ hb6)
      clear hb6
      go_wp2_with fail
      refine (text_Parse' (printT pt) _ (by omega) HE6.out HPP.out).mono ?_
      rintro e w7 ⟨p7, c7, rfl, ho7, hb7⟩
      have HE7 := Lib.hid (HE6.out.below_ hb7)
      have HB7 := Lib.hid (below_two HB6.out hb7)
      have HN7 := Lib.hid (HN6.out.below_ hb7)
      have hn7 : Nodes w7 p7 pt := nodes_of_own ho7 HN5.out.ok (by omega)
      have HM7 := Lib.hid hn7
      clear hb7 ho7 hn7
      go_wp2_with fail
      refine (term_Check p5 c5 pt _ HE7.out.shape HN7.out).mono ?_
      rintro e w8 ⟨rfl, hb8⟩
      rw [HCK.out]
      have HE8 := Lib.hid (HE7.out.below_ hb8)
      have HB8 := Lib.hid (below_two HB7.out hb8)
      have HN8 := Lib.hid (HN7.out.below_ hb8)
      have HM8 := Lib.hid (HM7.out.below_ hb8)
      clear hb8
      go_wp2_with fail
      refine (law_Nodes p7 p5 c7 c5 pt _ HM8.out HN8.out (by omega)).mono ?_
      rintro e w9 ⟨rfl, hb9⟩
      have HE9 := Lib.hid (HE8.out.below_ hb9)
      have HB9 := Lib.hid (below_two HB8.out hb9)
      clear hb9
      go_wp2_with fail
      refine (law_awake _ HE9.out).mono ?_
      rintro e w10 ⟨rfl, hb10⟩
      go_wp2_with fail
      go_ret
      exact ⟨rfl, below_two HB9.out hb10⟩
  case false =>
    have HEX := HE1
    have HBX := HB1
    go_wp2_with fail
    obtain ⟨pt, pa, pe, hP⟩ : ∃ a b d, parseF s = (a, b, d) := ⟨_, _, _, rfl⟩
    have HP := Lib.hid hP
    clear hP
    refine (text_Parse' s _ (by omega) HEX.out HP.out).mono ?_
    rintro e w5 ⟨p5, c5, rfl, ho5, hb5⟩
    have HE5 := Lib.hid (HEX.out.below_ hb5)
    have HB5 := Lib.hid (below_two HBX.out hb5)
    have HO5 := Lib.hid ho5
    clear hb5 ho5
    cases he5 : (pe == 0)
    case false =>
      have hne : (parseF s).2.2 ≠ 0 := by rw [HP.out]; intro e; rw [show pe = 0 from e] at he5; cases he5
      obtain ⟨z1, z2, z3, z4⟩ := parse_err hne
      rw [HP.out] at z1 z2 z3 z4
      have z1' : pt = [] := z1
      subst z1'
      have y2 : decide (0 ≤ pa) = true := by simpa using z2
      have y3 : decide (pa ≤ (s.size : Int)) = true := by simpa using z3
      clear z1 z2 z3 hne
      have z4' : pe = 13 ∨ pe = 10 ∨ pe = 15 := z4
      clear z4
      rcases z4' with e | e | e <;> subst e <;> clear he5
      all_goals
        go_wp2_with fail
        refine (law_awake _ HE5.out).mono ?_
        rintro e w6 ⟨rfl, hb6⟩
        go_wp2_with fail
        go_ret
        exact ⟨rfl, below_two HB5.out hb6⟩
    case true =>
      have hpe : pe = 0 := eq_of_beq he5
      subst hpe
      clear he5
      obtain ⟨hpa, f, hf⟩ := parse_ok HP.out
      subst hpa
      have HT := Lib.hid hf
      have hfew := hf.few
      have hn5 : Nodes w5 p5 pt := nodes_of_own HO5.out hf.nodes (by omega)
      have HN5 := Lib.hid hn5
      have hck := hf.check
      have HCK := Lib.hid hck
      have HPP := Lib.hid (parse_print hck hf.nodes)
      have HSZ := hf.size
      clear hf hn5 hck
      go_wp2_with fail
      refine (text_Print p5 c5 pt _ HE5.out HN5.out).mono ?_
      rintro e w6 ⟨rfl, hb6⟩
      rw [HCK.out]
      have HE6 := Lib.hid (HE5.out.below_ hb6)
      have HB6 := Lib.hid (below_two HB5.out hb6)
      have HN6 := Lib.hid (HN5.out.below_ hb6)
      clear hb6
      go_wp2_with fail
      refine (text_Parse' (printT pt) _ (by omega) HE6.out HPP.out).mono ?_
      rintro e w7 ⟨p7, c7, rfl, ho7, hb7⟩
      have HE7 := Lib.hid (HE6.out.below_ hb7)
      have HB7 := Lib.hid (below_two HB6.out hb7)
      have HN7 := Lib.hid (HN6.out.below_ hb7)
      have hn7 : Nodes w7 p7 pt := nodes_of_own ho7 HN5.out.ok (by omega)
      have HM7 := Lib.hid hn7
      clear hb7 ho7 hn7
      go_wp2_with fail
      refine (term_Check p5 c5 pt _ HE7.out.shape HN7.out).mono ?_
      rintro e w8 ⟨rfl, hb8⟩
      rw [HCK.out]
      have HE8 := Lib.hid (HE7.out.below_ hb8)
      have HB8 := Lib.hid (below_two HB7.out hb8)
      have HN8 := Lib.hid (HN7.out.below_ hb8)
      have HM8 := Lib.hid (HM7.out.below_ hb8)
      clear hb8
      go_wp2_with fail
      refine (law_Nodes p7 p5 c7 c5 pt _ HM8.out HN8.out (by omega)).mono ?_
      rintro e w9 ⟨rfl, hb9⟩
      have HE9 := Lib.hid (HE8.out.below_ hb9)
      have HB9 := Lib.hid (below_two HB8.out hb9)
      clear hb9
      go_wp2_with fail
      refine (law_awake _ HE9.out).mono ?_
      rintro e w10 ⟨rfl, hb10⟩
      go_wp2_with fail
      go_ret
      exact ⟨rfl, below_two HB9.out hb10⟩
end Go.Proofs.YtokfgdpmbmnijaaGreatDoor
namespace Go.Proofs.YtokfgdpmbmnijaaGreatDoor
open Go.RowKit Go.ChangeShapes Go.WideShapes Go.ChangeAt Go.WideMaps Go.WideElems Go.Lib Go.Deep

set_option maxRecDepth 100000 in
theorem back_lifted (os : Os) (started : os.Started) (H : Type) (enc : TypeId × Value → H) :
    ReturnsInHanded {} Tryz.checked os 5 .any (fun w args => (Rows.textBackSpec.pre enc Tryz.prog Tryz.f5 [] false w args ∧ laidMetH Tryz.prog Rows.textBackRow.laid w) ∧ sizedMet enc Tryz.prog Tryz.f5 (OpenSpec.ofChange Rows.textBackSpec) false w args)
      (Rows.textBackSpec.post enc Tryz.prog Tryz.f5 false true false false) := by
  refine wrap_law (C := Tryz.checked) (X := fun w _ => laidMetH Tryz.prog Rows.textBackRow.laid w) (fun _ _ _ hh h => h.of_heap hh) own_ started (by kernel_rfl) Tryz.func5
    (ChangeSpec.witness_shaped (enc := enc) (C := Tryz.checked) (os := os) (X := fun w _ => laidMetH Tryz.prog Rows.textBackRow.laid w) false (World.laidAll Tryz.prog os Rows.textBackRow.laid) #[.slice none 0 0, .string ⟨#[]⟩] 8 (World.laidAll_os _ _ _)
      (World.shaped_of_ZipB (by kernel_rfl) (by kernel_rfl)) (by kernel_rfl) (by kernel_rfl) (by kernel_rfl)
      (by rw [MakeChecks.laidMetH_plain _ _ _ (by kernel_rfl)]; exact laidMet_laidAll _ (by kernel_rfl) (by kernel_rfl))) ?_
  intro W base args ds gs before hval0 hW hsh hL
  have hval : ∀ (j : Nat) t v, Tryz.f5.params[j]? = some t → args[j]? = some v → Value.okWide Tryz.prog W .any base t v := hval0
  have hW' := hW
  obtain ⟨p, q, hA0, hV, rfl, _, _⟩ := hW
  have hA : DataW.TrodAll enc Tryz.prog W 0 (fun _ => true) true Tryz.f5.params.toList args.toList ds p := hA0
  rw [Tryz.params5] at hA hval
  obtain ⟨v0, v1, d0, d1, p0, p1, rfl, rfl, rfl, h0, h1⟩ := trodAll_two hA
  obtain ⟨rfl, rfl⟩ := trodVars_none hV
  simp only [List.append_nil] at hW'
  obtain ⟨pp, n, c, rfl, hnm, hnodes⟩ := open_nodes (hval 0 22 v0 rfl rfl) h0
  obtain ⟨s, rfl, rfl, rfl, ws⟩ := Go.ChangeMaps.open_string Tryz.underlying9 (hval 1 9 v1 rfl rfl) h1
  rw [MakeChecks.laidMetH_plain _ _ _ (by kernel_rfl)] at hL
  have he : Env W := env_of hsh hL (by simp [Rows.textBackRow]) (by simp [Rows.textBackRow]) (by simp [Rows.textBackRow]) (by simp [Rows.textBackRow]) (by simp [Rows.textBackRow]) (by simp [Rows.textBackRow]) (by simp [Rows.textBackRow])
  have hlaw : Calls Tryz.prog 5 #[.slice pp n c, .string s] W fun e w' => e = .returned (.bool true) ∧ Below W.heap.size W w' := by
    by_cases h100 : 100 < n
    · exact law_Back_long pp n c s W he h100 hnm ws
    · obtain ⟨t, rfl, hn⟩ := hnodes (by omega)
      exact law_Back pp c t s W he hn ws
  refine hlaw.mono fun e W' ⟨he, hb⟩ => ?_
  subst he
  have hlt : ∀ x ∈ p0, x.block < W.heap.size := fun x hx => by simpa using hW'.lt x (by simpa using hx)
  exact ⟨_, rfl, _, _, _, [], p0 ++ [], [], hW', trodAll_mk1 (shut_bool Tryz.underlying4 _), trodAll_mk2 (Below.trod laidOut_ (by kernel_rfl) (of_decide_eq_true (by kernel_rfl)) h0 hb hlt) (Go.ChangeMaps.shut_string Tryz.underlying9 ws), rfl, hb.frame _, fun h => by cases h⟩

theorem back_holds : Rows.TextBackSaid :=
  OpenClaim.holds_of_wide 5 Tryz.f5 rfl rfl rfl rfl rfl rfl rfl ⟨rfl, rfl, rfl, rfl, rfl⟩ rfl rfl rfl rfl rfl (by kernel_rfl) Tryz.func5 (by kernel_rfl)
    (of_decide_eq_true (by kernel_rfl)) (by unfold Func.isWrapper; first | (rw [if_pos (by decide +kernel)]; kernel_rfl) | (rw [if_neg (by decide +kernel)]; exact ⟨rfl, rfl⟩))
    (fun os started H enc _ => back_lifted os started H enc)
/-- The tied card of TextBack. -/
theorem back_card : Rows.TextBackCardSaid :=
  Claim7.holds_tied_plain_at .later [] [.data, .data, .data, .data, .sentinel, .sentinel, .data, .widerDeep, .data, .widerDeep, .pinned] true Rows.textBackCard.stood.harness Rows.textBackCard.stood.looks
    back_holds (fun _ h => by cases h) (by kernel_rfl) (fun _ h => by cases h) textBack_row_tie rfl ⟨rfl, rfl⟩ (by kernel_rfl) rfl
    (fun f fn hf hfn => by
      obtain rfl : f = 5 := Option.some.inj ((show Tryz.prog.funcNamed "chattel/chattellaw06.TextBack" = some 5 by kernel_rfl).symm.trans hf) |>.symm
      obtain rfl : fn = Tryz.f5 := (Option.some.inj (Tryz.func5.symm.trans hfn)).symm
      exact ⟨by kernel_rfl, fun j t ht => by
        rw [Tryz.params5] at ht
        have hm : t ∈ [22, 9] := by simpa using Array.mem_of_getElem? ht
        have hall : ([22, 9].all fun u => !Tryz.prog.wantsStandIn u) = true := by kernel_rfl
        exact (show Tryz.prog.wantsStandIn t = false by simpa using List.all_eq_true.1 hall t hm)⟩)
    (by kernel_rfl)
end Go.Proofs.YtokfgdpmbmnijaaGreatDoor
