/- text's parser: term. -/
import Derived.Test.YtokfgdpmbmnijaaGreatDoorWc
import Derived.Deep.AppendLies
import Derived.Deep.RegionHeld3
import Derived.Outline
import Derived.Deep.DeepCutAuto
import Derived.Deep.CutBlock
import Derived.Test.YtokfgdpmbmnijaaGreatDoorWe
import Derived.KernelRfl
namespace Go.Proofs.YtokfgdpmbmnijaaGreatDoor
open Go.RowKit

/-- What a term's reader holds, ahead of it. -/
structure TermH (B pb : Nat) (sz : Int) (tv : Value) (st : PS) (t : List Nd) (w0 w : World) : Prop where
  pst : PSt B pb sz tv st w
  own : w.ownsRow B 48 5 tv t.length (cellsNd t)
  few : t.length ≤ 64
  toks : st.tk.length ≤ 1000000
  short : ∀ u ∈ st.tk, u.2.size ≤ 1000000
  below : Below w0.heap.size w0 w
  le : w0.heap.size ≤ pb
  size : B ≤ w.heap.size

theorem wrongP_tk' (b : Bool) (er : Int) (st : PS) : (wrongP b er st).tk = st.tk := wrongP_tk b er st
theorem headP_tk (sz so : Int) (m len : Nat) (st : PS) : (headP sz so m len st).tk = st.tk.tail := by unfold headP; rw [wrongP_tk, wrongP_tk, nextP_tk]

theorem info_node : (Tryz.prog.info? 48).map (fun i => (i.zero, i.size, i.bytes)) = some (some (.agg #[.int .i64 0, .int .i64 0, .int .i64 0, .int .i64 0, .int .i64 0]), 5, 40) := by kernel_rfl
theorem own_below_' {w w' : World} {B e size n pb : Nat} {v : Value} {xs : List Value} (h : w.ownsRow B e size v n xs) (ho : Only pb w w') (hB : pb < B) : w'.ownsRow B e size v n xs :=
  ⟨h.1, h.2.imp id fun ⟨g, cap, cur, h1, h2, h3, h4⟩ => ⟨g, cap, cur, h1, h2, by
    have hg : g < w.heap.size := by
      rcases Nat.lt_or_ge g w.heap.size with h' | h'
      · exact h'
      · rw [Array.getElem?_eq_none h'] at h3; cases h3
    rw [ho.block g hg (by omega)]; exact h3, h4⟩⟩

theorem own_two {w w' : World} {B e size n pb k : Nat} {v : Value} {xs : List Value} (h : w.ownsRow B e size v n xs) (ho : Two pb k w w') (hB : pb < B) (hk : w.heap.size ≤ k) : w'.ownsRow B e size v n xs :=
  ⟨h.1, h.2.imp id fun ⟨g, cap, cur, h1, h2, h3, h4⟩ => ⟨g, cap, cur, h1, h2, by
    have hg : g < w.heap.size := by
      rcases Nat.lt_or_ge g w.heap.size with h' | h'
      · exact h'
      · rw [Array.getElem?_eq_none h'] at h3; cases h3
    rw [ho.block g hg (by omega) (by omega)]; exact h3, h4⟩⟩
theorem behindF_cases (op : Int) : behindF op = 133 ∨ behindF op = 134 ∨ behindF op = 135 ∨ behindF op = 136 ∨ behindF op = 137 := by
  unfold behindF
  split
  · exact .inl rfl
  split
  · exact .inr (.inl rfl)
  split
  · exact .inr (.inr (.inl rfl))
  split
  · exact .inr (.inr (.inr (.inl rfl)))
  exact .inr (.inr (.inr (.inr rfl)))

/-- The parser's own block with other nodes. -/
theorem PSt.turn {B pb : Nat} {sz : Int} {tv tv' : Value} {st : PS} {w w' : World} (h : PSt B pb sz tv st w) (hk : ∀ k, k < w.heap.size → k < B → k ≠ pb → w'.heap[k]? = w.heap[k]?)
    (hs : ∀ pv xv, w.heap[pb]? = some (.cells #[pv, xv, .int .i64 sz, .int .i64 st.last, .int .i64 st.e, tv] 86 (0, 0)) → w'.heap[pb]? = some (.cells #[pv, xv, .int .i64 sz, .int .i64 st.last, .int .i64 st.e, tv'] 86 (0, 0))) : PSt B pb sz tv' st w' := by
  obtain ⟨pa, pc, xa, xc, h1, h2, h3, h4⟩ := h.ex
  refine ⟨h.lt, pa, pc, xa, xc, hs _ _ h1, h2, h3, fun hne => ?_⟩
  obtain ⟨ga, oa, gx, ox, e1, e2, e3, e4, e5, e6, e7⟩ := h4 hne
  refine ⟨ga, oa, gx, ox, e1, e2, e3, e4, e5, e6, fun j t hj => ?_⟩
  obtain ⟨c1, c2⟩ := e7 j t hj
  exact ⟨(World.cell?_of_block (w := w) (hk ga (World.block_lt_of_cell? w _ c1) e5 e3)).trans c1, (World.cell?_of_block (w := w) (hk gx (World.block_lt_of_cell? w _ c2) e6 e4)).trans c2⟩

/-- Ahead of the j-th of the terms below a node. -/
structure KidsAt (B pb : Nat) (sz : Int) (tv : Value) (w : World) (rec : Int → PS × List Nd → PS × List Nd) (ks : List Int) (j : Nat) (z : PS × List Nd) (tk : List (Nat × ByteArray)) (kb : Nat) (wr : World) : Prop where
  ex : ∃ tv' st t ts, PSt B pb sz tv' st wr ∧ wr.ownsRow B 48 5 tv' t.length (cellsNd t) ∧ t.length ≤ 64 ∧ (st.e = 0 → t = ts) ∧ kidsP rec sz (ks.drop j) j (st, ts) = z ∧ OwnOf tv w tv' ∧ tv'.ownBlock ≠ some kb ∧ Sub tk st.tk
  grown : Grown pb tv w wr
  kids : ∀ i, i < ks.length → wr.cell? ⟨kb, 0 + i, none⟩ = some (.int .i64 (ks.getD i 0))
  lt : kb < wr.heap.size
  ne : w.heap.size ≤ kb

theorem markP_zero {sz : Int} {m : ByteArray} {st : PS} (h : (markP sz m st).e = 0) : st.e = 0 := by
  unfold markP at h
  split at h
  · rename_i h'; exact h'
  · exact h
theorem kidsP_step {rec : Int → PS × List Nd → PS × List Nd} {sz : Int} {ks : List Int} {j : Nat} {st : PS} {ts : List Nd} (h : j < ks.length) :
    kidsP rec sz (ks.drop j) j (st, ts) = if (markP sz (markOf j) st).e = 0 then kidsP rec sz (ks.drop (j + 1)) (j + 1) (rec (ks.getD j 0) (markP sz (markOf j) st, ts)) else (markP sz (markOf j) st, ts) := by
  rw [List.drop_eq_getElem_cons h, kidsP, List.getD_eq_getElem?_getD, List.getElem?_eq_getElem h]
  rfl
theorem term_pushed {B pb k gg cap len : Nat} {sz nop n1 n2 n3 n4 : Int} {p : Option Addr} {c : Nat} {st4 : PS} {t : List Nd} {o : Obj} {w wc w8 : World} (hs : PSt B pb sz (.slice p len c) st4 wc) (hlt : pb < B)
    (hpl6 : pb < wc.heap.size) (hk6 : k < wc.heap.size) (hkw : w.heap.size ≤ k) (hkB : B ≤ k) (ht : Two pb k w wc) (hbl : ∀ j, (Value.slice p len c).ownBlock = some j → B ≤ j ∧ j < w.heap.size)
    (hown8 : w8.ownsRow B 48 5 (.slice (some ⟨gg, 0, none⟩) (len + 1) cap) (len + 1) (cellsNd t ++ [.int .i64 nop, .int .i64 n1, .int .i64 n2, .int .i64 n3, .int .i64 n4]))
    (hgrow : ((wc.alloc o).drew).grownBy w8 (Value.slice p len c).ownBlock) (hat : (Value.slice p len c).ownBlock = some gg ∨ gg = wc.heap.size + 1) (d0 : wc.cell? ⟨k, 0, none⟩ = some (.int .i64 nop)) :
    ∃ tv5 : Value, PSt B pb sz tv5 st4 (w8.setCell ⟨pb, 5, none⟩ (.slice (some ⟨gg, 0, none⟩) (len + 1) cap)) ∧ Hid ((w8.setCell ⟨pb, 5, none⟩ (.slice (some ⟨gg, 0, none⟩) (len + 1) cap)).ownsRow B 48 5 tv5 (len + 1) (cellsNd (t ++ [⟨nop, n1, n2, n3, n4⟩]))) ∧
      (w8.setCell ⟨pb, 5, none⟩ (.slice (some ⟨gg, 0, none⟩) (len + 1) cap)).cell? ⟨k, 0, none⟩ = some (.int .i64 nop) ∧ Hid (OwnOf (.slice p len c) w tv5) ∧ Hid (Grown pb (.slice p len c) w (w8.setCell ⟨pb, 5, none⟩ (.slice (some ⟨gg, 0, none⟩) (len + 1) cap))) := by
  have hset : Only pb w8 (w8.setCell ⟨pb, 5, none⟩ (.slice (some ⟨gg, 0, none⟩) (len + 1) cap)) := (Only.refl _ _).set
  have hz8 : wc.heap.size + 1 ≤ w8.heap.size := by have := hgrow.size; simpa using this
  have hzw := ht.size
  have far : ∀ j, j < wc.heap.size → (Value.slice p len c).ownBlock ≠ some j → w8.heap[j]? = wc.heap[j]? := fun j hj hne =>
    (hgrow.block j (by simp; omega) (fun e => hne e.symm)).trans (heap_alloc_old wc _ hj)
  refine ⟨.slice (some ⟨gg, 0, none⟩) (len + 1) cap, ?_, ?_, ?_, ?_, ?_⟩
  · refine hs.turn (fun j hj hjB hjp => ?_) (fun pv xv hh => ?_)
    · exact (hset.block j (by omega) hjp).trans (far j hj (fun e => by have := (hbl j e).1; omega))
    · exact heap_set_ (i := 5) _ ((far pb hpl6 (fun e => by have := (hbl pb e).1; omega)).trans hh)
  · show World.ownsRow _ _ _ _ _ _ _
    rw [cellsNd_append]
    exact own_below_' hown8 hset hlt
  · exact (World.cell?_of_block (a := ⟨k, 0, none⟩) (hset.block k (by omega) (by omega))).trans ((World.cell?_of_block (a := ⟨k, 0, none⟩) (far k hk6 (fun e => by have := (hbl k e).2; omega))).trans d0)
  · show OwnOf _ _ _
    rcases hat with hat | hat
    · exact .inl hat.symm
    · refine .inr fun j hj => ?_
      have hj' : some gg = some j := hj
      injection hj' with hj'
      omega
  · show Grown _ _ _ _
    exact ⟨hgrow.os.trans ht.os, hgrow.tape.trans ht.tape, hgrow.output.trans ht.output, by have := hset.size; omega,
      fun j hj h1 h2 => (hset.block j (by omega) h1).trans ((far j (by omega) h2).trans (ht.block j hj h1 (by omega)))⟩

set_option maxHeartbeats 4000000 in
set_option maxRecDepth 100000 in
theorem text_term_step (B pb : Nat) (sz : Int) (w0 : World) (he : Env w0) (m : Nat) (hm : m ≤ 13)
    (ih : ∀ (so d : Int) (tv : Value) (st : PS) (t : List Nd) (w : World), d + m = 14 → 1 ≤ m → TermH B pb sz tv st t w0 w →
      Calls Tryz.prog 48 #[.pointer (some ⟨pb, 0, none⟩), .int .i64 so, .int .i64 d] w fun e w' => e = .returned (.tuple #[]) ∧ TermQ B pb sz tv w (termP sz m so (st, t)) w')
    (so d : Int) (tv : Value) (st : PS) (t : List Nd) (w : World) (hd : d + (m + 1) = 14) (h : TermH B pb sz tv st t w0 w) :
    Calls Tryz.prog 48 #[.pointer (some ⟨pb, 0, none⟩), .int .i64 so, .int .i64 d] w fun e w' => e = .returned (.tuple #[]) ∧ TermQ B pb sz tv w (termP sz (m + 1) so (st, t)) w' := by
  have HE := Lib.hid he
  have IH := Lib.hid ih
  have hBw := h.size
  have hlt := h.pst.lt
  have HH := Lib.hid h
  have hd1 : -1000 ≤ d := by omega
  have hd2 : d ≤ 14 := by omega
  have HD := Lib.hid hd
  clear he ih h hd
  obtain ⟨p, c, htv⟩ := own_form HH.out.own
  have HTV := Lib.hid htv
  clear htv
  go_enter Tryz.func48, Tryz.ntmps48
  go_wp2_with fail
  go_step3
  go_wp2_with fail
  refine (text_next HH.out.pst HH.out.toks).mono ?_
  rintro e w1 ⟨rfl, hs1, ho1⟩
  have hb01 := bel_only HH.out.below HH.out.le ho1
  go_wp2_with fail
  refine (text_node _ _ (nextT_size HH.out.short) (HE.out.below_ hb01)).mono ?_
  rintro e w2 ⟨rfl, hb2⟩
  have hs2 := hs1.below_ hb2
  have ho2 := ho1.trans (Only.of_below hb2)
  have HB2 := Lib.hid (hb01.trans (hb2.mono hb01.size))
  clear hs1 hb01 hb2 ho1
  generalize hn : nodeN (nextT st) = n
  generalize hnb : nodeB (nextT st) = isn
  have HN := Lib.hid hn
  have HNB := Lib.hid hnb
  clear hn hnb
  obtain ⟨op, na, nnb, num, den⟩ := n
  simp only [ndV]
  go_upto_region 1 with fail
  generalize hk : w2.heap.size = k
  have hn3 : NdAt (w2.alloc (.cells #[.int .i64 op, .int .i64 na, .int .i64 nnb, .int .i64 num, .int .i64 den] 48)) k ⟨op, na, nnb, num, den⟩ := by rw [← hk]; exact alloc_at _ _
  have hs3 := hs2.below_ (below_alloc w2 (.cells #[.int .i64 op, .int .i64 na, .int .i64 nnb, .int .i64 num, .int .i64 den] 48))
  have ho3 := ho2.trans (Only.of_below (below_alloc w2 (.cells #[.int .i64 op, .int .i64 na, .int .i64 nnb, .int .i64 num, .int .i64 den] 48)))
  have hkB : B ≤ k := by have := ho2.size; omega
  generalize w2.alloc (.cells #[.int .i64 op, .int .i64 na, .int .i64 nnb, .int .i64 num, .int .i64 den] 48) = w3 at hn3 hs3 ho3 ⊢
  have hkw : w.heap.size ≤ k := by have := ho2.size; omega
  clear hk hs2 ho2 HB2
  go_cut [] (fun wx => PSt B pb sz tv (wrongP (!isn || makes op != so) 13 (nextP sz st)) wx ∧ NdAt wx k ⟨op, na, nnb, num, den⟩ ∧ Only pb w wx)
  case first =>
    have c0 := cell_of_blk hn3 0 _ rfl
    have HN3 := Lib.hid hn3
    have HB3 := Lib.hid (bel_only HH.out.below HH.out.le ho3)
    have hk3 := hn3.lt
    clear hn3
    have fin : ∀ (b : Bool) (x : Later w3) (w5 : World), PSt B pb sz tv (wrongP b 13 (nextP sz st)) w5 → Only pb x.val w5 → b = (!isn || makes op != so) →
        PSt B pb sz tv (wrongP (!isn || makes op != so) 13 (nextP sz st)) w5 ∧ NdAt w5 k ⟨op, na, nnb, num, den⟩ ∧ Only pb w w5 := by
      intro b x w5 h1 h2 h3
      rw [← h3]
      exact ⟨h1, (NdAt.only ((x.is.block k hk3).trans HN3.out) (by omega) h2), (ho3.trans (Only.of_below x.is)).trans h2⟩
    have FIN := Lib.hid fin
    clear fin
    cases isn
    · refine wp_region_tail1 12 _ (by kernel_rfl) rfl (by kernel_rfl) ?_
      simp only [List.take_succ_cons, List.take_zero]
      repeat (go_big_quiet_step (fail))
      refine wpQuiet_nil ?_
      rintro ⟨w4, hb4⟩
      go_wp2_with fail
      refine (text_wrong (B := B) (sz := sz) (tv := tv) (st := nextP sz st) true 13 (hs3.below_ hb4)).mono ?_
      rintro e w5 ⟨rfl, hs5, ho5⟩
      go_wp2_with fail
      go_meet
      exact FIN.out true ⟨w4, hb4⟩ w5 hs5 ho5 rfl
    · refine wp_region_tail1 12 _ (by kernel_rfl) rfl (by kernel_rfl) ?_
      simp only [List.take_succ_cons, List.take_zero]
      have hcl : ∀ x : Later w3, x.val.cell? ⟨k, 0, none⟩ = some (.int .i64 op) := fun x => (x.cell (p := ⟨k, 0, none⟩) hk3).trans c0
      repeat (go_big_quiet_step ((go_at_call 88; exact Calls.later (term_Sort _ _ (HE.out.below_ (HB3.out.trans ((Later.is _).mono HB3.out.size))).shape))))
      refine wpQuiet_nil ?_
      rintro ⟨w4, hb4⟩
      go_wp2_with fail
      refine (text_wrong (B := B) (sz := sz) (tv := tv) (st := nextP sz st) _ 13 (hs3.below_ hb4)).mono ?_
      rintro e w5 ⟨rfl, hs5, ho5⟩
      go_wp2_with fail
      go_meet
      exact FIN.out _ ⟨w4, hb4⟩ w5 hs5 ho5 (by simp)
  case rest =>
    obtain ⟨hs4, hn4, ho4⟩ := hcut
    clear hs3 hn3 ho3
    generalize hq : wrongP (!isn || makes op != so) 13 (nextP sz st) = q at hs4
    have HQ := Lib.hid hq
    clear hq
    have HTV' := HTV.out
    subst HTV'
    clear HTV
    go_upto_region 2 with fail
    go_cut [] (fun wx => PSt B pb sz (.slice p t.length c) (wrongP (decide (64 ≤ t.length) || decide (m = 0)) 15 q) wx ∧ NdAt wx k ⟨op, na, nnb, num, den⟩ ∧ Only pb w wx)
    case first =>
      have HN4 := Lib.hid hn4
      have hk4 := hn4.lt
      have hp4 := hs4.heap_lt
      obtain ⟨pa, pc, xa, xc, hb5, _⟩ := hs4.ex
      have c5 := cell_of_blk hb5 5 _ rfl
      clear hn4 hb5
      have fin : ∀ (b : Bool) (x : Later wc) (w5 : World), PSt B pb sz (.slice p t.length c) (wrongP b 15 q) w5 → Only pb x.val w5 → b = (decide (64 ≤ t.length) || decide (m = 0)) →
          PSt B pb sz (.slice p t.length c) (wrongP (decide (64 ≤ t.length) || decide (m = 0)) 15 q) w5 ∧ NdAt w5 k ⟨op, na, nnb, num, den⟩ ∧ Only pb w w5 := by
        intro b x w5 h1 h2 h3
        rw [← h3]
        exact ⟨h1, (NdAt.only ((x.is.block k hk4).trans HN4.out) (by omega) h2), (ho4.trans (Only.of_below x.is)).trans h2⟩
      have FIN := Lib.hid fin
      clear fin
      have hcl : ∀ x : Later wc, x.val.cell? ⟨pb, 5, none⟩ = some (.slice p t.length c) := fun x => (x.cell (p := ⟨pb, 5, none⟩) hp4).trans c5
      clear c5
      by_cases h64 : 64 ≤ t.length
      · have h64' : decide (64 ≤ (t.length : Int)) = true := by simp; omega
        refine wp_region_tail1 13 _ (by kernel_rfl) rfl (by kernel_rfl) ?_
        simp only [List.take_succ_cons, List.take_zero]
        repeat (go_big_quiet_step (fail))
        refine wpQuiet_nil ?_
        rintro ⟨w5, hb5⟩
        go_wp2_with fail
        refine (text_wrong (B := B) (sz := sz) (tv := .slice p t.length c) (st := q) true 15 (hs4.below_ hb5)).mono ?_
        rintro e w6 ⟨rfl, hs6, ho6⟩
        go_wp2_with fail
        go_meet
        exact FIN.out true ⟨w5, hb5⟩ w6 hs6 ho6 (by simp [h64])
      · have h64' : decide (64 ≤ (t.length : Int)) = false := by simp; omega
        refine wp_region_tail1 13 _ (by kernel_rfl) rfl (by kernel_rfl) ?_
        simp only [List.take_succ_cons, List.take_zero]
        repeat (go_big_quiet_step (fail))
        refine wpQuiet_nil ?_
        rintro ⟨w5, hb5⟩
        go_wp2_with fail
        refine (text_wrong (B := B) (sz := sz) (tv := .slice p t.length c) (st := q) (decide (12 < d)) 15 (hs4.below_ hb5)).mono ?_
        rintro e w6 ⟨rfl, hs6, ho6⟩
        go_wp2_with fail
        go_meet
        exact FIN.out _ ⟨w5, hb5⟩ w6 hs6 ho6 (by have := HD.out; simp [h64]; omega)
    case rest =>
      obtain ⟨hs5, hn5, ho5⟩ := hcut
      clear hs4 hn4 ho4
      have hst3 : wrongP (decide (64 ≤ t.length) || decide (m = 0)) 15 q = headP sz so m t.length st := by unfold headP; rw [HN.out, HNB.out, ← HQ.out]
      rw [hst3] at hs5
      clear hst3 HQ
      generalize hh : headP sz so m t.length st = st3 at hs5
      have HST := Lib.hid hh
      clear hh
      obtain ⟨pa, pc, xa, xc, hb5, _⟩ := hs5.ex
      have c4 := cell_of_blk hb5 4 _ rfl
      clear hb5
      cases he3 : (st3.e == 0)
      · have HE3 : Hid (st3.e ≠ 0) := by intro e; rw [e] at he3; cases he3
        go_wp2_with fail
        rw [Exit.noGoto_ret]
        refine bodyPost_ret (results_none rfl _ _ _) rfl ?_
        have e : termP sz (m + 1) so (st, t) = (st3, t) := by
          unfold termP
          simp only
          rw [HST.out, if_neg HE3.out]
        rw [e]
        exact ⟨rfl, ⟨_, t, hs5, own_below_' HH.out.own ho5 hlt, HH.out.few, fun h => absurd h HE3.out, OwnOf.refl _ _⟩, Grown.only ho5⟩
      · have HE3 : Hid (st3.e = 0) := eq_of_beq he3
        have c0 := cell_of_blk hn5 0 _ rfl
        have HB5 := Lib.hid (bel_only HH.out.below HH.out.le ho5)
        have htk : st3.tk = st.tk.tail := by rw [← HST.out, headP_tk]
        have HTK := Lib.hid htk
        clear htk
        go_upto_region 4 with fail
        go_cut [] (fun wx => ∃ n' : Nd, PSt B pb sz (.slice p t.length c) (behindP sz ⟨op, na, nnb, num, den⟩ st3).2 wx ∧ Hid ((behindP sz ⟨op, na, nnb, num, den⟩ st3).2.e = 0 → n' = (behindP sz ⟨op, na, nnb, num, den⟩ st3).1) ∧ Hid (n'.op = op) ∧ NdAt wx k n' ∧ Two pb k w wx)
        case first =>
          have hrun : Hid (Calls Tryz.prog (behindF op) #[.pointer (some ⟨pb, 0, none⟩), .pointer (some ⟨k, 0, none⟩)] wc _) :=
            text_behind_run hs5 hn5 hkB (by rw [HTK.out, List.length_tail]; have := HH.out.toks; omega) (fun u hu => HH.out.short u (by rw [HTK.out] at hu; exact List.mem_of_mem_tail hu)) HE.out HB5.out HH.out.le
          have HO5 := Lib.hid ho5
          clear hs5 ho5 hn5 c4
          rcases behindF_cases op with hf | hf | hf | hf | hf
          all_goals
            have HF := Lib.hid hf
            clear hf
            go_wp2_with fail
            refine (text_behind op _).mono ?_
            rintro e w6 ⟨rfl, rfl⟩
            have hr := hrun.out
            rw [HF.out] at hr ⊢
            go_wp2_with fail
            refine hr.mono ?_
            rintro e w7 ⟨rfl, n', st', ⟨rfl, hno, hn'⟩, hs7, hn7, ht7⟩
            have HNO := Lib.hid hno
            have HN' := Lib.hid hn'
            have HT7 := Lib.hid ht7
            clear hr hn' ht7 hno
            go_wp2_with fail
            go_meet
            exact ⟨n', hs7, HN', HNO, hn7, (Two.of HO5.out).trans HT7.out⟩
        case rest =>
          obtain ⟨n', hs6, HNX, HNO, hn6, ht6⟩ := hcut
          have hz := headP_zero (by rw [HST.out]; exact HE3.out : (headP sz so m t.length st).e = 0)
          have hl63 : t.length < 64 := hz.1
          have hm1 : 1 ≤ m := by have := hz.2.1; omega
          have hson := hz.2.2.2.1
          rw [HN.out] at hson
          have HSO := Lib.hid hson
          have hsub : Sub st.tk (behindP sz ⟨op, na, nnb, num, den⟩ st3).2.tk := Sub.trans (by rw [← HST.out]; exact sub_head sz so m t.length st) (sub_behind sz _ st3)
          have HSUB := Lib.hid hsub
          clear hz hson hsub hs5 hn5 ho5 c4 c0
          generalize hb : behindP sz ⟨op, na, nnb, num, den⟩ st3 = y at hs6 HNX HSUB
          obtain ⟨ny, st4⟩ := y
          have HY := Lib.hid hb
          clear hb
          change PSt B pb sz (.slice p t.length c) st4 wc at hs6
          change Hid (st4.e = 0 → n' = ny) at HNX
          change Hid (Sub st.tk st4.tk) at HSUB
          obtain ⟨nop, n1, n2, n3, n4⟩ := n'
          have hown6 : wc.ownsRow B 48 5 (.slice p t.length c) t.length (cellsNd t) := own_two HH.out.own ht6 hlt hkw
          obtain ⟨ptb, ptc, xtb, xtc, hb6, _⟩ := hs6.ex
          have c5 : wc.cell? ⟨pb, 5, none⟩ = some (.slice p t.length c) := cell_of_blk hb6 5 _ rfl
          have f5 := free_of_blk hb6 5
          have d0 := cell_of_blk hn6 0 _ rfl
          have d1 := cell_of_blk hn6 1 _ rfl
          have d2 := cell_of_blk hn6 2 _ rfl
          have d3 := cell_of_blk hn6 3 _ rfl
          have d4 := cell_of_blk hn6 4 _ rfl
          have hk6 := hn6.lt
          have hpl6 := hs6.heap_lt
          have hbl6 : ∀ j, (Value.slice p t.length c).ownBlock = some j → B ≤ j ∧ j < w.heap.size := by
            intro j hj
            exact HH.out.own.lt j hj
          have ne1 : some pb ≠ (Value.slice p t.length c).ownBlock := fun e => by have := hbl6 pb e.symm; omega
          have ne2 : some k ≠ (Value.slice p t.length c).ownBlock := fun e => by have := hbl6 k e.symm; omega
          have HN6 := Lib.hid hn6
          have HS6 := Lib.hid hs6
          have HT6 := Lib.hid ht6
          have ht6s := ht6.size
          have HOWN := Lib.hid hown6
          have HNE := Lib.hid (And.intro ne1 ne2)
          have HBL := Lib.hid hbl6
          have hBw6 : B ≤ wc.heap.size := Nat.le_trans hBw ht6.size
          obtain ⟨i0, hi, hz0, hz1, hz2⟩ := info_parts info_node
          clear hn6 hs6 ht6 hown6 hb6 ne1 ne2 hbl6
          have ff5 : ((wc.alloc (.cells #[.int .i64 nop, .int .i64 n1, .int .i64 n2, .int .i64 n3, .int .i64 n4] 48)).drew).frozen? ⟨pb, 5, none⟩ = false := (frozen_alloc_ne _ _ _ _ hpl6).trans f5
          go_upto_region 5 with fail
          go_cut [] (fun wx => ∃ tv5 : Value, PSt B pb sz tv5 st4 wx ∧ Hid (wx.ownsRow B 48 5 tv5 (t.length + 1) (cellsNd (t ++ [⟨nop, n1, n2, n3, n4⟩]))) ∧ wx.cell? ⟨k, 0, none⟩ = some (.int .i64 nop) ∧ Hid (OwnOf (.slice p t.length c) w tv5) ∧ Hid (Grown pb (.slice p t.length c) w wx))
          case first =>
            go_region_law ((refine step_append_lies _ (by rfl) _ _ _ (by rfl) B 48 i0 _ 5 40 Tryz.underlying22 hi hz0 hz1 hz2 rfl (by omega) (.slice p t.length c) t.length (cellsNd t) (by rfl) ((HOWN.out.alloc _).drew) ⟨wc.heap.size, 0, none⟩ 1 1 [.int .i64 nop, .int .i64 n1, .int .i64 n2, .int .i64 n3, .int .i64 n4] (by rfl) (by rfl) (World.news_of_block (cs := #[.int .i64 nop, .int .i64 n1, .int .i64 n2, .int .i64 n3, .int .i64 n4]) (t := 48) (fr := (0, 0)) (heap_alloc_new wc _)) (by simp [Value.oneCell']) (by omega) (by unfold maxLen; omega) (by omega) (by simp; omega) (wc.heap.size + 1) (by simp) ?_; intro gg cap w8 hown8 hgrow hat hlt8; have e5 : w8.cell? ⟨pb, 5, none⟩ = some (.slice p t.length c) := (hgrow.cell_far _ (by simp; omega) HNE.out.1).trans ((cell_alloc_ne wc _ _ _ hpl6).trans c5); have g5 : w8.frozen? ⟨pb, 5, none⟩ = false := (hgrow.frozen_far _ (by simp; omega) HNE.out.1).trans ff5))
            all_goals
              go_wp2_with fail
              go_meet
              exact term_pushed HS6.out hlt hpl6 hk6 hkw hkB HT6.out HBL.out hown8 hgrow hat (d0 : wc.cell? ⟨k, 0, none⟩ = some (.int .i64 nop))
          case rest =>
            obtain ⟨tv5, hs7, HOW7, dk, HOO, HGR⟩ := hcut
            have hlt7 := (own_form HOW7.out)
            have HB7 : Hid (Below w0.heap.size w0 wc) := HH.out.below.trans (HGR.out.below HH.out.le HH.out.below.size (fun j hj => Nat.le_trans (Nat.le_trans HH.out.le (Nat.le_of_lt hlt)) (HBL.out j hj).1))
            clear hlt7 d0 d1 d2 d3 d4 c5 f5 ff5
            go_wp2_with fail
            refine (term_Kids _ _ (HE.out.below_ HB7.out).shape).mono ?_
            rintro e w9 ⟨v9, rfl, hown9, hne9, hb9⟩
            have HOWK := Lib.hid hown9
            have HB9 := Lib.hid hb9
            have hs9 := hs7.below_ hb9
            obtain ⟨p9, c9, hv9⟩ := own_form hown9
            subst hv9
            rcases hown9.2 with ⟨hv, _⟩ | ⟨kb, kc, cur9, hv, hkb, hcur, _⟩
            · exact absurd hv hne9
            have hkb9 : kb < w9.heap.size := (Array.getElem?_eq_some_iff.1 hcur).1
            injection hv with hv1 _ hv3
            subst hv1 hv3
            have HKC : Hid (∀ j, j < (kidsL nop).length → w9.cell? ⟨kb, 0 + j, none⟩ = some (.int .i64 ((kidsL nop).getD j 0))) := by
              intro j hj
              have := HOWK.out.cells (g := kb) rfl j (.int .i64 ((kidsL nop).getD j 0)) (by rw [List.getElem?_map, List.getElem?_eq_getElem hj, List.getD_eq_getElem?_getD, List.getElem?_eq_getElem hj]; rfl)
              rwa [show ((⟨kb, 0, none⟩ : Addr).add j) = ⟨kb, 0 + j, none⟩ by unfold Addr.add; split <;> simp_all] at this
            have HCUR := Lib.hid hcur
            have hown5 := own_below_ HOW7.out hb9
            have hmy := many_le nop
            have hkl := kidsL_length nop
            have HKL := Lib.hid hkl
            obtain ⟨N, hN⟩ : ∃ N, t ++ [⟨nop, n1, n2, n3, n4⟩] = N := ⟨_, rfl⟩
            have hNL : N.length = t.length + 1 := by rw [← hN]; simp
            have HQ9 : KidsAt B pb sz (.slice p t.length c) w (termP sz m) (kidsL nop) 0 (kidsP (termP sz m) sz (kidsL nop) 0 (st4, t ++ [ny])) st.tk kb w9 := by
              refine ⟨⟨tv5, st4, N, t ++ [ny], hs9, by rw [hNL, ← hN]; exact hown5, by omega, fun he => by rw [← hN, HNX.out he], by rw [List.drop_zero], HOO.out, ?_, HSUB.out⟩, ?_, fun j hj => HKC.out j hj, hkb9, Nat.le_trans HGR.out.size hkb⟩
              · rcases HOO.out with e | e
                · rw [e]; intro e'; have := (HBL.out kb e').2; have := HGR.out.size; omega
                · intro e'; have := HOW7.out.lt kb e'; omega
              · exact HGR.out.trans HOO.out (Grown.only (Only.of_below hb9))
            obtain ⟨Z, hZ⟩ : ∃ Z, kidsP (termP sz m) sz (kidsL nop) 0 (st4, t ++ [ny]) = Z := ⟨_, rfl⟩
            rw [hZ] at HQ9
            have HZ := Lib.hid hZ
            have HQ := Lib.hid HQ9
            clear hown9 hb9 hs7 hne9 dk hs9 hown5 hN hNL hcur hkl HQ9 hZ
            go_wp2_with fail
            go_step3
            go_upto_block 0 with fail
            go_cut [] (fun wx => TermQ B pb sz (.slice p t.length c) w Z wx)
            case first =>
              go_wp2_with fail
              go_loopg [72] (many nop) (fun g s72 wr => ∃ j : Nat, j ≤ many nop ∧ g = many nop - j ∧ s72 = .int .i64 j ∧ Hid (KidsAt B pb sz (.slice p t.length c) w (termP sz m) (kidsL nop) j Z st.tk kb wr))
              case atStart => exact ⟨0, Nat.zero_le _, rfl, rfl, HQ⟩
              case round =>
                clear HQ HCUR HOW7 HOWK HB9 HB7 HN6 HS6 HOWN HT6 HKC
                obtain ⟨j, hj, rfl, rfl, hq⟩ := hrel
                by_cases hjl : j < many nop
                · obtain ⟨tvj, stj, tj, ts, hsj, howj, hfj, hej, hzj, hooj, hnkj, hsubj⟩ := hq.out.ex
                  have hcell := hq.out.kids j (by rw [HKL.out]; exact hjl)
                  have HOJ := Lib.hid howj
                  have HEJ := Lib.hid hej
                  have HZJ := Lib.hid hzj
                  have HSJ := Lib.hid hsubj
                  have HOOJ := Lib.hid hooj
                  have HNKJ := Lib.hid hnkj
                  simp only [Nat.zero_add] at hcell
                  generalize hgd : (kidsL nop).getD j 0 = kj at hcell
                  have HGD := Lib.hid hgd
                  have htkl : stj.tk.length ≤ 1000000 := by have := hsubj.len; have := HH.out.toks; omega
                  clear howj hej hzj hsubj hooj hnkj hgd
                  by_cases hj0 : j = 0
                  · have hmin : min (j : Int) 1 = 0 := by omega
                    have HMO : Hid ((⟨#[40]⟩ : ByteArray) = markOf j) := by rw [hj0]; rfl
                    clear hj0
                    go_wp2_with fail
                    have hsA := hsj.below_ (below_alloc wr (.cells #[.string ⟨#[40]⟩, .string ⟨#[44]⟩] 9))
                    refine (text_mark (B := B) (sz := sz) (tv := tvj) (st := stj) ⟨#[40]⟩ hsA htkl).mono ?_
                    rintro e w10 ⟨rfl, hs10, ho10⟩
                    rw [show (⟨#[40]⟩ : ByteArray) = markOf j from HMO.out] at hs10
                    have ho10' := (Only.of_below (pb := pb) (below_alloc wr (.cells #[.string ⟨#[40]⟩, .string ⟨#[44]⟩] 9))).trans ho10
                    clear hsA ho10 hcell hsj
                    have hsub10 : Sub st.tk (markP sz (markOf j) stj).tk := HSJ.out.trans (sub_mark sz _ stj)
                    have hz10 := kidsP_step (rec := termP sz m) (sz := sz) (j := j) (st := stj) (ts := ts) (by rw [HKL.out]; exact hjl : j < (kidsL nop).length)
                    rw [HZJ.out, HGD.out] at hz10
                    have HZ10 := Lib.hid hz10
                    have HSUB10 := Lib.hid hsub10
                    have HEM : Hid ((markP sz (markOf j) stj).e = 0 → tj = ts) := fun he => HEJ.out (markP_zero he)
                    clear hz10 hsub10
                    generalize markP sz (markOf j) stj = st10 at hs10 HZ10 HSUB10 HEM
                    have HO10 := Lib.hid ho10'
                    clear ho10'
                    obtain ⟨pa2, pc2, xa2, xc2, hb10, _⟩ := hs10.ex
                    have c4 := cell_of_blk hb10 4 _ rfl
                    clear hb10
                    cases he10 : (st10.e == 0)
                    · have hne10 : st10.e ≠ 0 := by intro e; rw [e] at he10; cases he10
                      have HZF : Hid (Z = (st10, ts)) := by show _ = _; rw [HZ10.out, if_neg hne10]
                      have HN10 := Lib.hid hne10
                      clear hne10
                      go_wp2_with fail
                      go_meet
                      rw [HZF.out]
                      exact ⟨⟨tvj, tj, hs10, own_below_' HOJ.out HO10.out hlt, hfj, fun he => absurd he HN10.out, HOOJ.out⟩, hq.out.grown.trans HOOJ.out (Grown.only HO10.out)⟩
                    · have he10' : st10.e = 0 := eq_of_beq he10
                      have hTJ : Hid (tj = ts) := HEM.out he10'
                      have HZF : Hid (Z = kidsP (termP sz m) sz ((kidsL nop).drop (j + 1)) (j + 1) (termP sz m kj (st10, tj))) := by show _ = _; rw [HZ10.out, if_pos he10', hTJ.out]
                      have HGJ := Lib.hid (hq.out.grown.trans HOOJ.out (Grown.only HO10.out))
                      have HTH : Hid (TermH B pb sz tvj st10 tj w0 w10) := ⟨hs10, own_below_' HOJ.out HO10.out hlt, hfj, Nat.le_trans HSUB10.out.len HH.out.toks, fun u hu => HH.out.short u (HSUB10.out.mem u hu),
                        HH.out.below.trans (HGJ.out.below HH.out.le HH.out.below.size (fun i hi => Nat.le_trans (Nat.le_trans HH.out.le (Nat.le_of_lt hlt)) (HBL.out i hi).1)), HH.out.le, Nat.le_trans hBw HGJ.out.size⟩
                      clear he10' hs10
                      go_wp2_with fail
                      refine (IH.out kj (d + 1) tvj st10 tj _ (by have := HD.out; omega) hm1 HTH.out).mono ?_
                      rintro e w11 ⟨rfl, hq11⟩
                      have HQ11 : Hid (KidsAt B pb sz (.slice p t.length c) w (termP sz m) (kidsL nop) (j + 1) Z st.tk kb w11) := by
                        obtain ⟨⟨tv11, t11, k1, k2, k3, k4, k5⟩, k6⟩ := hq11
                        have hz := hq.out.lt
                        have hz10 := HO10.out.size
                        refine ⟨⟨tv11, _, t11, _, k1, k2, k3, k4, HZF.out.symm, HOOJ.out.trans k5 (Nat.le_trans hq.out.grown.size hz10), ?_, HSUB10.out.trans (sub_term sz m kj (st10, tj))⟩, HGJ.out.trans HOOJ.out k6, fun i hi => ?_, by have := k6.size; omega, hq.out.ne⟩
                        · rcases k5 with e | e
                          · rw [e]; exact HNKJ.out
                          · intro e'; have := e kb e'; omega
                        · have hkp : kb ≠ pb := by have := hq.out.ne; omega
                          exact (World.cell?_of_block (a := ⟨kb, 0 + i, none⟩) ((k6.block kb (by omega) hkp HNKJ.out).trans (HO10.out.block kb hz hkp))).trans (hq.out.kids i hi)
                      clear hq11
                      go_wp2_with fail
                      go_roundg (many nop - (j + 1))
                      case measure => omega
                      case rel => exact ⟨j + 1, by omega, rfl, by go_num, HQ11⟩
                  · have hmin : min (j : Int) 1 = 1 := by omega
                    have HMO : Hid ((⟨#[44]⟩ : ByteArray) = markOf j) := by show _ = _; unfold markOf; rw [if_neg hj0]
                    clear hj0
                    go_wp2_with fail
                    have hsA := hsj.below_ (below_alloc wr (.cells #[.string ⟨#[40]⟩, .string ⟨#[44]⟩] 9))
                    refine (text_mark (B := B) (sz := sz) (tv := tvj) (st := stj) ⟨#[44]⟩ hsA htkl).mono ?_
                    rintro e w10 ⟨rfl, hs10, ho10⟩
                    rw [show (⟨#[44]⟩ : ByteArray) = markOf j from HMO.out] at hs10
                    have ho10' := (Only.of_below (pb := pb) (below_alloc wr (.cells #[.string ⟨#[40]⟩, .string ⟨#[44]⟩] 9))).trans ho10
                    clear hsA ho10 hcell hsj
                    have hsub10 : Sub st.tk (markP sz (markOf j) stj).tk := HSJ.out.trans (sub_mark sz _ stj)
                    have hz10 := kidsP_step (rec := termP sz m) (sz := sz) (j := j) (st := stj) (ts := ts) (by rw [HKL.out]; exact hjl : j < (kidsL nop).length)
                    rw [HZJ.out, HGD.out] at hz10
                    have HZ10 := Lib.hid hz10
                    have HSUB10 := Lib.hid hsub10
                    have HEM : Hid ((markP sz (markOf j) stj).e = 0 → tj = ts) := fun he => HEJ.out (markP_zero he)
                    clear hz10 hsub10
                    generalize markP sz (markOf j) stj = st10 at hs10 HZ10 HSUB10 HEM
                    have HO10 := Lib.hid ho10'
                    clear ho10'
                    obtain ⟨pa2, pc2, xa2, xc2, hb10, _⟩ := hs10.ex
                    have c4 := cell_of_blk hb10 4 _ rfl
                    clear hb10
                    cases he10 : (st10.e == 0)
                    · have hne10 : st10.e ≠ 0 := by intro e; rw [e] at he10; cases he10
                      have HZF : Hid (Z = (st10, ts)) := by show _ = _; rw [HZ10.out, if_neg hne10]
                      have HN10 := Lib.hid hne10
                      clear hne10
                      go_wp2_with fail
                      go_meet
                      rw [HZF.out]
                      exact ⟨⟨tvj, tj, hs10, own_below_' HOJ.out HO10.out hlt, hfj, fun he => absurd he HN10.out, HOOJ.out⟩, hq.out.grown.trans HOOJ.out (Grown.only HO10.out)⟩
                    · have he10' : st10.e = 0 := eq_of_beq he10
                      have hTJ : Hid (tj = ts) := HEM.out he10'
                      have HZF : Hid (Z = kidsP (termP sz m) sz ((kidsL nop).drop (j + 1)) (j + 1) (termP sz m kj (st10, tj))) := by show _ = _; rw [HZ10.out, if_pos he10', hTJ.out]
                      have HGJ := Lib.hid (hq.out.grown.trans HOOJ.out (Grown.only HO10.out))
                      have HTH : Hid (TermH B pb sz tvj st10 tj w0 w10) := ⟨hs10, own_below_' HOJ.out HO10.out hlt, hfj, Nat.le_trans HSUB10.out.len HH.out.toks, fun u hu => HH.out.short u (HSUB10.out.mem u hu),
                        HH.out.below.trans (HGJ.out.below HH.out.le HH.out.below.size (fun i hi => Nat.le_trans (Nat.le_trans HH.out.le (Nat.le_of_lt hlt)) (HBL.out i hi).1)), HH.out.le, Nat.le_trans hBw HGJ.out.size⟩
                      clear he10' hs10
                      go_wp2_with fail
                      refine (IH.out kj (d + 1) tvj st10 tj _ (by have := HD.out; omega) hm1 HTH.out).mono ?_
                      rintro e w11 ⟨rfl, hq11⟩
                      have HQ11 : Hid (KidsAt B pb sz (.slice p t.length c) w (termP sz m) (kidsL nop) (j + 1) Z st.tk kb w11) := by
                        obtain ⟨⟨tv11, t11, k1, k2, k3, k4, k5⟩, k6⟩ := hq11
                        have hz := hq.out.lt
                        have hz10 := HO10.out.size
                        refine ⟨⟨tv11, _, t11, _, k1, k2, k3, k4, HZF.out.symm, HOOJ.out.trans k5 (Nat.le_trans hq.out.grown.size hz10), ?_, HSUB10.out.trans (sub_term sz m kj (st10, tj))⟩, HGJ.out.trans HOOJ.out k6, fun i hi => ?_, by have := k6.size; omega, hq.out.ne⟩
                        · rcases k5 with e | e
                          · rw [e]; exact HNKJ.out
                          · intro e'; have := e kb e'; omega
                        · have hkp : kb ≠ pb := by have := hq.out.ne; omega
                          exact (World.cell?_of_block (a := ⟨kb, 0 + i, none⟩) ((k6.block kb (by omega) hkp HNKJ.out).trans (HO10.out.block kb hz hkp))).trans (hq.out.kids i hi)
                      clear hq11
                      go_wp2_with fail
                      go_roundg (many nop - (j + 1))
                      case measure => omega
                      case rel => exact ⟨j + 1, by omega, rfl, by go_num, HQ11⟩
                · have hjm : j = many nop := by omega
                  have HFIN : Hid (TermQ B pb sz (.slice p t.length c) w Z wr) := by
                    obtain ⟨⟨tvj, stj, tj, ts, hsj, howj, hfj, hej, hzj, hooj, hnkj, hsubj⟩, k6, _, _, _⟩ := hq.out
                    rw [List.drop_of_length_le (by rw [HKL.out]; omega)] at hzj
                    have hzj' : (stj, ts) = Z := hzj
                    rw [← hzj']
                    exact ⟨⟨tvj, tj, hsj, howj, hfj, hej, hooj⟩, k6⟩
                  clear hjm
                  go_wp2_with fail
                  go_meet
                  exact HFIN.out
            case rest =>
              have HZQ := Lib.hid hcut
              clear hcut HQ
              have hZ1 : Sub st.tk Z.1.tk := by rw [← HZ.out]; exact HSUB.out.trans (sub_kids (sub_term sz m) sz _ 0 (st4, t ++ [ny]))
              have hall : termP sz (m + 1) so (st, t) = if many op = 0 then Z else (markP sz closeB Z.1, Z.2) := by
                rw [termP]
                simp only
                rw [HST.out, if_pos HE3.out, HN.out]
                unfold bodyP
                simp only
                rw [HY.out, ← HNO.out, HZ.out]
              rw [← HNO.out] at hall
              have HALL := Lib.hid hall
              have htz : Z.1.tk.length ≤ 1000000 := by have := hZ1.len; have := HH.out.toks; omega
              clear hall hZ1
              obtain ⟨⟨tvz, tz, hsz, hoz, hfz, hez, hooz⟩, hgz⟩ := HZQ.out
              have HOZ := Lib.hid hoz
              have HEZ := Lib.hid hez
              have HGZ := Lib.hid hgz
              have HOOZ := Lib.hid hooz
              clear hoz hez hgz hooz
              by_cases hm0 : many nop = 0
              · have hA : Hid (termP sz (m + 1) so (st, t) = Z) := by show _ = _; rw [HALL.out, if_pos hm0]
                have hm1 : decide (0 < many nop) = false := by simp [hm0]
                have hm2 : decide (0 < (many nop : Int)) = false := by simp [hm0]
                clear hm0
                go_wp2_with fail
                rw [Exit.noGoto_normal]
                go_end0
                rw [hA.out]
                exact ⟨rfl, HZQ.out⟩
              · have hA : Hid (termP sz (m + 1) so (st, t) = (markP sz closeB Z.1, Z.2)) := by show _ = _; rw [HALL.out, if_neg hm0]
                have hm1 : decide (0 < many nop) = true := by simp; omega
                have hm2 : decide (0 < (many nop : Int)) = true := by simp; omega
                clear hm0
                go_wp2_with fail
                refine (text_mark (B := B) (sz := sz) (tv := tvz) (st := Z.1) ⟨#[41]⟩ hsz htz).mono ?_
                rintro e w12 ⟨rfl, hs12, ho12⟩
                have HO12 := Lib.hid ho12
                clear ho12 hsz
                go_wp2_with fail
                rw [Exit.noGoto_normal]
                go_end0
                rw [hA.out]
                exact ⟨rfl, ⟨⟨tvz, tz, hs12, own_below_' HOZ.out HO12.out hlt, hfz, fun he => HEZ.out (markP_zero he), HOOZ.out⟩, HGZ.out.trans HOOZ.out (Grown.only HO12.out)⟩⟩

/-- 'term' reads a term. -/
theorem text_term (B pb : Nat) (sz : Int) (w0 : World) (he : Env w0) : ∀ (m : Nat) (so d : Int) (tv : Value) (st : PS) (t : List Nd) (w : World), m ≤ 14 → d + m = 14 → 1 ≤ m → TermH B pb sz tv st t w0 w →
      Calls Tryz.prog 48 #[.pointer (some ⟨pb, 0, none⟩), .int .i64 so, .int .i64 d] w fun e w' => e = .returned (.tuple #[]) ∧ TermQ B pb sz tv w (termP sz m so (st, t)) w'
  | 0, _, _, _, _, _, _, _, _, h, _ => by omega
  | m + 1, so, d, tv, st, t, w, hm, hd, _, h =>
    text_term_step B pb sz w0 he m (by omega) (fun so d tv st t w h1 h2 h3 => text_term B pb sz w0 he m so d tv st t w (by omega) h1 h2 h3) so d tv st t w (by omega) h
end Go.Proofs.YtokfgdpmbmnijaaGreatDoor
/- Parse: the walk. -/
namespace Go.Proofs.YtokfgdpmbmnijaaGreatDoor
open Go.RowKit

theorem three_blocks (w : World) (a b c : Obj) : (((w.alloc a).alloc b).alloc c).heap[w.heap.size]? = some a ∧ (((w.alloc a).alloc b).alloc c).heap[w.heap.size + 1]? = some b ∧ (((w.alloc a).alloc b).alloc c).heap[w.heap.size + 1 + 1]? = some c := by
  show ((w.heap.push a).push b |>.push c)[w.heap.size]? = _ ∧ ((w.heap.push a).push b |>.push c)[w.heap.size + 1]? = _ ∧ ((w.heap.push a).push b |>.push c)[w.heap.size + 1 + 1]? = _
  simp only [Array.getElem?_push, Array.size_push]
  refine ⟨?_, ?_, ?_⟩
  · rw [if_neg (by omega), if_neg (by omega), if_pos trivial]
  · rw [if_neg (by omega), if_pos trivial]
  · rw [if_pos trivial]
/-- The reader's state at the beginning. -/
def stOf (s : ByteArray) : PS := ⟨(toks s).map (fun t => (t.1, s.extract t.1 t.2)), 0, 0⟩
/-- A reader's state at the end: no token may be left. -/
def endP (sz : Int) (st : PS) : PS := if st.e = 0 ∧ st.tk ≠ [] then wrongP true 13 (nextP sz st) else st
def outP (x : PS × List Nd) : List Nd × Int × Int := if x.1.e = 0 then (x.2, 0, 0) else ([], x.1.last, x.1.e)
/-- What 'Parse' answers. -/
def parseF (s : ByteArray) : List Nd × Int × Int := outP (endP s.size (termP s.size 13 2 (stOf s, [])).1, (termP s.size 13 2 (stOf s, [])).2)
def ParsePost (s : ByteArray) (w : World) (e : Ending) (w' : World) : Prop :=
  ∃ v, e = .returned (.tuple #[v, .int .i64 (parseF s).2.1, .int .i64 (parseF s).2.2]) ∧ w'.ownsRow w.heap.size 48 5 v (parseF s).1.length (cellsNd (parseF s).1) ∧ Below w.heap.size w w'

theorem toks_len {s : ByteArray} : ∀ f a, (toksF s f a).length ≤ f
  | 0, a => Nat.le_refl _
  | f + 1, a => by
    rw [toksF]
    split
    · split
      · have := toks_len (s := s) f (a + 1); omega
      · have := toks_len (s := s) f (tokE s a); rw [List.length_cons]; omega
    · exact Nat.zero_le _
theorem extract_le (s : ByteArray) (a b : Nat) : (s.extract a b).size ≤ s.size := by rw [ByteArray.size_extract]; omega
theorem own_cap {w : World} {B : Nat} {e : TypeId} {k n c : Nat} {p : Option Addr} {v : Value} {zs : List Value} (h : w.ownsRow B e k v n zs) (hv : v = .slice p n c) : n ≤ c := by
  rcases h.2 with ⟨h1, h0⟩ | ⟨g, cap, cur, h1, _, _, hcap, _⟩
  · omega
  · rw [h1] at hv
    injection hv with _ _ h3
    omega
theorem own_at {w : World} {B : Nat} {e : TypeId} {n : Nat} {v : Value} {zs : List Value} (h : w.ownsRow B e 1 v n zs) (hn : 0 < n) : ∃ g c, g < w.heap.size ∧ v = .slice (some ⟨g, 0, none⟩) n c ∧ B ≤ g ∧ ∀ (j : Nat) (u : Value), zs[j]? = some u → w.cell? ⟨g, j, none⟩ = some u := by
  rcases h.2 with ⟨h1, h0⟩ | ⟨g, cap, cur, h1, h2, h3, h4, h5, h6, h7⟩
  · omega
  · refine ⟨g, cap, (Array.getElem?_eq_some_iff.1 h3).1, h1, h2, fun j u hu => ?_⟩
    have := h.cells (g := g) (by rw [h1]; rfl) j u hu
    rwa [show ((⟨g, 0, none⟩ : Addr).add j) = ⟨g, j, none⟩ by unfold Addr.add; split <;> simp_all] at this
/-- Behind the range: what a term's reader asks. -/
theorem parse_termH {s : ByteArray} {w W : World} (hs : s.size ≤ 1000000) (h : PAt (w.heap.size + 3) (w.heap.size + 1) w.heap.size s.size s w (toks s) W) (hz : w.heap.size < W.heap.size) : TermH W.heap.size w.heap.size s.size (.slice none 0 0) (stOf s) [] w W := by
  have hlen : (toks s).length ≤ s.size := toks_len (s := s) _ _
  obtain ⟨pv, xv, h1, h2, h3⟩ := h.rows
  obtain ⟨pp, pc, hpv⟩ := own_form h1
  obtain ⟨xp, xc, hxv⟩ := own_form h2
  have hl : (stOf s).tk.length = (toks s).length := by simp [stOf]
  refine ⟨⟨hz, pp, pc, xp, xc, ?_, ?_, ?_, ?_⟩, World.ownsRow_nil _ _ _ _, Nat.zero_le _, by omega, ?_, h.below, Nat.le_refl _, Nat.le_refl _⟩
  · rw [h3, hpv, hxv, hl]; rfl
  · rw [hl]
    exact own_cap h1 hpv
  · rw [hl]; exact own_cap h2 hxv
  · intro hne
    have hne' : (toks s).length ≠ 0 := fun e => hne (List.eq_nil_of_length_eq_zero (by rw [hl]; exact e))
    obtain ⟨g1, _, k1, e1, b1, c1⟩ := own_at h1 (by omega)
    obtain ⟨g2, _, k2, e2, b2, c2⟩ := own_at h2 (by omega)
    rw [hpv] at e1
    rw [hxv] at e2
    injection e1 with e1 _ _
    injection e2 with e2 _ _
    refine ⟨g1, 0, g2, 0, e1, e2, by omega, by omega, k1, k2, fun j t hj => ?_⟩
    simp only [stOf, List.getElem?_map, Option.map_eq_some_iff] at hj
    obtain ⟨u, hu, rfl⟩ := hj
    exact ⟨by rw [Nat.zero_add]; exact c1 j _ (by rw [List.getElem?_map, hu]; rfl), by rw [Nat.zero_add]; exact c2 j _ (by rw [List.getElem?_map, hu]; rfl)⟩
  · intro u hu
    simp only [stOf, List.mem_map] at hu
    obtain ⟨t, _, rfl⟩ := hu
    exact Nat.le_trans (extract_le _ _ _) hs

theorem results_tmp3' {fn : Func} {t u v : Tmp} (h : fn.results = #[.tmp t, .tmp u, .tmp v]) (tmps : Array Value) (P : Program) (w : World) :
    (results fn tmps).run P w = .ok (.tuple #[tmps.getD t undef, tmps.getD u undef, tmps.getD v undef]) w := by
  simp [results, h]
theorem own_putObj {w : World} {B e size n D : Nat} {ds : Option (List Deferred)} {o : Obj} {v : Value} {xs : List Value} (h : w.ownsRow B e size v n xs) (hD : w.heap[D]? = some (.deferred ds)) : (w.putObj D o).ownsRow B e size v n xs :=
  ⟨h.1, h.2.imp id fun ⟨g, cap, cur, h1, h2, h3, h4⟩ => ⟨g, cap, cur, h1, h2, by
    rw [World.putObj_heap_other (by rintro rfl; rw [hD] at h3; cases h3)]; exact h3, h4⟩⟩
theorem ret_one3 {P : Program} {fn : Func} {R : Ending → World → Prop} {n D : Nat} {a : Act} {w : World} {t u x : Tmp} {v1 v2 v3 : Value} {ags : Array Value} (hr : fn.results = #[.tmp t, .tmp u, .tmp x]) (h1 : a.tmps.getD t undef = v1) (h2 : a.tmps.getD u undef = v2) (h3 : a.tmps.getD x undef = v3)
    (hd : a.defers = [{ target := .collected D, args := ags }]) (_ : ags = ags) (hD : w.heap[D]? = some (.deferred (some []))) (h : R (.returned (.tuple #[v1, v2, v3])) (w.putObj D (.deferred none))) : bodyPostM Fence.wide n P fn R .ret a w := by
  show LeavesInM Fence.wide n P fn a.tmps R a.defers .returning w
  rw [hd]
  refine ⟨by simp, .inl ⟨D, _, rfl, run_takeDeferred hD, ?_⟩⟩
  exact ⟨_, by rw [results_tmp3' hr, h1, h2, h3], h⟩
theorem parse_bad {sz : Int} {X : PS × List Nd} (h : X.1.e ≠ 0) : outP (endP sz X.1, X.2) = ([], X.1.last, X.1.e) := by
  have e : endP sz X.1 = X.1 := if_neg (fun k => h k.1)
  rw [e]
  exact if_neg h
theorem parse_good {sz : Int} {X : PS × List Nd} (h : X.1.e = 0) (k : X.1.tk = []) : outP (endP sz X.1, X.2) = (X.2, 0, 0) := by
  have e : endP sz X.1 = X.1 := if_neg (fun j => j.2 k)
  rw [e]
  exact if_pos h
theorem wrong_left {sz : Int} {st : PS} (h : st.e = 0) (k : st.tk ≠ []) : (wrongP true 13 (nextP sz st)).e = 13 := by
  unfold nextP
  split
  · exact absurd (by assumption) k
  · unfold wrongP
    rw [if_pos ⟨rfl, h⟩]
theorem parse_left {sz : Int} {X : PS × List Nd} (h : X.1.e = 0) (k : X.1.tk ≠ []) : outP (endP sz X.1, X.2) = ([], (wrongP true 13 (nextP sz X.1)).last, (wrongP true 13 (nextP sz X.1)).e) := by
  have e : endP sz X.1 = wrongP true 13 (nextP sz X.1) := if_pos ⟨h, k⟩
  rw [e]
  exact if_neg (by rw [wrong_left h k]; decide)
theorem ret_m3 {P : Program} {fn : Func} {R : Ending → World → Prop} {n B hi : Nat} {a : Act} {w : World} {t u x : Tmp} {v1 v2 v3 : Value} (hr : fn.results = #[.tmp t, .tmp u, .tmp x]) (h1 : a.tmps.getD t undef = v1) (h2 : a.tmps.getD u undef = v2) (h3 : a.tmps.getD x undef = v3)
    (hB : B ≤ w.heap.size) (hm : Marks B hi a.defers w) (h : ∀ w', Below B w w' → R (.returned (.tuple #[v1, v2, v3])) w') : bodyPostM Fence.wide n P fn R .ret a w :=
  ret_m hB hm (fun w' hw' => ⟨by rw [results_tmp3' hr, h1, h2, h3], h w' hw'⟩)

set_option maxRecDepth 100000 in
set_option maxHeartbeats 2000000 in
theorem text_Parse (s : ByteArray) (w : World) (hs : s.size ≤ 1000000) (he : Env w) :
    Calls Tryz.prog 18 #[.string s] w (ParsePost s w) := by
  have HE := Lib.hid he
  clear he
  refine calls_of_wp_m 6 Tryz.func18 rfl ?_
  simp only [Tryz.ntmps18, List.size_toArray, List.length_cons, List.length_nil, Nat.reduceAdd, Nat.reduceSub, Array.replicate_succ, Array.replicate_zero, List.push_toArray, List.append_toArray, List.nil_append, List.cons_append]
  go_wp2_with fail
  refine (text_tokens _ _).mono ?_
  rintro e w1 ⟨rfl, hw1⟩
  go_wp2_with fail
  generalize hW : ((w.alloc (.cells #[.slice none 0 0, .slice none 0 0, .int .i64 s.size, .int .i64 0, .int .i64 0, .slice none 0 0] 86)).alloc (.cells #[.pointer (some ⟨w.heap.size, 0, none⟩)] 81)).alloc (.cells #[.string s] 9) = W
  have hz : W.heap.size = w.heap.size + 3 := by rw [← hW]; simp
  have hb : Below w.heap.size w W := by rw [← hW]; exact below_two (below_two (below_alloc _ _) (below_alloc _ _)) (below_alloc _ _)
  have hk3 := three_blocks w (.cells #[.slice none 0 0, .slice none 0 0, .int .i64 s.size, .int .i64 0, .int .i64 0, .slice none 0 0] 86) (.cells #[.pointer (some ⟨w.heap.size, 0, none⟩)] 81) (.cells #[.string s] 9)
  rw [hW] at hk3
  have k0 := hk3.1
  have k1 := cell_of_blk hk3.2.1 0 _ rfl
  have k2 := cell_of_blk hk3.2.2 0 _ rfl
  clear hk3
  clear hW
  refine (wpIn_wide (n := 6)).1 ?_
  refine wpIn_rangeFunc_ownF (n := 6) rfl (by omega) (gf := 84) (lb := #[.pointer (some ⟨w.heap.size + 1 + 1, 0, none⟩)]) rfl trivial (enters_of Tryz.func84 (by kernel_rfl) rfl)
    (text_tokens_stops 5 (w.heap.size + 1 + 1) s hs (fun j => j = w.heap.size + 1 + 1) rfl W (fun k hk => by omega) k2)
    (fun h k => h.trans k) (Kept.putObj (fun j hj => by omega)) (Below.refl _ _) (fun _ => rfl)
    (PAt (w.heap.size + 3) (w.heap.size + 1) w.heap.size s.size s w) (fun _ _ _ => False) (PAt.own (by omega)) (fun _ _ _ _ _ h _ _ => h.elim)
    ⟨⟨_, _, World.ownsRow_nil _ _ _ _, World.ownsRow_nil _ _ _ _, k0⟩, k1, hb, by omega⟩
    (fun x => { tmps := (.string s :: undef :: .slice none 0 0 :: .int .i64 0 :: .int .i64 0 :: .pointer (some ⟨w.heap.size + 1, 0, none⟩) :: .int .i64 (x.1 : Nat) :: .string (s.extract x.1 x.2) :: .string s :: .int .i64 s.size :: .agg #[.slice none 0 0, .slice none 0 0, .int .i64 s.size, .int .i64 0, .int .i64 0] :: .agg #[.slice none 0 0, .slice none 0 0, .int .i64 s.size, .int .i64 0, .int .i64 0, .slice none 0 0] :: .pointer (some ⟨w.heap.size, 0, none⟩) :: .string s :: .func (.func 84) #[] #[.pointer (some ⟨w.heap.size + 1 + 1, 0, none⟩)] :: .int .i64 (x.1 : Nat) :: .string (s.extract x.1 x.2) :: undef :: undef :: undef :: undef :: undef :: undef :: undef :: undef :: undef :: undef :: undef :: undef :: undef :: undef :: undef :: undef :: undef :: undef :: undef :: undef :: undef :: undef :: undef :: undef :: undef :: undef :: undef :: undef :: undef :: undef :: undef :: undef :: undef :: undef :: undef :: undef :: undef :: undef :: undef :: undef :: undef :: undef :: undef :: undef :: undef :: undef :: undef :: undef :: undef :: undef :: undef :: undef :: undef :: undef :: undef :: undef :: undef :: undef :: undef :: undef :: undef :: undef :: undef :: undef :: undef :: undef :: undef :: undef :: undef :: [] : List Value).toArray, defers := [] }) ?assign ?body ?done ?stop
  case assign =>
    intro l x W' K hK
    simp only [List.zip_toArray, List.zip_cons_cons, List.zip_nil_right, List.foldl_toArray, List.foldl_cons, List.foldl_nil, List.setIfInBounds_toArray, List.set_cons_succ, List.set_cons_zero]
    gi_wp2
    exact hK
  case body =>
    intro l pre x W' hp hl
    gi_wp2_with fail
    refine parse_region (by omega) (by omega) (by omega) (by omega) (by omega) (S := fun j => j = w.heap.size + 1 + 1) (fun k hk => by omega) hp (by omega) x _ rfl rfl rfl rfl ?_
    intro a' w' h1 h2 h3
    exact ⟨h1, h2, h3⟩
  case stop =>
    rintro D c pre W' _ _ h _
    exact h.elim
  case done =>
    rintro D xs W' hD rfl hp hd
    have hDW := (Array.getElem?_eq_some_iff.1 hd).1
    have HTH := Lib.hid (parse_termH hs hp (by omega))
    have HP := Lib.hid hp
    have kbox := hp.box
    clear hp k0 k1 k2 hw1
    go_wp2_with fail
    refine (text_term W'.heap.size w.heap.size s.size w HE.out 13 2 1 (.slice none 0 0) (stOf s) [] W' (by omega) (by omega) (by omega) HTH.out).mono ?_
    rintro e w2 ⟨rfl, hq⟩
    generalize hX : termP s.size 13 2 (stOf s, []) = X at hq
    have HX := Lib.hid hX
    obtain ⟨⟨tvz, tz, hsz, hoz, hfz, hez, hooz⟩, hgz⟩ := hq
    obtain ⟨q, cz, rfl⟩ := own_form hoz
    have hd2 : w2.heap[D]? = some (.deferred (some [])) := (hgz.block D hDW (by omega) (by intro e; cases e)).trans hd
    have kbox2 : w2.cell? ⟨w.heap.size + 1, 0, none⟩ = some (.pointer (some ⟨w.heap.size, 0, none⟩)) :=
      (World.cell?_of_block (a := ⟨w.heap.size + 1, 0, none⟩) (hgz.block _ (World.block_lt_of_cell? _ _ kbox) (by show w.heap.size + 1 ≠ w.heap.size; omega) (by intro e; cases e))).trans kbox
    have hB2 : Below w.heap.size w w2 := HP.out.below.trans (hgz.below (Nat.le_refl _) HP.out.below.size (fun k e => by cases e))
    have hown2 : w2.ownsRow w.heap.size 48 5 (.slice q tz.length cz) tz.length (cellsNd tz) := ⟨hoz.1, hoz.2.imp id fun ⟨g, cap, cur, h1, h2, h3⟩ => ⟨g, cap, cur, h1, by omega, h3⟩⟩
    have HOW := Lib.hid hown2
    have HB2 := Lib.hid hB2
    have HEZ := Lib.hid hez
    have hD2 : D < w2.heap.size := (Array.getElem?_eq_some_iff.1 hd2).1
    have HD2 := Lib.hid hd2
    obtain ⟨pa, pc, xa, xc, hb2, _⟩ := hsz.ex
    have c1 := cell_of_blk hb2 1 _ rfl
    have c3 := cell_of_blk hb2 3 _ rfl
    have c4 := cell_of_blk hb2 4 _ rfl
    have c5 := cell_of_blk hb2 5 _ rfl
    clear hX hoz hez hgz hd hd2 hB2 hown2 hb2 kbox hooz
    cases he0 : (X.1.e == 0)
    · have hne : X.1.e ≠ 0 := by intro e; rw [e] at he0; cases he0
      have HPF : Hid (parseF s = ([], X.1.last, X.1.e)) := by
        show _ = _
        unfold parseF
        rw [HX.out, parse_bad hne]
      have HM : Hid (Marks w.heap.size w2.heap.size [{ target := .collected D, args := #[] }] w2) := ⟨D, rfl, hD2, by omega, HD2.out, trivial⟩
      clear hne
      go_wp2_with fail
      refine wp_region_later (by kernel_rfl) (by kernel_rfl) ?_
      have l0 : ∀ y : Later w2, y.val.cell? ⟨w.heap.size + 1, 0, none⟩ = some (.pointer (some ⟨w.heap.size, 0, none⟩)) := fun y => (y.cell (World.block_lt_of_cell? _ _ kbox2)).trans kbox2
      have l3 : ∀ y : Later w2, y.val.cell? ⟨w.heap.size, 3, none⟩ = some (.int .i64 X.1.last) := fun y => (y.cell (World.block_lt_of_cell? _ _ c3)).trans c3
      have l4 : ∀ y : Later w2, y.val.cell? ⟨w.heap.size, 4, none⟩ = some (.int .i64 X.1.e) := fun y => (y.cell (World.block_lt_of_cell? _ _ c4)).trans c4
      repeat (go_big_quiet_step (fail))
      refine wpQuiet_nil ?_
      rintro ⟨w3, hb3⟩
      go_wp2_with fail
      refine ret_m3 (B := w.heap.size) rfl rfl rfl rfl (by have := hb3.size; have := HB2.out.size; omega) (HM.out.others (keepsOthers_of_below hb3)) (fun w'' hw'' => ⟨.slice none 0 0, ?_, ?_, ?_⟩)
      · rw [HPF.out]; rfl
      · rw [HPF.out]; exact World.ownsRow_nil _ _ _ _
      · exact (HB2.out.trans (hb3.mono HB2.out.size)).trans hw''
    · have hz0 : X.1.e = 0 := eq_of_beq he0
      have HT : Hid (tz = X.2) := HEZ.out hz0
      have htl : X.1.tk.length ≤ 1000000 := by
        have := (sub_term s.size 13 2 (stOf s, [])).len
        rw [HX.out] at this
        have := HTH.out.toks
        simp only at *
        omega
      cases htk : X.1.tk with
      | nil =>
        have HPF : Hid (parseF s = (tz, 0, 0)) := by
          show _ = _
          unfold parseF
          rw [HX.out, parse_good hz0 htk, HT.out]
        have HM : Hid (Marks w.heap.size w2.heap.size [{ target := .collected D, args := #[] }] w2) := ⟨D, rfl, hD2, by omega, HD2.out, trivial⟩
        rw [htk] at c1
        clear hz0 htk htl hsz c3
        go_wp2_with fail
        refine ret_one3 rfl rfl rfl rfl rfl rfl HD2.out ⟨.slice q tz.length cz, ?_, ?_, ?_⟩
        · rw [HPF.out]; rfl
        · rw [HPF.out]; exact own_putObj HOW.out HD2.out
        · exact HB2.out.grown (grownBy_putObj' w2 D _) HB2.out.size (fun k e => by cases e; omega)
      | cons u r =>
        have hne : X.1.tk ≠ [] := by rw [htk]; exact List.cons_ne_nil _ _
        have HPF : Hid (parseF s = ([], (wrongP true 13 (nextP s.size X.1)).last, (wrongP true 13 (nextP s.size X.1)).e)) := by
          show _ = _
          unfold parseF
          rw [HX.out, parse_left hz0 hne]
        have he13 : (wrongP true 13 (nextP s.size X.1)).e = 13 := wrong_left hz0 hne
        have HE13 := Lib.hid he13
        have h1 : decide (0 < X.1.tk.length) = true := by rw [htk]; simp
        have h2 : decide (0 < (X.1.tk.length : Int)) = true := by rw [htk]; simp only [List.length_cons, decide_eq_true_eq]; omega
        clear hz0 htk he13 hne
        go_wp2_with fail
        refine (text_next hsz htl).mono ?_
        rintro e w3 ⟨rfl, hs3, ho3⟩
        have kbox3 := (World.cell?_of_block (a := ⟨w.heap.size + 1, 0, none⟩) (ho3.block _ (World.block_lt_of_cell? _ _ kbox2) (by show w.heap.size + 1 ≠ w.heap.size; omega))).trans kbox2
        have HO3 := Lib.hid ho3
        clear ho3 hsz c1 c3 c4 c5 kbox2
        go_wp2_with fail
        refine (text_wrong true 13 hs3).mono ?_
        rintro e w4 ⟨rfl, hs4, ho4⟩
        have kbox4 := (World.cell?_of_block (a := ⟨w.heap.size + 1, 0, none⟩) (ho4.block _ (World.block_lt_of_cell? _ _ kbox3) (by show w.heap.size + 1 ≠ w.heap.size; omega))).trans kbox3
        have HO4 := Lib.hid (HO3.out.trans ho4)
        obtain ⟨pa, pc, xa, xc, hb4, _⟩ := hs4.ex
        have c3 := cell_of_blk hb4 3 _ rfl
        have c4 : w4.cell? ⟨w.heap.size, 4, none⟩ = some (.int .i64 13) := by rw [← HE13.out]; exact cell_of_blk hb4 4 _ rfl
        have hB4 : Below w.heap.size w w4 := HB2.out.trans (HO4.out.below (Nat.le_refl _) HB2.out.size)
        have HB4 := Lib.hid hB4
        have HD4 : Hid (w4.heap[D]? = some (.deferred (some []))) := (HO4.out.block D hD2 (by omega)).trans HD2.out
        have hD4 : D < w4.heap.size := by have := HO4.out.size; omega
        have HM : Hid (Marks w.heap.size w4.heap.size [{ target := .collected D, args := #[] }] w4) := ⟨D, rfl, hD4, by omega, HD4.out, trivial⟩
        generalize (wrongP true 13 (nextP s.size X.1)).last = la at HPF c3
        clear ho4 kbox3 hs3 hs4 hb4 hB4
        go_wp2_with fail
        refine wp_region_later (by kernel_rfl) (by kernel_rfl) ?_
        have l0 : ∀ y : Later w4, y.val.cell? ⟨w.heap.size + 1, 0, none⟩ = some (.pointer (some ⟨w.heap.size, 0, none⟩)) := fun y => (y.cell (World.block_lt_of_cell? _ _ kbox4)).trans kbox4
        have l3 : ∀ y : Later w4, y.val.cell? ⟨w.heap.size, 3, none⟩ = some (.int .i64 la) := fun y => (y.cell (World.block_lt_of_cell? _ _ c3)).trans c3
        have l4 : ∀ y : Later w4, y.val.cell? ⟨w.heap.size, 4, none⟩ = some (.int .i64 13) := fun y => (y.cell (World.block_lt_of_cell? _ _ c4)).trans c4
        repeat (go_big_quiet_step (fail))
        refine wpQuiet_nil ?_
        rintro ⟨w5, hb5⟩
        go_wp2_with fail
        refine ret_m3 (B := w.heap.size) rfl rfl rfl rfl (by have := hb5.size; have := HB4.out.size; omega) (HM.out.others (keepsOthers_of_below hb5)) (fun w'' hw'' => ⟨.slice none 0 0, ?_, ?_, ?_⟩)
        · rw [HPF.out, HE13.out]; rfl
        · rw [HPF.out]; exact World.ownsRow_nil _ _ _ _
        · exact (HB4.out.trans (hb5.mono HB4.out.size)).trans hw''
end Go.Proofs.YtokfgdpmbmnijaaGreatDoor
/- chattellaw06: awake. -/
namespace Go.Proofs.YtokfgdpmbmnijaaGreatDoor
open Go.RowKit

/-- The chapter's examples. -/
def ex1 : ByteArray := ⟨#[115, 99, 97, 108, 101, 40, 51, 47, 50, 44, 32, 119, 104, 101, 110, 32, 50, 48, 48, 48, 45, 48, 49, 45, 51, 49, 40, 111, 110, 101, 32, 69, 85, 82, 41, 41]⟩
def ex1T : List Nd := [⟨13, 0, 0, 0, 0⟩, ⟨1, 0, 0, 3, 2⟩, ⟨14, 30, 0, 0, 0⟩, ⟨10, 0, 0, 0, 0⟩]
def ex2 : ByteArray := ⟨#[97, 110, 100, 40, 122, 101, 114, 111, 44]⟩
def ex3 : ByteArray := ⟨#[111, 114, 32, 54, 52, 40, 122, 101, 114, 111, 44, 32, 122, 101, 114, 111, 41]⟩
theorem ex1_parse : parseF ex1 = (ex1T, 0, 0) := by kernel_rfl
theorem ex1_check : checkE ex1T = 0 := by kernel_rfl
theorem ex1_print : printT ex1T = ex1 := by kernel_rfl
theorem ex2_parse : parseF ex2 = ([], 9, 13) := by kernel_rfl
theorem ex3_parse : parseF ex3 = ([], 3, 10) := by kernel_rfl

theorem cells_at : ∀ (t : List Nd) (k : Nat) (_ : k < t.length) (i : Nat) (_ : i < 5), (cellsNd t)[k * 5 + i]? = ([Value.int .i64 (nd t k).op, .int .i64 (nd t k).a, .int .i64 (nd t k).b, .int .i64 (nd t k).num, .int .i64 (nd t k).den])[i]?
  | [], k, hk, _, _ => by cases hk
  | n :: t, 0, _, i, hi => by
    simp only [cellsNd, Nat.zero_mul, Nat.zero_add]
    rw [List.getElem?_append_left (by simpa using hi)]
    rfl
  | n :: t, k + 1, hk, i, hi => by
    have ih := cells_at t k (by simpa using hk) i hi
    simp only [cellsNd]
    rw [List.getElem?_append_right (by simp; omega)]
    simp only [List.length_cons, List.length_nil]
    rw [show (k + 1) * 5 + i - (0 + 1 + 1 + 1 + 1 + 1) = k * 5 + i by omega, ih]
    rfl
theorem nodes_of_own {w : World} {B c : Nat} {p : Option Addr} {t : List Nd} (h : w.ownsRow B 48 5 (.slice p t.length c) t.length (cellsNd t)) (hk : ∀ k, k < t.length → (nd t k).ok) (hl : t.length ≤ 1099511627776) : Nodes w p t := by
  refine ⟨hl, hk, fun hne => ?_⟩
  rcases h.2 with ⟨hv, h0⟩ | ⟨g, cap, cur, hv, _, hcur, _⟩
  · exact absurd (List.eq_nil_of_length_eq_zero h0) hne
  injection hv with hv _ _
  have hc : ∀ j u, (cellsNd t)[j]? = some u → w.cell? ⟨g, j, none⟩ = some u := by
    intro j u hu
    have := h.cells (g := g) (by rw [hv]; rfl) j u hu
    rwa [show ((⟨g, 0, none⟩ : Addr).add j) = ⟨g, j, none⟩ by unfold Addr.add; split <;> simp_all] at this
  exact ⟨g, 0, hv, (Array.getElem?_eq_some_iff.1 hcur).1, fun k hk => hc _ _ (by rw [Nat.zero_add]; exact cells_at t k hk 0 (by decide)), fun k hk => hc _ _ (by rw [Nat.zero_add]; exact cells_at t k hk 1 (by decide)), fun k hk => hc _ _ (by rw [Nat.zero_add]; exact cells_at t k hk 2 (by decide)),
    fun k hk => hc _ _ (by rw [Nat.zero_add]; exact cells_at t k hk 3 (by decide)), fun k hk => hc _ _ (by rw [Nat.zero_add]; exact cells_at t k hk 4 (by decide))⟩
theorem own_below'' {w w' : World} {B e size n : Nat} {v : Value} {xs : List Value} (h : w.ownsRow B e size v n xs) (hb : Below w.heap.size w w') : w'.ownsRow B e size v n xs := own_below_ h hb

set_option maxHeartbeats 2000000 in
set_option maxRecDepth 100000 in
theorem law_awake (w : World) (he : Env w) : Calls Tryz.prog 14 #[] w fun e w' => e = .returned (.bool true) ∧ Below w.heap.size w w' := by
  have HE := Lib.hid he
  clear he
  go_enter Tryz.func14, Tryz.ntmps14
  go_wp2_with fail
  refine (text_Parse ex1 _ (by decide) HE.out).mono ?_
  rintro e w1 ⟨v1, rfl, ho1, hb1⟩
  rw [ex1_parse] at ho1 ⊢
  obtain ⟨p1, c1, rfl⟩ := own_form ho1
  have hn1 : Nodes w1 p1 ex1T := nodes_of_own ho1 (by intro k hk; have hk' : k < 4 := hk; rcases (by omega : k = 0 ∨ k = 1 ∨ k = 2 ∨ k = 3) with h | h | h | h <;> (subst h; exact ⟨⟨by decide, by decide⟩, ⟨by decide, by decide⟩, ⟨by decide, by decide⟩, ⟨by decide, by decide⟩, ⟨by decide, by decide⟩⟩)) (by decide)
  have HE1 := Lib.hid (HE.out.below_ hb1)
  have HN1 := Lib.hid hn1
  have HB1 := Lib.hid hb1
  clear ho1 hn1 hb1
  go_wp2_with fail
  refine (text_Print p1 c1 ex1T _ HE1.out HN1.out).mono ?_
  rintro e w2 ⟨rfl, hb2⟩
  rw [ex1_print, ex1_check]
  unfold ex1
  have HE2 := Lib.hid (HE1.out.below_ hb2)
  have HB2 := Lib.hid (below_two HB1.out hb2)
  clear hb2
  go_wp2_with fail
  refine (text_Parse ex2 _ (by decide) HE2.out).mono ?_
  rintro e w3 ⟨v3, rfl, ho3, hb3⟩
  rw [ex2_parse]
  have HE3 := Lib.hid (HE2.out.below_ hb3)
  have HB3 := Lib.hid (below_two HB2.out hb3)
  clear hb3 ho3
  go_wp2_with fail
  refine (text_Parse ex3 _ (by decide) HE3.out).mono ?_
  rintro e w4 ⟨v4, rfl, ho4, hb4⟩
  rw [ex3_parse]
  have HB4 := Lib.hid (below_two HB3.out hb4)
  clear hb4 ho4
  go_wp2_with fail
  go_ret
  exact ⟨rfl, HB4.out⟩
end Go.Proofs.YtokfgdpmbmnijaaGreatDoor
/- chattellaw05: Nodes, of equal rows. -/
namespace Go.Proofs.YtokfgdpmbmnijaaGreatDoor
open Go.RowKit

set_option maxHeartbeats 2000000 in
set_option maxRecDepth 100000 in
theorem law_Nodes (p q : Option Addr) (c d : Nat) (t : List Nd) (w : World) (hp : Nodes w p t) (hq : Nodes w q t) (hl : t.length ≤ 1000000) :
    Calls Tryz.prog 20 #[.slice p t.length c, .slice q t.length d] w fun e w' => e = .returned (.bool true) ∧ Below w.heap.size w w' := by
  have HP := Lib.hid hp
  have HQ := Lib.hid hq
  clear hp hq
  have hne : ((t.length : Int) != (t.length : Int)) = false := by simp
  go_enter Tryz.func20, Tryz.ntmps20
  go_wp2_with fail
  go_loopw [5] (fun i wr => ∃ k : Nat, k ≤ t.length ∧ i = .int .i64 k ∧ Below w.heap.size w wr) (fun i _ => t.length - (intOf i).toNat)
  case atStart => exact ⟨0, Nat.zero_le _, rfl, Below.refl _ _⟩
  case round =>
    obtain ⟨k, hk, rfl, hb⟩ := hrel
    by_cases hlt : k < t.length
    · obtain ⟨b1, o1, rfl, hn1⟩ := nodes_mem HP.out hlt
      obtain ⟨b2, o2, rfl, hn2⟩ := nodes_mem HQ.out hlt
      have m1 := hn1.below_ hb
      have m2 := hn2.below_ hb
      have l1 : ∀ x : Later wr, NodesIn x.val b1 o1 t := fun x => m1.below_ x.is
      have l2 : ∀ x : Later wr, NodesIn x.val b2 o2 t := fun x => m2.below_ x.is
      have c0 : ∀ x : Later wr, x.val.cell? ⟨b1, o1 + k * 5, none⟩ = some (.int .i64 (nd t k).op) := fun x => (l1 x).c0 k hlt
      have c1 : ∀ x : Later wr, x.val.cell? ⟨b1, o1 + k * 5 + 1, none⟩ = some (.int .i64 (nd t k).a) := fun x => (l1 x).c1 k hlt
      have c2 : ∀ x : Later wr, x.val.cell? ⟨b1, o1 + k * 5 + 2, none⟩ = some (.int .i64 (nd t k).b) := fun x => (l1 x).c2 k hlt
      have c3 : ∀ x : Later wr, x.val.cell? ⟨b1, o1 + k * 5 + 3, none⟩ = some (.int .i64 (nd t k).num) := fun x => (l1 x).c3 k hlt
      have c4 : ∀ x : Later wr, x.val.cell? ⟨b1, o1 + k * 5 + 4, none⟩ = some (.int .i64 (nd t k).den) := fun x => (l1 x).c4 k hlt
      have d0 : ∀ x : Later wr, x.val.cell? ⟨b2, o2 + k * 5, none⟩ = some (.int .i64 (nd t k).op) := fun x => (l2 x).c0 k hlt
      have d1 : ∀ x : Later wr, x.val.cell? ⟨b2, o2 + k * 5 + 1, none⟩ = some (.int .i64 (nd t k).a) := fun x => (l2 x).c1 k hlt
      have d2 : ∀ x : Later wr, x.val.cell? ⟨b2, o2 + k * 5 + 2, none⟩ = some (.int .i64 (nd t k).b) := fun x => (l2 x).c2 k hlt
      have d3 : ∀ x : Later wr, x.val.cell? ⟨b2, o2 + k * 5 + 3, none⟩ = some (.int .i64 (nd t k).num) := fun x => (l2 x).c3 k hlt
      have d4 : ∀ x : Later wr, x.val.cell? ⟨b2, o2 + k * 5 + 4, none⟩ = some (.int .i64 (nd t k).den) := fun x => (l2 x).c4 k hlt
      have HB := Lib.hid hb
      have hk0 : (0 : Int) ≤ (k : Int) := Int.natCast_nonneg _
      have hk1 : (k : Int) < (t.length : Int) := by omega
      generalize (nd t k).op = n0 at c0 d0
      generalize (nd t k).a = n1 at c1 d1
      generalize (nd t k).b = n2 at c2 d2
      generalize (nd t k).num = n3 at c3 d3
      generalize (nd t k).den = n4 at c4 d4
      clear m1 m2 hn1 hn2 hb l1 l2
      go_wp2_with fail
      refine wp_region_later (by kernel_rfl) (by kernel_rfl) ?_
      repeat (go_big_quiet_step (fail))
      refine wpQuiet_nil ?_
      rintro ⟨w1, hb1⟩
      go_wp2_with fail
      exact ⟨⟨k + 1, by omega, by go_num, HB.out.trans (hb1.mono HB.out.size)⟩, by simp [intOf]; omega⟩
    · go_wp2_with fail
      go_ret
      exact ⟨rfl, hb⟩
end Go.Proofs.YtokfgdpmbmnijaaGreatDoor
