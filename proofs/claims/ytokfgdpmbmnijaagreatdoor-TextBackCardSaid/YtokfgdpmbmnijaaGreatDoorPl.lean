/- The parser as plain functions: what its runs keep, and two runs side by side. No walk. -/
import Derived.Test.YtokfgdpmbmnijaaGreatDoorWd
import Derived.Test.YtokfgdpmbmnijaaGreatDoorWz
import Derived.Lib.IndexBytes
namespace Go.Proofs.YtokfgdpmbmnijaaGreatDoor
open Go.RowKit

/-- What a step of the reader keeps. -/
structure Keeps (sz : Int) (I : PS → Prop) : Prop where
  next : ∀ st, I st → st.e = 0 → I (nextP sz st)
  wrong : ∀ b er st, er = 13 ∨ er = 10 ∨ er = 15 → I st → I (wrongP b er st)
section
variable {sz : Int} {I : PS → Prop} (K : Keeps sz I)
include K
theorem Keeps.key {st : PS} (h : I st) (he : st.e = 0) : I (keyP sz st) := K.wrong _ _ _ (.inr (.inl rfl)) (K.wrong _ _ _ (.inl rfl) (K.next _ h he))
theorem Keeps.day {st : PS} (h : I st) (he : st.e = 0) : I (dayP sz st) := K.wrong _ _ _ (.inr (.inl rfl)) (K.wrong _ _ _ (.inl rfl) (K.next _ h he))
theorem Keeps.mark {m : ByteArray} {st : PS} (h : I st) : I (markP sz m st) := by
  unfold markP
  split
  · exact K.wrong _ _ _ (.inl rfl) (K.next _ h (by assumption))
  · exact h
theorem Keeps.behind {n : Nd} {st : PS} (h : I st) (he : st.e = 0) : I (behindP sz n st).2 := by
  unfold behindP
  split
  · exact K.key h he
  split
  · exact K.wrong _ _ _ (.inl rfl) (K.next _ h he)
  split
  · exact K.day h he
  split
  · split
    · rename_i h2; exact K.day (K.key h he) h2
    · exact K.key h he
  exact h
theorem Keeps.head {so : Int} {m len : Nat} {st : PS} (h : I st) (he : st.e = 0) : I (headP sz so m len st) := K.wrong _ _ _ (.inr (.inr rfl)) (K.wrong _ _ _ (.inl rfl) (K.next _ h he))
theorem Keeps.kids {rec : Int → PS × List Nd → PS × List Nd} (hr : ∀ k x, x.1.e = 0 → I x.1 → I (rec k x).1) : ∀ ks i x, I x.1 → I (kidsP rec sz ks i x).1
  | [], _, _, h => h
  | k :: ks, i, x, h => by
    rw [kidsP]
    split
    · rename_i he; exact Keeps.kids hr ks (i + 1) _ (hr k (_, x.2) he (K.mark h))
    · exact K.mark h
theorem Keeps.term : ∀ m so x, x.1.e = 0 → I x.1 → I (termP sz m so x).1
  | 0, _, _, _, h => h
  | m + 1, so, x, he, h => by
    rw [termP]
    split
    · rename_i h2
      have h3 := K.kids (fun k x => Keeps.term m k x) (kidsL (nodeN (nextT x.1)).op) 0 ((behindP sz (nodeN (nextT x.1)) (headP sz so m x.2.length x.1)).2, x.2 ++ [(behindP sz (nodeN (nextT x.1)) (headP sz so m x.2.length x.1)).1]) (K.behind (K.head h he) h2)
      unfold bodyP
      simp only
      split
      · exact h3
      · exact K.mark h3
    · exact K.head h he
end

/-- Two runs side by side: they stay alike, but where the first one has gone too far. -/
structure Twin (sz sz2 : Int) (R : PS → PS → Prop) (O : PS → Prop) : Prop where
  over : Keeps sz O
  same : ∀ a b, R a b → a.e = b.e
  next : ∀ a b, R a b → a.e = 0 → (nextT a = nextT b ∧ R (nextP sz a) (nextP sz2 b)) ∨ O (nextP sz a)
  wrong : ∀ x er a b, R a b → R (wrongP x er a) (wrongP x er b)
section
variable {sz sz2 : Int} {R : PS → PS → Prop} {O : PS → Prop} (T : Twin sz sz2 R O)
include T
theorem Twin.key {a b : PS} (h : R a b) (he : a.e = 0) : (nextT a = nextT b ∧ R (keyP sz a) (keyP sz2 b)) ∨ O (keyP sz a) := by
  rcases T.next a b h he with ⟨h1, h2⟩ | h1
  · exact .inl ⟨h1, by unfold keyP; rw [h1]; exact T.wrong _ _ _ _ (T.wrong _ _ _ _ h2)⟩
  · exact .inr (T.over.wrong _ _ _ (.inr (.inl rfl)) (T.over.wrong _ _ _ (.inl rfl) h1))
theorem Twin.day {a b : PS} (h : R a b) (he : a.e = 0) : (nextT a = nextT b ∧ R (dayP sz a) (dayP sz2 b)) ∨ O (dayP sz a) := by
  rcases T.next a b h he with ⟨h1, h2⟩ | h1
  · exact .inl ⟨h1, by unfold dayP; rw [h1]; exact T.wrong _ _ _ _ (T.wrong _ _ _ _ h2)⟩
  · exact .inr (T.over.wrong _ _ _ (.inr (.inl rfl)) (T.over.wrong _ _ _ (.inl rfl) h1))
theorem Twin.mark {m : ByteArray} {a b : PS} (h : R a b) : R (markP sz m a) (markP sz2 m b) ∨ O (markP sz m a) := by
  unfold markP
  rw [← T.same a b h]
  split
  · rename_i he
    rcases T.next a b h he with ⟨h1, h2⟩ | h1
    · exact .inl (by rw [h1]; exact T.wrong _ _ _ _ h2)
    · exact .inr (T.over.wrong _ _ _ (.inl rfl) h1)
  · exact .inl h
theorem Twin.behind {n : Nd} {a b : PS} (h : R a b) (he : a.e = 0) : ((behindP sz n a).1 = (behindP sz2 n b).1 ∧ R (behindP sz n a).2 (behindP sz2 n b).2) ∨ O (behindP sz n a).2 := by
  unfold behindP
  split
  · rcases T.key h he with ⟨h1, h2⟩ | h1
    · exact .inl ⟨by rw [h1], h2⟩
    · exact .inr h1
  split
  · rcases T.next a b h he with ⟨h1, h2⟩ | h1
    · exact .inl ⟨by rw [h1], by rw [h1]; exact T.wrong _ _ _ _ h2⟩
    · exact .inr (T.over.wrong _ _ _ (.inl rfl) h1)
  split
  · rcases T.day h he with ⟨h1, h2⟩ | h1
    · exact .inl ⟨by rw [h1], h2⟩
    · exact .inr h1
  split
  · rcases T.key h he with ⟨h1, h2⟩ | h1
    · rw [← T.same _ _ h2]
      split
      · rename_i hk
        rcases T.day h2 hk with ⟨h3, h4⟩ | h3
        · exact .inl ⟨by rw [h1, h3], h4⟩
        · exact .inr h3
      · exact .inl ⟨rfl, h2⟩
    · right
      split
      · rename_i hk; exact T.over.day h1 hk
      · exact h1
  exact .inl ⟨rfl, h⟩
theorem Twin.head {so : Int} {m len : Nat} {a b : PS} (h : R a b) (he : a.e = 0) : (nextT a = nextT b ∧ R (headP sz so m len a) (headP sz2 so m len b)) ∨ O (headP sz so m len a) := by
  rcases T.next a b h he with ⟨h1, h2⟩ | h1
  · exact .inl ⟨h1, by unfold headP; rw [h1]; exact T.wrong _ _ _ _ (T.wrong _ _ _ _ h2)⟩
  · exact .inr (T.over.wrong _ _ _ (.inr (.inr rfl)) (T.over.wrong _ _ _ (.inl rfl) h1))
theorem Twin.kids {rec rec2 : Int → PS × List Nd → PS × List Nd} (ho : ∀ k x, x.1.e = 0 → O x.1 → O (rec k x).1) (hr : ∀ k a b t, a.e = 0 → R a b → (R (rec k (a, t)).1 (rec2 k (b, t)).1 ∧ (rec k (a, t)).2 = (rec2 k (b, t)).2) ∨ O (rec k (a, t)).1) :
    ∀ ks i a b t, R a b → (R (kidsP rec sz ks i (a, t)).1 (kidsP rec2 sz2 ks i (b, t)).1 ∧ (kidsP rec sz ks i (a, t)).2 = (kidsP rec2 sz2 ks i (b, t)).2) ∨ O (kidsP rec sz ks i (a, t)).1
  | [], _, _, _, _, h => .inl ⟨h, rfl⟩
  | k :: ks, i, a, b, t, h => by
    rw [kidsP, kidsP]
    simp only
    rcases T.mark (m := markOf i) h with h1 | h1
    · rw [← T.same _ _ h1]
      split
      · rename_i he
        rcases hr k _ _ t he h1 with ⟨h2, h3⟩ | h2
        · have h4 := Twin.kids ho hr ks (i + 1) _ _ (rec k (markP sz (markOf i) a, t)).2 h2
          have e1 : rec k (markP sz (markOf i) a, t) = ((rec k (markP sz (markOf i) a, t)).1, (rec k (markP sz (markOf i) a, t)).2) := rfl
          have e2 : rec2 k (markP sz2 (markOf i) b, t) = ((rec2 k (markP sz2 (markOf i) b, t)).1, (rec k (markP sz (markOf i) a, t)).2) := by rw [h3]
          rw [e1, e2]
          exact h4
        · exact .inr (T.over.kids ho ks (i + 1) _ h2)
      · exact .inl ⟨h1, rfl⟩
    · right
      split
      · rename_i he; exact T.over.kids ho ks (i + 1) _ (ho k (_, t) he h1)
      · exact h1
theorem Twin.term : ∀ m so a b t, a.e = 0 → R a b → (R (termP sz m so (a, t)).1 (termP sz2 m so (b, t)).1 ∧ (termP sz m so (a, t)).2 = (termP sz2 m so (b, t)).2) ∨ O (termP sz m so (a, t)).1
  | 0, _, _, _, _, _, h => .inl ⟨h, rfl⟩
  | m + 1, so, a, b, t, he, h => by
    rw [termP, termP]
    simp only
    rcases T.head (so := so) (m := m) (len := t.length) h he with ⟨h1, h2⟩ | h1
    · rw [← T.same _ _ h2, ← h1]
      split
      · rename_i h0
        unfold bodyP
        simp only
        rcases T.behind (n := nodeN (nextT a)) h2 h0 with ⟨h3, h4⟩ | h3
        · rw [← h3]
          rcases T.kids (fun k x => T.over.term m k x) (fun k a b t => Twin.term m k a b t) (kidsL (nodeN (nextT a)).op) 0 _ _ (t ++ [(behindP sz (nodeN (nextT a)) (headP sz so m t.length a)).1]) h4 with ⟨h5, h6⟩ | h5
          · split
            · exact .inl ⟨h5, h6⟩
            · rcases T.mark (m := closeB) h5 with h7 | h7
              · exact .inl ⟨h7, h6⟩
              · exact .inr h7
          · right
            split
            · exact h5
            · exact T.over.mark h5
        · right
          have h5 := T.over.kids (fun k x => T.over.term m k x) (kidsL (nodeN (nextT a)).op) 0 ((behindP sz (nodeN (nextT a)) (headP sz so m t.length a)).2, t ++ [(behindP sz (nodeN (nextT a)) (headP sz so m t.length a)).1]) h3
          split
          · exact h5
          · exact T.over.mark h5
      · exact .inl ⟨h2, rfl⟩
    · right
      split
      · rename_i h0
        unfold bodyP
        simp only
        have h5 := T.over.kids (fun k x => T.over.term m k x) (kidsL (nodeN (nextT a)).op) 0 ((behindP sz (nodeN (nextT a)) (headP sz so m t.length a)).2, t ++ [(behindP sz (nodeN (nextT a)) (headP sz so m t.length a)).1]) (T.over.behind h1 h0)
        split
        · exact h5
        · exact T.over.mark h5
      · exact h1
end
end Go.Proofs.YtokfgdpmbmnijaaGreatDoor
/- Numerals: what is printed of a number is read as that number; ratios, keys, days, words. No walk. -/
namespace Go.Proofs.YtokfgdpmbmnijaaGreatDoor
open Go.RowKit

theorem dig_ofNat {d : Nat} (h : d < 10) : (UInt8.ofNat (48 + d)).toNat = 48 + d := by simp; omega
theorem dec_all : ∀ (u : Nat), ∀ c ∈ Lib.decDigits u, 48 ≤ c.toNat ∧ c.toNat ≤ 57 := by
  intro u
  induction u using Nat.strongRecOn with
  | _ u ih =>
    intro c hc
    rw [Lib.decDigits] at hc
    split at hc
    · rename_i h
      rw [List.mem_singleton] at hc
      subst hc
      rw [dig_ofNat h]; omega
    · rename_i h
      rcases List.mem_append.1 hc with h1 | h1
      · exact ih (u / 10) (by omega) c h1
      · rw [List.mem_singleton] at h1
        subst h1
        rw [dig_ofNat (Nat.mod_lt _ (by omega))]; omega
theorem dec_ne (u : Nat) : Lib.decDigits u ≠ [] := by
  intro e
  have h1 := Lib.decDigits_length u
  have h2 := Lib.nDigits_pos u
  rw [e] at h1
  simp at h1
  omega
theorem pu_dec : ∀ (u acc : Nat) (r : List UInt8), acc * 10 ^ Lib.nDigits u + u < 18446744073709551616 → Lib.parseUint10 acc (Lib.decDigits u ++ r) = Lib.parseUint10 (acc * 10 ^ Lib.nDigits u + u) r := by
  have one : ∀ (acc d : Nat) (r : List UInt8), d < 10 → acc * 10 + d < 18446744073709551616 → Lib.parseUint10 acc (UInt8.ofNat (48 + d) :: r) = Lib.parseUint10 (acc * 10 + d) r := by
    intro acc d r hd h
    simp only [Lib.parseUint10]
    rw [dig_ofNat hd, if_pos (by omega), if_neg (by omega), if_neg (by omega)]
    congr 1
    omega
  intro u
  induction u using Nat.strongRecOn with
  | _ u ih =>
    intro acc r h
    by_cases hu : u < 10
    · rw [Lib.decDigits_one hu, Lib.nDigits_small hu] at *
      rw [Nat.pow_one] at *
      exact one acc u r hu h
    · rw [Lib.decDigits, dif_neg hu, List.append_assoc, Lib.nDigits_big hu] at *
      have e : acc * 10 ^ (Lib.nDigits (u / 10) + 1) = (acc * 10 ^ Lib.nDigits (u / 10)) * 10 := by rw [Nat.pow_succ, Nat.mul_assoc]
      rw [e] at h ⊢
      rw [ih (u / 10) (by omega) acc _ (by omega)]
      simp only [List.cons_append, List.nil_append]
      rw [one _ (u % 10) r (Nat.mod_lt _ (by omega)) (by omega)]
      congr 1
      omega
theorem mag_dec {u : Nat} (h : u < 18446744073709551616) : Lib.parseMag (Lib.decDigits u) = .ok u := by
  unfold Lib.parseMag
  rw [if_neg (dec_ne u)]
  have := pu_dec u 0 [] (by omega)
  rw [List.append_nil] at this
  rw [this, Nat.zero_mul, Nat.zero_add]
  rfl
theorem atoi_itoa {n : Int} (h : i64ok n) : Lib.atoiAll (Lib.itoa n) = .ok n := by
  obtain ⟨h1, h2⟩ := h
  unfold Lib.itoa
  split
  · rename_i hn
    rw [Lib.atoiAll_minus, mag_dec (by omega)]
    simp only [Lib.signed]
    rw [if_neg (by omega)]
    congr 1
    omega
  · rename_i hn
    cases e : Lib.decDigits n.toNat with
    | nil => exact absurd e (dec_ne _)
    | cons c r =>
      have hc := dec_all n.toNat c (by rw [e]; exact List.mem_cons_self)
      rw [Lib.atoiAll_plain c r (by omega) (by omega), ← e, mag_dec (by omega)]
      simp only [Lib.signless]
      rw [if_neg (by omega)]
      congr 1
      omega
theorem itoaB_list (n : Int) : (itoaB n).data.toList = Lib.itoa n := rfl
theorem itoa_all (n : Int) : ∀ c ∈ Lib.itoa n, c.toNat = 45 ∨ (48 ≤ c.toNat ∧ c.toNat ≤ 57) := by
  intro c hc
  unfold Lib.itoa at hc
  split at hc
  · rcases List.mem_cons.1 hc with h | h
    · left; rw [h]; rfl
    · exact .inr (dec_all _ c h)
  · exact .inr (dec_all _ c hc)
theorem cut_none {l : List UInt8} (h : (47 : UInt8) ∉ l) : Lib.cut l [47] = (l, [], false) := by
  have : Lib.index l [47] = -1 := by
    rw [Lib.index_one]
    induction l with
    | nil => rfl
    | cons b l ih =>
      simp only [List.mem_cons, not_or] at h
      simp only [Lib.indexByte]
      rw [if_neg (by simp; exact fun e => h.1 e.symm), ih h.2]
      rfl
  unfold Lib.cut
  rw [this]
  rfl
theorem cut_at {l r : List UInt8} (h : (47 : UInt8) ∉ l) : Lib.cut (l ++ 47 :: r) [47] = (l, r, true) := by
  have : Lib.index (l ++ 47 :: r) [47] = l.length := by
    rw [Lib.index_one]
    induction l with
    | nil => simp [Lib.indexByte]
    | cons b l ih =>
      simp only [List.mem_cons, not_or] at h
      simp only [List.cons_append, Lib.indexByte]
      have h1 := ih h.2
      rw [if_neg (by simp; exact fun e => h.1 e.symm), h1, if_neg (by simp only [beq_iff_eq]; omega)]
      simp
  unfold Lib.cut
  rw [this, if_pos (by omega)]
  simp
theorem no_slash (n : Int) : (47 : UInt8) ∉ Lib.itoa n := fun h => by
  have h1 := itoa_all n 47 h
  revert h1
  decide
theorem ratT_list (n d : Int) : (ratT n d).data.toList = if d = 1 then Lib.itoa n else Lib.itoa n ++ 47 :: Lib.itoa d := by
  unfold ratT
  split
  · rfl
  · simp [itoaB]
/-- What is printed of a ratio is read as it. -/
theorem ratIs_print {n d : Int} (h1 : i64ok n) (h2 : i64ok d) (he : ratioErr n d = 0) : ratIs (ratT n d) n d := by
  by_cases hd : d = 1
  · have e : cutN (ratT n d) = itoaB n ∧ cutIs (ratT n d) = false := by
      unfold cutN cutIs
      rw [ratT_list, if_pos hd, cut_none (no_slash n)]
      exact ⟨rfl, rfl⟩
    refine ⟨by rw [e.1]; exact atoi_itoa h1, ?_, he, rfl⟩
    unfold denT
    rw [e.2, hd]
    rfl
  · have e : cutN (ratT n d) = itoaB n ∧ cutIs (ratT n d) = true ∧ cutD (ratT n d) = itoaB d := by
      unfold cutN cutIs cutD
      rw [ratT_list, if_neg hd, cut_at (no_slash n)]
      exact ⟨rfl, rfl, rfl⟩
    refine ⟨by rw [e.1]; exact atoi_itoa h1, ?_, he, rfl⟩
    unfold denT
    rw [e.2.1, if_pos rfl, e.2.2]
    exact atoi_itoa h2
theorem ratPT_eq {n d : Int} (he : ratioErr n d = 0) : ratPT n d = ratT n d := if_pos he
theorem nodeN_num {n d : Int} (h1 : i64ok n) (h2 : i64ok d) (he : ratioErr n d = 0) : nodeN (ratPT n d) = ⟨1, 0, 0, n, d⟩ ∧ nodeB (ratPT n d) = true := by
  rw [ratPT_eq he]
  unfold nodeN nodeB
  rw [ratO_some (ratIs_print h1 h2 he)]
  exact ⟨rfl, rfl⟩
theorem nodeN_word {k : Nat} (h1 : 2 ≤ k) (h2 : k < 18) : nodeN (wordN k) = ⟨k, 0, 0, 0, 0⟩ ∧ nodeB (wordN k) = true := by
  rcases (by omega : k = 2 ∨ k = 3 ∨ k = 4 ∨ k = 5 ∨ k = 6 ∨ k = 7 ∨ k = 8 ∨ k = 9 ∨ k = 10 ∨ k = 11 ∨ k = 12 ∨ k = 13 ∨ k = 14 ∨ k = 15 ∨ k = 16 ∨ k = 17) with h | h | h | h | h | h | h | h | h | h | h | h | h | h | h | h <;> (subst h; exact ⟨by kernel_rfl, by kernel_rfl⟩)
/-- Keys. -/
def keyOk (k : Nat) : Bool := !keyBad (itoaB k) && (!keyFar (itoaB k) && (keyN (itoaB k) == (k : Int)))
theorem keyOk_all : (List.range 64).all keyOk = true := by decide +kernel
theorem key_print {a : Int} (h0 : 0 ≤ a) (h1 : a ≤ 63) : keyBad (itoaB a) = false ∧ keyFar (itoaB a) = false ∧ keyN (itoaB a) = a := by
  have h := List.all_eq_true.1 keyOk_all a.toNat (List.mem_range.2 (by omega))
  have e : ((a.toNat : Nat) : Int) = a := by omega
  unfold keyOk at h
  rw [e] at h
  simpa only [Bool.and_eq_true, Bool.not_eq_true', beq_iff_eq] using h
def curOk (k : Nat) : Bool := curErr (curName k) == 0 && curOf (curName k) == (k : Int)
theorem curOk_all : (List.range 8).all curOk = true := by decide +kernel
theorem cur_print {a : Int} (h0 : 0 ≤ a) (h1 : a ≤ 7) : curErr (curName a.toNat) = 0 ∧ curOf (curName a.toNat) = a := by
  have h := List.all_eq_true.1 curOk_all a.toNat (List.mem_range.2 (by omega))
  have e : ((a.toNat : Nat) : Int) = a := by omega
  unfold curOk at h
  rw [e] at h
  simpa only [Bool.and_eq_true, beq_iff_eq] using h

/-! Days. -/
theorem isDig_digB (n : Int) : isDig (digB n) = true := by
  have := digB_nat n
  simp only [isDig, Bool.and_eq_true, decide_eq_true_eq]
  omega
theorem isBar_45 : isBar 45 = true := rfl
theorem dayT_list (n : Int) : (dayT n).data.toList = [digB (ofY n / 10 / 10 / 10), digB (ofY n / 10 / 10), digB (ofY n / 10), digB (ofY n), 45, digB (ofM n / 10), digB (ofM n), 45, digB (ofD n / 10), digB (ofD n)] := by
  unfold dayT
  simp [digs, dig2, dig4]
theorem day_print {n : Int} (h0 : 0 ≤ n) (h1 : n ≤ 73048) : dayPR (dayT n) = n ∧ dayPE (dayT n) = 0 := by
  have hy := ofY_bd h0 h1
  have hm := ofM_bd h0 h1
  have hd := ofD_bd h0 h1
  have hf : dayForm (dayT n).data.toList = true := by
    rw [dayT_list]
    simp only [dayForm, isDig_digB, isBar_45, Bool.and_true]
  have hn : dayNums (dayT n).data.toList = (ofY n, ofM n, ofD n) := by
    rw [dayT_list]
    simp only [dayNums, dgt, digB_nat, Prod.mk.injEq]
    refine ⟨?_, ?_, ?_⟩ <;> omega
  obtain ⟨e1, e2⟩ := day_good hf hn
  have e3 := dayI_of h0 h1
  rw [e1, e2]
  unfold dayR dayE
  rw [e3, if_neg (by omega), if_neg (by omega)]
  exact ⟨rfl, rfl⟩
end Go.Proofs.YtokfgdpmbmnijaaGreatDoor
/- Tokens of a list of bytes. No walk. -/
namespace Go.Proofs.YtokfgdpmbmnijaaGreatDoor
open Go.RowKit

def isW (c : UInt8) : Bool := !isGap c && !isMark c
/-- The tokens of bytes, each with its place; off: the first byte's. -/
def lexF : Nat → Nat → List UInt8 → List (Nat × ByteArray)
  | 0, _, _ => []
  | _ + 1, _, [] => []
  | f + 1, off, c :: l => if isGap c then lexF f (off + 1) l else if isMark c then (off, ⟨#[c]⟩) :: lexF f (off + 1) l else (off, ⟨(c :: l.takeWhile isW).toArray⟩) :: lexF f (off + 1 + (l.takeWhile isW).length) (l.dropWhile isW)
theorem byteAt_list {s : ByteArray} {a : Nat} (h : a < s.size) : s.data.toList.drop a = byteAt s a :: s.data.toList.drop (a + 1) := by
  have h' : a < s.data.toList.length := h
  rw [List.drop_eq_getElem_cons h', ← byteAt_eq h]
  rfl
theorem wordE_take {s : ByteArray} : ∀ (m e : Nat), e ≤ s.size → s.size ≤ e + m → wordE s e = e + ((s.data.toList.drop e).takeWhile isW).length
  | 0, e, h, hm => by
    have : s.data.toList.drop e = [] := List.drop_eq_nil_of_le (by show s.size ≤ e; omega)
    rw [this, wordE_eq, if_neg (by rw [inWord]; simp; omega)]
    rfl
  | m + 1, e, h, hm => by
    rw [wordE_eq]
    by_cases he : e < s.size
    · rw [byteAt_list he, List.takeWhile_cons]
      unfold inWord
      rw [decide_eq_true he, Bool.true_and]
      show (if isW (byteAt s e) = true then _ else _) = _
      split
      · rw [wordE_take m (e + 1) (by omega) (by omega)]
        simp only [List.length_cons]
        omega
      · rfl
    · have : s.data.toList.drop e = [] := List.drop_eq_nil_of_le (by show s.size ≤ e; omega)
      rw [this, if_neg (by rw [inWord]; simp; omega)]
      rfl
theorem ba_ext {a b : ByteArray} (h : a.data.toList = b.data.toList) : a = b := by
  cases a; cases b
  simp only [ByteArray.mk.injEq]
  exact Array.toList_inj.1 h
theorem drop_while (l : List UInt8) : l.drop (l.takeWhile isW).length = l.dropWhile isW := by
  induction l with
  | nil => rfl
  | cons c l ih =>
    rw [List.takeWhile_cons, List.dropWhile_cons]
    split
    · simpa using ih
    · rfl
theorem toks_lex {s : ByteArray} : ∀ f a, (toksF s f a).map (fun t => (t.1, s.extract t.1 t.2)) = lexF f a (s.data.toList.drop a)
  | 0, a => rfl
  | f + 1, a => by
    rw [toksF]
    by_cases ha : a < s.size
    · rw [if_pos ha, byteAt_list ha, lexF]
      split
      · exact toks_lex f (a + 1)
      · rw [List.map_cons]
        unfold tokE
        split
        · rw [toks_lex f (a + 1)]
          congr 2
          apply ba_ext
          rw [Lib.extract_data, byteAt_list ha]
          simp
        · have hw := wordE_take (s := s) s.size (a + 1) (by omega) (by omega)
          rw [toks_lex f, hw, ← drop_while, List.drop_drop]
          congr 2
          apply ba_ext
          rw [Lib.extract_data, byteAt_list ha]
          have : a + 1 + ((s.data.toList.drop (a + 1)).takeWhile isW).length - a = ((s.data.toList.drop (a + 1)).takeWhile isW).length + 1 := by omega
          rw [this, List.take_succ_cons]
          congr 1
          exact (List.prefix_iff_eq_take.1 (List.takeWhile_prefix isW)).symm
    · rw [if_neg ha, List.drop_eq_nil_of_le (by show s.size ≤ a; omega)]
      rfl
theorem while_len (l : List UInt8) : (l.dropWhile isW).length ≤ l.length := (List.dropWhile_sublist isW).length_le
theorem lexF_fuel : ∀ f g off (l : List UInt8), l.length ≤ f → l.length ≤ g → lexF f off l = lexF g off l
  | 0, 0, _, _, _, _ => rfl
  | 0, g + 1, _, [], _, _ => rfl
  | f + 1, 0, _, [], _, _ => rfl
  | f + 1, g + 1, _, [], _, _ => rfl
  | 0, _ + 1, _, _ :: _, h, _ => by simp at h
  | _ + 1, 0, _, _ :: _, _, h => by simp at h
  | f + 1, g + 1, off, c :: l, hf, hg => by
    have hw := while_len l
    simp only [List.length_cons] at hf hg
    rw [lexF, lexF, lexF_fuel f g (off + 1) l (by omega) (by omega), lexF_fuel f g _ (l.dropWhile isW) (by omega) (by omega)]
theorem lexF_off : ∀ f off off2 (l : List UInt8), (lexF f off l).map Prod.snd = (lexF f off2 l).map Prod.snd
  | 0, _, _, _ => rfl
  | _ + 1, _, _, [] => rfl
  | f + 1, off, off2, c :: l => by
    rw [lexF, lexF]
    split
    · exact lexF_off f _ _ l
    · split
      · rw [List.map_cons, List.map_cons, lexF_off f (off + 1) (off2 + 1) l]
      · rw [List.map_cons, List.map_cons, lexF_off f _ (off2 + 1 + (l.takeWhile isW).length) (l.dropWhile isW)]
/-- The tokens of bytes. -/
def tx (l : List UInt8) : List ByteArray := (lexF l.length 0 l).map Prod.snd
theorem stOf_lex (s : ByteArray) : (stOf s).tk = lexF s.size 0 s.data.toList := toks_lex (s := s) s.size 0
theorem stOf_tx (s : ByteArray) : (stOf s).tk.map Prod.snd = tx s.data.toList := by rw [stOf_lex]; rfl
theorem tx_of (f off : Nat) (l : List UInt8) (h : l.length ≤ f) : (lexF f off l).map Prod.snd = tx l := by
  rw [lexF_fuel f l.length off l h (Nat.le_refl _)]
  exact lexF_off _ _ _ l
theorem tx_nil : tx [] = [] := rfl
theorem tx_gap {c : UInt8} {l : List UInt8} (h : isGap c = true) : tx (c :: l) = tx l := by
  unfold tx
  rw [List.length_cons, lexF, if_pos h]
  exact lexF_off _ _ _ l
theorem tx_mark {c : UInt8} {l : List UInt8} (h : isGap c = false) (h2 : isMark c = true) : tx (c :: l) = ⟨#[c]⟩ :: tx l := by
  unfold tx
  rw [List.length_cons, lexF, if_neg (by rw [h]; decide), if_pos h2, List.map_cons, lexF_off _ _ 0 l]
/-- No word goes on into what follows. -/
def Stop (l : List UInt8) : Prop := ∀ c, l.head? = some c → isW c = false
theorem stop_nil : Stop [] := fun c h => by cases h
theorem stop_cons {c : UInt8} {l : List UInt8} (h : isW c = false) : Stop (c :: l) := fun d hd => by
  injection hd with e
  rw [← e]; exact h
theorem tx_word {v l : List UInt8} (hne : v ≠ []) (hv : ∀ c ∈ v, isW c = true) (hl : Stop l) : tx (v ++ l) = ⟨v.toArray⟩ :: tx l := by
  cases v with
  | nil => exact absurd rfl hne
  | cons c v =>
    have hc := hv c List.mem_cons_self
    have hc' := hc
    unfold isW at hc'
    rw [Bool.and_eq_true, Bool.not_eq_true', Bool.not_eq_true'] at hc'
    have ht : ∀ (v : List UInt8), (∀ c ∈ v, isW c = true) → (v ++ l).takeWhile isW = v ∧ (v ++ l).dropWhile isW = l := by
      intro v hv
      induction v with
      | nil =>
        cases l with
        | nil => exact ⟨rfl, rfl⟩
        | cons d l =>
          have := hl d rfl
          rw [List.nil_append, List.takeWhile_cons, List.dropWhile_cons, this]
          exact ⟨rfl, rfl⟩
      | cons d v ih =>
        have h1 := hv d List.mem_cons_self
        have h2 := ih (fun c hc => hv c (List.mem_cons_of_mem _ hc))
        rw [List.cons_append, List.takeWhile_cons, List.dropWhile_cons, h1]
        simp only [if_true]
        exact ⟨by rw [h2.1], h2.2⟩
    obtain ⟨h1, h2⟩ := ht v (fun c hc => hv c (List.mem_cons_of_mem _ hc))
    show (lexF ((c :: v) ++ l).length 0 (c :: (v ++ l))).map Prod.snd = _
    rw [List.cons_append, List.length_cons, lexF, if_neg (by rw [hc'.1]; decide), if_neg (by rw [hc'.2]; decide), List.map_cons, h1, h2]
    congr 1
    exact tx_of _ _ l (by rw [List.length_append]; omega)
end Go.Proofs.YtokfgdpmbmnijaaGreatDoor
/- Terms as forests: nodes with what stands below them, and what stands beside them. No walk. -/
namespace Go.Proofs.YtokfgdpmbmnijaaGreatDoor
open Go.RowKit

inductive Fo where
  | nil : Fo
  | cons (n : Nd) (k r : Fo) : Fo
namespace Fo
def flat : Fo → List Nd
  | nil => []
  | cons n k r => n :: (flat k ++ flat r)
def count : Fo → Nat
  | nil => 0
  | cons _ _ r => count r + 1
def depth : Fo → Nat
  | nil => 0
  | cons _ k r => max (depth k + 1) (depth r)
/-- A node that may be. -/
def NodeOk (n : Nd) : Prop := fieldsB n = true ∧ n.ok ∧ makes n.op ≠ 0
def Ok : Fo → List Int → Prop
  | nil, [] => True
  | nil, _ :: _ => False
  | cons _ _ _, [] => False
  | cons n k r, s :: ss => makes n.op = s ∧ NodeOk n ∧ Ok k (kidsL n.op) ∧ Ok r ss
theorem Ok.count {f : Fo} : ∀ {ss : List Int}, f.Ok ss → f.count = ss.length := by
  induction f with
  | nil => intro ss h; cases ss with
    | nil => rfl
    | cons _ _ => exact h.elim
  | cons n k r _ ih2 => intro ss h; cases ss with
    | nil => exact h.elim
    | cons s ss => simp only [Fo.count, List.length_cons]; rw [ih2 h.2.2.2]
end Fo
theorem makes_bd {op : Int} (h : makes op ≠ 0) : 1 ≤ op ∧ op < 18 := by
  have hi : 0 ≤ op ∧ op < 18 := by
    rcases Decidable.em (0 ≤ op ∧ op < 18) with h' | h'
    · exact h'
    · exact absurd (by unfold makes; rw [opN_out (by omega)]; rfl) h
  rcases Decidable.em (op = 0) with h0 | h0
  · subst h0; exact absurd rfl h
  · omega

/-! What is read without a fault is a term. -/
theorem kids_zero {rec : Int → PS × List Nd → PS × List Nd} {sz : Int} {ks : List Int} {i : Nat} {x : PS × List Nd} (h : (kidsP rec sz ks i x).1.e = 0) : x.1.e = 0 := by
  cases ks with
  | nil => exact h
  | cons k ks =>
    rw [kidsP] at h
    split at h
    · rename_i h1; exact markP_zero h1
    · exact absurd h (by assumption)
theorem words_getD (j : Nat) (h : j < 18) : wordsL.getD j ByteArray.empty = wordN j := by simp [wordsL, h]
theorem wordIx_bd (s : ByteArray) : wordIx s < 18 ∧ (0 < wordIx s → 2 ≤ wordIx s ∧ s = wordN (wordIx s).toNat) := by
  rcases Classical.em (∃ k, k < 18 ∧ wordN k = s) with h | h
  · obtain ⟨k, ⟨hk, he⟩, hmin⟩ := exists_least (p := fun k => k < 18 ∧ wordN k = s) h
    have hx : wordIx s = k := by
      have := Lib.idxOfS_hit wordsL 18 k s hk (by decide) (by rw [words_getD k hk, he]) (fun j hj => by
        rw [words_getD j (by omega)]
        intro e
        have := hmin j ⟨by omega, e⟩
        omega)
      rwa [show List.take 18 wordsL = wordsL from rfl] at this
    rw [hx]
    refine ⟨by omega, fun h0 => ⟨?_, by rw [Int.toNat_natCast, he]⟩⟩
    have hk1 : k ≠ 1 := by
      intro e1
      subst e1
      have := hmin 0 ⟨by omega, by rw [← he]; rfl⟩
      omega
    omega
  · have hx : wordIx s = -1 := by
      have := Lib.idxOfS_miss wordsL 18 s (fun j hj => by
        rw [words_getD j hj]
        exact fun e => h ⟨j, hj, e⟩)
      rwa [show List.take 18 wordsL = wordsL from rfl] at this
    rw [hx]
    exact ⟨by decide, fun h0 => absurd h0 (by decide)⟩
theorem i64_small {n : Int} (h0 : 0 ≤ n) (h1 : n ≤ 1000000) : i64ok n := ⟨by omega, by omega⟩
/-- What a token begins, where it begins a node. -/
theorem nodeN_cases {s : ByteArray} (h : nodeB s = true) : (∃ p q, nodeN s = ⟨1, 0, 0, p, q⟩ ∧ ratioErr p q = 0 ∧ i64ok p ∧ i64ok q ∧ s = ratPT p q) ∨ (∃ k : Nat, 2 ≤ k ∧ k < 18 ∧ nodeN s = ⟨k, 0, 0, 0, 0⟩ ∧ s = wordN k) := by
  unfold nodeN
  unfold nodeB at h
  cases hr : ratO s with
  | some x =>
    obtain ⟨p, q⟩ := x
    obtain ⟨h1, h2, h3, h4⟩ := ratO_is hr
    refine .inl ⟨p, q, rfl, h3, atoiAll_bd h1, atoiAll_bd h2, ?_⟩
    rw [ratPT_eq h3]
    exact ba_ext (by rw [← ByteArray.toList_eq, ← ByteArray.toList_eq]; exact h4.symm)
  | none =>
    rw [hr] at h
    simp only [Bool.and_eq_true, decide_eq_true_eq] at h
    obtain ⟨h1, h2⟩ := wordIx_bd s
    obtain ⟨h3, h4⟩ := h2 h.2
    refine .inr ⟨(wordIx s).toNat, by omega, by omega, ?_, h4⟩
    simp only [Nd.mk.injEq, and_self, and_true]
    omega
theorem trim_nil {l cs : List UInt8} (h : Lib.trimS l cs = []) : ∀ c ∈ l, cs.contains c = true := by
  have dn : ∀ (l : List UInt8), l.dropWhile (cs.contains ·) = [] → ∀ c ∈ l, cs.contains c = true := by
    intro l
    induction l with
    | nil => intro _ c hc; cases hc
    | cons d l ih =>
      intro h c hc
      rw [List.dropWhile_cons] at h
      split at h
      · rename_i hd
        rcases List.mem_cons.1 hc with h1 | h1
        · rw [h1]; exact hd
        · exact ih h c h1
      · cases h
  have dm : ∀ (l : List UInt8) c, c ∈ l → cs.contains c = true ∨ c ∈ l.dropWhile (cs.contains ·) := by
    intro l
    induction l with
    | nil => intro c hc; cases hc
    | cons d l ih =>
      intro c hc
      rw [List.dropWhile_cons]
      split
      · rename_i hd
        rcases List.mem_cons.1 hc with h1 | h1
        · exact .inl (by rw [h1]; exact hd)
        · exact ih c h1
      · exact .inr hc
  intro c hc
  rcases dm l.reverse c (List.mem_reverse.2 hc) with h1 | h1
  · exact h1
  · exact dn _ h c (List.mem_reverse.2 h1)
theorem atoi_pos {c : UInt8} {r : List UInt8} {v : Int} (h : Lib.atoiAll (c :: r) = .ok v) (hc : c.toNat ≠ 45) : 0 ≤ v := by
  unfold Lib.atoiAll at h
  simp only [hc] at h
  split at h
  · cases h
  · cases h
  · split at h
    · cases h
    · simp only [false_and, if_false] at h
      injection h with h
      omega
theorem key_bd {s : ByteArray} (h1 : keyBad s = false) (h2 : keyFar s = false) : 0 ≤ keyN s ∧ keyN s ≤ 63 := by
  cases hv : Lib.atoiAll s.data.toList with
  | ok v =>
    have e1 : keyN s = v := by unfold keyN; rw [hv]
    have e2 : keyFar s = decide (63 < v) := by unfold keyFar; rw [hv]
    rw [e2] at h2
    rw [e1]
    have h3 : v ≤ 63 := by simpa using h2
    refine ⟨?_, h3⟩
    unfold keyBad at h1
    simp only [Bool.or_eq_false_iff] at h1
    have h4 := h1.1.2
    unfold kb2 at h4
    rw [Bool.not_eq_false', ByteArray.toList_eq] at h4
    have h5 : Lib.trimS s.data.toList digitsB.data.toList = [] := by simpa [trimT] using h4
    cases hl : s.data.toList with
    | nil => rw [hl] at hv; cases hv
    | cons c r =>
      rw [hl] at hv
      refine atoi_pos hv ?_
      intro e
      have h6 := trim_nil h5 c (by rw [hl]; exact List.mem_cons_self)
      have h7 : c = 45 := UInt8.toNat_inj.1 e
      rw [h7] at h6
      revert h6
      decide
  | _ => unfold keyFar at h2; rw [hv] at h2; cases h2
theorem dayI_bd (y m d : Int) : dayI y m d = -1 ∨ (0 ≤ dayI y m d ∧ dayI y m d ≤ 73048) := by
  unfold dayI
  split
  · exact .inl rfl
  · simp only
    split
    · exact .inl rfl
    · right; omega
theorem day_bd {s : ByteArray} (h : dayPE s = 0) : 0 ≤ dayPR s ∧ dayPR s ≤ 73048 := by
  unfold dayPE at h
  unfold dayPR
  split at h
  · rename_i hf
    rw [if_pos hf]
    unfold dayE at h
    unfold dayR
    split at h
    · cases h
    · rename_i h1
      rw [if_neg h1]
      rcases dayI_bd (dayNums s.data.toList).1 (dayNums s.data.toList).2.1 (dayNums s.data.toList).2.2 with h2 | h2
      · exact absurd h2 h1
      · exact h2
  · cases h
theorem key_zero {sz : Int} {st : PS} (h : (keyP sz st).e = 0) : 0 ≤ keyN (nextT st) ∧ keyN (nextT st) ≤ 63 := by
  obtain ⟨h1, h2⟩ := wrongP_zero h (by decide)
  obtain ⟨h3, _⟩ := wrongP_zero h2 (by decide)
  exact key_bd h3 h1
theorem day_zero {sz : Int} {st : PS} (h : (dayP sz st).e = 0) : 0 ≤ dayPR (nextT st) ∧ dayPR (nextT st) ≤ 73048 := by
  obtain ⟨h1, _⟩ := wrongP_zero h (by decide)
  exact day_bd (by simpa using h1)
theorem behind_ok {sz : Int} {st : PS} {s : ByteArray} (hb : nodeB s = true) (h : (behindP sz (nodeN s) st).2.e = 0) : Fo.NodeOk (behindP sz (nodeN s) st).1 := by
  rcases nodeN_cases hb with ⟨p, q, e1, e2, e3, e4, _⟩ | ⟨k, h1, h2, e1, _⟩
  · rw [e1] at h ⊢
    have e : behindP sz ⟨1, 0, 0, p, q⟩ st = (⟨1, 0, 0, p, q⟩, st) := rfl
    rw [e]
    show Fo.NodeOk ⟨1, 0, 0, p, q⟩
    exact ⟨by simp [fieldsB, numberB, e2], ⟨⟨(by decide : (-9223372036854775808 : Int) ≤ 1), (by decide : (1 : Int) ≤ 9223372036854775807)⟩, ⟨(by decide : (-9223372036854775808 : Int) ≤ 0), (by decide : (0 : Int) ≤ 9223372036854775807)⟩, ⟨(by decide : (-9223372036854775808 : Int) ≤ 0), (by decide : (0 : Int) ≤ 9223372036854775807)⟩, e3, e4⟩, (by decide : makes 1 ≠ 0)⟩
  · have hz : i64ok 0 := ⟨by decide, by decide⟩
    have hk : i64ok (k : Int) := i64_small (by omega) (by omega)
    have hmk : makes (k : Int) ≠ 0 := by
      unfold makes
      rw [opN_in (by omega) (by omega), Int.toNat_natCast]
      unfold makesN
      rw [if_neg (by omega)]
      split
      · decide
      · rw [if_pos (by omega)]; decide
    rw [e1] at h ⊢
    unfold behindP at h ⊢
    simp only at h ⊢
    split at h
    · rename_i c1
      rw [if_pos c1]
      dsimp only
      have hb := key_zero h
      have hA := i64_small hb.1 (by omega)
      refine ⟨?_, ⟨hk, hA, hz, hz, hz⟩, hmk⟩
      have : ((k : Int) == 1) = false := by rw [beq_eq_false_iff_ne]; omega
      have h2' : ((k : Int) == 2 || (k : Int) == 16) = true := by simpa using c1
      simp only [fieldsB, this, h2', cond_false, cond_true, fitsB]
      simp; omega
    rename_i c1
    rw [if_neg c1]
    split at h
    · rename_i c2
      rw [if_pos c2]
      dsimp only
      have hc : curErr (nextT st) = 0 := by have := (wrongP_zero h (by decide)).1; simpa using this
      have hb : 0 ≤ curOf (nextT st) ∧ curOf (nextT st) ≤ 7 := by
        rcases cur_cases (nextT st) with ⟨_, _, h3⟩ | ⟨h3, h4, h5, _⟩
        · omega
        · omega
      have hA := i64_small hb.1 (by omega)
      refine ⟨?_, ⟨hk, hA, hz, hz, hz⟩, hmk⟩
      rw [c2]
      simp [fieldsB, fitsB]
      exact hb
    rename_i c2
    rw [if_neg c2]
    split at h
    · rename_i c3
      rw [if_pos c3]
      dsimp only
      have hb := day_zero h
      have hA := i64_small hb.1 (by omega)
      refine ⟨?_, ⟨hk, hA, hz, hz, hz⟩, hmk⟩
      rw [c3]
      simp [fieldsB, fitsB]
      exact hb
    rename_i c3
    rw [if_neg c3]
    split at h
    · rename_i c4
      rw [if_pos c4]
      split at h
      · rename_i c5
        rw [if_pos c5]
        dsimp only
        have hb := key_zero c5
        have hd := day_zero h
        have hA := i64_small hb.1 (by omega)
        have hD := i64_small hd.1 (by omega)
        refine ⟨?_, ⟨hk, hA, hD, hz, hz⟩, hmk⟩
        rw [c4]
        simp [fieldsB, fitsB]
        omega
      · rename_i c5; exact absurd h c5
    rename_i c4
    rw [if_neg c4]
    refine ⟨?_, ⟨hk, hz, hz, hz, hz⟩, hmk⟩
    have a1 : ((k : Int) == 1) = false := by rw [beq_eq_false_iff_ne]; omega
    have a2 : ((k : Int) == 2 || (k : Int) == 16) = false := by
      rw [not_or] at c1
      simp only [Bool.or_eq_false_iff, beq_eq_false_iff_ne]
      exact c1
    have a3 : ((k : Int) == 10) = false := by rw [beq_eq_false_iff_ne]; exact c2
    have a4 : ((k : Int) == 14) = false := by rw [beq_eq_false_iff_ne]; exact c3
    have a5 : ((k : Int) == 17) = false := by rw [beq_eq_false_iff_ne]; exact c4
    simp only [fieldsB, a1, a2, a3, a4, a5, cond_false]
    rfl
end Go.Proofs.YtokfgdpmbmnijaaGreatDoor
/- What is read without a fault is a term; a term's tokens are read as it. No walk. -/
namespace Go.Proofs.YtokfgdpmbmnijaaGreatDoor
open Go.RowKit

theorem kids_makes {rec : Int → PS × List Nd → PS × List Nd} {d : Nat} {sz : Int} (hr : ∀ so a t, (rec so (a, t)).1.e = 0 → t.length ≤ 64 → ∃ f : Fo, f.Ok [so] ∧ f.depth ≤ d ∧ (rec so (a, t)).2 = t ++ f.flat ∧ (t ++ f.flat).length ≤ 64) :
    ∀ ks i a t, (kidsP rec sz ks i (a, t)).1.e = 0 → t.length ≤ 64 → ∃ f : Fo, f.Ok ks ∧ f.depth ≤ d ∧ (kidsP rec sz ks i (a, t)).2 = t ++ f.flat ∧ (t ++ f.flat).length ≤ 64
  | [], _, _, t, _, hl => ⟨.nil, trivial, Nat.zero_le _, by simp [kidsP, Fo.flat], by simpa [Fo.flat] using hl⟩
  | k :: ks, i, a, t, h, hl => by
    rw [kidsP] at h ⊢
    simp only at h ⊢
    split at h
    · rename_i hm
      rw [if_pos hm]
      have h1 := kids_zero h
      obtain ⟨f1, o1, d1, e1, l1⟩ := hr k (markP sz (markOf i) a) t h1 hl
      have e0 : rec k (markP sz (markOf i) a, t) = ((rec k (markP sz (markOf i) a, t)).1, t ++ f1.flat) := by rw [← e1]
      rw [e0] at h ⊢
      obtain ⟨f2, o2, d2, e2, l2⟩ := kids_makes hr ks (i + 1) (rec k (markP sz (markOf i) a, t)).1 (t ++ f1.flat) h l1
      cases f1 with
      | nil => exact o1.elim
      | cons n kk r =>
        cases r with
        | cons _ _ _ => exact o1.2.2.2.elim
        | nil =>
          have e3 : (t ++ (Fo.cons n kk Fo.nil).flat) ++ f2.flat = t ++ (Fo.cons n kk f2).flat := by simp [Fo.flat]
          rw [e3] at e2 l2
          refine ⟨.cons n kk f2, ⟨o1.1, o1.2.1, o1.2.2.1, o2⟩, ?_, e2, l2⟩
          simp only [Fo.depth] at d1 ⊢
          omega
    · rename_i hm; exact absurd h hm
theorem term_makes (sz : Int) : ∀ m so a t, 1 ≤ m → (termP sz m so (a, t)).1.e = 0 → t.length ≤ 64 → ∃ f : Fo, f.Ok [so] ∧ f.depth ≤ m - 1 ∧ (termP sz m so (a, t)).2 = t ++ f.flat ∧ (t ++ f.flat).length ≤ 64
  | 0, _, _, _, h, _, _ => by omega
  | m + 1, so, a, t, _, h, hl => by
    rw [termP] at h ⊢
    simp only at h ⊢
    split at h
    · rename_i h0
      rw [if_pos h0]
      obtain ⟨z1, z2, z3, z4, _⟩ := headP_zero h0
      unfold bodyP at h ⊢
      simp only at h ⊢
      have hk : (kidsP (termP sz m) sz (kidsL (nodeN (nextT a)).op) 0 ((behindP sz (nodeN (nextT a)) (headP sz so m t.length a)).2, t ++ [(behindP sz (nodeN (nextT a)) (headP sz so m t.length a)).1])).1.e = 0 := by
        split at h
        · exact h
        · exact markP_zero h
      have hb : (behindP sz (nodeN (nextT a)) (headP sz so m t.length a)).2.e = 0 := kids_zero hk
      have hok := behind_ok z3 hb
      have hop : (behindP sz (nodeN (nextT a)) (headP sz so m t.length a)).1.op = (nodeN (nextT a)).op := by
        unfold behindP
        split
        · rfl
        split
        · rfl
        split
        · rfl
        split
        · split <;> rfl
        rfl
      obtain ⟨f, o1, d1, e1, l1⟩ := kids_makes (d := m - 1) (fun so a t he hl => term_makes sz m so a t (by omega) he hl) (kidsL (nodeN (nextT a)).op) 0 (behindP sz (nodeN (nextT a)) (headP sz so m t.length a)).2 (t ++ [(behindP sz (nodeN (nextT a)) (headP sz so m t.length a)).1]) hk (by rw [List.length_append]; simp only [List.length_cons, List.length_nil]; omega)
      have e2 : (t ++ [(behindP sz (nodeN (nextT a)) (headP sz so m t.length a)).1]) ++ f.flat = t ++ (Fo.cons (behindP sz (nodeN (nextT a)) (headP sz so m t.length a)).1 f .nil).flat := by simp [Fo.flat]
      rw [e2] at e1 l1
      refine ⟨.cons (behindP sz (nodeN (nextT a)) (headP sz so m t.length a)).1 f .nil, ⟨by rw [hop]; exact z4, hok, by rw [hop]; exact o1, trivial⟩, ?_, ?_, l1⟩
      · simp only [Fo.depth]; omega
      · split
        · exact e1
        · exact e1
    · rename_i h0; exact absurd h h0

/-! Tokens. -/
def headTk (n : Nd) : ByteArray := if n.op = 1 then ratPT n.num n.den else wordN n.op.toNat
def restTk (n : Nd) : List ByteArray :=
  if n.op = 2 ∨ n.op = 16 then [itoaB n.a] else if n.op = 10 then [curName n.a.toNat] else if n.op = 14 then [dayT n.a] else if n.op = 17 then [itoaB n.a, dayT n.b] else []
def closeTk (n : Nd) : List ByteArray := if many n.op = 0 then [] else [closeB]
def kidsTk : Fo → Nat → List ByteArray
  | .nil, _ => []
  | .cons n k r, i => markOf i :: (headTk n :: (restTk n ++ (kidsTk k 0 ++ (closeTk n ++ kidsTk r (i + 1)))))
def tkT (st : PS) : List ByteArray := st.tk.map Prod.snd
theorem next_read {sz : Int} {a : PS} {s : ByteArray} {l : List ByteArray} (h : tkT a = s :: l) : nextT a = s ∧ tkT (nextP sz a) = l ∧ (nextP sz a).e = a.e := by
  unfold tkT at *
  cases ha : a.tk with
  | nil => rw [ha] at h; cases h
  | cons u r =>
    rw [ha, List.map_cons] at h
    injection h with h1 h2
    unfold nextT nextP
    rw [ha]
    exact ⟨h1, h2, rfl⟩
theorem wrong_no (er : Int) (st : PS) : wrongP false er st = st := if_neg (fun h => by cases h.1)
theorem neB_self (a : ByteArray) : neB a a = false := by simp [neB]
theorem mark_read {sz : Int} {a : PS} {m : ByteArray} {l : List ByteArray} (he : a.e = 0) (h : tkT a = m :: l) : (markP sz m a).e = 0 ∧ tkT (markP sz m a) = l := by
  obtain ⟨h1, h2, h3⟩ := next_read (sz := sz) h
  unfold markP
  rw [if_pos he, h1, neB_self, wrong_no]
  exact ⟨h3.trans he, h2⟩
theorem node_one {n : Nd} (h : Fo.NodeOk n) (h1 : n.op = 1) : n = ⟨1, 0, 0, n.num, n.den⟩ ∧ ratioErr n.num n.den = 0 := by
  have hf := h.1
  obtain ⟨op, a, b, num, den⟩ := n
  simp only at h1
  subst h1
  simp [fieldsB, numberB] at hf
  simp only [Nd.mk.injEq, and_self, and_true, true_and]
  exact ⟨hf.1, hf.2⟩
/-- The node that an op's word begins. -/
def baseN (n : Nd) : Nd := if n.op = 1 then n else ⟨n.op, 0, 0, 0, 0⟩
theorem head_read {n : Nd} (h : Fo.NodeOk n) : nodeN (headTk n) = baseN n ∧ nodeB (headTk n) = true := by
  have hb := makes_bd h.2.2
  unfold headTk baseN
  split
  · rename_i h1
    obtain ⟨e1, e2⟩ := node_one h h1
    have := nodeN_num h.2.1.2.2.2.1 h.2.1.2.2.2.2 e2
    exact ⟨this.1.trans e1.symm, this.2⟩
  · rename_i h1
    have := nodeN_word (k := n.op.toNat) (by omega) (by omega)
    refine ⟨this.1.trans ?_, this.2⟩
    simp only [Nd.mk.injEq, and_self, and_true]
    omega
theorem base_op (n : Nd) : (baseN n).op = n.op := by unfold baseN; split <;> rfl
theorem fits_eq {la lb : Int} {n : Nd} (h : fitsB la lb n = true) : 0 ≤ n.a ∧ n.a ≤ la ∧ 0 ≤ n.b ∧ n.b ≤ lb ∧ n.num = 0 ∧ n.den = 0 := by
  simp only [fitsB, Bool.and_eq_true, decide_eq_true_eq, beq_iff_eq] at h
  omega
theorem nd_eq {n : Nd} {a b : Int} (h1 : n.a = a) (h2 : n.b = b) (h3 : n.num = 0) (h4 : n.den = 0) : n = ⟨n.op, a, b, 0, 0⟩ := by
  obtain ⟨op, x, y, num, den⟩ := n
  simp only at h1 h2 h3 h4
  subst h1 h2 h3 h4
  rfl
theorem key_reads {sz : Int} {st : PS} {a : Int} {l : List ByteArray} (he : st.e = 0) (h : tkT st = itoaB a :: l) (h0 : 0 ≤ a) (h1 : a ≤ 63) : keyN (nextT st) = a ∧ (keyP sz st).e = 0 ∧ tkT (keyP sz st) = l := by
  obtain ⟨k1, k2, k3⟩ := next_read (sz := sz) h
  obtain ⟨p1, p2, p3⟩ := key_print h0 h1
  unfold keyP
  rw [k1, p1, p2, wrong_no, wrong_no]
  exact ⟨p3, k3.trans he, k2⟩
theorem day_reads {sz : Int} {st : PS} {a : Int} {l : List ByteArray} (he : st.e = 0) (h : tkT st = dayT a :: l) (h0 : 0 ≤ a) (h1 : a ≤ 73048) : dayPR (nextT st) = a ∧ (dayP sz st).e = 0 ∧ tkT (dayP sz st) = l := by
  obtain ⟨k1, k2, k3⟩ := next_read (sz := sz) h
  obtain ⟨p1, p2⟩ := day_print h0 h1
  unfold dayP
  rw [k1, p2]
  have e1 : ((0 : Int) == 13) = false := rfl
  have e2 : ((0 : Int) != 0) = false := rfl
  rw [e1, e2, wrong_no, wrong_no]
  exact ⟨p1, k3.trans he, k2⟩
/-- What stands behind an op's word is read. -/
theorem behind_read {sz : Int} {n : Nd} {st : PS} {l : List ByteArray} (h : Fo.NodeOk n) (he : st.e = 0) (ht : tkT st = restTk n ++ l) : (behindP sz (baseN n) st).1 = n ∧ (behindP sz (baseN n) st).2.e = 0 ∧ tkT (behindP sz (baseN n) st).2 = l := by
  have hf := h.1
  unfold behindP
  rw [base_op]
  unfold restTk at ht
  by_cases c0 : n.op = 1
  · rw [if_neg (by omega), if_neg (by omega), if_neg (by omega), if_neg (by omega)] at ht ⊢
    exact ⟨if_pos c0, he, ht⟩
  have a0 : (n.op == 1) = false := by rw [beq_eq_false_iff_ne]; exact c0
  have hbase : baseN n = ⟨n.op, 0, 0, 0, 0⟩ := if_neg c0
  rw [hbase]
  unfold fieldsB at hf
  rw [a0, cond_false] at hf
  by_cases c1 : n.op = 2 ∨ n.op = 16
  · rw [if_pos c1] at ht ⊢
    have a1 : (n.op == 2 || n.op == 16) = true := by simpa using c1
    rw [a1, cond_true] at hf
    have hx := fits_eq hf
    obtain ⟨k1, k2, k3⟩ := key_reads (sz := sz) he ht hx.1 hx.2.1
    refine ⟨?_, k2, k3⟩
    show (⟨n.op, keyN (nextT st), 0, 0, 0⟩ : Nd) = n
    rw [k1]
    exact (nd_eq rfl (by omega) hx.2.2.2.2.1 hx.2.2.2.2.2).symm
  rw [if_neg c1] at ht ⊢
  have a1 : (n.op == 2 || n.op == 16) = false := by
    rw [not_or] at c1
    simp only [Bool.or_eq_false_iff, beq_eq_false_iff_ne]
    exact c1
  rw [a1, cond_false] at hf
  by_cases c2 : n.op = 10
  · rw [if_pos c2] at ht ⊢
    have a2 : (n.op == 10) = true := by simpa using c2
    rw [a2, cond_true] at hf
    have hx := fits_eq hf
    obtain ⟨k1, k2, k3⟩ := next_read (sz := sz) ht
    obtain ⟨p1, p2⟩ := cur_print hx.1 hx.2.1
    rw [k1, p1, p2]
    have e2 : ((0 : Int) != 0) = false := rfl
    rw [e2, wrong_no]
    refine ⟨?_, k3.trans he, k2⟩
    show (⟨n.op, n.a, 0, 0, 0⟩ : Nd) = n
    exact (nd_eq rfl (by omega) hx.2.2.2.2.1 hx.2.2.2.2.2).symm
  rw [if_neg c2] at ht ⊢
  have a2 : (n.op == 10) = false := by rw [beq_eq_false_iff_ne]; exact c2
  rw [a2, cond_false] at hf
  by_cases c3 : n.op = 14
  · rw [if_pos c3] at ht ⊢
    have a3 : (n.op == 14) = true := by simpa using c3
    rw [a3, cond_true] at hf
    have hx := fits_eq hf
    obtain ⟨k1, k2, k3⟩ := day_reads (sz := sz) he ht hx.1 hx.2.1
    refine ⟨?_, k2, k3⟩
    show (⟨n.op, dayPR (nextT st), 0, 0, 0⟩ : Nd) = n
    rw [k1]
    exact (nd_eq rfl (by omega) hx.2.2.2.2.1 hx.2.2.2.2.2).symm
  rw [if_neg c3] at ht ⊢
  have a3 : (n.op == 14) = false := by rw [beq_eq_false_iff_ne]; exact c3
  rw [a3, cond_false] at hf
  by_cases c4 : n.op = 17
  · rw [if_pos c4] at ht ⊢
    have a4 : (n.op == 17) = true := by simpa using c4
    rw [a4, cond_true] at hf
    have hx := fits_eq hf
    obtain ⟨k1, k2, k3⟩ := key_reads (sz := sz) he ht hx.1 hx.2.1
    obtain ⟨j1, j2, j3⟩ := day_reads (sz := sz) k2 k3 hx.2.2.1 hx.2.2.2.1
    rw [if_pos k2]
    refine ⟨?_, j2, j3⟩
    show (⟨n.op, keyN (nextT st), dayPR (nextT (keyP sz st)), 0, 0⟩ : Nd) = n
    rw [k1, j1]
    exact (nd_eq rfl rfl hx.2.2.2.2.1 hx.2.2.2.2.2).symm
  rw [if_neg c4] at ht ⊢
  have a4 : (n.op == 17) = false := by rw [beq_eq_false_iff_ne]; exact c4
  rw [a4, cond_false] at hf
  have hx := fits_eq hf
  exact ⟨(nd_eq (by omega) (by omega) hx.2.2.2.2.1 hx.2.2.2.2.2).symm, he, ht⟩
theorem kids_reads (sz : Int) : ∀ (f : Fo) (ks : List Int) (i m : Nat) (a : PS) (t : List Nd) (l : List ByteArray), f.Ok ks → f.depth + 1 ≤ m → a.e = 0 → tkT a = kidsTk f i ++ l → (t ++ f.flat).length ≤ 64 →
    ∃ a', kidsP (termP sz m) sz ks i (a, t) = (a', t ++ f.flat) ∧ a'.e = 0 ∧ tkT a' = l := by
  intro f
  induction f with
  | nil =>
    intro ks i m a t l ho _ he ht _
    cases ks with
    | cons _ _ => exact ho.elim
    | nil => exact ⟨a, by simp [kidsP, Fo.flat], he, ht⟩
  | cons n k r ihk ihr =>
    intro ks i m a t l ho hd he ht hl
    cases ks with
    | nil => exact ho.elim
    | cons so ks =>
      obtain ⟨o1, o2, o3, o4⟩ := ho
      simp only [kidsTk, List.cons_append, List.append_assoc] at ht
      obtain ⟨x1, x2⟩ := mark_read (sz := sz) he ht
      rw [kidsP]
      simp only
      rw [if_pos x1]
      simp only [Fo.depth] at hd
      obtain ⟨m, rfl⟩ : ∃ m', m = m' + 1 := ⟨m - 1, by omega⟩
      simp only [Fo.flat, List.length_append, List.length_cons] at hl
      obtain ⟨y1, y2, y3⟩ := next_read (sz := sz) x2
      obtain ⟨w1, w2⟩ := head_read o2
      have hh : headP sz so m t.length (markP sz (markOf i) a) = nextP sz (markP sz (markOf i) a) := by
        unfold headP
        rw [y1, w1, w2, base_op, o1]
        have e1 : (decide (64 ≤ t.length) || decide (m = 0)) = false := by simp; omega
        have e2 : (!true || so != so) = false := by simp
        rw [e1, e2, wrong_no, wrong_no]
      have y3' := y3.trans x1
      obtain ⟨z1, z2, z3⟩ := behind_read (sz := sz) o2 y3' y2
      have hn : termP sz (m + 1) so (markP sz (markOf i) a, t) = bodyP sz (termP sz m) (baseN n) (behindP sz (baseN n) (nextP sz (markP sz (markOf i) a))) t := by
        rw [termP]
        simp only
        rw [hh, if_pos y3', y1, w1]
      obtain ⟨a1, e1, e2, e3⟩ := ihk (kidsL n.op) 0 m (behindP sz (baseN n) (nextP sz (markP sz (markOf i) a))).2 (t ++ [n]) _ o3 (by omega) z2 z3 (by simp only [List.length_append, List.length_cons, List.length_nil]; omega)
      have hb : ∃ a2, termP sz (m + 1) so (markP sz (markOf i) a, t) = (a2, t ++ [n] ++ k.flat) ∧ a2.e = 0 ∧ tkT a2 = kidsTk r (i + 1) ++ l := by
        rw [hn]
        unfold bodyP
        simp only
        rw [base_op, z1, e1]
        unfold closeTk at e3
        split
        · rename_i hm0
          rw [if_pos hm0] at e3
          exact ⟨a1, rfl, e2, e3⟩
        · rename_i hm0
          rw [if_neg hm0] at e3
          obtain ⟨q1, q2⟩ := mark_read (sz := sz) e2 e3
          exact ⟨_, rfl, q1, q2⟩
      obtain ⟨a2, b1, b2, b3⟩ := hb
      rw [b1]
      obtain ⟨a3, c1, c2, c3⟩ := ihr ks (i + 1) (m + 1) a2 (t ++ [n] ++ k.flat) l o4 (by omega) b2 b3 (by simp only [List.length_append, List.length_cons, List.length_nil]; omega)
      exact ⟨a3, by rw [c1]; simp [Fo.flat], c2, c3⟩
end Go.Proofs.YtokfgdpmbmnijaaGreatDoor
/- Forests in rows of nodes: where terms end, how deep they are, their sorts and their texts. No walk. -/
namespace Go.Proofs.YtokfgdpmbmnijaaGreatDoor
open Go.RowKit

namespace Fo
def pos : Fo → Nat → Nat
  | nil, _ => 0
  | cons _ _ _, 0 => 0
  | cons _ k r, i + 1 => 1 + k.flat.length + pos r i
def drop : Fo → Nat → Fo
  | f, 0 => f
  | nil, _ + 1 => nil
  | cons _ _ r, i + 1 => drop r i
theorem pos_zero (f : Fo) : f.pos 0 = 0 := by cases f <;> rfl
theorem drop_zero (f : Fo) : f.drop 0 = f := by cases f <;> rfl
/-- A forest lies in a row from a place on. -/
def At (L : List Nd) (f : Fo) (b : Nat) : Prop := ∃ pre post, L = pre ++ f.flat ++ post ∧ pre.length = b
theorem At.head {L : List Nd} {n : Nd} {k r : Fo} {b : Nat} (h : At L (cons n k r) b) : nd L b = n ∧ b < L.length ∧ At L k (b + 1) ∧ At L r (b + 1 + k.flat.length) := by
  obtain ⟨pre, post, rfl, rfl⟩ := h
  refine ⟨?_, ?_, ⟨pre ++ [n], r.flat ++ post, by simp [flat], by simp⟩, ⟨pre ++ n :: k.flat, post, by simp [flat], by simp; omega⟩⟩
  · unfold nd; simp [flat]
  · simp [flat]
theorem At.len {L : List Nd} {f : Fo} {b : Nat} (h : At L f b) : b + f.flat.length ≤ L.length := by
  obtain ⟨pre, post, rfl, rfl⟩ := h
  simp only [List.length_append]; omega
theorem end_at {L : List Nd} : ∀ (f : Fo) (ks : List Int) (b : Nat), f.Ok ks → At L f b → endK (endAt L) f.count b = some (b + f.flat.length) := by
  intro f
  induction f with
  | nil => intro ks b _ _; rfl
  | cons n k r ihk ihr =>
    intro ks b ho ha
    cases ks with
    | nil => exact ho.elim
    | cons s ks =>
      obtain ⟨o1, o2, o3, o4⟩ := ho
      obtain ⟨h1, h2, h3, h4⟩ := ha.head
      have e1 : endAt L b = some (b + 1 + k.flat.length) := by
        rw [endAt_eq, if_neg (by rw [h1, not_or]; exact ⟨by omega, o2.2.2⟩), h1]
        have := ihk (kidsL n.op) (b + 1) o3 h3
        rw [o3.count, kidsL_length] at this
        exact this
      simp only [count, endK, e1, Option.bind_some]
      rw [ihr ks _ o4 h4]
      simp only [flat, List.length_cons, List.length_append]
      congr 1
      omega
theorem one_end {L : List Nd} {n : Nd} {k r : Fo} {ks : List Int} {b : Nat} (ho : (cons n k r).Ok ks) (ha : At L (cons n k r) b) : endAt L b = some (b + 1 + k.flat.length) := by
  cases ks with
  | nil => exact ho.elim
  | cons s ks =>
    obtain ⟨o1, o2, o3, o4⟩ := ho
    obtain ⟨h1, h2, h3, h4⟩ := ha.head
    rw [endAt_eq, if_neg (by rw [h1, not_or]; exact ⟨by omega, o2.2.2⟩), h1]
    have := end_at k (kidsL n.op) (b + 1) o3 h3
    rw [o3.count, kidsL_length] at this
    exact this
theorem end_some {L : List Nd} : ∀ (f : Fo) (ks : List Int) (b i : Nat), f.Ok ks → At L f b → i ≤ f.count → endK (endAt L) i b = some (b + f.pos i) := by
  intro f
  induction f with
  | nil => intro ks b i _ _ hi; simp only [count, Nat.le_zero] at hi; subst hi; rfl
  | cons n k r _ ihr =>
    intro ks b i ho ha hi
    cases ks with
    | nil => exact ho.elim
    | cons s ks =>
      cases i with
      | zero => rfl
      | succ i =>
        simp only [endK, one_end ho ha, Option.bind_some]
        rw [ihr ks _ i ho.2.2.2 ha.head.2.2.2 (by simp only [count] at hi; omega)]
        simp only [pos]
        congr 1
        omega
theorem drop_at {L : List Nd} : ∀ (f : Fo) (ks : List Int) (b i : Nat), f.Ok ks → At L f b → i ≤ f.count → At L (f.drop i) (b + f.pos i) ∧ (f.drop i).Ok (ks.drop i) ∧ (f.drop i).depth ≤ f.depth := by
  intro f
  induction f with
  | nil => intro ks b i ho ha hi; simp only [count, Nat.le_zero] at hi; subst hi; exact ⟨by rw [pos_zero, drop_zero]; exact ha, by rw [drop_zero]; exact ho, Nat.le_refl _⟩
  | cons n k r _ ihr =>
    intro ks b i ho ha hi
    cases ks with
    | nil => exact ho.elim
    | cons s ks =>
      cases i with
      | zero => exact ⟨ha, ho, Nat.le_refl _⟩
      | succ i =>
        obtain ⟨h1, h2, h3⟩ := ihr ks (b + 1 + k.flat.length) i ho.2.2.2 ha.head.2.2.2 (by simp only [count] at hi; omega)
        refine ⟨?_, h2, ?_⟩
        · simp only [pos, drop]
          rw [show b + (1 + k.flat.length + r.pos i) = b + 1 + k.flat.length + r.pos i by omega]
          exact h1
        · simp only [drop, depth]; omega
theorem drop_cons : ∀ (f : Fo) (i : Nat), i < f.count → ∃ n k r, f.drop i = cons n k r := by
  intro f
  induction f with
  | nil => intro i hi; simp only [count] at hi; omega
  | cons n k r _ ihr =>
    intro i hi
    cases i with
    | zero => exact ⟨n, k, r, rfl⟩
    | succ i => exact ihr i (by simp only [count] at hi; omega)
theorem kid_at {L : List Nd} {n : Nd} {k r : Fo} {ks : List Int} {b i : Nat} (ho : (cons n k r).Ok ks) (ha : At L (cons n k r) b) (hi : i ≤ many n.op) : kidN L b i = b + 1 + k.pos i := by
  cases ks with
  | nil => exact ho.elim
  | cons s ks =>
    unfold kidN
    rw [end_some k (kidsL n.op) (b + 1) i ho.2.2.1 ha.head.2.2.1 (by rw [ho.2.2.1.count, kidsL_length]; exact hi)]
    rfl
theorem kids_ok {L : List Nd} {n : Nd} {k r : Fo} {ks : List Int} {b : Nat} (ho : (cons n k r).Ok ks) (ha : At L (cons n k r) b) : KidsOk L b := kidsOk (one_end ho ha)
theorem deep_at {L : List Nd} : ∀ (f : Fo) (ks : List Int) (b i : Nat), f.Ok ks → At L f b → i < f.count → deepAt L (b + f.pos i) ≤ f.depth := by
  intro f
  induction f with
  | nil => intro ks b i _ _ hi; simp only [count] at hi; omega
  | cons n k r ihk ihr =>
    intro ks b i ho ha hi
    cases ks with
    | nil => exact ho.elim
    | cons s ks =>
      cases i with
      | zero =>
        simp only [pos, Nat.add_zero, depth]
        rw [deepAt_eq (kids_ok ho ha), ha.head.1]
        have : maxTo (fun i => deepAt L (kidN L b i)) (many n.op) ≤ k.depth := by
          refine maxTo_le (fun i hi => ?_)
          have hc : k.count = many n.op := by rw [ho.2.2.1.count, kidsL_length]
          show deepAt L (kidN L b i) ≤ _
          rw [kid_at ho ha (by omega)]
          exact ihk (kidsL n.op) (b + 1) i ho.2.2.1 ha.head.2.2.1 (by omega)
        omega
      | succ i =>
        have := ihr ks (b + 1 + k.flat.length) i ho.2.2.2 ha.head.2.2.2 (by simp only [count] at hi; omega)
        simp only [pos, depth]
        rw [show b + (1 + k.flat.length + r.pos i) = b + 1 + k.flat.length + r.pos i by omega]
        omega
theorem below_at (op : Int) (i : Nat) (h : i < many op) : (kidsL op).drop i = belowS op i :: (kidsL op).drop (i + 1) := by
  have hm := many_le op
  unfold kidsL
  rcases (by omega : many op = 1 ∨ many op = 2 ∨ many op = 3 ∨ many op = 4) with e | e | e | e <;> rw [e] at h ⊢
  · obtain rfl : i = 0 := by omega
    rfl
  · rcases (by omega : i = 0 ∨ i = 1) with e | e <;> subst e <;> rfl
  · rcases (by omega : i = 0 ∨ i = 1 ∨ i = 2) with e | e | e <;> subst e <;> rfl
  · rcases (by omega : i = 0 ∨ i = 1 ∨ i = 2 ∨ i = 3) with e | e | e | e <;> subst e <;> rfl
theorem sorts_at {L : List Nd} : ∀ (f : Fo) (ks : List Int) (b a : Nat), f.Ok ks → At L f b → b ≤ a → a < b + f.flat.length → sortsAt L a = true := by
  intro f
  induction f with
  | nil => intro ks b a _ _ h1 h2; simp only [flat, List.length_nil] at h2; omega
  | cons n k r ihk ihr =>
    intro ks b a ho ha h1 h2
    cases ks with
    | nil => exact ho.elim
    | cons s ks =>
      simp only [flat, List.length_cons, List.length_append] at h2
      by_cases e : a = b
      · subst e
        unfold sortsAt
        rw [List.all_eq_true]
        intro i hi
        have hi' := List.mem_range.1 hi
        rw [ha.head.1] at hi' ⊢
        rw [kid_at ho ha (by omega)]
        have hc : k.count = many n.op := by rw [ho.2.2.1.count, kidsL_length]
        obtain ⟨d1, d2, _⟩ := drop_at k (kidsL n.op) (a + 1) i ho.2.2.1 ha.head.2.2.1 (by omega)
        obtain ⟨n', k', r', e'⟩ := drop_cons k i (by omega)
        have el := below_at n.op i hi'
        rw [e'] at d1 d2
        rw [el] at d2
        rw [d1.head.1, d2.1]
        simp
      · by_cases h3 : a < b + 1 + k.flat.length
        · exact ihk (kidsL n.op) (b + 1) a ho.2.2.1 ha.head.2.2.1 (by omega) (by omega)
        · exact ihr ks (b + 1 + k.flat.length) a ho.2.2.2 ha.head.2.2.2 (by omega) (by omega)
theorem all_ok : ∀ (f : Fo) (ks : List Int), f.Ok ks → ∀ n ∈ f.flat, NodeOk n := by
  intro f
  induction f with
  | nil => intro ks _ n hn; cases hn
  | cons n k r ihk ihr =>
    intro ks ho m hm
    cases ks with
    | nil => exact ho.elim
    | cons s ks =>
      simp only [flat, List.mem_cons, List.mem_append] at hm
      rcases hm with h | h | h
      · rw [h]; exact ho.2.1
      · exact ihk _ ho.2.2.1 m h
      · exact ihr _ ho.2.2.2 m h
end Fo
theorem nd_mem {t : List Nd} {k : Nat} (h : k < t.length) : nd t k ∈ t := by
  unfold nd
  rw [List.getElem?_eq_getElem h]
  exact List.getElem_mem h
/-- A contract, as a tree. -/
structure Tree (t : List Nd) (f : Fo) : Prop where
  flat : f.flat = t
  ok : f.Ok [2]
  depth : f.depth ≤ 12
  few : t.length ≤ 64
theorem Tree.check {t : List Nd} {f : Fo} (h : Tree t f) : checkE t = 0 := by
  have ha : Fo.At t f 0 := ⟨[], [], by simp [h.flat], rfl⟩
  have hok := h.ok
  have hd := h.depth
  have hfl := h.flat
  have hfew := h.few
  have hall := Fo.all_ok f [2] hok
  rw [hfl] at hall
  have hs := Fo.sorts_at (L := t) f [2] 0
  have hdeep := Fo.deep_at (L := t) f [2] 0 0 hok ha
  cases f with
  | nil => exact hok.elim
  | cons n k r =>
    cases r with
    | cons _ _ _ => exact hok.2.2.2.elim
    | nil =>
      have he := Fo.one_end hok ha
      have hl : t.length = 1 + k.flat.length := by rw [← hfl]; simp [Fo.flat]; omega
      have h1 : endI t 0 = t.length := by rw [endI_some he]; omega
      have h2 : allFields t = true := by
        unfold allFields
        rw [List.all_eq_true]
        intro j hj
        exact (hall _ (nd_mem (List.mem_range.1 hj))).1
      have h3 : sortsOk t = true := by
        unfold sortsOk
        rw [List.all_eq_true]
        intro j hj
        exact hs j hok ha (Nat.zero_le _) (by rw [hfl, Nat.zero_add]; exact List.mem_range.1 hj)
      have h4 := hdeep (by simp [Fo.count])
      rw [Fo.pos_zero] at h4
      change deepAt t 0 ≤ _ at h4
      have hz : ofE t = 0 := by
        unfold ofE
        rw [if_neg (by omega), if_neg (by rw [not_or, Decidable.not_not]; exact ⟨by omega, h1⟩), if_neg (by rw [h2]; decide), if_neg (by rw [h3]; decide), if_neg (by omega)]
      unfold checkE
      have hs2 : ofS t = 2 := by
        unfold ofS
        rw [if_pos hz, ha.head.1]
        exact hok.1
      rw [if_neg (by rw [hs2]; simp)]
      exact hz
theorem Tree.nodes {t : List Nd} {f : Fo} (h : Tree t f) : ∀ k, k < t.length → (nd t k).ok := by
  have := Fo.all_ok f [2] h.ok
  rw [h.flat] at this
  exact fun k hk => (this _ (nd_mem hk)).2.1
theorem le_maxTo {f : Nat → Nat} {k i : Nat} (h : i < k) : f i ≤ maxTo f k := by
  induction k with
  | zero => omega
  | succ k ih =>
    simp only [maxTo]
    by_cases e : i = k
    · subst e; omega
    · have := ih (by omega); omega
theorem take_join {α : Type} (l : List α) {a b c : Nat} (h1 : a ≤ b) (h2 : b ≤ c) (_ : c ≤ l.length) : (l.drop a).take (b - a) ++ (l.drop b).take (c - b) = (l.drop a).take (c - a) := by
  have e : l.drop b = (l.drop a).drop (b - a) := by rw [List.drop_drop]; congr 1; omega
  rw [e, show c - a = (b - a) + (c - b) by omega, List.take_add]
theorem build {t : List Nd} (hf : ∀ k, k < t.length → fieldsB (nd t k) = true ∧ (nd t k).ok) (hs : sortsOk t = true) : ∀ m a e, t.length ≤ a + m → endAt t a = some e →
    ∃ k : Fo, (Fo.cons (nd t a) k .nil).Ok [makes (nd t a).op] ∧ nd t a :: k.flat = (t.drop a).take (e - a) ∧ k.depth + 1 ≤ deepAt t a
  | 0, a, e, hm, h => by have := (kidsOk h).lt; omega
  | m + 1, a, e, hm, h => by
    have hk := kidsOk h
    have hlt := hk.lt
    have hd := deepAt_eq hk
    have he := end_kid hk
    rw [h] at he
    injection he with he
    have inner : ∀ j i, i + j = many (nd t a).op → ∃ f : Fo, f.Ok ((kidsL (nd t a).op).drop i) ∧ f.flat = (t.drop (kidN t a i)).take (kidN t a (many (nd t a).op) - kidN t a i) ∧ f.depth + 1 ≤ deepAt t a := by
      intro j
      induction j with
      | zero =>
        intro i hi
        refine ⟨.nil, ?_, ?_, ?_⟩
        · rw [List.drop_of_length_le (by rw [kidsL_length]; omega)]; trivial
        · rw [show i = many (nd t a).op by omega, Nat.sub_self]; rfl
        · simp only [Fo.depth]; omega
      | succ j ih =>
        intro i hi
        obtain ⟨f2, o2, e2, d2⟩ := ih (i + 1) (by omega)
        have hst := hk.step (i := i) (by omega)
        have hb1 := hk.bounds (i := i) (by omega)
        have hb2 := hk.bounds (i := i + 1) (by omega)
        have hb3 := hk.bounds (i := many (nd t a).op) (Nat.le_refl _)
        have hgt := endAt_gt hst
        obtain ⟨k', o1, e1, d1⟩ := build hf hs m (kidN t a i) _ (by omega) hst
        have hso : makes (nd t (kidN t a i)).op = belowS (nd t a).op i := by
          have h1 := List.all_eq_true.1 hs a (List.mem_range.2 hlt)
          have h2 := List.all_eq_true.1 h1 i (List.mem_range.2 (by omega))
          exact eq_of_beq h2
        refine ⟨.cons (nd t (kidN t a i)) k' f2, ?_, ?_, ?_⟩
        · rw [Fo.below_at _ i (by omega)]
          exact ⟨hso, o1.2.1, o1.2.2.1, o2⟩
        · have : (Fo.cons (nd t (kidN t a i)) k' f2).flat = (nd t (kidN t a i) :: k'.flat) ++ f2.flat := by simp [Fo.flat]
          have hle : kidN t a (i + 1) ≤ kidN t a (many (nd t a).op) := by
            rcases Nat.eq_or_lt_of_le (show i + 1 ≤ many (nd t a).op by omega) with h1 | h1
            · rw [h1]; exact Nat.le_refl _
            · have hm' : ∀ j, i + 1 + j ≤ many (nd t a).op → kidN t a (i + 1) ≤ kidN t a (i + 1 + j) := by
                intro j
                induction j with
                | zero => intro _; exact Nat.le_refl _
                | succ j ihj =>
                  intro hj
                  have h2 := ihj (by omega)
                  have h3 := endAt_gt (hk.step (i := i + 1 + j) (by omega))
                  rw [show i + 1 + (j + 1) = i + 1 + j + 1 by omega]
                  omega
              have := hm' (many (nd t a).op - (i + 1)) (by omega)
              rwa [show i + 1 + (many (nd t a).op - (i + 1)) = many (nd t a).op by omega] at this
          rw [this, e1, e2]
          exact take_join t (by omega) hle hb3.2
        · have h1 : deepAt t (kidN t a i) ≤ maxTo (fun i => deepAt t (kidN t a i)) (many (nd t a).op) := le_maxTo (f := fun i => deepAt t (kidN t a i)) (by omega)
          simp only [Fo.depth]
          omega
    obtain ⟨k, o, e1, d⟩ := inner (many (nd t a).op) 0 (by omega)
    rw [List.drop_zero] at o
    refine ⟨k, ⟨rfl, ⟨(hf a hlt).1, (hf a hlt).2, hk.made⟩, o, trivial⟩, ?_, d⟩
    have h0 : kidN t a 0 = a + 1 := rfl
    have hb3 := hk.bounds (i := many (nd t a).op) (Nat.le_refl _)
    rw [e1, h0, he]
    have : t.drop a = nd t a :: t.drop (a + 1) := by
      rw [List.drop_eq_getElem_cons hlt]
      congr 1
      unfold nd
      rw [List.getElem?_eq_getElem hlt]
      rfl
    rw [this, show kidN t a (many (nd t a).op) - a = (kidN t a (many (nd t a).op) - (a + 1)) + 1 by omega, List.take_succ_cons]
theorem tree_of {t : List Nd} (h : checkE t = 0) (hk : ∀ k, k < t.length → (nd t k).ok) : ∃ f, Tree t f := by
  obtain ⟨h1, h2, h3, h4, h5, h6, h7⟩ := check_parts h
  obtain ⟨k, o, e, d⟩ := build (t := t) (fun i hi => ⟨h5 i hi, hk i hi⟩) h6 t.length 0 t.length (by omega) h4
  refine ⟨.cons (nd t 0) k .nil, ?_, ?_, ?_, h3⟩
  · rw [List.drop_zero, Nat.sub_zero, List.take_length] at e
    exact (show (Fo.cons (nd t 0) k .nil).flat = nd t 0 :: k.flat by simp [Fo.flat]).trans e
  · have : makes (nd t 0).op = 2 := by
      unfold ofS at h2
      rwa [if_pos h1] at h2
    rw [← this]; exact o
  · simp only [Fo.depth]; omega
end Go.Proofs.YtokfgdpmbmnijaaGreatDoor
/- The text of a contract: its tokens; Parse of Print. No walk. -/
namespace Go.Proofs.YtokfgdpmbmnijaaGreatDoor
open Go.RowKit

theorem isW_of {c : UInt8} (h : c.toNat ≠ 32 ∧ c.toNat ≠ 10 ∧ c.toNat ≠ 40 ∧ c.toNat ≠ 41 ∧ c.toNat ≠ 44) : isW c = true := by
  obtain ⟨h1, h2, h3, h4, h5⟩ := h
  have e1 : isGap c = false := by
    unfold isGap gapB
    simp only [Bool.or_eq_false_iff, beq_eq_false_iff_ne]
    omega
  have n : ∀ d : UInt8, c.toNat ≠ d.toNat → c ≠ d := fun d hd e => hd (by rw [e])
  have e2 : isMark c = false := by
    unfold isMark markI
    rw [if_neg (n 40 h3), if_neg (n 41 h4), if_neg (n 44 h5)]
    rfl
  unfold isW
  rw [e1, e2]
  rfl
/-- A text that is one word. -/
def WordW (s : ByteArray) : Prop := s.data.toList ≠ [] ∧ ∀ c ∈ s.data.toList, isW c = true
theorem tx_wordW {s : ByteArray} {l : List UInt8} (h : WordW s) (hl : Stop l) : tx (s.data.toList ++ l) = s :: tx l := by
  rw [tx_word h.1 h.2 hl]
theorem itoa_ne (n : Int) : Lib.itoa n ≠ [] := by
  unfold Lib.itoa
  split
  · exact List.cons_ne_nil _ _
  · exact dec_ne _
theorem wordW_itoa (n : Int) : WordW (itoaB n) := ⟨itoa_ne n, fun c hc => isW_of (by have := itoa_all n c hc; omega)⟩
theorem wordW_rat (n d : Int) : WordW (ratT n d) := by
  have e := ratT_list n d
  unfold WordW
  rw [e]
  split
  · exact wordW_itoa n
  · refine ⟨by simp, fun c hc => ?_⟩
    rcases List.mem_append.1 hc with h | h
    · exact (wordW_itoa n).2 c h
    · rcases List.mem_cons.1 h with h | h
      · rw [h]; decide
      · exact (wordW_itoa d).2 c h
theorem wordW_word {k : Nat} (h1 : 2 ≤ k) (h2 : k < 18) : WordW (wordN k) := by
  rcases (by omega : k = 2 ∨ k = 3 ∨ k = 4 ∨ k = 5 ∨ k = 6 ∨ k = 7 ∨ k = 8 ∨ k = 9 ∨ k = 10 ∨ k = 11 ∨ k = 12 ∨ k = 13 ∨ k = 14 ∨ k = 15 ∨ k = 16 ∨ k = 17) with h | h | h | h | h | h | h | h | h | h | h | h | h | h | h | h <;> (subst h; unfold WordW; decide)
theorem wordW_cur {k : Nat} (h : k < 8) : WordW (curName k) := by
  rcases (by omega : k = 0 ∨ k = 1 ∨ k = 2 ∨ k = 3 ∨ k = 4 ∨ k = 5 ∨ k = 6 ∨ k = 7) with h | h | h | h | h | h | h | h <;> (subst h; unfold WordW; decide)
theorem digB_W (n : Int) : isW (digB n) = true := isW_of (by have := digB_nat n; omega)
theorem wordW_day (n : Int) : WordW (dayT n) := by
  unfold WordW
  rw [dayT_list]
  refine ⟨List.cons_ne_nil _ _, fun c hc => ?_⟩
  simp only [List.mem_cons, List.not_mem_nil, or_false] at hc
  rcases hc with h | h | h | h | h | h | h | h | h | h <;> rw [h] <;> first | exact digB_W _ | decide
theorem list_append (a b : ByteArray) : (a ++ b).data.toList = a.data.toList ++ b.data.toList := by rw [ByteArray.data_append, Array.toList_append]
theorem stop_sp (l : List UInt8) : Stop (32 :: l) := stop_cons (by decide)
theorem tx_sp (l : List UInt8) : tx (32 :: l) = tx l := tx_gap (by decide)
/-- The tokens of a node's own text. -/
theorem tx_own {n : Nd} {l : List UInt8} (h : Fo.NodeOk n) (hl : Stop l) : tx ((ownT n).data.toList ++ l) = headTk n :: (restTk n ++ tx l) := by
  have hb := makes_bd h.2.2
  have hf := h.1
  unfold ownT headTk
  by_cases c0 : n.op = 1
  · rw [if_pos c0, if_pos c0]
    obtain ⟨e1, e2⟩ := node_one h c0
    have er : restTk n = [] := by unfold restTk; rw [if_neg (by omega), if_neg (by omega), if_neg (by omega), if_neg (by omega)]
    rw [er, ratPT_eq e2]
    exact tx_wordW (wordW_rat _ _) hl
  rw [if_neg c0, if_neg c0, list_append, List.append_assoc]
  have hw := wordW_word (k := n.op.toNat) (by omega) (by omega)
  have a0 : (n.op == 1) = false := by rw [beq_eq_false_iff_ne]; exact c0
  unfold fieldsB at hf
  rw [a0, cond_false] at hf
  unfold restT restTk
  by_cases c1 : n.op = 2 ∨ n.op = 16
  · rw [if_pos c1, if_pos c1, list_append]
    show tx ((wordN n.op.toNat).data.toList ++ (32 :: ((itoaB n.a).data.toList ++ l))) = _
    rw [tx_wordW hw (stop_sp _), tx_sp, tx_wordW (wordW_itoa _) hl]
    rfl
  rw [if_neg c1, if_neg c1]
  have a1 : (n.op == 2 || n.op == 16) = false := by
    rw [not_or] at c1
    simp only [Bool.or_eq_false_iff, beq_eq_false_iff_ne]
    exact c1
  rw [a1, cond_false] at hf
  by_cases c2 : n.op = 10
  · rw [if_pos c2, if_pos c2, list_append]
    have a2 : (n.op == 10) = true := by simpa using c2
    rw [a2, cond_true] at hf
    have hx := fits_eq hf
    show tx ((wordN n.op.toNat).data.toList ++ (32 :: ((curName n.a.toNat).data.toList ++ l))) = _
    rw [tx_wordW hw (stop_sp _), tx_sp, tx_wordW (wordW_cur (by omega)) hl]
    rfl
  rw [if_neg c2, if_neg c2]
  by_cases c3 : n.op = 14
  · rw [if_pos c3, if_pos c3, list_append]
    show tx ((wordN n.op.toNat).data.toList ++ (32 :: ((dayT n.a).data.toList ++ l))) = _
    rw [tx_wordW hw (stop_sp _), tx_sp, tx_wordW (wordW_day _) hl]
    rfl
  rw [if_neg c3, if_neg c3]
  by_cases c4 : n.op = 17
  · rw [if_pos c4, if_pos c4, list_append, list_append, list_append, List.append_assoc, List.append_assoc, List.append_assoc]
    show tx ((wordN n.op.toNat).data.toList ++ (32 :: ((itoaB n.a).data.toList ++ (32 :: ((dayT n.b).data.toList ++ l))))) = _
    rw [tx_wordW hw (stop_sp _), tx_sp, tx_wordW (wordW_itoa _) (stop_sp _), tx_sp, tx_wordW (wordW_day _) hl]
    rfl
  rw [if_neg c4, if_neg c4]
  show tx ((wordN n.op.toNat).data.toList ++ l) = _
  rw [tx_wordW hw hl]
  rfl
def sepT (i : Nat) : List UInt8 := if i = 0 then [40] else [44, 32]
/-- The text of what stands below a node, from the i-th on. -/
def kidsTx : Fo → Nat → List UInt8
  | .nil, _ => []
  | .cons n k r, i => sepT i ++ ((ownT n).data.toList ++ (kidsTx k 0 ++ (closeT (many n.op) ++ kidsTx r (i + 1))))
theorem stop_kids (f : Fo) (i : Nat) {l : List UInt8} (hl : Stop l) : Stop (kidsTx f i ++ l) := by
  cases f with
  | nil => exact hl
  | cons n k r =>
    rw [kidsTx, List.append_assoc]
    unfold sepT
    split
    · exact stop_cons (by decide)
    · exact stop_cons (by decide)
theorem stop_close (m : Nat) {l : List UInt8} (hl : Stop l) : Stop (closeT m ++ l) := by
  unfold closeT
  split
  · exact hl
  · exact stop_cons (by decide)
theorem tx_sep (i : Nat) (l : List UInt8) : tx (sepT i ++ l) = markOf i :: tx l := by
  unfold sepT markOf
  split
  · exact tx_mark (by decide) (by decide)
  · show tx (44 :: 32 :: l) = _
    rw [tx_mark (by decide) (by decide), tx_sp]
theorem tx_close (n : Nd) (l : List UInt8) : tx (closeT (many n.op) ++ l) = closeTk n ++ tx l := by
  unfold closeT closeTk
  split
  · rfl
  · exact tx_mark (by decide) (by decide)
theorem tx_kids : ∀ (f : Fo) (ks : List Int) (i : Nat) (l : List UInt8), f.Ok ks → Stop l → tx (kidsTx f i ++ l) = kidsTk f i ++ tx l := by
  intro f
  induction f with
  | nil => intro ks i l _ _; rfl
  | cons n k r ihk ihr =>
    intro ks i l ho hl
    cases ks with
    | nil => exact ho.elim
    | cons s ks =>
      rw [kidsTx, kidsTk]
      simp only [List.append_assoc, List.cons_append]
      rw [tx_sep, tx_own ho.2.1 (stop_kids k 0 (stop_close _ (stop_kids r _ hl))), ihk (kidsL n.op) 0 _ ho.2.2.1 (stop_close _ (stop_kids r _ hl)), tx_close, ihr ks (i + 1) l ho.2.2.2 hl]
/-- A term's own text and tokens. -/
def treeTx (n : Nd) (k : Fo) : List UInt8 := (ownT n).data.toList ++ (kidsTx k 0 ++ closeT (many n.op))
def treeTk (n : Nd) (k : Fo) : List ByteArray := headTk n :: (restTk n ++ (kidsTk k 0 ++ closeTk n))
theorem tx_tree {n : Nd} {k r : Fo} {ks : List Int} {l : List UInt8} (ho : (Fo.cons n k r).Ok ks) (hl : Stop l) : tx (treeTx n k ++ l) = treeTk n k ++ tx l := by
  cases ks with
  | nil => exact ho.elim
  | cons s ks =>
    unfold treeTx treeTk
    simp only [List.append_assoc, List.cons_append]
    rw [tx_own ho.2.1 (stop_kids k 0 (stop_close _ hl)), tx_kids k (kidsL n.op) 0 _ ho.2.2.1 (stop_close _ hl), tx_close]

/-! The text that 'write' writes is the tree's. -/
def joinFrom (g : Nat → List UInt8) : Nat → Nat → List UInt8
  | _, 0 => []
  | j, k + 1 => sepT j ++ (g j ++ joinFrom g (j + 1) k)
theorem joinFrom_snoc (g : Nat → List UInt8) : ∀ k j, joinFrom g j (k + 1) = joinFrom g j k ++ (sepT (j + k) ++ g (j + k))
  | 0, j => by simp [joinFrom]
  | k + 1, j => by
    rw [joinFrom, joinFrom_snoc g k (j + 1), joinFrom]
    rw [show j + 1 + k = j + (k + 1) by omega]
    simp only [List.append_assoc]
theorem joinT_from (g : Nat → List UInt8) : ∀ k, joinT g k = joinFrom g 0 k
  | 0 => rfl
  | k + 1 => by
    rw [joinFrom_snoc, ← joinT_from g k, joinT, Nat.zero_add]
    rfl
theorem joinFrom_congr {g h : Nat → List UInt8} : ∀ k j, (∀ i, j ≤ i → i < j + k → g i = h i) → joinFrom g j k = joinFrom h j k
  | 0, _, _ => rfl
  | k + 1, j, e => by rw [joinFrom, joinFrom, e j (Nat.le_refl _) (by omega), joinFrom_congr k (j + 1) (fun i h1 h2 => e i (by omega) (by omega))]
theorem join_at {L : List Nd} : ∀ (f : Fo) (ks : List Int) (b j : Nat), f.Ok ks → Fo.At L f b → joinFrom (fun i => txtAt L (b + f.pos (i - j))) j f.count = kidsTx f j := by
  intro f
  induction f with
  | nil => intro ks b j _ _; rfl
  | cons n k r ihk ihr =>
    intro ks b j ho ha
    cases ks with
    | nil => exact ho.elim
    | cons s ks =>
      simp only [Fo.count, joinFrom, kidsTx]
      have hc : k.count = many n.op := by rw [ho.2.2.1.count, kidsL_length]
      have h0 : txtAt L (b + (Fo.cons n k r).pos (j - j)) = (ownT n).data.toList ++ (kidsTx k 0 ++ closeT (many n.op)) := by
        rw [Nat.sub_self, Fo.pos_zero, Nat.add_zero, txtAt_eq (Fo.kids_ok ho ha), ha.head.1, joinT_from]
        rw [joinFrom_congr (h := fun i => txtAt L (b + 1 + k.pos (i - 0))) (many n.op) 0 (fun i _ hi => by rw [Fo.kid_at ho ha (by omega), Nat.sub_zero]), ← hc, ihk (kidsL n.op) (b + 1) 0 ho.2.2.1 ha.head.2.2.1, List.append_assoc]
      have h1 : joinFrom (fun i => txtAt L (b + (Fo.cons n k r).pos (i - j))) (j + 1) r.count = kidsTx r (j + 1) := by
        rw [← ihr ks (b + 1 + k.flat.length) (j + 1) ho.2.2.2 ha.head.2.2.2]
        refine joinFrom_congr _ _ (fun i h1 h2 => ?_)
        obtain ⟨d, rfl⟩ : ∃ d, i = j + 1 + d := ⟨i - (j + 1), by omega⟩
        rw [show j + 1 + d - j = d + 1 by omega, show j + 1 + d - (j + 1) = d by omega]
        simp only [Fo.pos]
        congr 1
        omega
      rw [h0, h1]
      simp only [List.append_assoc]
theorem Tree.cons_ {t : List Nd} {f : Fo} (h : Tree t f) : ∃ n k, f = .cons n k .nil := by
  have ho := h.ok
  cases f with
  | nil => exact ho.elim
  | cons n k r =>
    cases r with
    | nil => exact ⟨n, k, rfl⟩
    | cons _ _ _ => exact ho.2.2.2.elim
theorem Tree.text {t : List Nd} {n : Nd} {k : Fo} (h : Tree t (.cons n k .nil)) : (printT t).data.toList = treeTx n k := by
  have ha : Fo.At t (.cons n k .nil) 0 := ⟨[], [], by rw [h.flat]; simp, rfl⟩
  unfold printT
  rw [if_pos h.check]
  show txtAt t 0 = _
  rw [txtAt_eq (Fo.kids_ok h.ok ha), ha.head.1, joinT_from]
  have hc : k.count = many n.op := by rw [h.ok.2.2.1.count, kidsL_length]
  rw [joinFrom_congr (h := fun i => txtAt t (0 + 1 + k.pos (i - 0))) (many n.op) 0 (fun i _ hi => by rw [Fo.kid_at h.ok ha (by omega), Nat.sub_zero]), ← hc, join_at k (kidsL n.op) (0 + 1) 0 h.ok.2.2.1 ha.head.2.2.1, hc, List.append_assoc]
  rfl
theorem Tree.size {t : List Nd} {f : Fo} (h : Tree t f) : (printT t).size ≤ 3200 := by
  obtain ⟨n, k, rfl⟩ := h.cons_
  have ha : Fo.At t (.cons n k .nil) 0 := ⟨[], [], by rw [h.flat]; simp, rfl⟩
  have he := Fo.one_end h.ok ha
  have := txtAt_len h.nodes t.length 0 _ (by omega) he
  have hle := endAt_le he
  have hf := h.few
  unfold printT
  rw [if_pos h.check]
  show (txtAt t 0).toArray.size ≤ 3200
  rw [List.size_toArray]
  omega
theorem term_reads (sz : Int) {n : Nd} {k : Fo} {so : Int} {m : Nat} {a : PS} {t : List Nd} {l : List ByteArray} (ho : (Fo.cons n k .nil).Ok [so]) (hd : k.depth + 2 ≤ m) (he : a.e = 0) (ht : tkT a = treeTk n k ++ l) (hl : (t ++ (n :: k.flat)).length ≤ 64) :
    ∃ a2, termP sz m so (a, t) = (a2, t ++ (n :: k.flat)) ∧ a2.e = 0 ∧ tkT a2 = l := by
  obtain ⟨o1, o2, o3, _⟩ := ho
  obtain ⟨m, rfl⟩ : ∃ m', m = m' + 1 := ⟨m - 1, by omega⟩
  unfold treeTk at ht
  simp only [List.cons_append, List.append_assoc] at ht
  simp only [List.length_append, List.length_cons] at hl
  obtain ⟨y1, y2, y3⟩ := next_read (sz := sz) ht
  obtain ⟨w1, w2⟩ := head_read o2
  have hh : headP sz so m t.length a = nextP sz a := by
    unfold headP
    rw [y1, w1, w2, base_op, o1]
    have e1 : (decide (64 ≤ t.length) || decide (m = 0)) = false := by simp; omega
    have e2 : (!true || so != so) = false := by simp
    rw [e1, e2, wrong_no, wrong_no]
  have y3' := y3.trans he
  obtain ⟨z1, z2, z3⟩ := behind_read (sz := sz) o2 y3' y2
  obtain ⟨a1, e1, e2, e3⟩ := kids_reads sz k (kidsL n.op) 0 m (behindP sz (baseN n) (nextP sz a)).2 (t ++ [n]) _ o3 (by omega) z2 z3 (by simp only [List.length_append, List.length_cons, List.length_nil]; omega)
  have e4 : t ++ [n] ++ k.flat = t ++ n :: k.flat := by simp
  rw [termP]
  simp only
  rw [hh, if_pos y3', y1, w1]
  unfold bodyP
  simp only
  rw [base_op, z1, e1, e4]
  unfold closeTk at e3
  split
  · rename_i hm0
    rw [if_pos hm0] at e3
    exact ⟨a1, rfl, e2, e3⟩
  · rename_i hm0
    rw [if_neg hm0] at e3
    obtain ⟨q1, q2⟩ := mark_read (sz := sz) e2 e3
    exact ⟨_, rfl, q1, q2⟩
/-- A text whose tokens are those of a contract is parsed as it. -/
theorem parse_tree {t : List Nd} {n : Nd} {k : Fo} {s : ByteArray} (h : Tree t (.cons n k .nil)) (hs : tx s.data.toList = treeTk n k) : parseF s = (t, 0, 0) := by
  have hd := h.depth
  simp only [Fo.depth] at hd
  have hf : n :: k.flat = t := by rw [← h.flat]; simp [Fo.flat]
  obtain ⟨a, e1, e2, e3⟩ := term_reads s.size (m := 13) (a := stOf s) (t := []) (l := []) h.ok (by omega) rfl (by unfold tkT; rw [stOf_tx, hs, List.append_nil]) (by rw [List.nil_append, hf]; exact h.few)
  unfold parseF
  rw [e1, List.nil_append, hf]
  exact parse_good (X := (a, t)) e2 (by unfold tkT at e3; exact List.map_eq_nil_iff.1 e3)
/-- Parse of Print is the contract. -/
theorem parse_print {t : List Nd} (h : checkE t = 0) (hk : ∀ k, k < t.length → (nd t k).ok) : parseF (printT t) = (t, 0, 0) := by
  obtain ⟨f, hf⟩ := tree_of h hk
  obtain ⟨n, k, rfl⟩ := hf.cons_
  refine parse_tree hf ?_
  have := tx_tree (l := []) hf.ok stop_nil
  rw [List.append_nil, tx_nil, List.append_nil] at this
  rw [hf.text, this]
/-- What is parsed is a contract. -/
theorem parse_ok {s : ByteArray} {t : List Nd} {at_ : Int} (h : parseF s = (t, at_, 0)) : at_ = 0 ∧ ∃ f, Tree t f := by
  unfold parseF outP at h
  simp only at h
  split at h
  · rename_i h0
    have hz : (termP s.size 13 2 (stOf s, [])).1.e = 0 := by
      unfold endP at h0
      split at h0
      · rename_i h1; exact h1.1
      · exact h0
    obtain ⟨f, o, d, e, l⟩ := term_makes s.size 13 2 (stOf s) [] (by omega) hz (Nat.zero_le _)
    injection h with h1 h2
    injection h2 with h2 _
    rw [List.nil_append] at e l
    exact ⟨h2.symm, f, by rw [← h1, e], o, d, by rw [← h1, e]; exact l⟩
  · rename_i h0
    injection h with _ h2
    injection h2 with _ h2
    exact absurd h2 h0
end Go.Proofs.YtokfgdpmbmnijaaGreatDoor
/- Where a text is wrong. No walk. -/
namespace Go.Proofs.YtokfgdpmbmnijaaGreatDoor
open Go.RowKit

theorem lexF_pos : ∀ f off (l : List UInt8), ∀ u ∈ lexF f off l, off ≤ u.1 ∧ u.1 < off + l.length
  | 0, _, _, u, h => by cases h
  | _ + 1, _, [], u, h => by cases h
  | f + 1, off, c :: l, u, h => by
    rw [lexF] at h
    simp only [List.length_cons]
    have hw := while_len l
    split at h
    · have := lexF_pos f (off + 1) l u h; omega
    · split at h
      · rcases List.mem_cons.1 h with h1 | h1
        · rw [h1]; dsimp only; omega
        · have := lexF_pos f (off + 1) l u h1; omega
      · rcases List.mem_cons.1 h with h1 | h1
        · rw [h1]; dsimp only; omega
        · have := lexF_pos f _ _ u h1
          have e : (l.takeWhile isW).length + (l.dropWhile isW).length = l.length := by rw [← List.length_append, List.takeWhile_append_dropWhile]
          omega
/-- A state whose error may be, and whose place is in the text. -/
structure PlaceOk (sz : Int) (st : PS) : Prop where
  err : st.e = 0 ∨ st.e = 13 ∨ st.e = 10 ∨ st.e = 15
  lo : 0 ≤ st.last
  hi : st.last ≤ sz
  toks : ∀ u ∈ st.tk, (u.1 : Int) ≤ sz
theorem place_wrong {sz : Int} {b : Bool} {er : Int} {st : PS} (he : er = 13 ∨ er = 10 ∨ er = 15) (h : PlaceOk sz st) : PlaceOk sz (wrongP b er st) := by
  unfold wrongP
  split
  · exact ⟨by dsimp only; omega, h.lo, h.hi, h.toks⟩
  · exact h
theorem place_next {sz : Int} {st : PS} (hs : 0 ≤ sz) (h : PlaceOk sz st) : PlaceOk sz (nextP sz st) := by
  unfold nextP
  split
  · exact place_wrong (.inl rfl) ⟨h.err, hs, Int.le_refl _, h.toks⟩
  · rename_i u r hu
    have h1 := h.toks u (by rw [hu]; exact List.mem_cons_self)
    exact ⟨h.err, by dsimp only; omega, h1, fun v hv => h.toks v (by rw [hu]; exact List.mem_cons_of_mem _ hv)⟩
theorem place_keeps {sz : Int} (hs : 0 ≤ sz) : Keeps sz (PlaceOk sz) := ⟨fun _ h _ => place_next hs h, fun _ _ _ he h => place_wrong he h⟩
theorem place_start (s : ByteArray) : PlaceOk s.size (stOf s) :=
  ⟨.inl rfl, Int.le_refl _, Int.natCast_nonneg _, fun u hu => by
    rw [stOf_lex] at hu
    have := (lexF_pos s.size 0 s.data.toList u hu).2
    have e : s.data.toList.length = s.size := rfl
    omega⟩
theorem place_end (s : ByteArray) : PlaceOk s.size (endP s.size (termP s.size 13 2 (stOf s, [])).1) := by
  have h := (place_keeps (Int.natCast_nonneg s.size)).term 13 2 (stOf s, []) rfl (place_start s)
  unfold endP
  split
  · exact place_wrong (.inl rfl) (place_next (Int.natCast_nonneg _) h)
  · exact h
/-- What is wrong with a text, and where. -/
theorem parse_err {s : ByteArray} (h : (parseF s).2.2 ≠ 0) : (parseF s).1 = [] ∧ 0 ≤ (parseF s).2.1 ∧ (parseF s).2.1 ≤ s.size ∧ ((parseF s).2.2 = 13 ∨ (parseF s).2.2 = 10 ∨ (parseF s).2.2 = 15) := by
  have hp := place_end s
  unfold parseF outP at h ⊢
  simp only at h ⊢
  split at h
  · exact absurd rfl h
  · rename_i h0
    rw [if_neg h0]
    refine ⟨rfl, hp.lo, hp.hi, ?_⟩
    rcases hp.err with e | e
    · exact absurd e h0
    · exact e
theorem parse_len (s : ByteArray) : (parseF s).1.length ≤ 64 := by
  cases h : decide ((parseF s).2.2 = 0) with
  | true =>
    have h := of_decide_eq_true h
    obtain ⟨_, f, hf⟩ := parse_ok (s := s) (t := (parseF s).1) (at_ := (parseF s).2.1) (by rw [← h])
    exact hf.few
  | false =>
    have h := of_decide_eq_false h
    rw [(parse_err h).1]
    exact Nat.zero_le _
end Go.Proofs.YtokfgdpmbmnijaaGreatDoor
