/- The reader of parse and its laws, part Rg: contracts by hand. -/
import Derived.Test.YtcgkmomhjincgaaDoorLib0
import Derived.Test.YtcgkmomhjincgaaDoorRd
import Derived.Test.YtcgkmomhjincgaaDoorRf
namespace Go.Proofs.YtcgkmomhjincgaaDoor.Lib.Scr
open Go.RowKit Go.Proofs.YtcgkmomhjincgaaDoor.Lib Go.Proofs.YtcgkmomhjincgaaDoorW.PrintWords Go.Proofs.YtcgkmomhjincgaaDoorW.PrintLast Go.Proofs.YtcgkmomhjincgaaDoorW.PrintMore
set_option linter.unusedVariables false
set_option linter.unusedSimpArgs false
attribute [local go_sem] max2_int min2_int max_two min_two max_three min_three max_four min_four
/-! ### ParseParts: the plain law -/
theorem ba_eq {a b : ByteArray} (h : a.data.toList = b.data.toList) : a = b := ByteArray.ext (Array.toList_inj.1 h)
theorem ext_list (a : ByteArray) (i j : Nat) : (a.extract i j).data.toList = (a.data.toList.drop i).take (j - i) := by
  rw [ByteArray.data_extract, Array.toList_extract, List.extract_eq_take_drop]
theorem byteAt_list (s : ByteArray) (i : Nat) : byteAt s i = (bytesOf s).getD i 0 := by
  unfold byteAt
  rw [← rd_bytesOf]
  simp [rd]
/-- t is s behind p bytes, with one byte behind it: a blank or a bracket. -/
structure Emb (p : Nat) (s t : ByteArray) : Prop where
  list : ∃ (P : List UInt8) (c : UInt8), P.length = p ∧ t.data.toList = P ++ (s.data.toList ++ [c]) ∧ (c = 32 ∨ c = 41)
  sz : s.size ≤ 1000
  pz : p ≤ 1000
theorem Emb.size {p : Nat} {s t : ByteArray} (h : Emb p s t) : t.size = p + s.size + 1 := by
  obtain ⟨P, c, rfl, h, _⟩ := h.list
  have := congrArg List.length h
  rw [data_length] at this
  simp only [List.length_append, data_length, List.length_cons, List.length_nil] at this
  omega
theorem Emb.byte {p : Nat} {s t : ByteArray} (h : Emb p s t) (i : Nat) (hi : i < s.size) : byteAt t (p + i) = byteAt s i := by
  obtain ⟨P, c, rfl, h, _⟩ := h.list
  rw [byteAt_list, byteAt_list]
  unfold bytesOf
  rw [h, List.map_append, List.map_append]
  have hl : i < (s.data.toList.map fun b => ((b.toNat : Nat) : Int)).length := by rw [List.length_map, data_length]; exact hi
  rw [List.getD_eq_getElem?_getD, List.getD_eq_getElem?_getD, List.getElem?_append_right (by simp), List.getElem?_append_left (by rw [List.length_map]; simpa using hl)]
  simp
theorem Emb.last {p : Nat} {s t : ByteArray} (h : Emb p s t) : byteAt t (p + s.size) = 32 ∨ byteAt t (p + s.size) = 41 := by
  obtain ⟨P, c, rfl, h, hc⟩ := h.list
  rw [byteAt_list]
  unfold bytesOf
  rw [h, List.map_append, List.map_append, List.getD_eq_getElem?_getD, List.getElem?_append_right (by simp), List.getElem?_append_right (by simp [data_length])]
  simp only [List.length_map, data_length, Nat.add_sub_cancel_left, Nat.sub_self, List.map_cons, List.map_nil, List.getElem?_cons_zero, Option.getD_some]
  rcases hc with rfl | rfl
  · exact .inl rfl
  · exact .inr rfl
theorem Emb.ext {p : Nat} {s t : ByteArray} (h : Emb p s t) (i j : Nat) (hj : j ≤ s.size) : t.extract (p + i) (p + j) = s.extract i j := by
  obtain ⟨P, c, rfl, h, _⟩ := h.list
  refine ba_eq ?_
  rw [ext_list, ext_list, h]
  rw [show P.length + j - (P.length + i) = j - i by omega, List.drop_append, List.drop_eq_nil_of_le (by omega), List.nil_append, show P.length + i - P.length = i by omega]
  by_cases c1 : i ≤ s.size
  · rw [List.drop_append_of_le_length (by rw [data_length]; exact c1), List.take_append_of_le_length (by rw [List.length_drop, data_length]; omega)]
  · rw [show j - i = 0 by omega]; rfl
theorem Emb.tail {p : Nat} {s t : ByteArray} (h : Emb p s t) (i : Nat) (hi : i ≤ s.size) : ∃ c : UInt8, (c = 32 ∨ c = 41) ∧ (t.extract (p + i) t.size).data.toList = (s.extract i s.size).data.toList ++ [c] := by
  have hz := h.size
  obtain ⟨P, c, rfl, h, hc⟩ := h.list
  refine ⟨c, hc, ?_⟩
  rw [ext_list, ext_list, h, List.drop_append, List.drop_eq_nil_of_le (by omega), List.nil_append, show P.length + i - P.length = i by omega]
  rw [List.drop_append_of_le_length (by rw [data_length]; exact hi)]
  rw [List.take_of_length_le (by simp only [List.length_append, List.length_drop, data_length, List.length_cons, List.length_nil]; omega)]
  rw [List.take_of_length_le (by simp only [List.length_drop, data_length]; omega)]
theorem nextGo_bad (c : Int) (hc : ¬ Go.bits .and .u8 c 192 = 128) : ∀ (l : List Int) (r : Int), nextGo (l ++ [c]) r = none
  | [], r => by rw [List.nil_append, nextGo, if_neg hc]
  | a :: t, r => by
    rw [List.cons_append, nextGo]
    split
    · exact nextGo_bad c hc t _
    · rfl
theorem bytesOf_list (a b : ByteArray) (c : UInt8) (h : a.data.toList = b.data.toList ++ [c]) : bytesOf a = bytesOf b ++ [((c.toNat : Nat) : Int)] := by
  unfold bytesOf
  rw [h, List.map_append]; rfl
theorem Emb.next {p : Nat} {s t : ByteArray} (h : Emb p s t) (i : Nat) (hi : i < s.size) : utf_Next.f t ((p + i : Nat) : Int) = utf_Next.f s (i : Int) := by
  have hz := h.size
  have h1 := h.sz
  have h2 := h.pz
  have hb : bt t ((p + i : Nat) : Int) = bt s (i : Int) := h.byte i hi
  unfold utf_Next.f
  rw [if_pos (by omega), if_neg (by omega), if_neg (by omega), if_pos (by omega), if_neg (by omega), if_neg (by omega), hb]
  obtain ⟨a, b, l, hf, h0, h4⟩ := first_total (bt s (i : Int)) (bt_range s i).1
  rw [hf]
  simp only [Option.bind_some]
  by_cases c1 : a = 0
  · rw [if_pos c1, if_pos c1]
  · rw [if_neg c1, if_neg c1]
    have e1 : (((p + i : Nat) : Int) + 1).toNat = p + (i + 1) := by omega
    have e2 : (((p + i : Nat) : Int) + a).toNat = p + (i + a.toNat) := by omega
    have e3 : ((i : Int) + 1).toNat = i + 1 := by omega
    have e4 : ((i : Int) + a).toNat = i + a.toNat := by omega
    by_cases c2 : a > (s.size : Int) - (i : Int)
    · rw [if_pos c2]
      by_cases c3 : a > (t.size : Int) - ((p + i : Nat) : Int)
      · rw [if_pos c3]
      · rw [if_neg c3, if_pos (by omega), e1, e2, show p + (i + a.toNat) = t.size by omega]
        obtain ⟨c, hc, ht⟩ := h.tail (i + 1) (by omega)
        rw [bytesOf_list _ _ c ht, nextGo_bad _ (by rcases hc with rfl | rfl <;> decide)]
        rfl
    · rw [if_neg c2, if_neg (by omega), e1, e2, e3, e4, h.ext (i + 1) (i + a.toNat) (by omega)]
theorem next_low (t : ByteArray) (i : Nat) (ht : t.size ≤ 100000) (hi : i < t.size) (h0 : byteAt t i < 128) : utf_Next.f t (i : Int) = some (byteAt t i, 1) := by
  have hr := (bt_range t i).1
  have e : byteAt t i = bt t (i : Int) := rfl
  rw [e] at h0 ⊢
  unfold utf_Next.f
  rw [if_pos (by omega), if_neg (by omega), if_neg (by omega)]
  unfold utf_first.f
  rw [if_pos h0]
  simp only [Option.bind_some]
  rw [if_neg (by omega), if_neg (by omega), if_pos (by omega), show ((i : Int) + 1).toNat = i + 1 by omega, w64 _ (by omega) (by omega)]
  have e0 : bytesOf (t.extract (i + 1) (i + 1)) = [] := List.eq_nil_of_length_eq_zero (by rw [bytesOf_length]; simp)
  rw [e0, nextGo, nextEnd, if_neg (by omega)]
  unfold utf_Sign.f
  rw [if_pos (by omega), if_pos (by omega), if_pos (by omega)]
  rfl
theorem Emb.end_ {p : Nat} {s t : ByteArray} (h : Emb p s t) : utf_Next.f t ((p + s.size : Nat) : Int) = some (byteAt t (p + s.size), 1) := by
  have hz := h.size
  have h1 := h.sz
  have h2 := h.pz
  exact next_low t _ (by omega) (by omega) (by rcases h.last with e | e <;> omega)
theorem Emb.valid_from {p : Nat} {s t : ByteArray} (h : Emb p s t) : ∀ k i k' v, i ≤ s.size → utf_Valid.l0 k s (i : Int) = some true → utf_Valid.l0 k' t ((p + i : Nat) : Int) = some v → v = true := by
  have hz := h.size
  have h1 := h.sz
  have h2 := h.pz
  intro k
  induction k with
  | zero => intro i k' v _ hs; simp [utf_Valid.l0] at hs
  | succ k ih =>
    intro i k' v hi hs ht
    cases k' with
    | zero => simp [utf_Valid.l0] at ht
    | succ k' =>
      unfold utf_Valid.l0 at hs ht
      by_cases c : i < s.size
      · rw [if_pos (by omega)] at hs ht
        rw [h.next i c] at ht
        obtain ⟨x, n, hn, h3, h4, _⟩ := next_total s i (by omega) c
        rw [hn] at hs ht
        simp only [Option.bind_some] at hs ht
        by_cases c2 : x < 0
        · rw [if_pos c2] at hs; cases hs
        · rw [if_neg c2] at hs ht
          rw [w64 _ (by omega) (by omega)] at hs ht
          refine ih (i + n) k' v h4 (by rw [show ((i + n : Nat) : Int) = (i : Int) + n by omega]; exact hs) ?_
          rw [show ((p + (i + n) : Nat) : Int) = ((p + i : Nat) : Int) + n by omega]
          exact ht
      · obtain rfl : i = s.size := by omega
        rw [if_pos (by omega), h.end_] at ht
        simp only [Option.bind_some] at ht
        rw [if_neg (by rcases h.last with e | e <;> omega), w64 _ (by omega) (by omega)] at ht
        cases k' with
        | zero => simp [utf_Valid.l0] at ht
        | succ k' =>
          unfold utf_Valid.l0 at ht
          rw [if_neg (by omega)] at ht
          exact (Option.some.inj ht).symm
theorem Emb.valid_pre {p : Nat} {s t : ByteArray} (h : Emb p s t) (hp : ∀ i, i < p → byteAt t i < 128) (k : Nat) (hs : utf_Valid.f k s = some true) : ∀ m k' v, m ≤ p → utf_Valid.l0 k' t ((p - m : Nat) : Int) = some v → v = true := by
  have hz := h.size
  have h1 := h.sz
  have h2 := h.pz
  intro m
  induction m with
  | zero => intro k' v _ ht; exact h.valid_from k 0 k' v (by omega) hs (by simpa using ht)
  | succ m ih =>
    intro k' v hm ht
    cases k' with
    | zero => simp [utf_Valid.l0] at ht
    | succ k' =>
      unfold utf_Valid.l0 at ht
      have := (bt_range t ((p - (m + 1) : Nat) : Int)).1
      have e : byteAt t (p - (m + 1)) = bt t ((p - (m + 1) : Nat) : Int) := rfl
      rw [if_pos (by omega), next_low t _ (by omega) (by omega) (hp _ (by omega))] at ht
      simp only [Option.bind_some] at ht
      rw [if_neg (by omega), w64 _ (by omega) (by omega), show ((p - (m + 1) : Nat) : Int) + 1 = ((p - m : Nat) : Int) by omega] at ht
      exact ih k' v (by omega) ht
theorem det {α : Type} {f : Nat → Option α} (hm : ∀ k, LeO (f k) (f (k + 1))) {k k' : Nat} {a b : α} (h : f k = some a) (h' : f k' = some b) : b = a := by
  rcases Nat.le_total k k' with c | c
  · obtain ⟨j, rfl⟩ := Nat.exists_eq_add_of_le c
    have := more_rounds hm k j a h
    rw [this] at h'
    exact (Option.some.inj h').symm
  · obtain ⟨j, rfl⟩ := Nat.exists_eq_add_of_le c
    have := more_rounds hm k' j b h'
    rw [this] at h
    exact Option.some.inj h
theorem no_word (k : Nat) (c : Int) (hc : c = 32 ∨ c = 41) (b : Bool) (h : fold_Word.f k c = some b) : b = false := by
  have e : fold_Word.f k c = some false := by
    rcases hc with rfl | rfl
    · unfold fold_Word.f fold_Letter.f
      rw [if_pos (by decide), if_neg (by decide)]
      rfl
    · unfold fold_Word.f fold_Letter.f
      rw [if_pos (by decide), if_neg (by decide)]
      rfl
  rw [e] at h
  exact (Option.some.inj h).symm
theorem Emb.word {p : Nat} {s t : ByteArray} (h : Emb p s t) : ∀ k i j k' j', i ≤ s.size → wordGo k s i = some j → wordGo k' t (p + i) = some j' → j' = p + j := by
  have hz := h.size
  have h1 := h.sz
  have h2 := h.pz
  intro k
  induction k with
  | zero => intro i j k' j' _ hs; simp [wordGo] at hs
  | succ k ih =>
    intro i j k' j' hi hs ht
    cases k' with
    | zero => simp [wordGo] at ht
    | succ k' =>
      unfold wordGo at hs ht
      by_cases c : i < s.size
      · rw [h.next i c] at ht
        obtain ⟨x, n, hn, h3, h4, _⟩ := next_total s i (by omega) c
        rw [hn] at hs ht
        simp only [Option.bind_some, Int.toNat_natCast] at hs ht
        by_cases c2 : x < 0
        · rw [if_pos c2] at hs ht
          cases hs; cases ht; rfl
        · rw [if_neg c2] at hs ht
          obtain ⟨b, hb, hs⟩ := Option.bind_eq_some_iff.1 hs
          obtain ⟨b', hb', ht⟩ := Option.bind_eq_some_iff.1 ht
          obtain rfl := det (fold_Word.mono x) hb hb'
          cases b' with
          | false =>
            rw [if_neg (by simp)] at hs ht
            cases hs; cases ht; rfl
          | true =>
            rw [if_pos rfl, if_pos ⟨by omega, by omega⟩] at hs ht
            exact ih (i + n) j k' j' h4 hs (by rw [← Nat.add_assoc]; exact ht)
      · obtain rfl : i = s.size := by omega
        rw [next_end s _ (by omega) (by omega)] at hs
        rw [h.end_] at ht
        simp only [Option.bind_some] at hs ht
        rw [if_pos (by omega)] at hs
        rw [if_neg (by rcases h.last with e | e <;> omega)] at ht
        obtain ⟨b, hb, ht⟩ := Option.bind_eq_some_iff.1 ht
        obtain rfl := no_word _ _ h.last _ hb
        rw [if_neg (by simp)] at ht
        cases hs; cases ht; rfl

def opens (c : Int) : Nat := if c = 40 ∨ c = 45 ∨ c = 58 then 1 else 0
/-- How many of the first bytes may make a reading nest. -/
def cntN (s : ByteArray) : Nat → Nat
  | 0 => 0
  | i + 1 => cntN s i + opens (byteAt s i)
theorem cntN_add (s : ByteArray) (i : Nat) : ∀ j, cntN s i ≤ cntN s (i + j)
  | 0 => Nat.le_refl _
  | j + 1 => Nat.le_trans (cntN_add s i j) (by rw [← Nat.add_assoc, cntN]; omega)
theorem cntN_le (s : ByteArray) {i j : Nat} (h : i ≤ j) : cntN s i ≤ cntN s j := by
  obtain ⟨m, rfl⟩ := Nat.exists_eq_add_of_le h
  exact cntN_add s i m
/-- Two readings, of s and of t, at the same place. -/
structure Rl (d p : Nat) (s t : ByteArray) (st τ : PSt) : Prop where
  e1 : st.err = 0
  e2 : τ.err = 0
  dp : τ.deep = st.deep + d
  cn : st.deep ≤ cntN s st.at_
  le : st.at_ ≤ s.size
  ge : p + st.at_ ≤ τ.at_
  le2 : τ.at_ ≤ t.size
  eq : st.at_ < s.size → τ.at_ = p + st.at_
  stop : byteAt t (p + s.size) = 41 → τ.at_ ≤ p + s.size
theorem skipGo_end (t : ByteArray) : ∀ n i, t.size ≤ i → skipGo t n i = i
  | 0, i, _ => rfl
  | n + 1, i, h => by rw [skipGo, if_neg (by omega)]
theorem Emb.skip_end {p : Nat} {s t : ByteArray} (h : Emb p s t) (n : Nat) (hn : 1 ≤ n) : (byteAt t (p + s.size) = 32 ∧ skipGo t n (p + s.size) = t.size) ∨ (byteAt t (p + s.size) = 41 ∧ skipGo t n (p + s.size) = p + s.size) := by
  have hz := h.size
  obtain ⟨n, rfl⟩ : ∃ j, n = j + 1 := ⟨n - 1, by omega⟩
  rw [skipGo]
  rcases h.last with e | e
  · rw [if_pos ⟨by omega, e⟩, skipGo_end t n _ (by omega)]
    exact .inl ⟨e, by omega⟩
  · rw [if_neg (by omega)]
    exact .inr ⟨e, rfl⟩
theorem Emb.skip {p : Nat} {s t : ByteArray} (h : Emb p s t) : ∀ n n' i, i ≤ s.size → s.size - i ≤ n → t.size - (p + i) ≤ n' →
    (skipGo s n i < s.size ∧ skipGo t n' (p + i) = p + skipGo s n i) ∨ (skipGo s n i = s.size ∧ ((byteAt t (p + s.size) = 32 ∧ skipGo t n' (p + i) = t.size) ∨ (byteAt t (p + s.size) = 41 ∧ skipGo t n' (p + i) = p + s.size))) := by
  have hz := h.size
  intro n
  induction n with
  | zero =>
    intro n' i hi hn hn'
    obtain rfl : i = s.size := by omega
    exact .inr ⟨rfl, h.skip_end n' (by omega)⟩
  | succ n ih =>
    intro n' i hi hn hn'
    by_cases c : i < s.size
    · obtain ⟨n', rfl⟩ : ∃ j, n' = j + 1 := ⟨n' - 1, by omega⟩
      rw [skipGo, skipGo, h.byte i c]
      by_cases c2 : byteAt s i = 32
      · rw [if_pos ⟨c, c2⟩, if_pos ⟨by omega, c2⟩]
        exact ih n' (i + 1) (by omega) (by omega) (by omega)
      · rw [if_neg (by omega), if_neg (by omega)]
        exact .inl ⟨c, rfl⟩
    · obtain rfl : i = s.size := by omega
      rw [skipGo_end s (n + 1) _ (Nat.le_refl _)]
      exact .inr ⟨rfl, h.skip_end n' (by omega)⟩
/-- What two readings see next. -/
def PR (d p : Nat) (s t : ByteArray) (a b : Int × PSt) : Prop :=
  Rl d p s t a.2 b.2 ∧ ((a.2.at_ < s.size ∧ b.1 = a.1 ∧ a.1 = byteAt s a.2.at_) ∨ (a.2.at_ = s.size ∧ a.1 = -1 ∧ ((byteAt t (p + s.size) = 32 ∧ b.1 = -1) ∨ (byteAt t (p + s.size) = 41 ∧ b.1 = 41))))
theorem Rl.peek {d p : Nat} {s t : ByteArray} {st τ : PSt} (E : Emb p s t) (h : Rl d p s t st τ) : PR d p s t (peekF s st) (peekF t τ) := by
  have hz := E.size
  have hge := skipB_ge s (s.size - st.at_) st.at_
  have key : (skipB s st.at_ < s.size ∧ skipB t τ.at_ = p + skipB s st.at_) ∨ (skipB s st.at_ = s.size ∧ ((byteAt t (p + s.size) = 32 ∧ skipB t τ.at_ = t.size) ∨ (byteAt t (p + s.size) = 41 ∧ skipB t τ.at_ = p + s.size))) := by
    unfold skipB
    by_cases c : τ.at_ = p + st.at_
    · rw [c]
      exact E.skip _ _ _ h.le (Nat.le_refl _) (by omega)
    · have h1 := h.ge
      have h2 := h.le2
      have h3 : st.at_ = s.size := by
        have := h.le
        have := h.eq
        omega
      refine .inr ⟨by rw [skipGo_end s _ _ (by omega), h3], ?_⟩
      rcases E.last with e | e
      · refine .inl ⟨e, ?_⟩
        rw [skipGo_end t _ _ (by omega)]; omega
      · have := h.stop e
        omega
  have hge' : st.at_ ≤ skipB s st.at_ := hge
  unfold peekF
  rcases key with ⟨k1, k2⟩ | ⟨k1, k2⟩
  · rw [if_pos k1, if_pos (by omega), k2]
    refine ⟨⟨h.e1, h.e2, h.dp, ?_, ?_, ?_, ?_, ?_, ?_⟩, .inl ⟨k1, E.byte _ k1, rfl⟩⟩
    · exact Nat.le_trans h.cn (cntN_le s hge')
    · simp only; omega
    · simp only; omega
    · simp only; omega
    · simp only; intro _; trivial
    · simp only; intro _; omega
  · rw [if_neg (by omega), k1]
    have hcn : st.deep ≤ cntN s s.size := Nat.le_trans h.cn (cntN_le s h.le)
    rcases k2 with ⟨k2, k3⟩ | ⟨k2, k3⟩
    · rw [k3, if_neg (by omega)]
      refine ⟨⟨h.e1, h.e2, h.dp, hcn, ?_, ?_, ?_, ?_, ?_⟩, .inr ⟨rfl, rfl, .inl ⟨k2, rfl⟩⟩⟩
      · simp only; omega
      · simp only; omega
      · simp only; omega
      · simp only; intro _; omega
      · simp only; intro _; omega
    · rw [k3, if_pos (by omega)]
      refine ⟨⟨h.e1, h.e2, h.dp, hcn, ?_, ?_, ?_, ?_, ?_⟩, .inr ⟨rfl, rfl, .inr ⟨k2, k2⟩⟩⟩
      · simp only; omega
      · simp only; omega
      · simp only; omega
      · simp only; intro _; omega
      · simp only; intro _; omega
theorem Rl.to {d p : Nat} {s t : ByteArray} {st τ : PSt} (E : Emb p s t) (h : Rl d p s t st τ) (j : Nat) (h1 : st.at_ ≤ j) (h2 : j ≤ s.size) : Rl d p s t { st with at_ := j } { τ with at_ := p + j } := by
  have hz := E.size
  refine ⟨h.e1, h.e2, h.dp, Nat.le_trans h.cn (cntN_le s h1), h2, ?_, ?_, ?_, ?_⟩
  · simp only; omega
  · simp only; omega
  · simp only; intro _; trivial
  · simp only; intro _; omega
theorem Rl.bump {d p : Nat} {s t : ByteArray} {st τ : PSt} (E : Emb p s t) (h : Rl d p s t st τ) (hl : st.at_ < s.size) : Rl d p s t (bump st) (bump τ) := by
  have e : Scr.bump τ = { τ with at_ := p + (st.at_ + 1) } := by
    unfold Scr.bump
    rw [h.eq hl, Nat.add_assoc]
  rw [e]
  exact h.to E (st.at_ + 1) (by omega) (by omega)
theorem Rl.take {d p : Nat} {s t : ByteArray} {st τ : PSt} (E : Emb p s t) (h : Rl d p s t st τ) (c : Int) (h32 : c ≠ 32) (h41 : c ≠ 41) :
    ((takeF s st c).1 = true ∧ (takeF t τ c).1 = true ∧ Rl d p s t (takeF s st c).2 (takeF t τ c).2 ∧ (takeF s st c).2.deep + opens c ≤ cntN s (takeF s st c).2.at_) ∨ ((takeF s st c).1 = false ∧ (takeF t τ c).1 = false ∧ (takeF s st c).2 = st ∧ (takeF t τ c).2 = τ) := by
  have hz := E.size
  unfold takeF
  by_cases cl : st.at_ < s.size
  · have hb : byteAt t τ.at_ = byteAt s st.at_ := by rw [h.eq cl]; exact E.byte _ cl
    have hq := h.eq cl
    by_cases cb : byteAt s st.at_ = c
    · rw [if_pos ⟨cl, cb⟩, if_pos ⟨by omega, by rw [hb]; exact cb⟩]
      refine .inl ⟨rfl, rfl, h.bump E cl, ?_⟩
      simp only [cntN, cb]
      have := h.cn
      omega
    · rw [if_neg (by omega), if_neg (by rw [hb]; omega)]
      exact .inr ⟨rfl, rfl, rfl, rfl⟩
  · rw [if_neg (by omega)]
    have hn : ¬ (τ.at_ < t.size ∧ byteAt t τ.at_ = c) := by
      rintro ⟨n1, n2⟩
      have := h.ge
      have := h.le
      obtain e : τ.at_ = p + s.size := by omega
      rw [e] at n2
      rcases E.last with e | e <;> omega
    rw [if_neg hn]
    exact .inr ⟨rfl, rfl, rfl, rfl⟩
theorem fail_err (s : ByteArray) (st : PSt) (e : Int) (he : e ≠ 0) : (failF s st e).err ≠ 0 := by
  unfold failF
  split
  · exact he
  · assumption
theorem take_err (s : ByteArray) (st : PSt) (c : Int) : (takeF s st c).2.err = st.err := by
  unfold takeF
  split <;> rfl
theorem nest_sticky (s : ByteArray) (F : PSt → Option (S26 × PSt)) (hF : ∀ st x st', F st = some (x, st') → st'.err = 0 → st.err = 0) (st : PSt) (x : S26) (st' : PSt) (h : nestG F s st = some (x, st')) (he : st'.err = 0) : st.err = 0 := by
  unfold nestG at h
  split at h
  · split at h
    · simp only [Option.some.injEq, Prod.mk.injEq] at h
      obtain ⟨rfl, rfl⟩ := h
      exact absurd he (fail_err s _ 14 (by decide))
    · obtain ⟨⟨y, st1⟩, hr, h⟩ := Option.bind_eq_some_iff.1 h
      simp only at h
      split at h
      · simp only [Option.some.injEq, Prod.mk.injEq] at h
        obtain ⟨rfl, rfl⟩ := h
        have := hF _ _ _ hr he
        exact this
      · cases h
  · cases h
theorem phrase_sticky (k : Nat) (s : ByteArray) (st : PSt) (x : S26) (st' : PSt) (h : phraseF k s st = some (x, st')) (he : st'.err = 0) : st.err = 0 := by
  unfold phraseF at h
  split at h
  · simp only [Option.some.injEq, Prod.mk.injEq] at h
    obtain ⟨rfl, rfl⟩ := h
    exact absurd he (fail_err s _ 13 (by decide))
  · obtain ⟨l, hl, h⟩ := Option.bind_eq_some_iff.1 h
    obtain ⟨r, hr, h⟩ := Option.bind_eq_some_iff.1 h
    split at h
    · simp only [Option.some.injEq, Prod.mk.injEq] at h
      obtain ⟨rfl, rfl⟩ := h
      exact he
    · cases h
/-- An error stays. -/
theorem sticky (s : ByteArray) : ∀ k,
    (∀ st x st', anyF k s st = some (x, st') → st'.err = 0 → st.err = 0) ∧ (∀ st l x st', anyL k s st l = some (x, st') → st'.err = 0 → st.err = 0) ∧
    (∀ st x st', everyF k s st = some (x, st') → st'.err = 0 → st.err = 0) ∧ (∀ (a : Int × PSt) l x st', everyL k s a l = some (x, st') → st'.err = 0 → a.2.err = 0) ∧
    (∀ st x st', unaryF k s st = some (x, st') → st'.err = 0 → st.err = 0) ∧ (∀ st x st', atomF k s st = some (x, st') → st'.err = 0 → st.err = 0) ∧
    (∀ st x st', innerF k s st = some (x, st') → st'.err = 0 → st.err = 0) := by
  intro k
  induction k with
  | zero => refine ⟨?_, ?_, ?_, ?_, ?_, ?_, ?_⟩ <;> intros <;> simp_all [anyF, anyL, everyF, everyL, unaryF, atomF, innerF]
  | succ k ih =>
    obtain ⟨iA, iAL, iE, iEL, iU, iT, iI⟩ := ih
    refine ⟨?_, ?_, ?_, ?_, ?_, ?_, ?_⟩
    · intro st x st' h he
      rw [anyF] at h
      obtain ⟨⟨r, st1⟩, hr, h⟩ := Option.bind_eq_some_iff.1 h
      obtain ⟨⟨q, st2⟩, hq, h⟩ := Option.bind_eq_some_iff.1 h
      simp only [Option.some.injEq, Prod.mk.injEq] at h
      obtain ⟨rfl, rfl⟩ := h
      exact iE _ _ _ hr (iAL _ _ _ _ hq he)
    · intro st l x st' h he
      rw [anyL] at h
      split at h
      · split at h
        · obtain ⟨⟨r, st1⟩, hr, h⟩ := Option.bind_eq_some_iff.1 h
          have := iE _ _ _ hr (iAL _ _ _ _ h he)
          exact this
        · cases h
      · simp only [Option.some.injEq, Prod.mk.injEq] at h
        obtain ⟨rfl, rfl⟩ := h
        exact he
    · intro st x st' h he
      rw [everyF] at h
      obtain ⟨⟨r, st1⟩, hr, h⟩ := Option.bind_eq_some_iff.1 h
      obtain ⟨⟨q, st2⟩, hq, h⟩ := Option.bind_eq_some_iff.1 h
      simp only [Option.some.injEq, Prod.mk.injEq] at h
      obtain ⟨rfl, rfl⟩ := h
      exact iU _ _ _ hr (iEL _ _ _ _ hq he)
    · intro a l x st' h he
      rw [everyL] at h
      split at h
      · split at h
        · obtain ⟨⟨r, st1⟩, hr, h⟩ := Option.bind_eq_some_iff.1 h
          exact iU _ _ _ hr (iEL _ _ _ _ h he)
        · cases h
      · simp only [Option.some.injEq, Prod.mk.injEq] at h
        obtain ⟨rfl, rfl⟩ := h
        exact he
    · intro st x st' h he
      rw [unaryF] at h
      split at h
      · obtain ⟨⟨r, st1⟩, hr, h⟩ := Option.bind_eq_some_iff.1 h
        simp only [Option.some.injEq, Prod.mk.injEq] at h
        obtain ⟨rfl, rfl⟩ := h
        have := nest_sticky s _ iU _ _ _ hr he
        rw [take_err] at this
        exact this
      · have := iT _ _ _ h he
        rw [take_err] at this
        exact this
    · intro st x st' h he
      rw [atomF] at h
      split at h
      · have := nest_sticky s _ iI _ _ _ h he
        rw [take_err] at this
        exact this
      · split at h
        · have := phrase_sticky _ _ _ _ _ h he
          rw [take_err, take_err] at this
          exact this
        · obtain ⟨j, hj, h⟩ := Option.bind_eq_some_iff.1 h
          split at h
          · simp only [Option.some.injEq, Prod.mk.injEq] at h
            obtain ⟨rfl, rfl⟩ := h
            exact absurd he (fail_err s _ 13 (by decide))
          · split at h
            · obtain ⟨r, hr, h⟩ := Option.bind_eq_some_iff.1 h
              simp only [Option.some.injEq, Prod.mk.injEq] at h
              obtain ⟨rfl, rfl⟩ := h
              rw [take_err] at he
              exact he
            · split at h
              · obtain ⟨f, hf, h⟩ := Option.bind_eq_some_iff.1 h
                split at h
                · simp only [Option.some.injEq, Prod.mk.injEq] at h
                  obtain ⟨rfl, rfl⟩ := h
                  exact absurd he (fail_err s _ 13 (by decide))
                · obtain ⟨⟨r, st1⟩, hr, h⟩ := Option.bind_eq_some_iff.1 h
                  simp only at h
                  split at h
                  · simp only [Option.some.injEq, Prod.mk.injEq] at h
                    obtain ⟨rfl, rfl⟩ := h
                    have := nest_sticky s _ iT _ _ _ hr he
                    rw [take_err, take_err] at this
                    exact this
                  · cases h
              · obtain ⟨l, hl, h⟩ := Option.bind_eq_some_iff.1 h
                obtain ⟨r, hr, h⟩ := Option.bind_eq_some_iff.1 h
                simp only [Option.some.injEq, Prod.mk.injEq] at h
                obtain ⟨rfl, rfl⟩ := h
                exact he
    · intro st x st' h he
      rw [innerF] at h
      obtain ⟨⟨r, st1⟩, hr, h⟩ := Option.bind_eq_some_iff.1 h
      simp only at h
      split at h
      · split at h
        · simp only [Option.some.injEq, Prod.mk.injEq] at h
          obtain ⟨rfl, rfl⟩ := h
          exact iA _ _ _ hr he
        · cases h
      · simp only [Option.some.injEq, Prod.mk.injEq] at h
        obtain ⟨rfl, rfl⟩ := h
        exact absurd he (fail_err s _ 13 (by decide))

/-- Where F answers well at s, G answers the same at t. -/
def Sm (d p : Nat) (s t : ByteArray) {α : Type} (F G : PSt → Option (α × PSt)) : Prop :=
  ∀ st τ x st' y τ', Rl d p s t st τ → F st = some (x, st') → st'.err = 0 → G τ = some (y, τ') → y = x ∧ Rl d p s t st' τ'
theorem nest_sm {d p : Nat} {s t : ByteArray} (hd : cntN s s.size + d ≤ 6) {F G : PSt → Option (S26 × PSt)} (hF : Sm d p s t F G) (st τ : PSt) (x : S26) (st' : PSt) (y : S26) (τ' : PSt) (hR : Rl d p s t st τ) (hc : st.deep + 1 ≤ cntN s st.at_)
    (h : nestG F s st = some (x, st')) (he : st'.err = 0) (h' : nestG G t τ = some (y, τ')) : y = x ∧ Rl d p s t st' τ' := by
  have h1 := cntN_le s hR.le
  have h2 := hR.dp
  unfold nestG at h h'
  rw [if_pos (by omega), if_neg (by omega)] at h h'
  obtain ⟨⟨x1, st1⟩, hx, h⟩ := Option.bind_eq_some_iff.1 h
  obtain ⟨⟨y1, τ1⟩, hy, h'⟩ := Option.bind_eq_some_iff.1 h'
  simp only at h h'
  by_cases c : 1 ≤ st1.deep
  · rw [if_pos c] at h
    simp only [Option.some.injEq, Prod.mk.injEq] at h
    obtain ⟨rfl, rfl⟩ := h
    have hD : Rl d p s t (deeper st) (deeper τ) := ⟨hR.e1, hR.e2, by simp only [deeper]; omega, hc, hR.le, hR.ge, hR.le2, hR.eq, hR.stop⟩
    obtain ⟨e, hR1⟩ := hF _ _ _ _ _ _ hD hx he hy
    have h3 := hR1.dp
    rw [if_pos (by omega)] at h'
    simp only [Option.some.injEq, Prod.mk.injEq] at h'
    obtain ⟨rfl, rfl⟩ := h'
    have h4 := hR1.cn
    exact ⟨e, ⟨hR1.e1, hR1.e2, by simp only [higher]; omega, by simp only [higher]; omega, hR1.le, hR1.ge, hR1.le2, hR1.eq, hR1.stop⟩⟩
  · rw [if_neg c] at h; cases h
theorem index_app (l : List UInt8) (c b : UInt8) (n : Nat) (h : Lib.indexByte l b = (n : Int)) : Lib.indexByte (l ++ [c]) b = (n : Int) := by
  obtain ⟨h1, h2⟩ := Lib.indexByte_some h
  have hn : n < l.length := (List.getElem?_eq_some_iff.1 h1).1
  have h3 : (l ++ [c])[n]? = some b := by rw [List.getElem?_append_left hn]; exact h1
  have hge := Lib.indexByte_ge (l ++ [c]) b
  by_cases c0 : Lib.indexByte (l ++ [c]) b = -1
  · exact absurd h3 (Lib.indexByte_none c0 n)
  · obtain ⟨m, hm⟩ := Int.eq_ofNat_of_zero_le (show 0 ≤ Lib.indexByte (l ++ [c]) b by omega)
    obtain ⟨h4, h5⟩ := Lib.indexByte_some hm
    rcases Nat.lt_trichotomy m n with c1 | c1 | c1
    · refine absurd ?_ (h2 m c1)
      rw [List.getElem?_append_left (by omega)] at h4
      exact h4
    · rw [hm, c1]
    · exact absurd h3 (h5 n c1)
theorem phrase_sm {d p : Nat} {s t : ByteArray} (E : Emb p s t) (k k' : Nat) : Sm d p s t (fun st => phraseF k s st) (fun st => phraseF k' t st) := by
  intro st τ x st' y τ' hR h he h'
  simp only at h h'
  unfold phraseF at h h'
  by_cases c : Lib.indexByte (s.extract st.at_ s.size).data.toList 34 < 0
  · rw [if_pos c] at h
    simp only [Option.some.injEq, Prod.mk.injEq] at h
    obtain ⟨rfl, rfl⟩ := h
    exact absurd he (fail_err s _ 13 (by decide))
  · rw [if_neg c] at h
    obtain ⟨n, hn⟩ := Int.eq_ofNat_of_zero_le (show 0 ≤ Lib.indexByte (s.extract st.at_ s.size).data.toList 34 by omega)
    have hlt : n < (s.extract st.at_ s.size).data.toList.length := (List.getElem?_eq_some_iff.1 (Lib.indexByte_some hn).1).1
    have hlt2 := hlt
    rw [data_length] at hlt2
    have hz : (s.extract st.at_ s.size).size = s.size - st.at_ := by simp
    have hat : τ.at_ = p + st.at_ := hR.eq (by omega)
    obtain ⟨cc, _, ht⟩ := E.tail st.at_ hR.le
    rw [hat, ht, index_app _ cc 34 n hn, if_neg (by omega)] at h'
    have e : (t.extract (p + st.at_) t.size).extract 0 n = (s.extract st.at_ s.size).extract 0 n := by
      refine ba_eq ?_
      rw [ext_list, ext_list _ 0 n, ht, List.drop_zero, List.drop_zero, List.take_append_of_le_length (by omega)]
    rw [hn] at h
    simp only [Int.toNat_natCast] at h h'
    rw [e] at h'
    obtain ⟨l, hl, h⟩ := Option.bind_eq_some_iff.1 h
    obtain ⟨l', hl', h'⟩ := Option.bind_eq_some_iff.1 h'
    obtain rfl := det (terms_Text.mono _) hl hl'
    obtain ⟨r, hr, h⟩ := Option.bind_eq_some_iff.1 h
    obtain ⟨r', hr', h'⟩ := Option.bind_eq_some_iff.1 h'
    obtain rfl := det (parse_leaf.mono _) hr hr'
    have hz2 := E.size
    rw [if_pos (by omega)] at h h'
    simp only [Option.some.injEq, Prod.mk.injEq] at h h'
    obtain ⟨rfl, rfl⟩ := h
    obtain ⟨rfl, rfl⟩ := h'
    refine ⟨rfl, ?_⟩
    have := hR.to E (st.at_ + n + 1) (by omega) (by omega)
    rw [show p + (st.at_ + n + 1) = p + st.at_ + n + 1 by omega] at this
    exact this
/-- A reading of t that stands where one of s stands answers the same. -/
theorem sim {d p : Nat} {s t : ByteArray} (E : Emb p s t) (hd : cntN s s.size + d ≤ 6) : ∀ k k',
    Sm d p s t (fun st => anyF k s st) (fun st => anyF k' t st) ∧ (∀ l, Sm d p s t (fun st => anyL k s st l) (fun st => anyL k' t st l)) ∧
    Sm d p s t (fun st => everyF k s st) (fun st => everyF k' t st) ∧
    (∀ l a b x st' y τ', PR d p s t a b → everyL k s a l = some (x, st') → st'.err = 0 → everyL k' t b l = some (y, τ') → y = x ∧ Rl d p s t st' τ') ∧
    Sm d p s t (fun st => unaryF k s st) (fun st => unaryF k' t st) ∧ Sm d p s t (fun st => atomF k s st) (fun st => atomF k' t st) ∧ Sm d p s t (fun st => innerF k s st) (fun st => innerF k' t st) := by
  have hz := E.size
  intro k
  induction k with
  | zero =>
    intro k'
    refine ⟨?_, ?_, ?_, ?_, ?_, ?_, ?_⟩
    · intro st τ x st' y τ' _ h; simp [anyF] at h
    · intro l st τ x st' y τ' _ h; simp [anyL] at h
    · intro st τ x st' y τ' _ h; simp [everyF] at h
    · intro l a b x st' y τ' _ h; simp [everyL] at h
    · intro st τ x st' y τ' _ h; simp [unaryF] at h
    · intro st τ x st' y τ' _ h; simp [atomF] at h
    · intro st τ x st' y τ' _ h; simp [innerF] at h
  | succ k ih =>
    intro k'
    cases k' with
    | zero =>
      refine ⟨?_, ?_, ?_, ?_, ?_, ?_, ?_⟩
      · intro st τ x st' y τ' _ _ _ h; simp [anyF] at h
      · intro l st τ x st' y τ' _ _ _ h; simp [anyL] at h
      · intro st τ x st' y τ' _ _ _ h; simp [everyF] at h
      · intro l a b x st' y τ' _ _ _ h; simp [everyL] at h
      · intro st τ x st' y τ' _ _ _ h; simp [unaryF] at h
      · intro st τ x st' y τ' _ _ _ h; simp [atomF] at h
      · intro st τ x st' y τ' _ _ _ h; simp [innerF] at h
    | succ k' =>
      obtain ⟨iA, iAL, iE, iEL, iU, iT, iI⟩ := ih k'
      obtain ⟨sA, sAL, sE, sEL, sU, sT, sI⟩ := sticky s k
      refine ⟨?_, ?_, ?_, ?_, ?_, ?_, ?_⟩
      · intro st τ x st' y τ' hR h he h'
        simp only at h h'
        rw [anyF] at h h'
        obtain ⟨⟨r, st1⟩, hr, h⟩ := Option.bind_eq_some_iff.1 h
        obtain ⟨⟨q, st2⟩, hq, h⟩ := Option.bind_eq_some_iff.1 h
        obtain ⟨⟨r', τ1⟩, hr', h'⟩ := Option.bind_eq_some_iff.1 h'
        obtain ⟨⟨q', τ2⟩, hq', h'⟩ := Option.bind_eq_some_iff.1 h'
        simp only [Option.some.injEq, Prod.mk.injEq] at h h'
        obtain ⟨rfl, rfl⟩ := h
        obtain ⟨rfl, rfl⟩ := h'
        obtain ⟨rfl, hR1⟩ := iE _ _ _ _ _ _ hR hr (sAL _ _ _ _ hq he) hr'
        obtain ⟨rfl, hR2⟩ := iAL _ _ _ _ _ _ _ hR1 hq he hq'
        exact ⟨rfl, hR2⟩
      · intro l st τ x st' y τ' hR h he h'
        simp only at h h'
        rw [anyL] at h h'
        obtain ⟨hP, hC⟩ := hR.peek E
        have same : ∀ (_ : ¬ (peekF s st).1 = 124) (_ : ¬ (peekF t τ).1 = 124), y = x ∧ Rl d p s t st' τ' := by
          intro n1 n2
          rw [if_neg n1] at h
          rw [if_neg n2] at h'
          simp only [Option.some.injEq, Prod.mk.injEq] at h h'
          obtain ⟨rfl, rfl⟩ := h
          obtain ⟨rfl, rfl⟩ := h'
          exact ⟨rfl, hP⟩
        rcases hC with ⟨c1, c2, c3⟩ | ⟨c1, c2, c3⟩
        · by_cases c : (peekF s st).1 = 124
          · rw [if_pos c] at h
            rw [if_pos (by rw [c2]; exact c)] at h'
            by_cases c4 : (peekF s st).2.at_ + 1 ≤ s.size ∧ l.length ≤ 1000000
            · have := hP.eq c1
              rw [if_pos c4] at h
              rw [if_pos ⟨by omega, c4.2⟩] at h'
              obtain ⟨⟨r, st1⟩, hr, h⟩ := Option.bind_eq_some_iff.1 h
              obtain ⟨⟨r', τ1⟩, hr', h'⟩ := Option.bind_eq_some_iff.1 h'
              obtain ⟨rfl, hR1⟩ := iE _ _ _ _ _ _ (hP.bump E c1) hr (sAL _ _ _ _ h he) hr'
              exact iAL _ _ _ _ _ _ _ hR1 h he h'
            · rw [if_neg c4] at h; cases h
          · exact same c (by rw [c2]; exact c)
        · exact same (by omega) (by rcases c3 with c3 | c3 <;> omega)
      · intro st τ x st' y τ' hR h he h'
        simp only at h h'
        rw [everyF] at h h'
        obtain ⟨⟨r, st1⟩, hr, h⟩ := Option.bind_eq_some_iff.1 h
        obtain ⟨⟨q, st2⟩, hq, h⟩ := Option.bind_eq_some_iff.1 h
        obtain ⟨⟨r', τ1⟩, hr', h'⟩ := Option.bind_eq_some_iff.1 h'
        obtain ⟨⟨q', τ2⟩, hq', h'⟩ := Option.bind_eq_some_iff.1 h'
        simp only [Option.some.injEq, Prod.mk.injEq] at h h'
        obtain ⟨rfl, rfl⟩ := h
        obtain ⟨rfl, rfl⟩ := h'
        obtain ⟨rfl, hR1⟩ := iU _ _ _ _ _ _ hR hr (sEL _ _ _ _ hq he) hr'
        obtain ⟨rfl, hR2⟩ := iEL _ _ _ _ _ _ _ (hR1.peek E) hq he hq'
        exact ⟨rfl, hR2⟩
      · intro l a b x st' y τ' hP h he h'
        rw [everyL] at h h'
        obtain ⟨hR, hC⟩ := hP
        have same : ∀ (_ : ¬ (0 ≤ a.1 ∧ a.1 ≠ 124 ∧ a.1 ≠ 41)) (_ : ¬ (0 ≤ b.1 ∧ b.1 ≠ 124 ∧ b.1 ≠ 41)), y = x ∧ Rl d p s t st' τ' := by
          intro n1 n2
          rw [if_neg n1] at h
          rw [if_neg n2] at h'
          simp only [Option.some.injEq, Prod.mk.injEq] at h h'
          obtain ⟨rfl, rfl⟩ := h
          obtain ⟨rfl, rfl⟩ := h'
          exact ⟨rfl, hR⟩
        rcases hC with ⟨c1, c2, c3⟩ | ⟨c1, c2, c3⟩
        · by_cases c : 0 ≤ a.1 ∧ a.1 ≠ 124 ∧ a.1 ≠ 41
          · rw [if_pos c] at h
            rw [if_pos (by rw [c2]; exact c)] at h'
            by_cases c4 : l.length ≤ 1000000
            · rw [if_pos c4] at h h'
              obtain ⟨⟨r, st1⟩, hr, h⟩ := Option.bind_eq_some_iff.1 h
              obtain ⟨⟨r', τ1⟩, hr', h'⟩ := Option.bind_eq_some_iff.1 h'
              obtain ⟨rfl, hR1⟩ := iU _ _ _ _ _ _ hR hr (sEL _ _ _ _ h he) hr'
              exact iEL _ _ _ _ _ _ _ (hR1.peek E) h he h'
            · rw [if_neg c4] at h; cases h
          · exact same c (by rw [c2]; exact c)
        · exact same (by omega) (by rcases c3 with c3 | c3 <;> omega)
      · intro st τ x st' y τ' hR h he h'
        simp only at h h'
        rw [unaryF] at h h'
        obtain ⟨hP, hC⟩ := hR.peek E
        rcases hP.take E 45 (by decide) (by decide) with ⟨t1, t2, t3, t4⟩ | ⟨t1, t2, t3, t4⟩
        · rw [if_pos t1] at h
          rw [if_pos t2] at h'
          obtain ⟨⟨r, st1⟩, hr, h⟩ := Option.bind_eq_some_iff.1 h
          obtain ⟨⟨r', τ1⟩, hr', h'⟩ := Option.bind_eq_some_iff.1 h'
          simp only [Option.some.injEq, Prod.mk.injEq] at h h'
          obtain ⟨rfl, rfl⟩ := h
          obtain ⟨rfl, rfl⟩ := h'
          obtain ⟨rfl, hR1⟩ := nest_sm hd iU _ _ _ _ _ _ t3 t4 hr he hr'
          exact ⟨rfl, hR1⟩
        · rw [if_neg (by rw [t1]; decide), t3] at h
          rw [if_neg (by rw [t2]; decide), t4] at h'
          exact iT _ _ _ _ _ _ hP h he h'
      · intro st τ x st' y τ' hR h he h'
        simp only at h h'
        rw [atomF] at h h'
        obtain ⟨hP, hC⟩ := hR.peek E
        clear hC hR
        generalize (peekF s st).2 = st1 at h hP
        generalize (peekF t τ).2 = τ1 at h' hP
        rcases hP.take E 40 (by decide) (by decide) with ⟨t1, t2, t3, t4⟩ | ⟨t1, t2, t3, t4⟩
        · rw [if_pos t1] at h
          rw [if_pos t2] at h'
          exact nest_sm hd iI _ _ _ _ _ _ t3 t4 h he h'
        · rw [if_neg (by rw [t1]; decide), t3] at h
          rw [if_neg (by rw [t2]; decide), t4] at h'
          clear t1 t2 t3 t4
          rcases hP.take E 34 (by decide) (by decide) with ⟨t1, t2, t3, t4⟩ | ⟨t1, t2, t3, t4⟩
          · rw [if_pos t1] at h
            rw [if_pos t2] at h'
            exact phrase_sm E k k' _ _ _ _ _ _ t3 h he h'
          · rw [if_neg (by rw [t1]; decide)] at h
            rw [if_neg (by rw [t2]; decide)] at h'
            clear t1 t2 t3 t4
            obtain ⟨j, hj, h⟩ := Option.bind_eq_some_iff.1 h
            obtain ⟨j', hj', h'⟩ := Option.bind_eq_some_iff.1 h'
            obtain ⟨hj1, hj2⟩ := wordGo_le s k _ j hP.le hj
            by_cases c0 : (s.extract st1.at_ j).size = 0
            · rw [if_pos c0] at h
              simp only [Option.some.injEq, Prod.mk.injEq] at h
              obtain ⟨rfl, rfl⟩ := h
              exact absurd he (fail_err s _ 13 (by decide))
            · have hz2 : (s.extract st1.at_ j).size = j - st1.at_ := by simp; omega
              have hat := hP.eq (by omega)
              rw [hat] at hj'
              obtain rfl := E.word k _ j k' j' hP.le hj hj'
              rw [hat, E.ext st1.at_ j hj2, if_neg c0] at h'
              rw [if_neg c0] at h
              have hW : Rl d p s t (wordTo st1 j) (wordTo τ1 (p + j)) := hP.to E j hj1 hj2
              rcases hW.take E 42 (by decide) (by decide) with ⟨t1, t2, t3, t4⟩ | ⟨t1, t2, t3, t4⟩
              · rw [if_pos t1] at h
                rw [if_pos t2] at h'
                obtain ⟨r, hr, h⟩ := Option.bind_eq_some_iff.1 h
                obtain ⟨r', hr', h'⟩ := Option.bind_eq_some_iff.1 h'
                obtain rfl := det (parse_prefix.mono _) hr hr'
                simp only [Option.some.injEq, Prod.mk.injEq] at h h'
                obtain ⟨rfl, rfl⟩ := h
                obtain ⟨rfl, rfl⟩ := h'
                exact ⟨rfl, t3⟩
              · rw [if_neg (by rw [t1]; decide), t3] at h
                rw [if_neg (by rw [t2]; decide), t4] at h'
                clear t1 t2 t3 t4
                rcases hW.take E 58 (by decide) (by decide) with ⟨t1, t2, t3, t4⟩ | ⟨t1, t2, t3, t4⟩
                · rw [if_pos t1] at h
                  rw [if_pos t2] at h'
                  obtain ⟨f, hf, h⟩ := Option.bind_eq_some_iff.1 h
                  obtain ⟨f', hf', h'⟩ := Option.bind_eq_some_iff.1 h'
                  obtain rfl := det (parse_Field.mono _) hf hf'
                  by_cases cf : f' = 0
                  · rw [if_pos cf] at h
                    simp only [Option.some.injEq, Prod.mk.injEq] at h
                    obtain ⟨rfl, rfl⟩ := h
                    exact absurd he (fail_err s _ 13 (by decide))
                  · rw [if_neg cf] at h h'
                    obtain ⟨⟨r, st2⟩, hr, h⟩ := Option.bind_eq_some_iff.1 h
                    obtain ⟨⟨r', τ2⟩, hr', h'⟩ := Option.bind_eq_some_iff.1 h'
                    simp only at h h'
                    by_cases cm : maxKids r ≤ 1000000
                    · rw [if_pos cm] at h
                      simp only [Option.some.injEq, Prod.mk.injEq] at h
                      obtain ⟨rfl, rfl⟩ := h
                      obtain ⟨rfl, hR1⟩ := nest_sm hd iT _ _ _ _ _ _ t3 t4 hr he hr'
                      rw [if_pos cm] at h'
                      simp only [Option.some.injEq, Prod.mk.injEq] at h'
                      obtain ⟨rfl, rfl⟩ := h'
                      exact ⟨rfl, hR1⟩
                    · rw [if_neg cm] at h; cases h
                · rw [if_neg (by rw [t1]; decide)] at h
                  rw [if_neg (by rw [t2]; decide)] at h'
                  obtain ⟨l, hl, h⟩ := Option.bind_eq_some_iff.1 h
                  obtain ⟨l', hl', h'⟩ := Option.bind_eq_some_iff.1 h'
                  obtain rfl := det (terms_Text.mono _) hl hl'
                  obtain ⟨r, hr, h⟩ := Option.bind_eq_some_iff.1 h
                  obtain ⟨r', hr', h'⟩ := Option.bind_eq_some_iff.1 h'
                  obtain rfl := det (parse_leaf.mono _) hr hr'
                  simp only [Option.some.injEq, Prod.mk.injEq] at h h'
                  obtain ⟨rfl, rfl⟩ := h
                  obtain ⟨rfl, rfl⟩ := h'
                  exact ⟨rfl, hW⟩
      · intro st τ x st' y τ' hR h he h'
        simp only at h h'
        rw [innerF] at h h'
        obtain ⟨⟨r, st1⟩, hr, h⟩ := Option.bind_eq_some_iff.1 h
        obtain ⟨⟨r', τ1⟩, hr', h'⟩ := Option.bind_eq_some_iff.1 h'
        simp only at h h'
        by_cases c : (peekF s st1).1 = 41
        · rw [if_pos c] at h
          by_cases c4 : (peekF s st1).2.at_ + 1 ≤ s.size
          · rw [if_pos c4] at h
            simp only [Option.some.injEq, Prod.mk.injEq] at h
            obtain ⟨rfl, rfl⟩ := h
            obtain ⟨rfl, hR1⟩ := iA _ _ _ _ _ _ hR hr he hr'
            obtain ⟨hP, hC⟩ := hR1.peek E
            rcases hC with ⟨c1, c2, c3⟩ | ⟨c1, c2, c3⟩
            · have := hP.eq c1
              rw [if_pos (by rw [c2]; exact c), if_pos (by omega)] at h'
              simp only [Option.some.injEq, Prod.mk.injEq] at h'
              obtain ⟨rfl, rfl⟩ := h'
              exact ⟨rfl, hP.bump E c1⟩
            · omega
          · rw [if_neg c4] at h; cases h
        · rw [if_neg c] at h
          simp only [Option.some.injEq, Prod.mk.injEq] at h
          obtain ⟨rfl, rfl⟩ := h
          exact absurd he (fail_err s _ 13 (by decide))

theorem opens_byte (b : UInt8) : opens ((b.toNat : Nat) : Int) = List.count 40 [b] + List.count 45 [b] + List.count 58 [b] := by
  by_cases h1 : b = 40
  · subst h1; rfl
  · by_cases h2 : b = 45
    · subst h2; rfl
    · by_cases h3 : b = 58
      · subst h3; rfl
      · have n1 : ¬ ((b.toNat : Nat) : Int) = 40 := fun h => h1 (UInt8.toNat_inj.1 (show b.toNat = (40 : UInt8).toNat by have : (40 : UInt8).toNat = 40 := rfl; omega))
        have n2 : ¬ ((b.toNat : Nat) : Int) = 45 := fun h => h2 (UInt8.toNat_inj.1 (show b.toNat = (45 : UInt8).toNat by have : (45 : UInt8).toNat = 45 := rfl; omega))
        have n3 : ¬ ((b.toNat : Nat) : Int) = 58 := fun h => h3 (UInt8.toNat_inj.1 (show b.toNat = (58 : UInt8).toNat by have : (58 : UInt8).toNat = 58 := rfl; omega))
        unfold opens
        rw [if_neg (by omega)]
        simp [List.count_cons, h1, h2, h3]
theorem cntN_take (s : ByteArray) : ∀ i, i ≤ s.size → cntN s i = List.count 40 (s.data.toList.take i) + List.count 45 (s.data.toList.take i) + List.count 58 (s.data.toList.take i)
  | 0, _ => by simp [cntN]
  | i + 1, h => by
    have hl : i < s.data.toList.length := by rw [data_length]; omega
    have e : byteAt s i = ((s.data.toList[i].toNat : Nat) : Int) := by
      rw [byteAt_list]
      unfold bytesOf
      rw [List.getD_eq_getElem?_getD, List.getElem?_map, List.getElem?_eq_getElem hl]
      rfl
    rw [cntN, cntN_take s i (by omega), e, opens_byte, List.take_add_one, List.getElem?_eq_getElem hl]
    simp only [Option.toList_some, List.count_append]
    omega
theorem cntN_all (s : ByteArray) : (cntN s s.size : Int) = cntB s := by
  rw [cntN_take s s.size (Nat.le_refl _), List.take_of_length_le (by rw [data_length]; omega)]
  unfold cntB Lib.countByte
  omega
theorem emb_of (P : ByteArray) (s : ByteArray) (c : UInt8) (hc : c = 32 ∨ c = 41) (hs : s.size ≤ 1000) (hp : P.size ≤ 1000) : Emb P.size s (P ++ s ++ (⟨#[c]⟩ : ByteArray)) :=
  ⟨⟨P.data.toList, c, data_length P, by simp [ByteArray.data_append], hc⟩, hs, hp⟩
theorem emb_pre (P s : ByteArray) (c : UInt8) (i : Nat) (hi : i < P.size) : byteAt (P ++ s ++ (⟨#[c]⟩ : ByteArray)) i = byteAt P i := by
  rw [byteAt_list, byteAt_list]
  unfold bytesOf
  rw [List.getD_eq_getElem?_getD, List.getD_eq_getElem?_getD, List.getElem?_map, List.getElem?_map]
  have e : (P ++ s ++ (⟨#[c]⟩ : ByteArray)).data.toList = P.data.toList ++ (s.data.toList ++ [c]) := by simp [ByteArray.data_append]
  rw [e, List.getElem?_append_left (by rw [data_length]; exact hi)]
theorem emb_last (P s : ByteArray) (c : UInt8) : byteAt (P ++ s ++ (⟨#[c]⟩ : ByteArray)) (P.size + s.size) = ((c.toNat : Nat) : Int) := by
  rw [byteAt_list]
  unfold bytesOf
  rw [List.getD_eq_getElem?_getD, List.getElem?_map]
  have e : (P ++ s ++ (⟨#[c]⟩ : ByteArray)).data.toList = P.data.toList ++ (s.data.toList ++ [c]) := by simp [ByteArray.data_append]
  rw [e, List.getElem?_append_right (by rw [data_length]; omega), List.getElem?_append_right (by rw [data_length, data_length]; omega)]
  rw [data_length, data_length, show P.size + s.size - P.size - s.size = 0 by omega]
  rfl
theorem parse_inv (k : Nat) (s : ByteArray) (x : S26) (h : parseF k s = some (x, 0)) : utf_Valid.f k s = some true ∧ ∃ st', anyF k s ⟨0, 0, 0⟩ = some (x, st') ∧ st'.err = 0 ∧ (peekF s st').1 < 0 := by
  unfold parseF at h
  split at h
  · simp only [Option.some.injEq, Prod.mk.injEq] at h
    exact absurd h.2 (by decide)
  · obtain ⟨v, hv, h⟩ := Option.bind_eq_some_iff.1 h
    cases v with
    | false =>
      rw [if_pos rfl] at h
      simp only [Option.some.injEq, Prod.mk.injEq] at h
      exact absurd h.2 (by decide)
    | true =>
      rw [if_neg (by decide)] at h
      obtain ⟨⟨r, st1⟩, hr, h⟩ := Option.bind_eq_some_iff.1 h
      simp only at h
      by_cases c : (endF s st1).err = 0
      · rw [if_pos c] at h
        simp only [Option.some.injEq, Prod.mk.injEq] at h
        obtain ⟨rfl, _⟩ := h
        unfold endF at c
        by_cases c1 : st1.err = 0
        · rw [if_pos c1] at c
          by_cases c2 : 0 ≤ (peekF s st1).1
          · rw [if_pos c2] at c
            exact absurd c (fail_err s _ 13 (by decide))
          · exact ⟨hv, st1, hr, c1, by omega⟩
        · rw [if_neg c1] at c
          exact absurd c c1
      · rw [if_neg c] at h
        simp only [Option.some.injEq, Prod.mk.injEq] at h
        exact absurd h.2 c
theorem parse_fwd (k : Nat) (t : ByteArray) (x : S26) (τ : PSt) (hs : t.size ≤ 120) (hv : utf_Valid.f k t = some true) (h : anyF k t ⟨0, 0, 0⟩ = some (x, τ)) (he : τ.err = 0) (hp : (peekF t τ).1 = -1) : parseF k t = some (x, 0) := by
  unfold parseF
  rw [if_neg (by omega), hv]
  simp only [Option.bind_some]
  rw [if_neg (by decide), h]
  simp only [Option.bind_some]
  have e : endF t τ = (peekF t τ).2 := by
    unfold endF
    rw [if_pos he, if_neg (by omega)]
  rw [if_pos (by rw [e]; exact he)]
theorem skipB_blank (t : ByteArray) (i : Nat) (hi : i < t.size) (h : byteAt t i = 32) : skipB t i = skipB t (i + 1) := by
  unfold skipB
  rw [show t.size - i = (t.size - (i + 1)) + 1 by omega, skipGo, if_pos ⟨hi, h⟩]
theorem any_peek (t : ByteArray) (a b : PSt) (h : peekF t a = peekF t b) : ∀ k, anyF k t a = anyF k t b := by
  have hU : ∀ k, unaryF k t a = unaryF k t b := by
    intro k
    cases k with
    | zero => simp [unaryF]
    | succ k => rw [unaryF, unaryF, h]
  have hE : ∀ k, everyF k t a = everyF k t b := by
    intro k
    cases k with
    | zero => simp [everyF]
    | succ k => rw [everyF, everyF, hU]
  intro k
  cases k with
  | zero => simp [anyF]
  | succ k => rw [anyF, anyF, hE]
theorem anyQ_tot (s : ByteArray) (k : Nat) (hs : s.size ≤ 100) (hk : 1500 ≤ k) (st : PSt) (h1 : st.at_ ≤ s.size) (h2 : st.err = 0) (h3 : st.deep ≤ 6) : ∃ x st', anyF k s st = some (x, st') := by
  obtain ⟨x, st', h, _⟩ := (reader_tot s (by omega) s.size (Nat.le_refl _)).2.2.2 k st (by omega) (by omega) h1 h2 h3
  exact ⟨x, st', h⟩
theorem valid_emb {p : Nat} {s t : ByteArray} (E : Emb p s t) (hp : ∀ i, i < p → byteAt t i < 128) (k : Nat) (hk : t.size < k) (h : utf_Valid.f k s = some true) : utf_Valid.f k t = some true := by
  have hz := E.size
  have h1 := E.sz
  have h2 := E.pz
  obtain ⟨v, hv⟩ := validF_total t (by omega) k hk
  have := E.valid_pre hp k h p k v (Nat.le_refl _) (by rw [Nat.sub_self]; exact hv)
  rw [hv, this]
theorem rl_start {d p : Nat} {s t : ByteArray} (E : Emb p s t) : Rl d p s t ⟨0, 0, 0⟩ ⟨p, d, 0⟩ := by
  have hz := E.size
  refine ⟨rfl, rfl, ?_, Nat.zero_le _, Nat.zero_le _, ?_, ?_, ?_, ?_⟩
  · simp
  · simp
  · simp only; omega
  · intro _; rfl
  · intro _; simp
theorem parts_blank (k : Nat) (hk : 1660 ≤ k) (s : ByteArray) (x : S26) (hs : s.size ≤ 60) (hc : ¬ 6 ≤ cntB s) (h : parseF k s = some (x, 0)) : parseF k ((⟨#[32, 32]⟩ : ByteArray) ++ s ++ (⟨#[32]⟩ : ByteArray)) = some (x, 0) := by
  obtain ⟨hv, st', ha, he, hp⟩ := parse_inv k s x h
  have E := emb_of (⟨#[32, 32]⟩ : ByteArray) s 32 (.inl rfl) (by omega) (by decide)
  have hpre := emb_pre (⟨#[32, 32]⟩ : ByteArray) s 32
  have hlast := emb_last (⟨#[32, 32]⟩ : ByteArray) s 32
  generalize (⟨#[32, 32]⟩ : ByteArray) ++ s ++ (⟨#[32]⟩ : ByteArray) = t at E hpre hlast ⊢
  have hz := E.size
  rw [show (⟨#[32, 32]⟩ : ByteArray).size = 2 from rfl] at E hz hlast
  have b0 : byteAt t 0 = 32 := hpre 0 (by decide)
  have b1 : byteAt t 1 = 32 := hpre 1 (by decide)
  have hN := cntN_all s
  have hpk : peekF t ⟨0, 0, 0⟩ = peekF t ⟨2, 0, 0⟩ := by
    unfold peekF
    simp only
    rw [skipB_blank t 0 (by omega) b0, skipB_blank t 1 (by omega) b1]
  obtain ⟨y, τ, hy⟩ := anyQ_tot t k (by omega) (by omega) ⟨2, 0, 0⟩ (by simp only; omega) rfl (by simp)
  obtain ⟨rfl, hR⟩ := (sim E (d := 0) (by omega) k k).1 _ _ _ _ _ _ (rl_start E) ha he hy
  obtain ⟨hP, hC⟩ := hR.peek E
  refine parse_fwd k t y τ (by omega) (valid_emb E (fun i hi => ?_) k (by omega) hv) (by rw [any_peek t _ _ hpk]; exact hy) hR.e2 ?_
  · obtain rfl | rfl : i = 0 ∨ i = 1 := by omega
    · rw [b0]; decide
    · rw [b1]; decide
  · have hl : byteAt t (2 + s.size) = 32 := hlast
    rcases hC with ⟨c1, c2, c3⟩ | ⟨c1, c2, ⟨c3, c4⟩ | ⟨c3, c4⟩⟩
    · have : 0 ≤ byteAt s (peekF s st').2.at_ := (bt_range s _).1
      omega
    · exact c4
    · omega
theorem peek_here (t : ByteArray) (τ : PSt) (h : τ.at_ < t.size) (hb : byteAt t τ.at_ ≠ 32) : (peekF t τ).2 = τ := by
  have e : skipB t τ.at_ = τ.at_ := by
    unfold skipB
    rw [show t.size - τ.at_ = (t.size - τ.at_ - 1) + 1 by omega, skipGo, if_neg (by omega)]
  unfold peekF
  simp only [e]
theorem take_here (t : ByteArray) (τ : PSt) (c : Int) (h : τ.at_ < t.size) (hb : byteAt t τ.at_ = c) : takeF t τ c = (true, bump τ) := by
  unfold takeF
  rw [if_pos ⟨h, hb⟩]; rfl
theorem take_other (t : ByteArray) (τ : PSt) (c : Int) (hb : byteAt t τ.at_ ≠ c) : takeF t τ c = (false, τ) := by
  unfold takeF
  rw [if_neg (fun h => hb h.2)]
theorem peek_last (t : ByteArray) (τ : PSt) (h : τ.at_ = t.size) : peekF t τ = (-1, τ) := by
  have e : skipB t τ.at_ = τ.at_ := skipGo_end t _ _ (by omega)
  unfold peekF
  rw [e, if_neg (by omega)]
/-- s in brackets, as an atom. -/
theorem bracket {p : Nat} {s t : ByteArray} (E : Emb p s t) (h41 : byteAt t (p + s.size) = 41) (dp : Nat) (h40 : byteAt t (p - 1) = 40) (hp1 : 1 ≤ p) (hd : cntN s s.size + (dp + 1) ≤ 6) (k j : Nat) (hj : 1500 ≤ j) (ht : t.size ≤ 100)
    (x : S26) (st' : PSt) (h : anyF k s ⟨0, 0, 0⟩ = some (x, st')) (he : st'.err = 0) (hp : (peekF s st').1 < 0) :
    ∃ τ', atomF (j + 2) t ⟨p - 1, dp, 0⟩ = some (x, τ') ∧ τ'.err = 0 ∧ τ'.at_ = t.size ∧ dp ≤ τ'.deep := by
  have hz := E.size
  obtain ⟨y, τ, hy⟩ := anyQ_tot t j ht hj ⟨p, dp + 1, 0⟩ (by simp only; omega) rfl (by simp only; omega)
  obtain ⟨rfl, hR⟩ := (sim E hd k j).1 _ _ _ _ _ _ (rl_start E) h he hy
  obtain ⟨hP, hC⟩ := hR.peek E
  have hlt : (⟨p - 1, dp, 0⟩ : PSt).at_ < t.size := by simp only; omega
  have hb : byteAt t (⟨p - 1, dp, 0⟩ : PSt).at_ = 40 := h40
  rw [atomF, peek_here t _ hlt (by omega), take_here t _ 40 hlt hb, if_pos rfl]
  have hst : deeper (bump ⟨p - 1, dp, 0⟩) = ⟨p, dp + 1, 0⟩ := by
    unfold deeper bump
    simp only [PSt.mk.injEq, and_true]
    omega
  have hdd : (bump ⟨p - 1, dp, 0⟩).deep = dp := rfl
  unfold nestG
  rw [hdd, if_pos (by omega), if_neg (by omega), hst]
  have hin : innerF (j + 1) t ⟨p, dp + 1, 0⟩ = some (y, bump (peekF t τ).2) := by
    rw [innerF, show anyF j t ⟨p, dp + 1, 0⟩ = some (y, τ) from hy]
    simp only [Option.bind_some]
    rcases hC with ⟨c1, c2, c3⟩ | ⟨c1, c2, ⟨c3, c4⟩ | ⟨c3, c4⟩⟩
    · have : 0 ≤ byteAt s (peekF s st').2.at_ := (bt_range s _).1
      omega
    · omega
    · have := hP.stop h41
      rw [if_pos c4, if_pos (by omega)]
  rw [show (fun st => innerF (j + 1) t st) ⟨p, dp + 1, 0⟩ = some (y, bump (peekF t τ).2) from hin]
  simp only [Option.bind_some]
  have q1 := hP.dp
  have q2 := hP.e2
  have q3 := hP.stop h41
  have q4 := hP.ge
  have q5 : (peekF s st').2.at_ = s.size := by
    rcases hC with ⟨c1, c2, c3⟩ | ⟨c1, _⟩
    · have : 0 ≤ byteAt s (peekF s st').2.at_ := (bt_range s _).1
      omega
    · exact c1
  have q6 : (bump (peekF t τ).2).deep = (peekF t τ).2.deep := rfl
  rw [if_pos (by omega)]
  refine ⟨_, rfl, q2, ?_, ?_⟩
  · show (peekF t τ).2.at_ + 1 = t.size
    omega
  · show dp ≤ (peekF t τ).2.deep - 1
    omega
theorem any_one (t : ByteArray) (m : Nat) (st τ : PSt) (x : S26) (h : unaryF (m + 1) t st = some (x, τ)) (ha : τ.at_ = t.size) : anyF (m + 3) t st = some (x, τ) := by
  have e1 : everyF (m + 2) t st = some (x, τ) := by
    rw [everyF, h]
    simp only [Option.bind_some]
    rw [peek_last t τ ha, everyL, if_neg (by simp)]
    rfl
  rw [anyF, e1]
  simp only [Option.bind_some]
  rw [anyL, peek_last t τ ha, if_neg (by simp)]
  rfl
theorem parts_round (k : Nat) (hk : 1660 ≤ k) (s : ByteArray) (x : S26) (hs : s.size ≤ 60) (hc : ¬ 6 ≤ cntB s) (h : parseF k s = some (x, 0)) : parseF k ((⟨#[40]⟩ : ByteArray) ++ s ++ (⟨#[41]⟩ : ByteArray)) = some (x, 0) := by
  obtain ⟨hv, st', ha, he, hp⟩ := parse_inv k s x h
  have E := emb_of (⟨#[40]⟩ : ByteArray) s 41 (.inr rfl) (by omega) (by decide)
  have hpre := emb_pre (⟨#[40]⟩ : ByteArray) s 41
  have hlast := emb_last (⟨#[40]⟩ : ByteArray) s 41
  generalize (⟨#[40]⟩ : ByteArray) ++ s ++ (⟨#[41]⟩ : ByteArray) = t at E hpre hlast ⊢
  have hz := E.size
  rw [show (⟨#[40]⟩ : ByteArray).size = 1 from rfl] at E hz hlast
  have b0 : byteAt t 0 = 40 := hpre 0 (by decide)
  have hN := cntN_all s
  have hl : byteAt t (1 + s.size) = 41 := hlast
  obtain ⟨j, rfl⟩ : ∃ j, k = j + 5 := ⟨k - 5, by omega⟩
  obtain ⟨τ, h1, h2, h3, h4⟩ := bracket E hl 0 b0 (Nat.le_refl _) (by omega) (j + 5) j (by omega) (by omega) x st' ha he hp
  have hlt : (⟨0, 0, 0⟩ : PSt).at_ < t.size := by simp only; omega
  have hU : unaryF (j + 3) t ⟨0, 0, 0⟩ = some (x, τ) := by
    rw [unaryF, peek_here t _ hlt (by simp only; omega), take_other t _ 45 (by simp only; omega), if_neg (by simp)]
    exact h1
  refine parse_fwd (j + 5) t x τ (by omega) (valid_emb E (fun i hi => ?_) _ (by omega) hv) (any_one t (j + 2) _ _ _ hU h3) h2 (by rw [peek_last t τ h3])
  obtain rfl : i = 0 := by omega
  rw [b0]; decide
theorem parts_not (k : Nat) (hk : 1660 ≤ k) (s : ByteArray) (x : S26) (hs : s.size ≤ 60) (hc : ¬ 5 ≤ cntB s) (h : parseF k s = some (x, 0)) : parseF k ((⟨#[45, 40]⟩ : ByteArray) ++ s ++ (⟨#[41]⟩ : ByteArray)) = some (⟨7, 0, [], [x]⟩, 0) := by
  obtain ⟨hv, st', ha, he, hp⟩ := parse_inv k s x h
  have E := emb_of (⟨#[45, 40]⟩ : ByteArray) s 41 (.inr rfl) (by omega) (by decide)
  have hpre := emb_pre (⟨#[45, 40]⟩ : ByteArray) s 41
  have hlast := emb_last (⟨#[45, 40]⟩ : ByteArray) s 41
  generalize (⟨#[45, 40]⟩ : ByteArray) ++ s ++ (⟨#[41]⟩ : ByteArray) = t at E hpre hlast ⊢
  have hz := E.size
  rw [show (⟨#[45, 40]⟩ : ByteArray).size = 2 from rfl] at E hz hlast
  have b0 : byteAt t 0 = 45 := hpre 0 (by decide)
  have b1 : byteAt t 1 = 40 := hpre 1 (by decide)
  have hN := cntN_all s
  have hl : byteAt t (2 + s.size) = 41 := hlast
  obtain ⟨j, rfl⟩ : ∃ j, k = j + 6 := ⟨k - 6, by omega⟩
  obtain ⟨τ, h1, h2, h3, h4⟩ := bracket E hl 1 b1 (by decide) (by omega) (j + 6) j (by omega) (by omega) x st' ha he hp
  have hlt : (⟨0, 0, 0⟩ : PSt).at_ < t.size := by simp only; omega
  have hlt1 : (⟨1, 1, 0⟩ : PSt).at_ < t.size := by simp only; omega
  have hU1 : unaryF (j + 3) t ⟨1, 1, 0⟩ = some (x, τ) := by
    rw [unaryF, peek_here t _ hlt1 (by simp only; omega), take_other t _ 45 (by simp only; omega), if_neg (by simp)]
    exact h1
  have hU : unaryF (j + 4) t ⟨0, 0, 0⟩ = some (⟨7, 0, [], [x]⟩, higher τ) := by
    rw [unaryF, peek_here t _ hlt (by simp only; omega), take_here t _ 45 hlt b0, if_pos rfl]
    have e : nestG (fun st => unaryF (j + 3) t st) t (bump ⟨0, 0, 0⟩) = some (x, higher τ) := by
      unfold nestG
      have hdd : (bump ⟨0, 0, 0⟩).deep = 0 := rfl
      have hst : deeper (bump ⟨0, 0, 0⟩) = ⟨1, 1, 0⟩ := rfl
      rw [hdd, if_pos (by omega), if_neg (by omega), hst, show (fun st => unaryF (j + 3) t st) ⟨1, 1, 0⟩ = some (x, τ) from hU1]
      simp only [Option.bind_some]
      rw [if_pos h4]
    rw [e]
    rfl
  refine parse_fwd (j + 6) t _ (higher τ) (by omega) (valid_emb E (fun i hi => ?_) _ (by omega) hv) (any_one t (j + 3) _ _ _ hU h3) h2 (by rw [peek_last t (higher τ) h3])
  obtain rfl | rfl : i = 0 ∨ i = 1 := by omega
  · rw [b0]; decide
  · rw [b1]; decide
theorem tok_loop (l : List S57) (hl : l.length ≤ 1000000000) : ∀ m k i : Nat, l.length - i ≤ m → m < k → api_Token.l0 k l l (l.length : Int) (i : Int) = some true := by
  intro m
  induction m with
  | zero =>
    intro k i hm hk
    obtain ⟨k, rfl⟩ : ∃ j, k = j + 1 := ⟨k - 1, by omega⟩
    unfold api_Token.l0
    rw [if_neg (by omega)]
  | succ m ih =>
    intro k i hm hk
    obtain ⟨k, rfl⟩ : ∃ j, k = j + 1 := ⟨k - 1, by omega⟩
    unfold api_Token.l0
    by_cases c : (i : Int) < (l.length : Int)
    · rw [if_pos c, if_pos (by omega), if_pos c, if_pos c, if_neg (by simp), w64 _ (by omega) (by omega)]
      exact ih k (i + 1) (by omega) (by omega)
    · rw [if_neg c]
theorem tok_same (l : List S57) (hl : l.length ≤ 1000000000) (k : Nat) (hk : l.length < k) : api_Token.f k l l = some true := by
  unfold api_Token.f
  rw [if_pos rfl]
  exact tok_loop l hl l.length k 0 (by omega) hk
theorem same_list (k : Nat) : ∀ l : List S26, (∀ y ∈ l, sameF k y y = some true) → sameL k l l = some true
  | [], _ => by rw [sameL]
  | x :: t, h => by
    rw [sameL, h x (by simp)]
    simp only [Option.bind_some, if_true]
    exact same_list k t (fun y hy => h y (by simp [hy]))
/-- A node is the same as itself. -/
theorem same_self : ∀ n (x : S26), Fine n x → ∃ K, ∀ k, K ≤ k → sameF k x x = some true
  | 0, _, h => h.elim
  | n + 1, x, h => by
    obtain ⟨a1, a2, a3, a4, a5, a6⟩ := h
    obtain ⟨K, hK⟩ := bound_all (fun k y => sameF k y y = some true) x.f3 (fun y hy => same_self n y (a5 y hy))
    refine ⟨K + x.f2.length + 1, fun k hk => ?_⟩
    rw [sameF_eq, if_pos rfl, if_pos rfl, tok_same x.f2 (by omega) k (by omega)]
    simp only [Option.bind_some, if_true]
    exact same_list k x.f3 (fun y hy => hK y hy k (by omega))

end Go.Proofs.YtcgkmomhjincgaaDoor.Lib.Scr
