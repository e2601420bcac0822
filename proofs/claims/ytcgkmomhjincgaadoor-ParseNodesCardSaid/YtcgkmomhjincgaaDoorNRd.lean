/- The reader of parse and its laws, part Rd: contracts by hand. -/
import Derived.Test.YtcgkmomhjincgaaDoorNLib0
import Derived.Test.YtcgkmomhjincgaaDoorNRc
namespace Go.Proofs.YtcgkmomhjincgaaDoor.Lib.Scr
open Go.RowKit Go.Proofs.YtcgkmomhjincgaaDoor.Lib Go.Proofs.YtcgkmomhjincgaaDoorW.PrintWords Go.Proofs.YtcgkmomhjincgaaDoorW.PrintLast Go.Proofs.YtcgkmomhjincgaaDoorW.PrintMore
set_option linter.unusedVariables false
set_option linter.unusedSimpArgs false
attribute [local go_sem] max2_int min2_int max_two min_two max_three min_three max_four min_four
theorem w64 (n : Int) (h0 : -9223372036854775808 ≤ n) (h1 : n ≤ 9223372036854775807) : wrap64 n = n := by unfold wrap64; omega
theorem sign_total (r : Int) : ∃ b, utf_Sign.f r = some b := by
  unfold utf_Sign.f
  repeat' split
  all_goals exact ⟨_, rfl⟩
theorem first_total (c : Int) (h0 : 0 ≤ c) : ∃ a b l, utf_first.f c = some (a, b, l) ∧ 0 ≤ a ∧ a ≤ 4 := by
  unfold utf_first.f
  repeat' split
  all_goals exact ⟨_, _, _, rfl, by omega, by omega⟩
theorem nextEnd_total (o : Option Int) (sz least : Int) : ∃ x n, nextEnd o sz least = some (x, n) ∧ ((x = -1 ∧ n = 1) ∨ (0 ≤ x ∧ x ≤ 1114111 ∧ n = sz ∧ utf_Sign.f x = some true)) := by
  cases o with
  | none => exact ⟨-1, 1, rfl, .inl ⟨rfl, rfl⟩⟩
  | some r =>
    simp only [nextEnd]
    by_cases c : r < least
    · rw [if_pos c]; exact ⟨-1, 1, rfl, .inl ⟨rfl, rfl⟩⟩
    · rw [if_neg c]
      obtain ⟨b, hb⟩ := sign_total r
      rw [hb]
      cases b with
      | false => exact ⟨-1, 1, rfl, .inl ⟨rfl, rfl⟩⟩
      | true =>
        have := sign_range hb rfl
        exact ⟨r, sz, rfl, .inr ⟨this.1, this.2, rfl, hb⟩⟩
theorem next_total (s : ByteArray) (i : Nat) (hs : s.size ≤ 1000000) (hi : i < s.size) :
    ∃ (x : Int) (n : Nat), utf_Next.f s (i : Int) = some (x, (n : Int)) ∧ 1 ≤ n ∧ i + n ≤ s.size ∧ ((x = -1 ∧ n = 1) ∨ (0 ≤ x ∧ x ≤ 1114111 ∧ utf_Sign.f x = some true)) := by
  unfold utf_Next.f
  rw [if_pos (by omega), if_neg (by omega), if_neg (by omega)]
  obtain ⟨a, b, l, hf, h0, h4⟩ := first_total (bt s (i : Int)) (bt_range s i).1
  rw [hf]
  simp only [Option.bind_some]
  by_cases c1 : a = 0
  · rw [if_pos c1]; exact ⟨-1, 1, rfl, Nat.le_refl _, by omega, .inl ⟨rfl, rfl⟩⟩
  · rw [if_neg c1]
    by_cases c2 : a > (s.size : Int) - (i : Int)
    · rw [if_pos c2]; exact ⟨-1, 1, rfl, Nat.le_refl _, by omega, .inl ⟨rfl, rfl⟩⟩
    · rw [if_neg c2, if_pos (by omega)]
      obtain ⟨x, n, hn, hc⟩ := nextEnd_total (nextGo (bytesOf (s.extract ((i : Int) + 1).toNat ((i : Int) + a).toNat)) b) a l
      rw [hn]
      rcases hc with ⟨rfl, rfl⟩ | ⟨hx, hx2, rfl, hsg⟩
      · exact ⟨-1, 1, rfl, Nat.le_refl _, by omega, .inl ⟨rfl, rfl⟩⟩
      · exact ⟨x, n.toNat, by rw [show ((n.toNat : Nat) : Int) = n by omega], by omega, by omega, .inr ⟨hx, hx2, hsg⟩⟩
theorem next_end (s : ByteArray) (i : Nat) (hs : s.size ≤ 1000000) (hi : s.size ≤ i) : utf_Next.f s (i : Int) = some (-1, 0) := by
  unfold utf_Next.f
  rw [if_pos (by omega), if_neg (by omega), if_pos (by omega)]
theorem valid_total (s : ByteArray) (hs : s.size ≤ 1000000) : ∀ m k i : Nat, s.size - i ≤ m → m < k → ∃ v, utf_Valid.l0 k s (i : Int) = some v := by
  intro m
  induction m with
  | zero =>
    intro k i hm hk
    obtain ⟨k, rfl⟩ : ∃ j, k = j + 1 := ⟨k - 1, by omega⟩
    unfold utf_Valid.l0
    rw [if_neg (by omega)]
    exact ⟨_, rfl⟩
  | succ m ih =>
    intro k i hm hk
    obtain ⟨k, rfl⟩ : ∃ j, k = j + 1 := ⟨k - 1, by omega⟩
    unfold utf_Valid.l0
    by_cases c : (i : Int) < (s.size : Int)
    · rw [if_pos c]
      obtain ⟨x, n, hn, h1, h2, _⟩ := next_total s i hs (by omega)
      rw [hn]
      simp only [Option.bind_some]
      by_cases c2 : x < 0
      · rw [if_pos c2]; exact ⟨_, rfl⟩
      · rw [if_neg c2, w64 _ (by omega) (by omega)]
        exact ih k (i + n) (by omega) (by omega)
    · rw [if_neg c]; exact ⟨_, rfl⟩
theorem validF_total (s : ByteArray) (hs : s.size ≤ 1000000) (k : Nat) (hk : s.size < k) : ∃ v, utf_Valid.f k s = some v := valid_total s hs s.size k 0 (by omega) hk
theorem letter_total (k : Nat) (hk : 1 ≤ k) (x : Int) : ∃ b, fold_Letter.f k x = some b := by
  obtain ⟨k, rfl⟩ : ∃ j, k = j + 1 := ⟨k - 1, by omega⟩
  unfold fold_Letter.f
  simp only [fold_Letter.j0]
  repeat' split
  all_goals exact ⟨_, rfl⟩
theorem digit_total (x : Int) : ∃ b, fold_Digit.f x = some b := by
  unfold fold_Digit.f
  split <;> exact ⟨_, rfl⟩
theorem wordF_total (k : Nat) (hk : 1 ≤ k) (x : Int) : ∃ b, fold_Word.f k x = some b := by
  unfold fold_Word.f
  obtain ⟨b, hb⟩ := letter_total k hk x
  rw [hb]
  simp only [Option.bind_some]
  split
  · exact ⟨_, rfl⟩
  · obtain ⟨b, hb⟩ := digit_total x
    rw [hb]; exact ⟨_, rfl⟩
theorem wordGo_total (s : ByteArray) (hs : s.size ≤ 1000000) : ∀ m k i : Nat, s.size - i ≤ m → m + 1 < k → ∃ j, wordGo k s i = some j := by
  intro m
  induction m with
  | zero =>
    intro k i hm hk
    obtain ⟨k, rfl⟩ : ∃ j, k = j + 1 := ⟨k - 1, by omega⟩
    unfold wordGo
    rw [next_end s i hs (by omega)]
    exact ⟨i, rfl⟩
  | succ m ih =>
    intro k i hm hk
    obtain ⟨k, rfl⟩ : ∃ j, k = j + 1 := ⟨k - 1, by omega⟩
    unfold wordGo
    by_cases c : i < s.size
    · obtain ⟨x, n, hn, h1, h2, _⟩ := next_total s i hs c
      rw [hn]
      simp only [Option.bind_some]
      by_cases c2 : x < 0
      · rw [if_pos c2]; exact ⟨_, rfl⟩
      · rw [if_neg c2]
        obtain ⟨b, hb⟩ := wordF_total k (by omega) x
        rw [hb]
        simp only [Option.bind_some]
        cases b with
        | false => exact ⟨i, rfl⟩
        | true =>
          rw [if_pos rfl, if_pos ⟨by simpa using h2, by omega⟩]
          simpa using ih k (i + n) (by omega) (by omega)
    · rw [next_end s i hs (by omega)]
      exact ⟨i, rfl⟩
theorem rows_in : rowsTab.all (fun t => decide (0 ≤ t.1 + t.2.2.2) && decide (t.2.1 + t.2.2.2 < 55296)) = true := by kernel_rfl
theorem lowGo_ok (x : Int) (hx : utf_Sign.f x = some true) : ∀ l : List (Int × Int × Int × Int), l.all (fun t => decide (0 ≤ t.1 + t.2.2.2) && decide (t.2.1 + t.2.2.2 < 55296)) = true → utf_Sign.f (lowGo l x) = some true
  | [], _ => hx
  | (lo, hi, st, up) :: t, h => by
    simp only [List.all_cons, Bool.and_eq_true, decide_eq_true_eq] at h
    unfold lowGo
    by_cases c : lo ≤ x ∧ x ≤ hi ∧ (x - lo) % st = 0
    · rw [if_pos c]
      unfold utf_Sign.f
      rw [if_pos (by omega), if_pos (by omega), if_pos (by omega)]
    · rw [if_neg c]
      exact lowGo_ok x hx t h.2
theorem putL_len (x : Int) : 1 ≤ (putL x).length ∧ (putL x).length ≤ 4 := by
  unfold putL
  repeat' split
  all_goals simp
theorem put_total (l : List Int) (x : Int) (hl : l.length ≤ 4000004) (hx : utf_Sign.f x = some true) : utf_Put.f l x = some (l ++ putL x) := by
  unfold utf_Put.f
  rw [if_pos (by omega), hx]
  rfl
theorem foldText_total (s : ByteArray) (hs : s.size ≤ 1000000) : ∀ m k i (l : List Int), s.size - i ≤ m → i ≤ s.size → m < k → l.length ≤ 4 * i → ∃ r : List Int, fold_Text.l0 k s l (i : Int) = some (strOfNums r) ∧ (l = [] → i < s.size → r ≠ []) ∧ (l ≠ [] → r ≠ []) := by
  intro m
  induction m with
  | zero =>
    intro k i l hm hi hk hl
    obtain ⟨k, rfl⟩ : ∃ j, k = j + 1 := ⟨k - 1, by omega⟩
    unfold fold_Text.l0
    rw [if_neg (by omega)]
    exact ⟨l, rfl, fun _ h => by omega, fun h => h⟩
  | succ m ih =>
    intro k i l hm hi hk hl
    obtain ⟨k, rfl⟩ : ∃ j, k = j + 1 := ⟨k - 1, by omega⟩
    unfold fold_Text.l0
    by_cases c : (i : Int) < (s.size : Int)
    · rw [if_pos c]
      obtain ⟨x, n, hn, h1, h2, hc⟩ := next_total s i hs (by omega)
      rw [hn]
      simp only [Option.bind_some]
      by_cases c2 : x < 0
      · rw [if_pos c2, if_pos (by omega), if_pos (by omega), w64 _ (by omega) (by omega)]
        obtain ⟨r, hr, _, h4⟩ := ih k (i + n) (l ++ [bt s i]) (by omega) (by omega) (by omega) (by simp; omega)
        exact ⟨r, hr, fun _ _ => h4 (by simp), fun _ => h4 (by simp)⟩
      · rw [if_neg c2]
        have hsg : utf_Sign.f x = some true := by
          rcases hc with hc | hc
          · omega
          · exact hc.2.2
        simp only [fold_Lower.f, Option.bind_some]
        rw [put_total l _ (by omega) (lowGo_ok x hsg _ rows_in)]
        simp only [Option.bind_some]
        rw [w64 _ (by omega) (by omega)]
        have hp := putL_len (lowGo rowsTab x)
        obtain ⟨r, hr, _, h4⟩ := ih k (i + n) (l ++ putL (lowGo rowsTab x)) (by omega) (by omega) (by omega) (by simp; omega)
        have hne : l ++ putL (lowGo rowsTab x) ≠ [] := by
          intro h
          have := congrArg List.length h
          simp at this
          rw [this.2] at hp
          simp at hp
        exact ⟨r, hr, fun _ _ => h4 hne, fun _ => h4 hne⟩
    · rw [if_neg c]
      exact ⟨l, rfl, fun _ h => by omega, fun h => h⟩
theorem strOf_size (r : List Int) : (strOfNums r).size = r.length := by simp [strOfNums, ByteArray.size]
theorem fold_total (s : ByteArray) (hs : s.size ≤ 1000000) (k : Nat) (hk : s.size < k) : ∃ r, fold_Text.f k s = some r ∧ (0 < s.size → 0 < r.size) := by
  obtain ⟨r, hr, h1, _⟩ := foldText_total s hs s.size k 0 [] (by omega) (by omega) hk (by simp)
  refine ⟨strOfNums r, hr, fun h => ?_⟩
  have := h1 rfl h
  rw [strOf_size]
  exact List.length_pos_iff.2 this
theorem rd57_get (xs : List S57) (i : Nat) (h : i < xs.length) : rd_T57 xs (i : Int) = xs[i] := by simp [rd_T57, List.getD_eq_getElem?_getD, List.getElem?_eq_getElem h]
theorem rd166_get (xs : List S166) (i : Nat) (h : i < xs.length) : rd_T166 xs (i : Int) = xs[i] := by simp [rd_T166, List.getD_eq_getElem?_getD, List.getElem?_eq_getElem h]
def SpOK (xs : List S166) (p : Nat) : Prop := ∀ x ∈ xs, 0 ≤ x.f0 ∧ x.f0 < x.f1 ∧ x.f1 ≤ (p : Int)
theorem SpOK.up {xs : List S166} {p q : Nat} (h : SpOK xs p) (hq : p ≤ q) : SpOK xs q := fun x hx => by have := h x hx; omega
theorem spans_total (s : ByteArray) (hs : s.size ≤ 1000000) : ∀ m k i (l : List S166) (b : Bool), s.size - i ≤ m → i ≤ s.size → 3 * m + 1 < k → l.length ≤ i → SpOK l i → (b = true → l ≠ []) →
    ∃ r, token_spans.l0 k s l b (i : Int) = some r ∧ SpOK r s.size ∧ r.length ≤ s.size := by
  intro m
  induction m with
  | zero =>
    intro k i l b hm hi hk hl hsp _
    obtain ⟨k, rfl⟩ : ∃ j, k = j + 1 := ⟨k - 1, by omega⟩
    unfold token_spans.l0
    rw [if_neg (by omega)]
    exact ⟨l, rfl, hsp.up hi, by omega⟩
  | succ m ih =>
    intro k i l b hm hi hk hl hsp hb
    obtain ⟨k, rfl⟩ : ∃ j, k = j + 3 := ⟨k - 3, by omega⟩
    unfold token_spans.l0
    by_cases c : (i : Int) < (s.size : Int)
    · rw [if_pos c]
      obtain ⟨x, n, hn, h1, h2, hc⟩ := next_total s i hs (by omega)
      rw [hn]
      simp only [Option.bind_some]
      have key : ∀ t, ∃ r, token_spans.j1 (k + 2) s l b (i : Int) (n : Int) t = some r ∧ SpOK r s.size ∧ r.length ≤ s.size := by
        intro t
        simp only [token_spans.j1]
        have new : ∃ r, token_spans.l0 k s (l ++ [(⟨(i : Int), wrap64 ((i : Int) + (n : Int))⟩ : S166)]) t (wrap64 ((i : Int) + (n : Int))) = some r ∧ SpOK r s.size ∧ r.length ≤ s.size := by
          rw [w64 _ (by omega) (by omega)]
          refine ih k (i + n) _ t (by omega) (by omega) (by omega) (by simp; omega) ?_ (by simp)
          intro y hy
          rcases List.mem_append.1 hy with hy | hy
          · have := hsp y hy; omega
          · rw [List.mem_singleton.1 hy]
            exact ⟨by simp, by simp; omega, by simp⟩
        have plain : ∃ r, token_spans.l0 k s l false (wrap64 ((i : Int) + (n : Int))) = some r ∧ SpOK r s.size ∧ r.length ≤ s.size := by
          rw [w64 _ (by omega) (by omega)]
          exact ih k (i + n) l false (by omega) (by omega) (by omega) (by omega) (hsp.up (by omega)) (by simp)
        cases t with
        | false =>
          rw [if_neg (by simp)]
          simp only [token_spans.j2]
          rw [if_neg (by simp), if_neg (by simp)]
          exact plain
        | true =>
          rw [if_pos rfl]
          simp only [token_spans.j2]
          cases b with
          | false =>
            rw [if_pos (show (!false) = true from rfl), if_pos (by omega)]
            exact new
          | true =>
            have hne := hb rfl
            have hlp : 0 < l.length := List.length_pos_iff.2 hne
            rw [if_neg (show ¬ (!true) = true by decide), if_pos trivial, w64 ((l.length : Int) - 1) (by omega) (by omega), if_pos (by omega), if_pos (by omega), w64 _ (by omega) (by omega)]
            have e1 : ((l.length : Int) - 1) = ((l.length - 1 : Nat) : Int) := by omega
            rw [e1, rd166_get l (l.length - 1) (by omega)]
            refine ih k (i + n) _ true (by omega) (by omega) (by omega) (by simp; omega) ?_ (by intro _ h; have := congrArg List.length h; rw [List.length_set, List.length_nil] at this; omega)
            intro y hy
            simp only [Int.toNat_natCast] at hy
            rcases List.mem_or_eq_of_mem_set hy with hy | rfl
            · have := hsp y hy; omega
            · have := hsp _ (List.getElem_mem (show l.length - 1 < l.length by omega))
              exact ⟨this.1, by simp; omega, by simp⟩
      by_cases c2 : x ≥ 0
      · rw [if_pos c2]
        obtain ⟨t, ht⟩ := wordF_total (k + 2) (by omega) x
        rw [ht]
        simp only [Option.bind_some]
        exact key t
      · rw [if_neg c2]
        exact key false
    · rw [if_neg c]
      exact ⟨l, rfl, hsp.up (by omega), by omega⟩
theorem spansF_total (s : ByteArray) (hs : s.size ≤ 1000000) (k : Nat) (hk : 3 * s.size + 1 < k) : ∃ r, token_spans.f k s = some r ∧ SpOK r s.size ∧ r.length ≤ s.size := spans_total s hs s.size k 0 [] false (by omega) (by omega) hk (by simp) (fun _ h => by cases h) (by simp)
def TokOK (xs : List S57) : Prop := ∀ x ∈ xs, 0 < x.f0.size ∧ x.f0.size ≤ 20
theorem words_total (s : ByteArray) (hs : s.size ≤ 1000000) (sp : List S166) (hsp : SpOK sp s.size) (hlen : sp.length ≤ s.size) : ∀ m k i (l : List S57), sp.length - i ≤ m → i ≤ sp.length → m + s.size < k → l.length ≤ i → TokOK l →
    ∃ r, token_Words.l0 k s l sp (sp.length : Int) (i : Int) = some r ∧ TokOK r ∧ r.length ≤ sp.length := by
  intro m
  induction m with
  | zero =>
    intro k i l hm hi hk hl hT
    obtain ⟨k, rfl⟩ : ∃ j, k = j + 1 := ⟨k - 1, by omega⟩
    unfold token_Words.l0
    rw [if_neg (by omega)]
    exact ⟨l, rfl, hT, by omega⟩
  | succ m ih =>
    intro k i l hm hi hk hl hT
    obtain ⟨k, rfl⟩ : ∃ j, k = j + 1 := ⟨k - 1, by omega⟩
    unfold token_Words.l0
    by_cases c : (i : Int) < (sp.length : Int)
    · rw [if_pos c, if_pos (by omega), if_pos c]
      have hx := hsp _ (List.getElem_mem (show i < sp.length by omega))
      rw [rd166_get sp i (by omega)]
      rw [if_pos hx.1, if_pos (by omega), if_pos hx.2.2]
      have hsz : (s.extract (sp[i].f0).toNat (sp[i].f1).toNat).size = (sp[i].f1).toNat - (sp[i].f0).toNat := by simp; omega
      obtain ⟨t, ht, h0⟩ := fold_total (s.extract (sp[i].f0).toNat (sp[i].f1).toNat) (by omega) k (by omega)
      rw [ht]
      simp only [Option.bind_some]
      rw [w64 ((i : Int) + 1) (by omega) (by omega)]
      have go : ∀ l' : List S57, l'.length ≤ i + 1 → TokOK l' → ∃ r, token_Words.l0 k s l' sp (sp.length : Int) ((i : Int) + 1) = some r ∧ TokOK r ∧ r.length ≤ sp.length := fun l' h1 h2 => ih k (i + 1) l' (by omega) (by omega) (by omega) h1 h2
      by_cases c2 : (i : Int) < 60
      · rw [if_pos c2]
        by_cases c3 : (t.size : Int) ≤ 20
        · rw [if_pos c3, if_pos (by omega)]
          refine go _ (by simp; omega) (fun y hy => ?_)
          rcases List.mem_append.1 hy with hy | hy
          · exact hT y hy
          · rw [List.mem_singleton.1 hy]
            exact ⟨h0 (by omega), by simp; omega⟩
        · rw [if_neg c3]; exact go l (by omega) hT
      · rw [if_neg c2]; exact go l (by omega) hT
    · rw [if_neg c]
      exact ⟨l, rfl, hT, by omega⟩
theorem wordsF_total (s : ByteArray) (hs : s.size ≤ 1000000) (k : Nat) (hk : 3 * s.size + 1 < k) : ∃ r, token_Words.f k s = some r ∧ TokOK r ∧ r.length ≤ s.size := by
  unfold token_Words.f
  obtain ⟨sp, hr, h1, h2⟩ := spansF_total s hs k hk
  rw [hr]
  simp only [Option.bind_some]
  obtain ⟨r, h3, h4, h5⟩ := words_total s hs sp h1 h2 sp.length k 0 [] (by omega) (by omega) (by omega) (by simp) (fun _ h => by cases h)
  exact ⟨r, h3, h4, by omega⟩
theorem ext_size (a : ByteArray) (n : Nat) (h : n ≤ a.size) : (a.extract 0 n).size = n := by simp; omega
theorem plural_ok (a : ByteArray) (h4 : 4 ≤ a.size) (hs : a.size ≤ 1000) : ∃ r, stem_plural.f a = some r ∧ 0 < r.size ∧ r.size ≤ a.size := by
  unfold stem_plural.f
  rw [if_pos (by omega)]
  refine ⟨_, rfl, ?_⟩
  split
  · rw [ext_size a _ (by omega)]; omega
  · split
    · simp only [ByteArray.size_append, ext_size a (a.size - 3) (by omega)]
      have : (⟨#[121]⟩ : ByteArray).size = 1 := rfl
      omega
    · split
      · omega
      · split
        · rw [ext_size a _ (by omega)]; omega
        · omega
theorem twin_ok (a : ByteArray) (h3 : 3 ≤ a.size) (hs : a.size ≤ 1000) : ∃ r, stem_twin.f a = some r ∧ 0 < r.size ∧ r.size ≤ a.size := by
  unfold stem_twin.f stem_vowel.f strings_IndexByte.f
  rw [if_neg (by omega), w64 ((a.size : Int) - 1) (by omega) (by omega), w64 ((a.size : Int) - 2) (by omega) (by omega), if_pos (by omega), if_pos (by omega), if_pos (by omega), if_pos (by omega)]
  simp only [Option.bind_some]
  have e1 : ((a.size : Int) - 1).toNat = a.size - 1 := by omega
  have keep : ∃ r, some a = some r ∧ 0 < r.size ∧ r.size ≤ a.size := ⟨a, rfl, by omega, by omega⟩
  split
  · split
    · exact keep
    · split
      · exact keep
      · rw [if_pos (by omega), e1]
        exact ⟨_, rfl, by rw [ext_size a _ (by omega)]; omega, by rw [ext_size a _ (by omega)]; omega⟩
  · exact keep
theorem past_total (a : ByteArray) (h1 : 1 ≤ a.size) (hs : a.size ≤ 1000) (xs : List ByteArray) (hx : ∀ x ∈ xs, x.size ≤ 1000) (hxl : xs.length ≤ 1000) : ∀ m k i, xs.length - i ≤ m → m < k → ∃ r, stem_past.l0 k a xs (xs.length : Int) ((i : Nat) : Int) = some r ∧ 0 < r.size ∧ r.size ≤ a.size := by
  intro m
  induction m with
  | zero =>
    intro k i hm hk
    obtain ⟨k, rfl⟩ : ∃ j, k = j + 1 := ⟨k - 1, by omega⟩
    unfold stem_past.l0
    rw [if_neg (by omega)]
    exact ⟨a, rfl, by omega, by omega⟩
  | succ m ih =>
    intro k i hm hk
    obtain ⟨k, rfl⟩ : ∃ j, k = j + 1 := ⟨k - 1, by omega⟩
    unfold stem_past.l0
    by_cases c : (i : Int) < (xs.length : Int)
    · rw [if_pos c, if_pos (by omega), if_pos c]
      have hi : i < xs.length := by omega
      have e0 : rdOf ByteArray.empty xs (i : Int) = xs[i] := by simp [rdOf, List.getD_eq_getElem?_getD, List.getElem?_eq_getElem hi]
      have hxi := hx _ (List.getElem_mem hi)
      rw [e0, cutSuffix_f a xs[i] (by omega) (by omega), w64 ((i : Int) + 1) (by omega) (by omega)]
      have go : ∃ r, stem_past.l0 k a xs (xs.length : Int) ((i : Int) + 1) = some r ∧ 0 < r.size ∧ r.size ≤ a.size := ih k (i + 1) (by omega) (by omega)
      by_cases cs : sufB a xs[i] = true
      · rw [if_pos cs]
        simp only [Option.bind_some, if_true]
        have hz := ext_size a (a.size - xs[i].size) (by omega)
        by_cases c3 : ((a.extract 0 (a.size - xs[i].size)).size : Int) ≥ 3
        · rw [if_pos c3]
          unfold stem_vowels.f
          rw [if_pos (by omega)]
          simp only [Option.bind_some]
          split
          · obtain ⟨r, hr, h2, h3⟩ := twin_ok (a.extract 0 (a.size - xs[i].size)) (by omega) (by omega)
            rw [hr]
            exact ⟨r, rfl, h2, by omega⟩
          · exact go
        · rw [if_neg c3]; exact go
      · rw [if_neg cs]
        simp only [Option.bind_some]
        rw [if_neg (by simp)]
        exact go
    · rw [if_neg c]
      exact ⟨a, rfl, by omega, by omega⟩
theorem past_ok (a : ByteArray) (h1 : 1 ≤ a.size) (hs : a.size ≤ 1000) (k : Nat) (hk : 2 < k) : ∃ r, stem_past.f k a = some r ∧ 0 < r.size ∧ r.size ≤ a.size := by
  unfold stem_past.f
  simp only [Option.bind_some]
  exact past_total a h1 hs _ (by intro x hx; simp at hx; rcases hx with rfl | rfl <;> decide) (by simp) 2 k 0 (by simp) hk
theorem ends_small : endsTab.all (fun t => decide (t.2.size ≤ 10)) = true := by kernel_rfl
theorem otherGo_ok : ∀ (l : List (ByteArray × ByteArray)) (a : ByteArray), l.all (fun t => decide (t.2.size ≤ 10)) = true → 1 ≤ a.size → 0 < (otherGo l a).size ∧ (otherGo l a).size ≤ a.size + 10
  | [], a, _, h => by simp [otherGo]; omega
  | (o, p) :: t, a, hl, h => by
    simp only [List.all_cons, Bool.and_eq_true, decide_eq_true_eq] at hl
    unfold otherGo
    split
    · rename_i hc
      simp only [Bool.and_eq_true, decide_eq_true_eq] at hc
      simp only [ByteArray.size_append, ext_size a (a.size - o.size) (by omega)]
      omega
    · exact otherGo_ok t a hl.2 h
theorem other_ok (a : ByteArray) (h1 : 1 ≤ a.size) (hs : a.size ≤ 1000) : ∃ r, stem_other.f a = some r ∧ 0 < r.size ∧ r.size ≤ a.size + 10 := by
  unfold stem_other.f
  rw [if_pos (by omega)]
  have := otherGo_ok endsTab a ends_small h1
  exact ⟨_, rfl, this.1, this.2⟩
theorem stem_round (k : Nat) (hk : 2 < k) (a : ByteArray) (h1 : 1 ≤ a.size) (hs : a.size ≤ 900) (i : Nat) (hi : i < 3) (Q : Option ByteArray → Prop) (hend : Q (some a))
    (hgo : ∀ r : ByteArray, 0 < r.size → r.size ≤ a.size + 10 → Q (stem_Stem.l0 k r [1, 2, 3] 3 ((i + 1 : Nat) : Int))) : Q (stem_Stem.l0 (k + 1) a [1, 2, 3] 3 (i : Int)) := by
  unfold stem_Stem.l0
  rw [if_pos (by omega), if_pos (by omega), if_pos (by simp; omega), w64 ((i : Int) + 1) (by omega) (by omega)]
  unfold stem_plain.f
  rw [if_pos (by omega)]
  simp only [Option.bind_some]
  have e : ((i : Int) + 1) = ((i + 1 : Nat) : Int) := by omega
  rw [e]
  by_cases cp : (plainGo (bytesOf a) && decide (a.size ≥ 4)) = true
  · rw [if_pos cp]
    have h4 : 4 ≤ a.size := by simp at cp; exact cp.2
    split
    · obtain ⟨r, hr, h2, h3⟩ := plural_ok a h4 (by omega)
      rw [hr]
      exact hgo r h2 (by omega)
    · split
      · obtain ⟨r, hr, h2, h3⟩ := past_ok a h1 (by omega) k hk
        rw [hr]
        exact hgo r h2 (by omega)
      · obtain ⟨r, hr, h2, h3⟩ := other_ok a h1 (by omega)
        rw [hr]
        exact hgo r h2 (by omega)
  · rw [if_neg cp]; exact hend
theorem stem_total (a : ByteArray) (h1 : 1 ≤ a.size) (hs : a.size ≤ 800) (k : Nat) (hk : 8 ≤ k) : ∃ r, stem_Stem.f k a = some r ∧ 0 < r.size ∧ r.size ≤ a.size + 30 := by
  obtain ⟨k, rfl⟩ : ∃ j, k = j + 4 := ⟨k - 4, by omega⟩
  unfold stem_Stem.f
  simp only [Option.bind_some]
  refine stem_round (k + 3) (by omega) a h1 (by omega) 0 (by omega) (fun o => ∃ r, o = some r ∧ 0 < r.size ∧ r.size ≤ a.size + 30) ⟨a, rfl, by omega, by omega⟩ (fun r hr hr2 => ?_)
  refine stem_round (k + 2) (by omega) r hr (by omega) 1 (by omega) (fun o => ∃ r, o = some r ∧ 0 < r.size ∧ r.size ≤ a.size + 30) ⟨r, rfl, by omega, by omega⟩ (fun r2 hr3 hr4 => ?_)
  refine stem_round (k + 1) (by omega) r2 hr3 (by omega) 2 (by omega) (fun o => ∃ r, o = some r ∧ 0 < r.size ∧ r.size ≤ a.size + 30) ⟨r2, rfl, by omega, by omega⟩ (fun r3 hr5 hr6 => ?_)
  unfold stem_Stem.l0
  rw [if_neg (by omega)]
  exact ⟨r3, rfl, hr5, by omega⟩
theorem termsGo_total (ts : List S57) (hT : TokOK ts) (hl : ts.length ≤ 1000000) : ∀ m k i (l : List S57), ts.length - i ≤ m → m + 8 < k → l.length ≤ i → i ≤ ts.length → (∀ x ∈ l, 0 < x.f0.size) →
    ∃ r, terms_Text.l0 k l ts (ts.length : Int) (i : Int) = some r ∧ (∀ x ∈ r, 0 < x.f0.size) ∧ r.length ≤ ts.length := by
  intro m
  induction m with
  | zero =>
    intro k i l hm hk hli hi hx
    obtain ⟨k, rfl⟩ : ∃ j, k = j + 1 := ⟨k - 1, by omega⟩
    unfold terms_Text.l0
    rw [if_neg (by omega)]
    exact ⟨l, rfl, hx, by omega⟩
  | succ m ih =>
    intro k i l hm hk hli hi hx
    obtain ⟨k, rfl⟩ : ∃ j, k = j + 1 := ⟨k - 1, by omega⟩
    unfold terms_Text.l0
    by_cases c : (i : Int) < (ts.length : Int)
    · rw [if_pos c, if_pos (by omega), if_pos c, rd57_get ts i (by omega), w64 ((i : Int) + 1) (by omega) (by omega)]
      have hti := hT _ (List.getElem_mem (show i < ts.length by omega))
      unfold stem_Stop.f
      simp only [Option.bind_some]
      split
      · exact ih k (i + 1) l (by omega) (by omega) (by omega) (by omega) hx
      · obtain ⟨r, hr, h1, _⟩ := stem_total ts[i].f0 hti.1 (by omega) k (by omega)
        rw [hr]
        simp only [Option.bind_some]
        rw [if_pos (by omega)]
        refine ih k (i + 1) _ (by omega) (by omega) (by simp; omega) (by omega) (fun y hy => ?_)
        rcases List.mem_append.1 hy with hy | hy
        · exact hx y hy
        · rw [List.mem_singleton.1 hy]; exact h1
    · rw [if_neg c]
      exact ⟨l, rfl, hx, by omega⟩
theorem text_total (s : ByteArray) (hs : s.size ≤ 100000) (k : Nat) (hk : 3 * s.size + 9 < k) : ∃ r, terms_Text.f k s = some r ∧ (∀ x ∈ r, 0 < x.f0.size) ∧ r.length ≤ s.size := by
  unfold terms_Text.f
  obtain ⟨ts, ht, h1, h2⟩ := wordsF_total s (by omega) k (by omega)
  rw [ht]
  simp only [Option.bind_some]
  obtain ⟨r, h3, h4, h5⟩ := termsGo_total ts h1 (by omega) ts.length k 0 [] (by omega) (by omega) (by simp) (by omega) (by simp)
  exact ⟨r, h3, h4, by omega⟩
def KindOK (x : S26) : Prop :=
  (x.f0 = 1 ∧ x.f2 = [] ∧ x.f3 = []) ∨ ((x.f0 = 2 ∨ x.f0 = 3) ∧ (∃ t, x.f2 = [t] ∧ 0 < t.f0.size ∧ t.f1 = 0) ∧ x.f3 = []) ∨ (x.f0 = 4 ∧ (∃ t u, x.f2 = t :: u ∧ 0 < u.length ∧ t.f1 = 0) ∧ x.f3 = []) ∨ ((x.f0 = 5 ∨ x.f0 = 6) ∧ x.f2 = [] ∧ 1 < x.f3.length) ∨ (x.f0 = 7 ∧ x.f2 = [] ∧ x.f3.length = 1)
def Fine : Nat → S26 → Prop
  | 0, _ => False
  | n + 1, x => 0 ≤ x.f1 ∧ x.f1 ≤ 4 ∧ (x.f2.length : Int) ≤ 1000000 ∧ (x.f3.length : Int) ≤ 1000000 ∧ (∀ y ∈ x.f3, Fine n y) ∧ KindOK x
theorem Fine.up : ∀ {n m : Nat} {x : S26}, Fine n x → n ≤ m → Fine m x
  | 0, _, _, h, _ => h.elim
  | n + 1, 0, _, _, h => by omega
  | n + 1, m + 1, _, h, hm => ⟨h.1, h.2.1, h.2.2.1, h.2.2.2.1, fun y hy => (h.2.2.2.2.1 y hy).up (by omega), h.2.2.2.2.2⟩
theorem leafGo_total (l0 : List S57) (h2 : 1 < l0.length) (hl : l0.length ≤ 100000) : ∀ m k i (l : List S57), l0.length - i ≤ m → m < k → l.length = i → i ≤ l0.length → (∀ t u, l = t :: u → t.f1 = 0) →
    ∃ r, parse_leaf.l0 k l0 l0 (l0.length : Int) (i : Int) 4 0 l = some (4, 0, r, []) ∧ r.length = l0.length ∧ (∀ t u, r = t :: u → t.f1 = 0) := by
  intro m
  induction m with
  | zero =>
    intro k i l hm hk hli hi hx
    obtain ⟨k, rfl⟩ : ∃ j, k = j + 1 := ⟨k - 1, by omega⟩
    unfold parse_leaf.l0
    rw [if_neg (by omega)]
    exact ⟨l, rfl, by omega, hx⟩
  | succ m ih =>
    intro k i l hm hk hli hi hx
    obtain ⟨k, rfl⟩ : ∃ j, k = j + 1 := ⟨k - 1, by omega⟩
    unfold parse_leaf.l0
    by_cases c : (i : Int) < (l0.length : Int)
    · rw [if_pos c, if_pos (by omega), if_pos c, if_pos (by omega), if_pos (by omega), w64 ((i : Int) + 1) (by omega) (by omega)]
      refine ih k (i + 1) _ (by omega) (by omega) (by simp; omega) (by omega) (fun t u he => ?_)
      cases l with
      | nil =>
        have h0 : i = 0 := by simpa using hli.symm
        subst h0
        simp only [List.nil_append, List.cons.injEq] at he
        rw [← he.1]
        simp [wrap64]
      | cons a b =>
        simp only [List.cons_append, List.cons.injEq] at he
        rw [← he.1]
        exact hx a b rfl
    · rw [if_neg c]
      exact ⟨l, rfl, by omega, hx⟩
theorem leaf_ok (l : List S57) (hx : ∀ x ∈ l, 0 < x.f0.size) (hl : l.length ≤ 100000) (k : Nat) (hk : l.length < k) : ∃ a b c d, parse_leaf.f k l = some (a, b, c, d) ∧ Fine 1 ⟨a, b, c, d⟩ ∧ d = [] ∧ c.length ≤ 100000 := by
  unfold parse_leaf.f
  by_cases c0 : (l.length : Int) = 0
  · rw [if_pos c0]
    exact ⟨1, 0, [], [], rfl, ⟨by simp, by simp, by simp, by simp, by simp, .inl ⟨rfl, rfl, rfl⟩⟩, rfl, by simp⟩
  · rw [if_neg c0]
    by_cases c1 : (l.length : Int) = 1
    · rw [if_pos c1, if_pos (by omega)]
      have e : rd_T57 l 0 = l[0] := rd57_get l 0 (by omega)
      rw [e]
      exact ⟨2, 0, _, [], rfl, ⟨by simp, by simp, by simp, by simp, by simp, .inr (.inl ⟨.inl rfl, ⟨_, rfl, hx l[0] (List.getElem_mem _), rfl⟩, rfl⟩)⟩, rfl, by simp⟩
    · rw [if_neg c1]
      obtain ⟨r, hr, h1, h2⟩ := leafGo_total l (by omega) hl l.length k 0 [] (by omega) hk rfl (by omega) (by simp)
      refine ⟨4, 0, r, [], hr, ⟨by simp, by simp, by simp; omega, by simp, by simp, .inr (.inr (.inl ⟨rfl, ?_, rfl⟩))⟩, rfl, by omega⟩
      cases r with
      | nil => simp at h1; omega
      | cons t u => exact ⟨t, u, rfl, by simp at h1; omega, h2 t u rfl⟩
theorem single_total (s : ByteArray) (hs : s.size ≤ 1000000) (k : Nat) (hk : 3 * s.size + 1 < k) : ∃ b, token_Single.f k s = some b := by
  unfold token_Single.f
  obtain ⟨sp, hr, _, _⟩ := spansF_total s hs k hk
  rw [hr]
  simp only [Option.bind_some]
  split
  · rw [if_pos (by omega)]; exact ⟨_, rfl⟩
  · exact ⟨_, rfl⟩
theorem prefix_ok (s : ByteArray) (h0 : 0 < s.size) (hs : s.size ≤ 1000000) (k : Nat) (hk : 3 * s.size + 1 < k) : ∃ a b c d, parse_prefix.f k s = some (a, b, c, d) ∧ Fine 1 ⟨a, b, c, d⟩ ∧ d = [] := by
  unfold parse_prefix.f terms_Prefix.f
  obtain ⟨t, ht, h1⟩ := fold_total s hs k (by omega)
  obtain ⟨b, hb⟩ := single_total s hs k hk
  rw [ht, hb]
  simp only [Option.bind_some]
  have none_ : Fine 1 (⟨1, 0, [], []⟩ : S26) := ⟨by simp, by simp, by simp, by simp, by simp, .inl ⟨rfl, rfl, rfl⟩⟩
  cases b with
  | false => exact ⟨1, 0, [], [], rfl, none_, rfl⟩
  | true =>
    rw [if_pos rfl]
    by_cases c : (t.size : Int) > 20
    · rw [if_pos c]; exact ⟨1, 0, [], [], rfl, none_, rfl⟩
    · rw [if_neg c]
      exact ⟨3, 0, _, [], rfl, ⟨by simp, by simp, by simp, by simp, by simp, .inr (.inl ⟨.inr rfl, ⟨_, rfl, h1 h0, rfl⟩, rfl⟩)⟩, rfl⟩
theorem index_total (xs : List ByteArray) (y : ByteArray) (hl : xs.length ≤ 1000) : ∀ m k i : Nat, xs.length - i ≤ m → m < k → ∃ r, slices_Index_string_string.l0 k xs y (xs.length : Int) (i : Int) = some r ∧ -1 ≤ r ∧ r < (xs.length : Int) ∨ xs.length = 0 := by
  intro m
  induction m with
  | zero =>
    intro k i hm hk
    by_cases h0 : xs.length = 0
    · exact ⟨0, .inr h0⟩
    obtain ⟨k, rfl⟩ : ∃ j, k = j + 1 := ⟨k - 1, by omega⟩
    unfold slices_Index_string_string.l0
    rw [if_neg (by omega)]
    exact ⟨-1, .inl ⟨rfl, by omega, by omega⟩⟩
  | succ m ih =>
    intro k i hm hk
    by_cases h0 : xs.length = 0
    · exact ⟨0, .inr h0⟩
    obtain ⟨k, rfl⟩ : ∃ j, k = j + 1 := ⟨k - 1, by omega⟩
    unfold slices_Index_string_string.l0
    by_cases c : (i : Int) < (xs.length : Int)
    · rw [if_pos c, if_pos (by omega), if_pos c, w64 ((i : Int) + 1) (by omega) (by omega)]
      split
      · exact ⟨(i : Int), .inl ⟨rfl, by omega, c⟩⟩
      · exact ih k (i + 1) (by omega) (by omega)
    · rw [if_neg c]
      exact ⟨-1, .inl ⟨rfl, by omega, by omega⟩⟩
theorem field_ok (y : ByteArray) (k : Nat) (hk : 6 ≤ k) : ∃ r, parse_Field.f k y = some r ∧ 0 ≤ r ∧ r ≤ 4 := by
  unfold parse_Field.f slices_Index_string_string.f
  obtain ⟨r, hr⟩ := index_total [(⟨#[]⟩ : ByteArray), (⟨#[116, 105, 116, 108, 101]⟩ : ByteArray), (⟨#[98, 111, 100, 121]⟩ : ByteArray), (⟨#[116, 97, 103]⟩ : ByteArray), (⟨#[110, 111, 116, 101]⟩ : ByteArray)] y (by simp) 5 k 0 (by simp) (by omega)
  rcases hr with ⟨h1, h2, h3⟩ | h
  · rw [show ((0 : Nat) : Int) = 0 from rfl] at h1
    rw [h1]
    simp only [Option.bind_some]
    simp only [List.length_cons, List.length_nil] at h3
    exact ⟨_, rfl, by unfold mx; split <;> omega, by unfold mx; split <;> omega⟩
  · simp at h
theorem skipB_ge (s : ByteArray) : ∀ n i, i ≤ skipGo s n i
  | 0, i => Nat.le_refl _
  | n + 1, i => by
    unfold skipGo
    split
    · exact Nat.le_trans (Nat.le_succ _) (skipB_ge s n (i + 1))
    · exact Nat.le_refl _
theorem peek_st (s : ByteArray) (st : PSt) (h : st.at_ ≤ s.size) : st.at_ ≤ (peekF s st).2.at_ ∧ (peekF s st).2.at_ ≤ s.size ∧ (peekF s st).2.err = st.err ∧ (peekF s st).2.deep = st.deep ∧ (((peekF s st).1 = -1 ∧ (peekF s st).2.at_ = s.size) ∨ (0 ≤ (peekF s st).1 ∧ (peekF s st).2.at_ < s.size)) := by
  have h1 := skipB_ge s (s.size - st.at_) st.at_
  have h2 := skipGo_le s (s.size - st.at_) st.at_ h
  refine ⟨h1, h2, rfl, rfl, ?_⟩
  unfold peekF
  by_cases c : skipB s st.at_ < s.size
  · simp only [if_pos c]
    exact .inr ⟨(bt_range s _).1, c⟩
  · simp only [if_neg c]
    refine .inl ⟨trivial, ?_⟩
    have : skipB s st.at_ ≤ s.size := h2
    show skipB s st.at_ = s.size
    omega
theorem take_st (s : ByteArray) (st : PSt) (c : Int) : ((takeF s st c).1 = false ∧ (takeF s st c).2 = st) ∨ ((takeF s st c).1 = true ∧ st.at_ < s.size ∧ (takeF s st c).2 = { st with at_ := st.at_ + 1 }) := by
  unfold takeF
  split
  · rename_i h; exact .inr ⟨rfl, h.1, rfl⟩
  · exact .inl ⟨rfl, rfl⟩
theorem fail_st (s : ByteArray) (st : PSt) (e : Int) (h : st.err = 0) : failF s st e = { st with err := e, at_ := s.size } := by
  unfold failF; rw [if_pos h]
theorem fail_st2 (s : ByteArray) (st : PSt) (e : Int) (h : ¬ st.err = 0) : failF s st e = st := by
  unfold failF; rw [if_neg h]
def Post (s : ByteArray) (st : PSt) (h : Nat) (x : S26) (st' : PSt) : Prop :=
  st'.at_ ≤ s.size ∧ maxKids x ≤ s.size + 1 ∧ ((st'.err = 0 ∧ st'.deep = st.deep ∧ st.at_ < st'.at_ ∧ Fine h x) ∨ (¬ st'.err = 0 ∧ st'.at_ = s.size ∧ st.deep ≤ st'.deep ∧ st'.deep ≤ st.deep + 1))
theorem Post.from_ {s : ByteArray} {st st0 : PSt} {h h2 : Nat} {x : S26} {st' : PSt} (hp : Post s st h x st') (hd : st0.deep = st.deep) (ha : st0.at_ ≤ st.at_) (hh : h ≤ h2) : Post s st0 h2 x st' := by
  refine ⟨hp.1, hp.2.1, ?_⟩
  rcases hp.2.2 with ⟨a, b, c, d⟩ | ⟨a, b, c, d⟩
  · exact .inl ⟨a, by omega, by omega, d.up hh⟩
  · exact .inr ⟨a, b, by omega, by omega⟩
def Tot (s : ByteArray) (m : Nat) (b : Nat) (hgt : Nat → Nat) (F : Nat → PSt → Option (S26 × PSt)) : Prop :=
  ∀ k st, s.size - st.at_ ≤ m → b ≤ k → st.at_ ≤ s.size → st.err = 0 → st.deep ≤ 6 → ∃ x st', F k st = some (x, st') ∧ Post s st (hgt st.deep) x st'
def hU (d : Nat) : Nat := 1 + 2 * (6 - d)
theorem maxKids_leaf (x : S26) (h : x.f3 = []) : maxKids x = 0 := by rw [maxKids_eq, h]; simp [maxKidsL]
theorem zN_kids : maxKids zN = 0 := maxKids_leaf zN rfl
theorem nest_tot (s : ByteArray) (m b : Nat) (hgt : Nat → Nat) (F : Nat → PSt → Option (S26 × PSt)) (hF : Tot s m b hgt F) (k : Nat) (st : PSt) (hm : s.size - st.at_ ≤ m) (hk : b ≤ k) (ha : st.at_ ≤ s.size) (he : st.err = 0) (hd : st.deep ≤ 6) :
    ∃ x st', nestG (fun st => F k st) s st = some (x, st') ∧ st'.at_ ≤ s.size ∧ maxKids x ≤ s.size + 1 ∧ ((st'.err = 0 ∧ st'.deep = st.deep ∧ st.at_ < st'.at_ ∧ st.deep + 1 ≤ 6 ∧ Fine (hgt (st.deep + 1)) x) ∨ (¬ st'.err = 0 ∧ st'.at_ = s.size ∧ st.deep ≤ st'.deep ∧ st'.deep ≤ st.deep + 1)) := by
  unfold nestG
  rw [if_pos (by omega)]
  by_cases c : 6 < st.deep + 1
  · rw [if_pos c, fail_st s (deeper st) 14 he]
    exact ⟨zN, _, rfl, Nat.le_refl _, by rw [zN_kids]; omega, .inr ⟨by simp, rfl, by simp [deeper], by simp [deeper]⟩⟩
  · rw [if_neg c]
    obtain ⟨x, st', hx, h1, h2, h3⟩ := hF k (deeper st) hm hk ha he (by simp only [deeper]; omega)
    have e0 : (fun st => F k st) (deeper st) = some (x, st') := hx
    rw [e0]
    simp only [Option.bind_some]
    have hdd : (deeper st).deep = st.deep + 1 := rfl
    have haa : (deeper st).at_ = st.at_ := rfl
    rw [hdd, haa] at h3
    rcases h3 with ⟨a1, a2, a3, a4⟩ | ⟨a1, a2, a3, a4⟩
    · rw [if_pos (by omega)]
      exact ⟨x, higher st', rfl, h1, h2, .inl ⟨a1, by simp only [higher]; omega, a3, by omega, a4⟩⟩
    · rw [if_pos (by omega)]
      exact ⟨x, higher st', rfl, h1, h2, .inr ⟨a1, a2, by simp only [higher]; omega, by simp only [higher]; omega⟩⟩
theorem phrase_tot (s : ByteArray) (hs : s.size ≤ 1000) (k : Nat) (hk : 4 * s.size + 20 < k) (st : PSt) (ha : st.at_ ≤ s.size) (he : st.err = 0) :
    ∃ x st', phraseF k s st = some (x, st') ∧ st'.at_ ≤ s.size ∧ maxKids x ≤ s.size + 1 ∧ ((st'.err = 0 ∧ st'.deep = st.deep ∧ st.at_ < st'.at_ ∧ Fine 1 x) ∨ (¬ st'.err = 0 ∧ st'.at_ = s.size ∧ st'.deep = st.deep)) := by
  unfold phraseF
  have hrs : (s.extract st.at_ s.size).size = s.size - st.at_ := by simp
  by_cases c : Lib.indexByte (s.extract st.at_ s.size).data.toList 34 < 0
  · rw [if_pos c, fail_st s st 13 he]
    exact ⟨zN, _, rfl, Nat.le_refl _, by rw [zN_kids]; omega, .inr ⟨by simp, rfl, rfl⟩⟩
  · rw [if_neg c]
    obtain ⟨n, hn⟩ := Int.eq_ofNat_of_zero_le (show 0 ≤ Lib.indexByte (s.extract st.at_ s.size).data.toList 34 by omega)
    have hlt : n < (s.extract st.at_ s.size).data.toList.length := by
      have := (Lib.indexByte_some hn).1
      exact (List.getElem?_eq_some_iff.1 this).1
    rw [data_length, hrs] at hlt
    rw [hn]
    simp only [Int.toNat_natCast]
    have hz : ((s.extract st.at_ s.size).extract 0 n).size ≤ s.size := by
      rw [ext_size _ n (by omega)]; omega
    obtain ⟨l, hl, h1, h2⟩ := text_total ((s.extract st.at_ s.size).extract 0 n) (by omega) k (by omega)
    rw [hl]
    simp only [Option.bind_some]
    obtain ⟨a, b, c', d, hr, hf, hd, _⟩ := leaf_ok l h1 (by omega) k (by omega)
    rw [hr]
    simp only [Option.bind_some]
    rw [if_pos (by omega)]
    exact ⟨_, _, rfl, by simp only; omega, by rw [maxKids_leaf _ hd]; omega, .inl ⟨he, rfl, by simp only; omega, hf⟩⟩
mutual
theorem within_kids (f : Int) : ∀ x : S26, maxKids (withinF f x) = maxKids x
  | ⟨k, fd, ts, kids⟩ => by
    simp only [withinF, maxKids, withinL_length]
    rw [within_kidsL f kids]
theorem within_kidsL (f : Int) : ∀ l : List S26, maxKidsL (withinL f l) = maxKidsL l
  | [] => by simp [withinL]
  | x :: t => by
    simp only [withinL, maxKidsL]
    rw [within_kids f x, within_kidsL f t]
end
theorem within_mem (f : Int) (l : List S26) (y : S26) (h : y ∈ withinL f l) : ∃ x ∈ l, y = withinF f x := by
  induction l with
  | nil => simp [withinL] at h
  | cons a t ih =>
    simp only [withinL, List.mem_cons] at h
    rcases h with rfl | h
    · exact ⟨a, by simp, rfl⟩
    · obtain ⟨x, hx, rfl⟩ := ih h
      exact ⟨x, by simp [hx], rfl⟩
theorem within_fine (f : Int) (h0 : 0 ≤ f) (h4 : f ≤ 4) : ∀ n (x : S26), Fine n x → Fine n (withinF f x)
  | 0, _, h => h.elim
  | n + 1, x, h => by
    obtain ⟨a1, a2, a3, a4, a5, a6⟩ := h
    have e1 : (withinF f x).f1 = x.f1 ∨ (withinF f x).f1 = f := by
      cases x; simp only [withinF]; split
      · exact .inr rfl
      · exact .inl rfl
    refine ⟨by rcases e1 with e | e <;> rw [e] <;> omega, by rcases e1 with e | e <;> rw [e] <;> omega, by rw [within2]; exact a3, by rw [within3, withinL_length]; exact a4, fun y hy => ?_, ?_⟩
    · rw [within3] at hy
      obtain ⟨z, hz, rfl⟩ := within_mem f x.f3 y hy
      exact within_fine f h0 h4 n z (a5 z hz)
    · unfold KindOK at a6 ⊢
      have en : ∀ l : List S26, withinL f l = [] ↔ l = [] := fun l => by cases l <;> simp [withinL]
      rw [within0, within2, within3, withinL_length]
      simp only [en]
      exact a6
theorem atom_tot (s : ByteArray) (hs : s.size ≤ 1000) (m b : Nat) (hb : 4 * s.size + 30 ≤ b)
    (hI : ∀ m', m' < m → Tot s m' b (fun d => 2 + hU d) (fun k st => innerF k s st)) (hA : ∀ m', m' < m → Tot s m' b hU (fun k st => atomF k s st)) : Tot s m (b + 1) hU (fun k st => atomF k s st) := by
  intro k st hm hk ha he hd
  obtain ⟨k, rfl⟩ : ∃ j, k = j + 1 := ⟨k - 1, by omega⟩
  have hp := peek_st s st ha
  obtain ⟨st2, hst2⟩ : ∃ q, q = (peekF s st).2 := ⟨_, rfl⟩
  rw [← hst2] at hp
  simp only [atomF]
  rw [← hst2]
  obtain ⟨p1, p2, p3, p4, _⟩ := hp
  have h1U : ∀ d, 1 ≤ hU d := fun d => by unfold hU; omega
  rcases take_st s st2 40 with ⟨t, e⟩ | ⟨t, hlt, e⟩
  · rw [t, if_neg (by simp), e]
    rcases take_st s st2 34 with ⟨t, e⟩ | ⟨t, hlt, e⟩
    · rw [t, if_neg (by simp)]
      obtain ⟨j, hj⟩ := wordGo_total s (by omega) (s.size - st2.at_) k st2.at_ (Nat.le_refl _) (by omega)
      have hjj := wordGo_le s k st2.at_ j p2 hj
      rw [hj]
      simp only [Option.bind_some]
      have hsz : (s.extract st2.at_ j).size = j - st2.at_ := by simp; omega
      by_cases c0 : (s.extract st2.at_ j).size = 0
      · rw [if_pos c0, fail_st s (wordTo st2 j) 13 (by simp only [wordTo]; omega)]
        exact ⟨zN, _, rfl, Nat.le_refl _, by rw [zN_kids]; omega, .inr ⟨by simp, rfl, by simp only [wordTo]; omega, by simp only [wordTo]; omega⟩⟩
      · rw [if_neg c0]
        have hja : st2.at_ < j := by omega
        rcases take_st s (wordTo st2 j) 42 with ⟨t, e⟩ | ⟨t, hlt, e⟩
        · rw [t, if_neg (by simp), e]
          rcases take_st s (wordTo st2 j) 58 with ⟨t, e⟩ | ⟨t, hlt, e⟩
          · rw [t, if_neg (by simp)]
            obtain ⟨l, hl, h1, h2⟩ := text_total (s.extract st2.at_ j) (by omega) k (by omega)
            rw [hl]
            simp only [Option.bind_some]
            obtain ⟨a, b', c', d, hr, hf, hd', _⟩ := leaf_ok l h1 (by omega) k (by omega)
            rw [hr]
            exact ⟨_, _, rfl, by simp only [wordTo]; omega, by rw [maxKids_leaf _ hd']; omega, .inl ⟨by simp only [wordTo]; omega, by simp only [wordTo]; omega, by simp only [wordTo]; omega, hf.up (h1U _)⟩⟩
          · rw [t, if_pos rfl, e]
            obtain ⟨f, hfi, f0, f4⟩ := field_ok (s.extract st2.at_ j) k (by omega)
            rw [hfi]
            simp only [Option.bind_some]
            have hwa : (wordTo st2 j).at_ = j := rfl
            have hwe : (wordTo st2 j).err = st2.err := rfl
            have hwd : (wordTo st2 j).deep = st2.deep := rfl
            rw [hwa] at hlt
            by_cases cf : f = 0
            · rw [if_pos cf, fail_st s _ 13 (by simp only [wordTo]; omega)]
              exact ⟨zN, _, rfl, Nat.le_refl _, by rw [zN_kids]; omega, .inr ⟨by simp, rfl, by simp only [wordTo]; omega, by simp only [wordTo]; omega⟩⟩
            · rw [if_neg cf]
              obtain ⟨x, st', hx, n1, n2, n3⟩ := nest_tot s (s.size - (j + 1)) b hU (fun k st => atomF k s st) (hA _ (by omega)) k { wordTo st2 j with at_ := (wordTo st2 j).at_ + 1 } (by simp only [wordTo]; omega) (by omega) (by simp only [wordTo]; omega) (by simp only [wordTo]; omega) (by simp only [wordTo]; omega)
              rw [hx]
              simp only [Option.bind_some]
              rw [if_pos (by omega)]
              refine ⟨_, _, rfl, n1, by rw [within_kids]; exact n2, ?_⟩
              simp only [wordTo] at n3
              rcases n3 with ⟨a1, a2, a3, a4, a5⟩ | ⟨a1, a2, a3, a4⟩
              · refine .inl ⟨a1, by omega, by omega, within_fine f f0 f4 _ x (a5.up ?_)⟩
                unfold hU; omega
              · exact .inr ⟨a1, a2, by omega, by omega⟩
        · rw [t, if_pos rfl, e]
          obtain ⟨a, b', c', d, hr, hf, hd'⟩ := prefix_ok (s.extract st2.at_ j) (by omega) (by omega) k (by omega)
          rw [hr]
          have hwa : (wordTo st2 j).at_ = j := rfl
          rw [hwa] at hlt
          exact ⟨_, _, rfl, by simp only [wordTo]; omega, by rw [maxKids_leaf _ hd']; omega, .inl ⟨by simp only [wordTo]; omega, by simp only [wordTo]; omega, by simp only [wordTo]; omega, hf.up (h1U _)⟩⟩
    · rw [t, if_pos rfl, e]
      obtain ⟨x, st', hx, n1, n2, n3⟩ := phrase_tot s hs k (by omega) { st2 with at_ := st2.at_ + 1 } hlt (by simp only; omega)
      rw [hx]
      refine ⟨x, st', rfl, n1, n2, ?_⟩
      simp only at n3
      rcases n3 with ⟨a1, a2, a3, a4⟩ | ⟨a1, a2, a3⟩
      · exact .inl ⟨a1, by omega, by omega, a4.up (h1U _)⟩
      · exact .inr ⟨a1, a2, by omega, by omega⟩
  · rw [t, if_pos rfl, e]
    obtain ⟨x, st', hx, n1, n2, n3⟩ := nest_tot s (s.size - (st2.at_ + 1)) b (fun d => 2 + hU d) (fun k st => innerF k s st) (hI _ (by omega)) k { st2 with at_ := st2.at_ + 1 } (Nat.le_refl _) (by omega) hlt (by simp only; omega) (by simp only; omega)
    rw [hx]
    refine ⟨x, st', rfl, n1, n2, ?_⟩
    simp only at n3
    rcases n3 with ⟨a1, a2, a3, a4, a5⟩ | ⟨a1, a2, a3, a4⟩
    · refine .inl ⟨a1, by omega, by omega, a5.up ?_⟩
      unfold hU; omega
    · exact .inr ⟨a1, a2, by omega, by omega⟩
theorem unary_tot (s : ByteArray) (hs : s.size ≤ 1000) (m b : Nat)
    (hN : ∀ m', m' < m → Tot s m' b hU (fun k st => unaryF k s st)) (hA : Tot s m b hU (fun k st => atomF k s st)) : Tot s m (b + 1) hU (fun k st => unaryF k s st) := by
  intro k st hm hk ha he hd
  obtain ⟨k, rfl⟩ : ∃ j, k = j + 1 := ⟨k - 1, by omega⟩
  have hp := peek_st s st ha
  obtain ⟨st2, hst2⟩ : ∃ q, q = (peekF s st).2 := ⟨_, rfl⟩
  rw [← hst2] at hp
  simp only [unaryF]
  rw [← hst2]
  obtain ⟨p1, p2, p3, p4, _⟩ := hp
  rcases take_st s st2 45 with ⟨t, e⟩ | ⟨t, hlt, e⟩
  · rw [t, if_neg (by simp), e]
    obtain ⟨x, st', hx, hP⟩ := hA k st2 (by omega) (by omega) p2 (by omega) (by omega)
    exact ⟨x, st', hx, hP.from_ p4.symm p1 (by rw [p4]; exact Nat.le_refl _)⟩
  · rw [t, if_pos rfl, e]
    obtain ⟨x, st', hx, n1, n2, n3⟩ := nest_tot s (s.size - (st2.at_ + 1)) b hU (fun k st => unaryF k s st) (hN _ (by omega)) k { st2 with at_ := st2.at_ + 1 } (Nat.le_refl _) (by omega) hlt (by simp only; omega) (by simp only; omega)
    rw [hx]
    simp only [Option.bind_some]
    refine ⟨_, _, rfl, n1, ?_, ?_⟩
    · rw [maxKids_eq]; simp only [maxKidsL, List.length_singleton]; omega
    · simp only at n3
      rcases n3 with ⟨a1, a2, a3, a4, a5⟩ | ⟨a1, a2, a3, a4⟩
      · refine .inl ⟨a1, by omega, by omega, ?_⟩
        have h2 : Fine (hU (st2.deep + 1) + 1) (⟨7, 0, [], [x]⟩ : S26) := ⟨by simp, by simp, by simp, by simp, by simp; exact a5, .inr (.inr (.inr (.inr ⟨rfl, rfl, rfl⟩)))⟩
        exact h2.up (by unfold hU; omega)
      · exact .inr ⟨a1, a2, by omega, by omega⟩
def PostL (s : ByteArray) (st : PSt) (h : Nat) (l : List S26) (st' : PSt) : Prop :=
  st'.at_ ≤ s.size ∧ 0 < l.length ∧ l.length ≤ s.size + 1 ∧ maxKidsL l ≤ s.size + 1 ∧ ((st'.err = 0 ∧ st'.deep = st.deep ∧ st.at_ ≤ st'.at_ ∧ ∀ x ∈ l, Fine h x) ∨ (¬ st'.err = 0 ∧ st'.at_ = s.size ∧ st.deep ≤ st'.deep ∧ st'.deep ≤ st.deep + 1))
theorem maxKidsL_snoc (l : List S26) (x : S26) : maxKidsL (l ++ [x]) = max (maxKidsL l) (maxKids x) := by
  induction l with
  | nil => simp [maxKidsL]
  | cons a t ih => simp only [List.cons_append, maxKidsL, ih]; omega
theorem join_post (kind : Int) (hk : kind = 5 ∨ kind = 6) (s : ByteArray) (hs : s.size ≤ 1000) (st0 st : PSt) (h : Nat) (l : List S26) (st' : PSt) (hd : st0.deep = st.deep) (ha : st0.at_ < st.at_) (hp : PostL s st h l st') : Post s st0 (h + 1) (joinF kind l) st' := by
  obtain ⟨p1, p2, p3, p4, p5⟩ := hp
  refine ⟨p1, ?_, ?_⟩
  · by_cases c : l.length = 1
    · rw [joinF_one kind l c]
      exact Nat.le_trans (maxKidsL_get l 0 (by omega)) p4
    · rw [joinF_more kind l c, maxKids_eq]
      simp only
      omega
  · rcases p5 with ⟨a1, a2, a3, a4⟩ | ⟨a1, a2, a3, a4⟩
    · refine .inl ⟨a1, by omega, by omega, ?_⟩
      by_cases c : l.length = 1
      · rw [joinF_one kind l c]
        exact (a4 _ (List.getElem_mem _)).up (Nat.le_succ _)
      · rw [joinF_more kind l c]
        exact ⟨by simp, by simp, by simp, by simp only; omega, a4, .inr (.inr (.inr (.inl ⟨hk, rfl, by simp only; omega⟩)))⟩
    · exact .inr ⟨a1, a2, by omega, by omega⟩
theorem everyL_end (s : ByteArray) (k : Nat) (p : Int × PSt) (l : List S26) (hk : 1 ≤ k) (hp : p.1 = -1) : everyL k s p l = some (l, p.2) := by
  obtain ⟨k, rfl⟩ : ∃ j, k = j + 1 := ⟨k - 1, by omega⟩
  unfold everyL
  rw [if_neg (fun h => by have := h.1; omega)]
theorem anyL_end (s : ByteArray) (k : Nat) (st : PSt) (l : List S26) (hk : 1 ≤ k) (hp : ¬ (peekF s st).1 = 124) : anyL k s st l = some (l, (peekF s st).2) := by
  obtain ⟨k, rfl⟩ : ∃ j, k = j + 1 := ⟨k - 1, by omega⟩
  unfold anyL
  rw [if_neg hp]
theorem everyL_tot (s : ByteArray) (hs : s.size ≤ 1000) (b M : Nat) (hN : ∀ m, m ≤ M → Tot s m (b + 8 * m) hU (fun k st => unaryF k s st)) : ∀ m k (p : Int × PSt) (l : List S26), m ≤ M → s.size - p.2.at_ ≤ m → b + 8 * m + 1 ≤ k → p.2.at_ ≤ s.size → 0 < l.length → l.length ≤ p.2.at_ → maxKidsL l ≤ s.size + 1 →
    (0 ≤ p.1 → p.2.at_ < s.size) → p.2.err = 0 → p.2.deep ≤ 6 → (∀ x ∈ l, Fine (hU p.2.deep) x) → ∃ lq stq, everyL k s p l = some (lq, stq) ∧ PostL s p.2 (hU p.2.deep) lq stq := by
  intro m
  induction m with
  | zero =>
    intro k p l hM hm hk ha hl hl2 hml hc he hd hF
    obtain ⟨k, rfl⟩ : ∃ j, k = j + 1 := ⟨k - 1, by omega⟩
    unfold everyL
    rw [if_neg (fun h => by have := hc h.1; omega)]
    exact ⟨l, p.2, rfl, ha, hl, by omega, hml, .inl ⟨he, rfl, Nat.le_refl _, hF⟩⟩
  | succ m ih =>
    intro k p l hM hm hk ha hl hl2 hml hc he hd hF
    obtain ⟨k, rfl⟩ : ∃ j, k = j + 1 := ⟨k - 1, by omega⟩
    unfold everyL
    by_cases c : 0 ≤ p.1 ∧ p.1 ≠ 124 ∧ p.1 ≠ 41
    · rw [if_pos c, if_pos (by omega)]
      have hlt := hc c.1
      obtain ⟨x, st', hx, q1, q2, q3⟩ := hN (s.size - p.2.at_) (by omega) k p.2 (Nat.le_refl _) (by omega) ha he hd
      rw [show unaryF k s p.2 = some (x, st') from hx]
      simp only [Option.bind_some]
      have hp := peek_st s st' q1
      obtain ⟨pq, hpq⟩ : ∃ q, q = peekF s st' := ⟨_, rfl⟩
      rw [← hpq] at hp ⊢
      obtain ⟨r1, r2, r3, r4, r5⟩ := hp
      rcases q3 with ⟨b1, b2, b3, b4⟩ | ⟨b1, b2, b3, b4⟩
      · obtain ⟨lq, stq, h1, h2, h3, h4, h5, h6⟩ := ih k pq (l ++ [x]) (by omega) (by omega) (by omega) r2 (by simp) (by simp; omega) (by rw [maxKidsL_snoc]; omega) (fun h => by rcases r5 with r5 | r5 <;> omega) (by omega) (by omega) (fun y hy => by
            rcases List.mem_append.1 hy with hy | hy
            · rw [r4, b2]; exact hF y hy
            · rw [List.mem_singleton.1 hy, r4, b2]; exact b4)
        refine ⟨lq, stq, h1, h2, h3, h4, h5, ?_⟩
        rcases h6 with ⟨d1, d2, d3, d4⟩ | ⟨d1, d2, d3, d4⟩
        · exact .inl ⟨d1, by omega, by omega, fun y hy => by have := d4 y hy; rw [r4, b2] at this; exact this⟩
        · exact .inr ⟨d1, d2, by omega, by omega⟩
      · rw [everyL_end s k pq _ (by omega) (by rcases r5 with r5 | r5 <;> omega)]
        exact ⟨_, _, rfl, r2, by simp, by simp; omega, by rw [maxKidsL_snoc]; omega, .inr ⟨by omega, by omega, by omega, by omega⟩⟩
    · rw [if_neg c]
      exact ⟨l, p.2, rfl, ha, hl, by omega, hml, .inl ⟨he, rfl, Nat.le_refl _, hF⟩⟩
theorem every_tot (s : ByteArray) (hs : s.size ≤ 1000) (b M : Nat) (hN : ∀ m, m ≤ M → Tot s m (b + 8 * m) hU (fun k st => unaryF k s st)) : Tot s M (b + 8 * M + 2) (fun d => hU d + 1) (fun k st => everyF k s st) := by
  intro k st hm hk ha he hd
  obtain ⟨k, rfl⟩ : ∃ j, k = j + 1 := ⟨k - 1, by omega⟩
  simp only [everyF]
  obtain ⟨x, st', hx, q1, q2, q3⟩ := hN M (Nat.le_refl _) k st hm (by omega) ha he hd
  rw [show unaryF k s st = some (x, st') from hx]
  simp only [Option.bind_some]
  have hp := peek_st s st' q1
  obtain ⟨pq, hpq⟩ : ∃ q, q = peekF s st' := ⟨_, rfl⟩
  rw [← hpq] at hp ⊢
  obtain ⟨r1, r2, r3, r4, r5⟩ := hp
  have h1k : maxKidsL [x] ≤ s.size + 1 := by simp only [maxKidsL]; omega
  rcases q3 with ⟨b1, b2, b3, b4⟩ | ⟨b1, b2, b3, b4⟩
  · obtain ⟨lq, stq, h1, hP⟩ := everyL_tot s hs b M hN M k pq [x] (Nat.le_refl _) (by omega) (by omega) r2 (by simp) (by simp; omega) h1k (fun h => by rcases r5 with r5 | r5 <;> omega) (by omega) (by omega) (fun y hy => by rw [List.mem_singleton.1 hy, r4, b2]; exact b4)
    rw [h1]
    refine ⟨_, _, rfl, ?_⟩
    have := join_post 5 (.inl rfl) s hs st pq.2 (hU pq.2.deep) lq stq (by omega) (by omega) hP
    rw [r4, b2] at this
    exact this
  · rw [everyL_end s k pq _ (by omega) (by rcases r5 with r5 | r5 <;> omega)]
    simp only [Option.bind_some]
    exact ⟨_, _, rfl, r2, q2, .inr ⟨by omega, by omega, by omega, by omega⟩⟩
theorem anyL_tot (s : ByteArray) (hs : s.size ≤ 1000) (b M : Nat) (hN : ∀ m, m ≤ M → Tot s m (b + 8 * m) (fun d => hU d + 1) (fun k st => everyF k s st)) : ∀ m k (st : PSt) (l : List S26), m ≤ M → s.size - st.at_ ≤ m → b + 8 * m + 1 ≤ k → st.at_ ≤ s.size → 0 < l.length → l.length ≤ st.at_ → maxKidsL l ≤ s.size + 1 →
    st.err = 0 → st.deep ≤ 6 → (∀ x ∈ l, Fine (hU st.deep + 1) x) → ∃ lq stq, anyL k s st l = some (lq, stq) ∧ PostL s st (hU st.deep + 1) lq stq := by
  intro m
  induction m with
  | zero =>
    intro k st l hM hm hk ha hl hl2 hml he hd hF
    have hp := peek_st s st ha
    obtain ⟨r1, r2, r3, r4, r5⟩ := hp
    rw [anyL_end s k st l (by omega) (by rcases r5 with r5 | r5 <;> omega)]
    exact ⟨l, _, rfl, r2, hl, by omega, hml, .inl ⟨by omega, r4, r1, hF⟩⟩
  | succ m ih =>
    intro k st l hM hm hk ha hl hl2 hml he hd hF
    obtain ⟨k, rfl⟩ : ∃ j, k = j + 1 := ⟨k - 1, by omega⟩
    have hp := peek_st s st ha
    unfold anyL
    obtain ⟨pq, hpq⟩ : ∃ q, q = peekF s st := ⟨_, rfl⟩
    rw [← hpq] at hp ⊢
    obtain ⟨r1, r2, r3, r4, r5⟩ := hp
    by_cases c : pq.1 = 124
    · rw [if_pos c, if_pos ⟨by rcases r5 with r5 | r5 <;> omega, by omega⟩]
      have hlt : pq.2.at_ < s.size := by rcases r5 with r5 | r5 <;> omega
      obtain ⟨x, st', hx, q1, q2, q3⟩ := hN (s.size - (pq.2.at_ + 1)) (by omega) k (bump pq.2) (Nat.le_refl _) (by omega) hlt (by simp only [bump]; omega) (by simp only [bump]; omega)
      rw [show everyF k s (bump pq.2) = some (x, st') from hx]
      simp only [Option.bind_some]
      simp only [bump] at q3
      rcases q3 with ⟨b1, b2, b3, b4⟩ | ⟨b1, b2, b3, b4⟩
      · obtain ⟨lq, stq, h1, h2, h3, h4, h5, h6⟩ := ih k st' (l ++ [x]) (by omega) (by omega) (by omega) q1 (by simp) (by simp; omega) (by rw [maxKidsL_snoc]; omega) b1 (by omega) (fun y hy => by
            rcases List.mem_append.1 hy with hy | hy
            · rw [b2, r4]; exact hF y hy
            · rw [List.mem_singleton.1 hy, b2]; exact b4)
        refine ⟨lq, stq, h1, h2, h3, h4, h5, ?_⟩
        rcases h6 with ⟨d1, d2, d3, d4⟩ | ⟨d1, d2, d3, d4⟩
        · exact .inl ⟨d1, by omega, by omega, fun y hy => by have := d4 y hy; rw [b2, r4] at this; exact this⟩
        · exact .inr ⟨d1, d2, by omega, by omega⟩
      · have hp2 := peek_st s st' q1
        obtain ⟨z1, z2, z3, z4, z5⟩ := hp2
        rw [anyL_end s k st' _ (by omega) (by rcases z5 with z5 | z5 <;> omega)]
        exact ⟨_, _, rfl, z2, by simp, by simp; omega, by rw [maxKidsL_snoc]; omega, .inr ⟨by omega, by omega, by omega, by omega⟩⟩
    · rw [if_neg c]
      exact ⟨l, _, rfl, r2, hl, by omega, hml, .inl ⟨by omega, r4, r1, hF⟩⟩
theorem any_tot (s : ByteArray) (hs : s.size ≤ 1000) (b M : Nat) (hN : ∀ m, m ≤ M → Tot s m (b + 8 * m) (fun d => hU d + 1) (fun k st => everyF k s st)) : Tot s M (b + 8 * M + 2) (fun d => hU d + 2) (fun k st => anyF k s st) := by
  intro k st hm hk ha he hd
  obtain ⟨k, rfl⟩ : ∃ j, k = j + 1 := ⟨k - 1, by omega⟩
  simp only [anyF]
  obtain ⟨x, st', hx, q1, q2, q3⟩ := hN M (Nat.le_refl _) k st hm (by omega) ha he hd
  rw [show everyF k s st = some (x, st') from hx]
  simp only [Option.bind_some]
  have h1k : maxKidsL [x] ≤ s.size + 1 := by simp only [maxKidsL]; omega
  rcases q3 with ⟨b1, b2, b3, b4⟩ | ⟨b1, b2, b3, b4⟩
  · obtain ⟨lq, stq, h1, hP⟩ := anyL_tot s hs b M hN M k st' [x] (Nat.le_refl _) (by omega) (by omega) q1 (by simp) (by simp; omega) h1k b1 (by omega) (fun y hy => by rw [List.mem_singleton.1 hy, b2]; exact b4)
    rw [h1]
    refine ⟨_, _, rfl, ?_⟩
    have := join_post 6 (.inr rfl) s hs st st' (hU st'.deep + 1) lq stq b2.symm b3 hP
    rw [b2] at this
    exact this
  · have hp2 := peek_st s st' q1
    obtain ⟨z1, z2, z3, z4, z5⟩ := hp2
    rw [anyL_end s k st' _ (by omega) (by rcases z5 with z5 | z5 <;> omega)]
    simp only [Option.bind_some]
    exact ⟨_, _, rfl, z2, q2, .inr ⟨by omega, by omega, by omega, by omega⟩⟩
theorem inner_tot (s : ByteArray) (hs : s.size ≤ 1000) (m b : Nat) (hN : Tot s m b (fun d => hU d + 2) (fun k st => anyF k s st)) : Tot s m (b + 1) (fun d => 2 + hU d) (fun k st => innerF k s st) := by
  intro k st hm hk ha he hd
  obtain ⟨k, rfl⟩ : ∃ j, k = j + 1 := ⟨k - 1, by omega⟩
  simp only [innerF]
  obtain ⟨x, st', hx, q1, q2, q3⟩ := hN k st hm (by omega) ha he hd
  rw [show anyF k s st = some (x, st') from hx]
  simp only [Option.bind_some]
  have hp := peek_st s st' q1
  obtain ⟨pq, hpq⟩ : ∃ q, q = peekF s st' := ⟨_, rfl⟩
  rw [← hpq] at hp ⊢
  obtain ⟨r1, r2, r3, r4, r5⟩ := hp
  rcases q3 with ⟨b1, b2, b3, b4⟩ | ⟨b1, b2, b3, b4⟩
  · by_cases c : pq.1 = 41
    · rw [if_pos c, if_pos (by rcases r5 with r5 | r5 <;> omega)]
      exact ⟨x, _, rfl, by simp only [bump]; rcases r5 with r5 | r5 <;> omega, q2, .inl ⟨by simp only [bump]; omega, by simp only [bump]; omega, by simp only [bump]; omega, b4.up (Nat.le_of_eq (Nat.add_comm _ _))⟩⟩
    · rw [if_neg c, fail_st s pq.2 13 (by omega)]
      exact ⟨zN, _, rfl, Nat.le_refl _, by rw [zN_kids]; omega, .inr ⟨by simp, rfl, by simp only; omega, by simp only; omega⟩⟩
  · rw [if_neg (by rcases r5 with r5 | r5 <;> omega), fail_st2 s pq.2 13 (by omega)]
    exact ⟨zN, _, rfl, r2, by rw [zN_kids]; omega, .inr ⟨by omega, by omega, by omega, by omega⟩⟩
theorem reader_tot (s : ByteArray) (hs : s.size ≤ 1000) : ∀ m, m ≤ s.size → Tot s m (4 * s.size + 40 + 8 * m) hU (fun k st => unaryF k s st) ∧ Tot s m (4 * s.size + 40 + 8 * m) hU (fun k st => atomF k s st) ∧ Tot s m (4 * s.size + 40 + 8 * m + 5) (fun d => 2 + hU d) (fun k st => innerF k s st) ∧ Tot s m (4 * s.size + 40 + 8 * m + 4) (fun d => hU d + 2) (fun k st => anyF k s st) := by
  intro m
  induction m using Nat.strongRecOn with
  | _ m ih =>
    intro hm
    have less : ∀ {m' b b' : Nat} {hg : Nat → Nat} {F : Nat → PSt → Option (S26 × PSt)}, Tot s m' b hg F → b ≤ b' → Tot s m' b' hg F := fun h hb k st h1 h2 => h k st h1 (by omega)
    have hA : Tot s m (4 * s.size + 40 + 8 * m - 1) hU (fun k st => atomF k s st) := by
      have h := atom_tot s hs m (4 * s.size + 40 + 8 * m - 2) (by omega) (fun m' h' => less (ih m' h' (by omega)).2.2.1 (by omega)) (fun m' h' => less (ih m' h' (by omega)).2.1 (by omega))
      exact less h (by omega)
    have hUn : Tot s m (4 * s.size + 40 + 8 * m) hU (fun k st => unaryF k s st) := by
      have h := unary_tot s hs m (4 * s.size + 40 + 8 * m - 1) (fun m' h' => less (ih m' h' (by omega)).1 (by omega)) hA
      exact less h (by omega)
    have hUall : ∀ m', m' ≤ m → Tot s m' (4 * s.size + 40 + 8 * m') hU (fun k st => unaryF k s st) := fun m' h' => by
      rcases Nat.lt_or_ge m' m with h | h
      · exact (ih m' h (by omega)).1
      · obtain rfl : m' = m := by omega
        exact hUn
    have hE : ∀ m', m' ≤ m → Tot s m' ((4 * s.size + 40 + 2) + 8 * m') (fun d => hU d + 1) (fun k st => everyF k s st) := fun m' h' =>
      less (every_tot s hs (4 * s.size + 40) m' (fun m2 h2 => hUall m2 (by omega))) (by omega)
    have hAny : Tot s m (4 * s.size + 40 + 8 * m + 4) (fun d => hU d + 2) (fun k st => anyF k s st) := less (any_tot s hs (4 * s.size + 42) m (fun m2 h2 => hE m2 h2)) (by omega)
    exact ⟨hUn, less hA (by omega), inner_tot s hs m _ hAny, hAny⟩
theorem parse_total (s : ByteArray) (k : Nat) (hk : 13 * 120 + 100 ≤ k) : ∃ x er, parseF k s = some (x, er) ∧ ((er = 0 ∧ Fine 15 x) ∨ (¬ er = 0 ∧ x = zN)) := by
  unfold parseF
  by_cases c : 120 < s.size
  · rw [if_pos c]; exact ⟨_, _, rfl, .inr ⟨by decide, rfl⟩⟩
  · rw [if_neg c]
    obtain ⟨v, hv⟩ := validF_total s (by omega) k (by omega)
    rw [hv]
    simp only [Option.bind_some]
    cases v with
    | false => rw [if_pos rfl]; exact ⟨_, _, rfl, .inr ⟨by decide, rfl⟩⟩
    | true =>
      rw [if_neg (by simp)]
      obtain ⟨x, st', hx, q1, q2, q3⟩ := (reader_tot s (by omega) s.size (Nat.le_refl _)).2.2.2 k ⟨0, 0, 0⟩ (by simp) (by omega) (by simp) rfl (by simp)
      rw [show anyF k s ⟨0, 0, 0⟩ = some (x, st') from hx]
      simp only [Option.bind_some]
      by_cases ce : (endF s st').err = 0
      · rw [if_pos ce]
        refine ⟨_, _, rfl, .inl ⟨rfl, ?_⟩⟩
        rcases q3 with ⟨a1, a2, a3, a4⟩ | ⟨a1, a2, a3, a4⟩
        · exact a4.up (by simp [hU])
        · unfold endF at ce
          rw [if_neg a1] at ce
          exact absurd ce a1
      · rw [if_neg ce]; exact ⟨_, _, rfl, .inr ⟨ce, rfl⟩⟩
theorem rd26_get (xs : List S26) (i : Nat) (h : i < xs.length) : rd_T26 xs (i : Int) = xs[i] := by simp [rd_T26, List.getD_eq_getElem?_getD, List.getElem?_eq_getElem h]
theorem bound_all {α : Type} (P : Nat → α → Prop) : ∀ l : List α, (∀ y ∈ l, ∃ K, ∀ k, K ≤ k → P k y) → ∃ K, ∀ y ∈ l, ∀ k, K ≤ k → P k y
  | [], _ => ⟨0, fun _ h => by cases h⟩
  | a :: t, h => by
    obtain ⟨K1, h1⟩ := h a (by simp)
    obtain ⟨K2, h2⟩ := bound_all P t (fun y hy => h y (by simp [hy]))
    refine ⟨max K1 K2, fun y hy k hk => ?_⟩
    rcases List.mem_cons.1 hy with rfl | hy
    · exact h1 k (by omega)
    · exact h2 y hy k (by omega)
theorem fineEnd (x : S26) (h2 : (x.f2.length : Int) ≤ 1000000) (h3 : (x.f3.length : Int) ≤ 1000000) (hk : KindOK x) (k : Nat) (hk2 : 3 ≤ k) (d : Int) (i : Nat) (hi : x.f3.length ≤ i) : scholialaw22_fine.l0 k d x.f3 (x.f3.length : Int) (i : Int) x.f0 x.f1 x.f2 x.f3 = some true := by
  obtain ⟨k, rfl⟩ : ∃ j, k = j + 2 := ⟨k - 2, by omega⟩
  unfold scholialaw22_fine.l0
  rw [if_neg (by omega)]
  have nonempty : ∀ b : ByteArray, 0 < b.size → ¬ b.toList = ([] : List UInt8) := by
    intro b hb h
    rw [ByteArray.toList_eq] at h
    have h1 := congrArg List.length h
    rw [data_length] at h1
    simp at h1
    subst h1
    simp at hb
  rcases hk with ⟨e0, e2, e3⟩ | ⟨e0, ⟨t, e2, ht, ht1⟩, e3⟩ | ⟨e0, ⟨t, u, e2, hu, ht1⟩, e3⟩ | ⟨e0, e2, e3⟩ | ⟨e0, e2, e3⟩
  · rw [if_pos e0, e2, e3]; simp [wrap64]
  · have hrd : rd_T57 x.f2 0 = t := by rw [e2]; rfl
    have j2 : scholialaw22_fine.j2 (k + 1) x.f0 true x.f0 x.f1 x.f2 x.f3 = some true := by
      rw [scholialaw22_fine.j2]
      rw [if_pos rfl, if_pos (by rw [e2]; rfl), if_pos (by rw [e3]; rfl), if_pos (by rw [e2]; simp), hrd, if_neg (nonempty _ ht), ht1]
      rfl
    rcases e0 with e0 | e0
    · rw [if_neg (by omega), if_pos e0]
      rw [show (x.f0 == 2) = true by rw [e0]; rfl]
      exact j2
    · rw [if_neg (by omega), if_neg (by omega)]
      rw [show (x.f0 == 3) = true by rw [e0]; rfl]
      exact j2
  · have hrd : rd_T57 x.f2 0 = t := by rw [e2]; rfl
    rw [if_neg (by omega), if_neg (by omega), show (x.f0 == 3) = false by rw [e0]; rfl]
    rw [scholialaw22_fine.j2]
    rw [if_neg (by simp), if_pos e0, if_pos (by rw [e2]; simp; omega), if_pos (by rw [e3]; rfl), if_pos (by rw [e2]; simp only [List.length_cons]; omega), hrd, ht1]
    rfl
  · rw [if_neg (by omega), if_neg (by omega), show (x.f0 == 3) = false by rcases e0 with e0 | e0 <;> rw [e0] <;> rfl]
    rw [scholialaw22_fine.j2]
    rw [if_neg (by simp), if_neg (by omega)]
    have l2 : (x.f2.length : Int) = 0 := by rw [e2]; rfl
    have l3 : decide ((x.f3.length : Int) > 1) = true := decide_eq_true (by omega)
    rcases e0 with e0 | e0
    · rw [if_pos e0, if_pos l2, l3]
    · rw [if_neg (by omega), if_pos e0, if_pos l2, l3]
  · rw [if_neg (by omega), if_neg (by omega), show (x.f0 == 3) = false by rw [e0]; rfl]
    rw [scholialaw22_fine.j2]
    rw [if_neg (by simp), if_neg (by omega), if_neg (by omega), if_neg (by omega), if_pos e0, if_pos (by omega), e2]
    rfl
theorem fine_all : ∀ (n : Nat) (x : S26), Fine n x → ∃ K, ∀ k, K ≤ k → ∀ d : Nat, n + d ≤ 16 → scholialaw22_fine.f k x.f0 x.f1 x.f2 x.f3 (d : Int) = some true
  | 0, _, h => h.elim
  | n + 1, x, h => by
    obtain ⟨a1, a2, a3, a4, a5, a6⟩ := h
    obtain ⟨K, hK⟩ := bound_all (fun k y => ∀ d : Nat, n + d ≤ 16 → scholialaw22_fine.f k y.f0 y.f1 y.f2 y.f3 (d : Int) = some true) x.f3 (fun y hy => fine_all n y (a5 y hy))
    refine ⟨K + x.f3.length + 8, fun k hk d hd => ?_⟩
    obtain ⟨k, rfl⟩ : ∃ j, k = j + 2 := ⟨k - 2, by omega⟩
    unfold scholialaw22_fine.f
    rw [if_neg (by omega), if_neg (by omega), show decide (x.f1 > 4) = false from decide_eq_false (by omega)]
    unfold scholialaw22_fine.j0
    rw [if_neg (by simp)]
    have loop : ∀ m k i : Nat, x.f3.length - i ≤ m → K + m + 4 ≤ k → scholialaw22_fine.l0 k (d : Int) x.f3 (x.f3.length : Int) (i : Int) x.f0 x.f1 x.f2 x.f3 = some true := by
      intro m
      induction m with
      | zero =>
        intro k i hm hk
        exact fineEnd x a3 a4 a6 k (by omega) _ i (by omega)
      | succ m ih =>
        intro k i hm hk
        by_cases c : (i : Int) < (x.f3.length : Int)
        · obtain ⟨k, rfl⟩ : ∃ j, k = j + 1 := ⟨k - 1, by omega⟩
          unfold scholialaw22_fine.l0
          rw [if_pos c, if_pos (by omega), if_pos c, rd26_get x.f3 i (by omega), w64 ((d : Int) + 1) (by omega) (by omega), w64 ((i : Int) + 1) (by omega) (by omega)]
          have := hK _ (List.getElem_mem (show i < x.f3.length by omega)) k (by omega) (d + 1) (by omega)
          rw [show ((d : Int) + 1) = ((d + 1 : Nat) : Int) by omega, this]
          simp only [Option.bind_some, if_true]
          exact ih k (i + 1) (by omega) (by omega)
        · exact fineEnd x a3 a4 a6 k (by omega) _ i (by omega)
    exact loop x.f3.length k 0 (by omega) (by omega)
theorem same_zero (k : Nat) (hk : 2 ≤ k) : sameF k zN zN = some true := by
  obtain ⟨k, rfl⟩ : ∃ j, k = j + 2 := ⟨k - 2, by omega⟩
  have e : api_Token.f (k + 2) ([] : List S57) [] = some true := by
    unfold api_Token.f
    rw [if_pos rfl]
    unfold api_Token.l0
    rw [if_neg (by simp)]
  rw [sameF_eq, if_pos rfl, if_pos rfl, show zN.f2 = [] from rfl, e]
  simp only [Option.bind_some, if_true]
  rw [show zN.f3 = [] from rfl, sameL]
end Go.Proofs.YtcgkmomhjincgaaDoor.Lib.Scr
