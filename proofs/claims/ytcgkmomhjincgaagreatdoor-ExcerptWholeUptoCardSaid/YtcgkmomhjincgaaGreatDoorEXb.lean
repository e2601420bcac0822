/- The excerpt of a text and its law, part Xb: the plain law. -/
import Derived.Test.YtcgkmomhjincgaaGreatDoorELibX0
import Derived.Test.YtcgkmomhjincgaaGreatDoorEXa
import Derived.Lib.QuoteBits
namespace Go.Proofs.YtcgkmomhjincgaaGreatDoor.LibX.Scr
open Go.RowKit Go.Proofs.YtcgkmomhjincgaaGreatDoor.LibX Go.Proofs.YtcgkmomhjincgaaGreatDoorW.PrintWords Go.Proofs.YtcgkmomhjincgaaGreatDoorW.PrintLast Go.Proofs.YtcgkmomhjincgaaGreatDoorW.PrintMore
set_option linter.unusedVariables false
set_option linter.unusedSimpArgs false
attribute [local go_sem] max2_int min2_int max_two min_two max_three min_three max_four min_four
def wholeEnd (k : Nat) (x0 : ByteArray) (x2 x8 x9 a f : Int) (ts : List S40) (kids : List S25) : Option Bool :=
 ((excerpt_Excerpt.f k x0 a f ts kids x2 20).bind fun t355 => ((strings_ReplaceAll.f t355 (⟨#[91]⟩ : ByteArray) (⟨#[]⟩ : ByteArray)).bind fun t356 => ((strings_ReplaceAll.f t356 (⟨#[93]⟩ : ByteArray) (⟨#[]⟩ : ByteArray)).bind fun t357 => (if 0 ≤ x8 then (if x8 ≤ x9 then (if x9 ≤ (x0.size : Int) then (if t357.toList = (x0.extract (x8 : Int).toNat (x9 : Int).toNat).toList then ((scholialaw31_awake.f k).bind fun t358 => (some t358)) else (some false)) else (none)) else (none)) else (none)))))
theorem whole_done (k : Nat) (x0 : ByteArray) (x2 x8 x9 x10 : Int) (ps : List S33) (n j a f : Int) (ts : List S40) (kids : List S25) (h : ¬ j < n) : scholialaw31_ExcerptWhole.l0 (k + 1) x0 x2 x8 x9 x10 ps n j a f ts kids = wholeEnd k x0 x2 x8 x9 a f ts kids := by
 rw [scholialaw31_ExcerptWhole.l0, if_neg h]
 rfl
theorem lawG_up : ∀ (l : List S33) (σ : Int × Int × Int), σ.2.2 ≤ (l.foldl lawS σ).2.2
 | [], _ => Int.le_refl _
 | x :: t, σ => by
  rw [List.foldl_cons]
  have := lawG_up t (lawS σ x)
  have h2 : (lawS σ x).2.2 = σ.2.2 + x.f0.size := rfl
  omega
theorem whole_loop (s : ByteArray) (x2 a f : Int) (ts : List S40) (kids : List S25) (ps : List S33) (hp : ps.length ≤ 1000000000) (K : Nat) : ∀ (d j : Nat) (σ : Int × Int × Int), j + d = ps.length → 0 ≤ σ.2.2 → ((ps.drop j).foldl lawS σ).2.2 ≤ 40000000 →
  scholialaw31_ExcerptWhole.l0 (K + 2 * d + 1) s x2 σ.1 σ.2.1 σ.2.2 ps (ps.length : Int) (j : Int) a f ts kids = wholeEnd K s x2 ((ps.drop j).foldl lawS σ).1 ((ps.drop j).foldl lawS σ).2.1 a f ts kids := by
 intro d
 induction d with
 | zero =>
  intro j σ h h0 hb
  rw [show K + 2 * 0 + 1 = K + 1 by omega, whole_done _ _ _ _ _ _ _ _ _ _ _ _ _ (by omega), List.drop_eq_nil_of_le (by omega)]
  rfl
 | succ d ih =>
  intro j σ h h0 hb
  have c : j < ps.length := by omega
  rw [List.drop_eq_getElem_cons c, List.foldl_cons] at hb ⊢
  have hup := lawG_up (ps.drop (j + 1)) (lawS σ ps[j])
  have h2 : (lawS σ ps[j]).2.2 = σ.2.2 + ps[j].f0.size := rfl
  have hi := ih (j + 1) (lawS σ ps[j]) (by omega) (by omega) hb
  rw [show K + 2 * (d + 1) + 1 = (K + 2 * d + 1) + 1 + 1 by omega, scholialaw31_ExcerptWhole.l0, if_pos (by omega), if_pos (by omega), if_pos (by omega), rd33_get ps j c]
  have w1 : wrap64 (σ.2.2 + (ps[j].f0.size : Int)) = σ.2.2 + ps[j].f0.size := w64x _ (by omega) (by omega)
  have w2 : wrap64 ((j : Int) + 1) = ((j + 1 : Nat) : Int) := by rw [w64x _ (by omega) (by omega)]; omega
  rw [← hi]
  by_cases hw : ps[j].f1 = true
  ·rw [if_pos hw, scholialaw31_ExcerptWhole.j2, w1, w2, if_pos hw, if_pos hw]
   by_cases hn : σ.1 < 0
   ·rw [if_pos (by simpa using hn)]
    simp only [lawS, hw, hn, and_self, if_true]
   ·rw [if_neg (by simpa using hn)]
    simp only [lawS, hw, hn, and_false, if_true, if_false]
  ·have hw2 : ps[j].f1 = false := by cases h3 : ps[j].f1 <;> simp_all
   rw [if_neg hw, scholialaw31_ExcerptWhole.j2, w1, w2, if_neg (by simp), if_neg hw]
   simp only [lawS, hw2, Bool.false_eq_true, false_and, if_false]
theorem window_go (m : List Int) (hm : m.length ≤ 1000000000) : ∀ (d k j : Nat) (c : Int), m.length - j ≤ d → j ≤ m.length → d + 3 ≤ k → 0 ≤ c → c ≤ (j : Int) →
  excerpt_Window.l1 k m 20 (-1) 0 0 c 1 0 m (m.length : Int) (j : Int) = some 0 := by
 intro d
 induction d with
 | zero =>
  intro k j c h hj hk h0 hc
  obtain ⟨k, rfl⟩ : ∃ q, k = q + 2 := ⟨k - 2, by omega⟩
  rw [excerpt_Window.l1, if_neg (by omega), if_pos (by omega), excerpt_Window.l0, if_neg (by rw [w64x _ (by omega) (by omega)]; omega)]
 | succ d ih =>
  intro k j c h hj hk h0 hc
  by_cases c1 : j < m.length
  ·obtain ⟨k, rfl⟩ : ∃ q, k = q + 1 := ⟨k - 1, by omega⟩
   have w1 : wrap64 (c + 1) = c + 1 := w64x _ (by omega) (by omega)
   have w2 : wrap64 ((j : Int) + 1) = ((j + 1 : Nat) : Int) := by rw [w64x _ (by omega) (by omega)]; omega
   rw [excerpt_Window.l1, if_pos (by omega), if_pos (by omega), if_pos (by omega), w1, w2]
   have i1 := ih k (j + 1) (c + 1) (by omega) (by omega) (by omega) (by omega) (by omega)
   have i2 := ih k (j + 1) c (by omega) (by omega) (by omega) (by omega) (by omega)
   split
   ·split
    ·exact i1
    ·exact i2
   ·exact i2
  ·obtain ⟨k, rfl⟩ : ∃ q, k = q + 2 := ⟨k - 2, by omega⟩
   rw [excerpt_Window.l1, if_neg (by omega), if_pos (by omega), excerpt_Window.l0, if_neg (by rw [w64x _ (by omega) (by omega)]; omega)]
theorem windowF (m : List Int) (hm : m.length ≤ 1000000000) (n : Int) (h0 : 0 ≤ n) (h : n ≤ 20) (k : Nat) (hk : m.length + 10 ≤ k) : excerpt_Window.f k m n 20 = some 0 := by
 obtain ⟨k, rfl⟩ : ∃ q, k = q + 1 := ⟨k - 1, by omega⟩
 unfold excerpt_Window.f
 have e : wrap64 ((mx (wrap64 ((mx n 0) - (mx 20 0))) 0) + 1) = 1 := by
  have a1 : mx n 0 = n := by unfold mx; omega
  have a2 : mx (20 : Int) 0 = 20 := by unfold mx; omega
  rw [a1, a2, w64x (n - 20) (by omega) (by omega)]
  have a3 : mx (n - 20) 0 = 0 := by unfold mx; omega
  rw [a3]
  exact w64x _ (by omega) (by omega)
 rw [e, excerpt_Window.l0, if_pos (by omega)]
 exact window_go m hm m.length k 0 0 (by omega) (by omega) (by omega) (by omega) (by omega)
def flt (l : List UInt8) : List UInt8 := (l.filter fun b => b != 91).filter fun b => b != 93
theorem flt_app (a b : List UInt8) : flt (a ++ b) = flt a ++ flt b := by simp [flt]
theorem ext_list (s : ByteArray) (a b : Nat) : (s.extract a b).data.toList = (s.data.toList.take b).drop a := by
 rw [ByteArray.data_extract, Array.toList_extract, List.extract_eq_take_drop, List.drop_take]
theorem ext_join (s : ByteArray) (a b c : Nat) (h1 : a ≤ b) (h2 : b ≤ c) (h3 : c ≤ s.size) : (s.extract a b).data.toList ++ (s.extract b c).data.toList = (s.extract a c).data.toList := by
 rw [ext_list, ext_list, ext_list]
 have hl : s.data.toList.length = s.size := by rw [Array.length_toList]; rfl
 have e : s.data.toList.take c = s.data.toList.take b ++ (s.data.toList.take c).drop b := by
  conv => lhs; rw [← List.take_append_drop b (s.data.toList.take c)]
  rw [List.take_take, Nat.min_eq_left h2]
 conv => rhs; rw [e]
 rw [List.drop_append_of_le_length (by rw [List.length_take]; omega)]
def endOf : Int → List S58 → Int
 | a, [] => a
 | _, x :: t => endOf x.f1 t
theorem endOf_le : ∀ (l : List S58) (a z : Int), AscTo a l z → a ≤ endOf a l ∧ endOf a l ≤ z
 | [], a, z, h => ⟨Int.le_refl _, h⟩
 | x :: t, a, z, h => by
  have := endOf_le t x.f1 z h.2.2
  have h1 := h.1
  have h2 := h.2.1
  simp only [endOf]
  omega
def cv (x : S58) : S60 := ⟨x.f0, x.f1⟩
theorem part_flt (s : ByteArray) (last : Int) (x : S58) (b : Bool) (h0 : 0 ≤ last) (h1 : last ≤ x.f0) (h2 : x.f0 ≤ x.f1) (h3 : x.f1 ≤ s.size) :
  flt (excerpt_piece.part s last (cv x) b) = flt (s.extract last.toNat x.f1.toNat).data.toList ∧ (excerpt_piece.part s last (cv x) b).length ≤ x.f1.toNat - last.toNat + 2 := by
 have hj := ext_join s last.toNat x.f0.toNat x.f1.toNat (by omega) (by omega) (by omega)
 have l1 : (s.extract last.toNat x.f0.toNat).data.toList.length = x.f0.toNat - last.toNat := by
  rw [Array.length_toList]
  show (s.extract last.toNat x.f0.toNat).size = _
  rw [ByteArray.size_extract]; omega
 have l2 : (s.extract x.f0.toNat x.f1.toNat).data.toList.length = x.f1.toNat - x.f0.toNat := by
  rw [Array.length_toList]
  show (s.extract x.f0.toNat x.f1.toNat).size = _
  rw [ByteArray.size_extract]; omega
 unfold excerpt_piece.part
 simp only [cv]
 rw [← hj]
 cases b with
 | false =>
  rw [if_neg (by simp)]
  refine ⟨rfl, ?_⟩
  rw [List.length_append, l1, l2]; omega
 | true =>
  rw [if_pos rfl]
  refine ⟨?_, ?_⟩
  ·rw [flt_app, flt_app, flt_app, flt_app]
   have a1 : flt [91] = [] := by decide
   have a2 : flt [93] = [] := by decide
   rw [a1, a2]
   simp
  ·simp only [List.length_append, l1, l2, List.length_cons, List.length_nil]; omega
theorem piece_go (s : ByteArray) (sp : List S58) (m : List Int) (hs : s.size ≤ 1000) (hl : sp.length ≤ 1000) : ∀ (d i : Nat) (last : Int) (out : List UInt8), i + d = sp.length → 0 ≤ last → AscTo last (sp.drop i) s.size → out.length ≤ last.toNat + 2 * i →
  ∃ r, excerpt_piece.go s (sp.map cv) m d (i : Int) last out = some r ∧ flt r = flt out ++ flt (s.extract last.toNat (endOf last (sp.drop i)).toNat).data.toList ∧ r.length ≤ 3000 := by
 intro d
 induction d with
 | zero =>
  intro i last out h h0 ha ho
  rw [List.drop_eq_nil_of_le (by omega)] at ha ⊢
  have hz : last ≤ s.size := ha
  refine ⟨out, rfl, ?_, by omega⟩
  have e : (s.extract last.toNat (endOf last []).toNat).data.toList = [] := by
   rw [ext_list]
   simp [endOf]
  rw [e]
  simp [flt]
 | succ d ih =>
  intro i last out h h0 ha ho
  have c : i < sp.length := by omega
  rw [List.drop_eq_getElem_cons c] at ha ⊢
  obtain ⟨a1, a2, a3⟩ := ha
  have a4 := asc_le _ _ _ a3
  have hrd : rd_T60 (sp.map cv) (i : Int) = cv sp[i] := by rw [rd60_get _ i (by simpa using c), List.getElem_map]
  obtain ⟨p1, p2⟩ := part_flt s last sp[i] (m.contains (i : Int)) h0 a1 a2 a4
  obtain ⟨r, r1, r2, r3⟩ := ih (i + 1) sp[i].f1 (out ++ excerpt_piece.part s last (cv sp[i]) (m.contains (i : Int))) (by omega) (by omega) a3 (by rw [List.length_append]; omega)
  refine ⟨r, ?_, ?_, r3⟩
  ·rw [excerpt_piece.go, hrd, if_pos ⟨by omega, by simp; omega, h0, a1, a2, a4, by omega⟩]
   exact r1
  ·rw [r2, flt_app, p1, List.append_assoc, ← flt_app]
   have e2 := endOf_le (sp.drop (i + 1)) sp[i].f1 s.size a3
   rw [ext_join s _ _ _ (by omega) (by omega) (by omega)]
   rfl
theorem endOf_last : ∀ (l : List S58) (a : Int), l ≠ [] → endOf a l = lastS l
 | [x], a, _ => by simp [endOf, lastS]
 | x :: y :: t, a, _ => by
  have := endOf_last (y :: t) x.f1 (by simp)
  rw [show endOf a (x :: y :: t) = endOf x.f1 (y :: t) from rfl, this]
  simp [lastS]
theorem pieceF (s : ByteArray) (sp : List S58) (m : List Int) (hs : s.size ≤ 1000) (hl : sp.length ≤ 1000) (hm : m.length ≤ 40000000) (hn : sp ≠ []) (ha : AscTo 0 sp s.size) :
  ∃ r : List UInt8, excerpt_piece.f s (sp.map cv) 0 (sp.length : Int) m = some ⟨r.toArray⟩ ∧ flt r = flt (s.extract (firstS sp).toNat (lastS sp).toNat).data.toList ∧ r.length ≤ 3000 := by
 obtain ⟨x, t, rfl⟩ : ∃ x t, sp = x :: t := by
  cases sp with
  | nil => exact absurd rfl hn
  | cons x t => exact ⟨x, t, rfl⟩
 obtain ⟨a1, a2, a3⟩ := ha
 obtain ⟨r, r1, r2, r3⟩ := piece_go s (x :: t) m hs hl (x :: t).length 0 x.f0 [] (by omega) a1 ⟨Int.le_refl _, a2, a3⟩ (by simp)
 refine ⟨r, ?_, ?_, r3⟩
 ·have hrd : rd_T60 ((x :: t).map cv) 0 = cv x := rfl
  rw [excerpt_piece.f, if_pos ⟨by omega, by simp <;> omega, by omega, by simp, by simp at hl ⊢; omega, by omega, hm⟩, hrd]
  rw [show ((((x :: t).length : Nat) : Int) - 0).toNat = (x :: t).length by omega]
  show (excerpt_piece.go s ((x :: t).map cv) m (x :: t).length ((0 : Nat) : Int) x.f0 []).map _ = _
  rw [r1]
  rfl
 ·rw [r2, List.drop_zero, endOf_last _ _ (by simp)]
  simp [flt, firstS]
theorem replF (t : ByteArray) (c : UInt8) (ht : t.size ≤ 40000000) : strings_ReplaceAll.f t (⟨#[c]⟩ : ByteArray) (⟨#[]⟩ : ByteArray) = some ⟨(t.data.toList.filter fun b => b != c).toArray⟩ := by
 unfold strings_ReplaceAll.f
 rw [if_pos ⟨ht, rfl, rfl⟩]
 show some (⟨(Lib.replaceAll t.data.toList [c] []).toArray⟩ : ByteArray) = _
 rw [replAll_one]
theorem contF (t : ByteArray) (c : UInt8) : strings_Contains.f t (⟨#[c]⟩ : ByteArray) = some (decide (0 ≤ Lib.indexByte t.data.toList c)) := rfl
theorem flt_self (l : List UInt8) (h1 : ∀ b ∈ l, (b != 91) = true) (h2 : ∀ b ∈ l, (b != 93) = true) : flt l = l := by
 unfold flt
 rw [List.filter_eq_self.2 h1, List.filter_eq_self.2 h2]
theorem w64 (n : Int) (h0 : -9223372036854775808 ≤ n) (h1 : n ≤ 9223372036854775807) : wrap64 n = n := by unfold wrap64; omega
theorem sign_total (r : Int) : ∃ b, utf_Sign.f r = some b := by
 unfold utf_Sign.f
 repeat' split
 all_goals exact ⟨_, rfl⟩
theorem first_total (c : Int) (h0 : 0 ≤ c) : ∃ a b l, utf_first.f c = some (a, b, l) ∧ 0 ≤ a ∧ a ≤ 4 := by
 unfold utf_first.f
 repeat' split
 all_goals exact ⟨_, _, _, rfl, by omega, by omega⟩
theorem nextEnd_total (o : Option Int) (sz least : Int) : ∃ x n, nextEnd o sz least = some (x, n) ∧ ((x = -1 ∧ n = 1) ∨ (0 ≤ x ∧ x ≤ 1114111 ∧ n = sz ∧ utf_Sign.f x = some true)) := by
 cases o with
 | none => exact ⟨-1, 1, rfl, .inl ⟨rfl, rfl⟩⟩
 | some r =>
  simp only [nextEnd]
  by_cases c : r < least
  ·rw [if_pos c]; exact ⟨-1, 1, rfl, .inl ⟨rfl, rfl⟩⟩
  ·rw [if_neg c]
   obtain ⟨b, hb⟩ := sign_total r
   rw [hb]
   cases b with
   | false => exact ⟨-1, 1, rfl, .inl ⟨rfl, rfl⟩⟩
   | true =>
    have := sign_range hb rfl
    exact ⟨r, sz, rfl, .inr ⟨this.1, this.2, rfl, hb⟩⟩
theorem next_total (s : ByteArray) (i : Nat) (hs : s.size ≤ 1000000) (hi : i < s.size) :
  ∃ (x : Int) (n : Nat), utf_Next.f s (i : Int) = some (x, (n : Int)) ∧ 1 ≤ n ∧ i + n ≤ s.size ∧ ((x = -1 ∧ n = 1) ∨ (0 ≤ x ∧ x ≤ 1114111 ∧ utf_Sign.f x = some true)) := by
 unfold utf_Next.f
 rw [if_pos (by omega), if_neg (by omega), if_neg (by omega)]
 obtain ⟨a, b, l, hf, h0, h4⟩ := first_total (bt s (i : Int)) (bt_range s i).1
 rw [hf]
 simp only [Option.bind_some]
 by_cases c1 : a = 0
 ·rw [if_pos c1]; exact ⟨-1, 1, rfl, Nat.le_refl _, by omega, .inl ⟨rfl, rfl⟩⟩
 ·rw [if_neg c1]
  by_cases c2 : a > (s.size : Int) - (i : Int)
  ·rw [if_pos c2]; exact ⟨-1, 1, rfl, Nat.le_refl _, by omega, .inl ⟨rfl, rfl⟩⟩
  ·rw [if_neg c2, if_pos (by omega)]
   obtain ⟨x, n, hn, hc⟩ := nextEnd_total (nextGo (bytesOf (s.extract ((i : Int) + 1).toNat ((i : Int) + a).toNat)) b) a l
   rw [hn]
   rcases hc with ⟨rfl, rfl⟩ | ⟨hx, hx2, rfl, hsg⟩
   ·exact ⟨-1, 1, rfl, Nat.le_refl _, by omega, .inl ⟨rfl, rfl⟩⟩
   ·exact ⟨x, n.toNat, by rw [show ((n.toNat : Nat) : Int) = n by omega], by omega, by omega, .inr ⟨hx, hx2, hsg⟩⟩
theorem letter_total (k : Nat) (hk : 1 ≤ k) (x : Int) : ∃ b, fold_Letter.f k x = some b := by
 obtain ⟨k, rfl⟩ : ∃ j, k = j + 1 := ⟨k - 1, by omega⟩
 unfold fold_Letter.f
 simp only [fold_Letter.j0]
 repeat' split
 all_goals exact ⟨_, rfl⟩
theorem digit_total (x : Int) : ∃ b, fold_Digit.f x = some b := by
 unfold fold_Digit.f
 split <;> exact ⟨_, rfl⟩
theorem wordF_total (k : Nat) (hk : 1 ≤ k) (x : Int) : ∃ b, fold_Word.f k x = some b := by
 unfold fold_Word.f
 obtain ⟨b, hb⟩ := letter_total k hk x
 rw [hb]
 simp only [Option.bind_some]
 split
 ·exact ⟨_, rfl⟩
 ·obtain ⟨b, hb⟩ := digit_total x
  rw [hb]; exact ⟨_, rfl⟩
theorem rows_in : rowsTab.all (fun t => decide (0 ≤ t.1 + t.2.2.2) && decide (t.2.1 + t.2.2.2 < 55296)) = true := by kernel_rfl
theorem lowGo_ok (x : Int) (hx : utf_Sign.f x = some true) : ∀ l : List (Int × Int × Int × Int), l.all (fun t => decide (0 ≤ t.1 + t.2.2.2) && decide (t.2.1 + t.2.2.2 < 55296)) = true → utf_Sign.f (lowGo l x) = some true
 | [], _ => hx
 | (lo, hi, st, up) :: t, h => by
  simp only [List.all_cons, Bool.and_eq_true, decide_eq_true_eq] at h
  unfold lowGo
  by_cases c : lo ≤ x ∧ x ≤ hi ∧ (x - lo) % st = 0
  ·rw [if_pos c]
   unfold utf_Sign.f
   rw [if_pos (by omega), if_pos (by omega), if_pos (by omega)]
  ·rw [if_neg c]
   exact lowGo_ok x hx t h.2
theorem putL_len (x : Int) : 1 ≤ (putL x).length ∧ (putL x).length ≤ 4 := by
 unfold putL
 repeat' split
 all_goals simp
theorem put_total (l : List Int) (x : Int) (hl : l.length ≤ 4000004) (hx : utf_Sign.f x = some true) : utf_Put.f l x = some (l ++ putL x) := by
 unfold utf_Put.f
 rw [if_pos (by omega), hx]
 rfl
theorem foldText_total (s : ByteArray) (hs : s.size ≤ 1000000) : ∀ m k i (l : List Int), s.size - i ≤ m → i ≤ s.size → m < k → l.length ≤ 4 * i → ∃ r : List Int, fold_Text.l0 k s l (i : Int) = some (strOfNums r) ∧ (l = [] → i < s.size → r ≠ []) ∧ (l ≠ [] → r ≠ []) := by
 intro m
 induction m with
 | zero =>
  intro k i l hm hi hk hl
  obtain ⟨k, rfl⟩ : ∃ j, k = j + 1 := ⟨k - 1, by omega⟩
  unfold fold_Text.l0
  rw [if_neg (by omega)]
  exact ⟨l, rfl, fun _ h => by omega, fun h => h⟩
 | succ m ih =>
  intro k i l hm hi hk hl
  obtain ⟨k, rfl⟩ : ∃ j, k = j + 1 := ⟨k - 1, by omega⟩
  unfold fold_Text.l0
  by_cases c : (i : Int) < (s.size : Int)
  ·rw [if_pos c]
   obtain ⟨x, n, hn, h1, h2, hc⟩ := next_total s i hs (by omega)
   rw [hn]
   simp only [Option.bind_some]
   by_cases c2 : x < 0
   ·rw [if_pos c2, if_pos (by omega), if_pos (by omega), w64 _ (by omega) (by omega)]
    obtain ⟨r, hr, _, h4⟩ := ih k (i + n) (l ++ [bt s i]) (by omega) (by omega) (by omega) (by simp; omega)
    exact ⟨r, hr, fun _ _ => h4 (by simp), fun _ => h4 (by simp)⟩
   ·rw [if_neg c2]
    have hsg : utf_Sign.f x = some true := by
     rcases hc with hc | hc
     ·omega
     ·exact hc.2.2
    simp only [fold_Lower.f, Option.bind_some]
    rw [put_total l _ (by omega) (lowGo_ok x hsg _ rows_in)]
    simp only [Option.bind_some]
    rw [w64 _ (by omega) (by omega)]
    have hp := putL_len (lowGo rowsTab x)
    obtain ⟨r, hr, _, h4⟩ := ih k (i + n) (l ++ putL (lowGo rowsTab x)) (by omega) (by omega) (by omega) (by simp; omega)
    have hne : l ++ putL (lowGo rowsTab x) ≠ [] := by
     intro h
     have := congrArg List.length h
     simp at this
     rw [this.2] at hp
     simp at hp
    exact ⟨r, hr, fun _ _ => h4 hne, fun _ => h4 hne⟩
  ·rw [if_neg c]
   exact ⟨l, rfl, fun _ h => by omega, fun h => h⟩
theorem strOf_size (r : List Int) : (strOfNums r).size = r.length := by simp [strOfNums, ByteArray.size]
theorem fold_total (s : ByteArray) (hs : s.size ≤ 1000000) (k : Nat) (hk : s.size < k) : ∃ r, fold_Text.f k s = some r ∧ (0 < s.size → 0 < r.size) := by
 obtain ⟨r, hr, h1, _⟩ := foldText_total s hs s.size k 0 [] (by omega) (by omega) hk (by simp)
 refine ⟨strOfNums r, hr, fun h => ?_⟩
 have := h1 rfl h
 rw [strOf_size]
 exact List.length_pos_iff.2 this
theorem rd57_get (xs : List S40) (i : Nat) (h : i < xs.length) : rd_T40 xs (i : Int) = xs[i] := by simp [rd_T40, List.getD_eq_getElem?_getD, List.getElem?_eq_getElem h]
theorem rd166_get (xs : List S58) (i : Nat) (h : i < xs.length) : rd_T58 xs (i : Int) = xs[i] := by simp [rd_T58, List.getD_eq_getElem?_getD, List.getElem?_eq_getElem h]
def SpOK (xs : List S58) (p : Nat) : Prop := ∀ x ∈ xs, 0 ≤ x.f0 ∧ x.f0 < x.f1 ∧ x.f1 ≤ (p : Int)
theorem SpOK.up {xs : List S58} {p q : Nat} (h : SpOK xs p) (hq : p ≤ q) : SpOK xs q := fun x hx => by have := h x hx; omega
theorem spans_total (s : ByteArray) (hs : s.size ≤ 1000000) : ∀ m k i (l : List S58) (b : Bool), s.size - i ≤ m → i ≤ s.size → 3 * m + 1 < k → l.length ≤ i → SpOK l i → (b = true → l ≠ []) →
  ∃ r, token_spans.l0 k s l b (i : Int) = some r ∧ SpOK r s.size ∧ r.length ≤ s.size := by
 intro m
 induction m with
 | zero =>
  intro k i l b hm hi hk hl hsp _
  obtain ⟨k, rfl⟩ : ∃ j, k = j + 1 := ⟨k - 1, by omega⟩
  unfold token_spans.l0
  rw [if_neg (by omega)]
  exact ⟨l, rfl, hsp.up hi, by omega⟩
 | succ m ih =>
  intro k i l b hm hi hk hl hsp hb
  obtain ⟨k, rfl⟩ : ∃ j, k = j + 3 := ⟨k - 3, by omega⟩
  unfold token_spans.l0
  by_cases c : (i : Int) < (s.size : Int)
  ·rw [if_pos c]
   obtain ⟨x, n, hn, h1, h2, hc⟩ := next_total s i hs (by omega)
   rw [hn]
   simp only [Option.bind_some]
   have key : ∀ t, ∃ r, token_spans.j1 (k + 2) s l b (i : Int) (n : Int) t = some r ∧ SpOK r s.size ∧ r.length ≤ s.size := by
    intro t
    simp only [token_spans.j1]
    have new : ∃ r, token_spans.l0 k s (l ++ [(⟨(i : Int), wrap64 ((i : Int) + (n : Int))⟩ : S58)]) t (wrap64 ((i : Int) + (n : Int))) = some r ∧ SpOK r s.size ∧ r.length ≤ s.size := by
     rw [w64 _ (by omega) (by omega)]
     refine ih k (i + n) _ t (by omega) (by omega) (by omega) (by simp; omega) ?_ (by simp)
     intro y hy
     rcases List.mem_append.1 hy with hy | hy
     ·have := hsp y hy; omega
     ·rw [List.mem_singleton.1 hy]
      exact ⟨by simp, by simp; omega, by simp⟩
    have plain : ∃ r, token_spans.l0 k s l false (wrap64 ((i : Int) + (n : Int))) = some r ∧ SpOK r s.size ∧ r.length ≤ s.size := by
     rw [w64 _ (by omega) (by omega)]
     exact ih k (i + n) l false (by omega) (by omega) (by omega) (by omega) (hsp.up (by omega)) (by simp)
    cases t with
    | false =>
     rw [if_neg (by simp)]
     simp only [token_spans.j2]
     rw [if_neg (by simp), if_neg (by simp)]
     exact plain
    | true =>
     rw [if_pos rfl]
     simp only [token_spans.j2]
     cases b with
     | false =>
      rw [if_pos (show (!false) = true from rfl), if_pos (by omega)]
      exact new
     | true =>
      have hne := hb rfl
      have hlp : 0 < l.length := List.length_pos_iff.2 hne
      rw [if_neg (show ¬ (!true) = true by decide), if_pos trivial, w64 ((l.length : Int) - 1) (by omega) (by omega), if_pos (by omega), if_pos (by omega), w64 _ (by omega) (by omega)]
      have e1 : ((l.length : Int) - 1) = ((l.length - 1 : Nat) : Int) := by omega
      rw [e1, rd166_get l (l.length - 1) (by omega)]
      refine ih k (i + n) _ true (by omega) (by omega) (by omega) (by simp; omega) ?_ (by intro _ h; have := congrArg List.length h; rw [List.length_set, List.length_nil] at this; omega)
      intro y hy
      simp only [Int.toNat_natCast] at hy
      rcases List.mem_or_eq_of_mem_set hy with hy | rfl
      ·have := hsp y hy; omega
      ·have := hsp _ (List.getElem_mem (show l.length - 1 < l.length by omega))
       exact ⟨this.1, by simp; omega, by simp⟩
   by_cases c2 : x ≥ 0
   ·rw [if_pos c2]
    obtain ⟨t, ht⟩ := wordF_total (k + 2) (by omega) x
    rw [ht]
    simp only [Option.bind_some]
    exact key t
   ·rw [if_neg c2]
    exact key false
  ·rw [if_neg c]
   exact ⟨l, rfl, hsp.up (by omega), by omega⟩
theorem spansF_total (s : ByteArray) (hs : s.size ≤ 1000000) (k : Nat) (hk : 3 * s.size + 1 < k) : ∃ r, token_spans.f k s = some r ∧ SpOK r s.size ∧ r.length ≤ s.size := spans_total s hs s.size k 0 [] false (by omega) (by omega) hk (by simp) (fun _ h => by cases h) (by simp)
def TokOK (xs : List S40) : Prop := ∀ x ∈ xs, 0 < x.f0.size ∧ x.f0.size ≤ 20
theorem words_total (s : ByteArray) (hs : s.size ≤ 1000000) (sp : List S58) (hsp : SpOK sp s.size) (hlen : sp.length ≤ s.size) : ∀ m k i (l : List S40), sp.length - i ≤ m → i ≤ sp.length → m + s.size < k → l.length ≤ i → TokOK l →
  ∃ r, token_Words.l0 k s l sp (sp.length : Int) (i : Int) = some r ∧ TokOK r ∧ r.length ≤ sp.length := by
 intro m
 induction m with
 | zero =>
  intro k i l hm hi hk hl hT
  obtain ⟨k, rfl⟩ : ∃ j, k = j + 1 := ⟨k - 1, by omega⟩
  unfold token_Words.l0
  rw [if_neg (by omega)]
  exact ⟨l, rfl, hT, by omega⟩
 | succ m ih =>
  intro k i l hm hi hk hl hT
  obtain ⟨k, rfl⟩ : ∃ j, k = j + 1 := ⟨k - 1, by omega⟩
  unfold token_Words.l0
  by_cases c : (i : Int) < (sp.length : Int)
  ·rw [if_pos c, if_pos (by omega), if_pos c]
   have hx := hsp _ (List.getElem_mem (show i < sp.length by omega))
   rw [rd166_get sp i (by omega)]
   rw [if_pos hx.1, if_pos (by omega), if_pos hx.2.2]
   have hsz : (s.extract (sp[i].f0).toNat (sp[i].f1).toNat).size = (sp[i].f1).toNat - (sp[i].f0).toNat := by simp; omega
   obtain ⟨t, ht, h0⟩ := fold_total (s.extract (sp[i].f0).toNat (sp[i].f1).toNat) (by omega) k (by omega)
   rw [ht]
   simp only [Option.bind_some]
   rw [w64 ((i : Int) + 1) (by omega) (by omega)]
   have go : ∀ l' : List S40, l'.length ≤ i + 1 → TokOK l' → ∃ r, token_Words.l0 k s l' sp (sp.length : Int) ((i : Int) + 1) = some r ∧ TokOK r ∧ r.length ≤ sp.length := fun l' h1 h2 => ih k (i + 1) l' (by omega) (by omega) (by omega) h1 h2
   by_cases c2 : (i : Int) < 60
   ·rw [if_pos c2]
    by_cases c3 : (t.size : Int) ≤ 20
    ·rw [if_pos c3, if_pos (by omega)]
     refine go _ (by simp; omega) (fun y hy => ?_)
     rcases List.mem_append.1 hy with hy | hy
     ·exact hT y hy
     ·rw [List.mem_singleton.1 hy]
      exact ⟨h0 (by omega), by simp; omega⟩
    ·rw [if_neg c3]; exact go l (by omega) hT
   ·rw [if_neg c2]; exact go l (by omega) hT
  ·rw [if_neg c]
   exact ⟨l, rfl, hT, by omega⟩
theorem wordsF_total (s : ByteArray) (hs : s.size ≤ 1000000) (k : Nat) (hk : 3 * s.size + 1 < k) : ∃ r, token_Words.f k s = some r ∧ TokOK r ∧ r.length ≤ s.size := by
 unfold token_Words.f
 obtain ⟨sp, hr, h1, h2⟩ := spansF_total s hs k hk
 rw [hr]
 simp only [Option.bind_some]
 obtain ⟨r, h3, h4, h5⟩ := words_total s hs sp h1 h2 sp.length k 0 [] (by omega) (by omega) (by omega) (by simp) (fun _ h => by cases h)
 exact ⟨r, h3, h4, by omega⟩
theorem ext_size (a : ByteArray) (n : Nat) (h : n ≤ a.size) : (a.extract 0 n).size = n := by simp; omega
theorem plural_ok (a : ByteArray) (h4 : 4 ≤ a.size) (hs : a.size ≤ 1000) : ∃ r, stem_plural.f a = some r ∧ 0 < r.size ∧ r.size ≤ a.size := by
 unfold stem_plural.f
 rw [if_pos (by omega)]
 refine ⟨_, rfl, ?_⟩
 split
 ·rw [ext_size a _ (by omega)]; omega
 ·split
  ·simp only [ByteArray.size_append, ext_size a (a.size - 3) (by omega)]
   have : (⟨#[121]⟩ : ByteArray).size = 1 := rfl
   omega
  ·split
   ·omega
   ·split
    ·rw [ext_size a _ (by omega)]; omega
    ·omega
theorem twin_ok (a : ByteArray) (h3 : 3 ≤ a.size) (hs : a.size ≤ 1000) : ∃ r, stem_twin.f a = some r ∧ 0 < r.size ∧ r.size ≤ a.size := by
 unfold stem_twin.f stem_vowel.f strings_IndexByte.f
 rw [if_neg (by omega), w64 ((a.size : Int) - 1) (by omega) (by omega), w64 ((a.size : Int) - 2) (by omega) (by omega), if_pos (by omega), if_pos (by omega), if_pos (by omega), if_pos (by omega)]
 simp only [Option.bind_some]
 have e1 : ((a.size : Int) - 1).toNat = a.size - 1 := by omega
 have keep : ∃ r, some a = some r ∧ 0 < r.size ∧ r.size ≤ a.size := ⟨a, rfl, by omega, by omega⟩
 split
 ·split
  ·exact keep
  ·split
   ·exact keep
   ·rw [if_pos (by omega), e1]
    exact ⟨_, rfl, by rw [ext_size a _ (by omega)]; omega, by rw [ext_size a _ (by omega)]; omega⟩
 ·exact keep
theorem past_total (a : ByteArray) (h1 : 1 ≤ a.size) (hs : a.size ≤ 1000) (xs : List ByteArray) (hx : ∀ x ∈ xs, x.size ≤ 1000) (hxl : xs.length ≤ 1000) : ∀ m k i, xs.length - i ≤ m → m < k → ∃ r, stem_past.l0 k a xs (xs.length : Int) ((i : Nat) : Int) = some r ∧ 0 < r.size ∧ r.size ≤ a.size := by
 intro m
 induction m with
 | zero =>
  intro k i hm hk
  obtain ⟨k, rfl⟩ : ∃ j, k = j + 1 := ⟨k - 1, by omega⟩
  unfold stem_past.l0
  rw [if_neg (by omega)]
  exact ⟨a, rfl, by omega, by omega⟩
 | succ m ih =>
  intro k i hm hk
  obtain ⟨k, rfl⟩ : ∃ j, k = j + 1 := ⟨k - 1, by omega⟩
  unfold stem_past.l0
  by_cases c : (i : Int) < (xs.length : Int)
  ·rw [if_pos c, if_pos (by omega), if_pos c]
   have hi : i < xs.length := by omega
   have e0 : rdOf ByteArray.empty xs (i : Int) = xs[i] := by simp [rdOf, List.getD_eq_getElem?_getD, List.getElem?_eq_getElem hi]
   have hxi := hx _ (List.getElem_mem hi)
   rw [e0, cutSuffix_f a xs[i] (by omega) (by omega), w64 ((i : Int) + 1) (by omega) (by omega)]
   have go : ∃ r, stem_past.l0 k a xs (xs.length : Int) ((i : Int) + 1) = some r ∧ 0 < r.size ∧ r.size ≤ a.size := ih k (i + 1) (by omega) (by omega)
   by_cases cs : sufB a xs[i] = true
   ·rw [if_pos cs]
    simp only [Option.bind_some, if_true]
    have hz := ext_size a (a.size - xs[i].size) (by omega)
    by_cases c3 : ((a.extract 0 (a.size - xs[i].size)).size : Int) ≥ 3
    ·rw [if_pos c3]
     unfold stem_vowels.f
     rw [if_pos (by omega)]
     simp only [Option.bind_some]
     split
     ·obtain ⟨r, hr, h2, h3⟩ := twin_ok (a.extract 0 (a.size - xs[i].size)) (by omega) (by omega)
      rw [hr]
      exact ⟨r, rfl, h2, by omega⟩
     ·exact go
    ·rw [if_neg c3]; exact go
   ·rw [if_neg cs]
    simp only [Option.bind_some]
    rw [if_neg (by simp)]
    exact go
  ·rw [if_neg c]
   exact ⟨a, rfl, by omega, by omega⟩
theorem past_ok (a : ByteArray) (h1 : 1 ≤ a.size) (hs : a.size ≤ 1000) (k : Nat) (hk : 2 < k) : ∃ r, stem_past.f k a = some r ∧ 0 < r.size ∧ r.size ≤ a.size := by
 unfold stem_past.f
 simp only [Option.bind_some]
 exact past_total a h1 hs _ (by intro x hx; simp at hx; rcases hx with rfl | rfl <;> decide) (by simp) 2 k 0 (by simp) hk
theorem ends_small : endsTab.all (fun t => decide (t.2.size ≤ 10)) = true := by kernel_rfl
theorem otherGo_ok : ∀ (l : List (ByteArray × ByteArray)) (a : ByteArray), l.all (fun t => decide (t.2.size ≤ 10)) = true → 1 ≤ a.size → 0 < (otherGo l a).size ∧ (otherGo l a).size ≤ a.size + 10
 | [], a, _, h => by simp [otherGo]; omega
 | (o, p) :: t, a, hl, h => by
  simp only [List.all_cons, Bool.and_eq_true, decide_eq_true_eq] at hl
  unfold otherGo
  split
  ·rename_i hc
   simp only [Bool.and_eq_true, decide_eq_true_eq] at hc
   simp only [ByteArray.size_append, ext_size a (a.size - o.size) (by omega)]
   omega
  ·exact otherGo_ok t a hl.2 h
theorem other_ok (a : ByteArray) (h1 : 1 ≤ a.size) (hs : a.size ≤ 1000) : ∃ r, stem_other.f a = some r ∧ 0 < r.size ∧ r.size ≤ a.size + 10 := by
 unfold stem_other.f
 rw [if_pos (by omega)]
 have := otherGo_ok endsTab a ends_small h1
 exact ⟨_, rfl, this.1, this.2⟩
theorem stem_round (k : Nat) (hk : 2 < k) (a : ByteArray) (h1 : 1 ≤ a.size) (hs : a.size ≤ 900) (i : Nat) (hi : i < 3) (Q : Option ByteArray → Prop) (hend : Q (some a))
  (hgo : ∀ r : ByteArray, 0 < r.size → r.size ≤ a.size + 10 → Q (stem_Stem.l0 k r [1, 2, 3] 3 ((i + 1 : Nat) : Int))) : Q (stem_Stem.l0 (k + 1) a [1, 2, 3] 3 (i : Int)) := by
 unfold stem_Stem.l0
 rw [if_pos (by omega), if_pos (by omega), if_pos (by simp; omega), w64 ((i : Int) + 1) (by omega) (by omega)]
 unfold stem_plain.f
 rw [if_pos (by omega)]
 simp only [Option.bind_some]
 have e : ((i : Int) + 1) = ((i + 1 : Nat) : Int) := by omega
 rw [e]
 by_cases cp : (plainGo (bytesOf a) && decide (a.size ≥ 4)) = true
 ·rw [if_pos cp]
  have h4 : 4 ≤ a.size := by simp at cp; exact cp.2
  split
  ·obtain ⟨r, hr, h2, h3⟩ := plural_ok a h4 (by omega)
   rw [hr]
   exact hgo r h2 (by omega)
  ·split
   ·obtain ⟨r, hr, h2, h3⟩ := past_ok a h1 (by omega) k hk
    rw [hr]
    exact hgo r h2 (by omega)
   ·obtain ⟨r, hr, h2, h3⟩ := other_ok a h1 (by omega)
    rw [hr]
    exact hgo r h2 (by omega)
 ·rw [if_neg cp]; exact hend
theorem stem_total (a : ByteArray) (h1 : 1 ≤ a.size) (hs : a.size ≤ 800) (k : Nat) (hk : 8 ≤ k) : ∃ r, stem_Stem.f k a = some r ∧ 0 < r.size ∧ r.size ≤ a.size + 30 := by
 obtain ⟨k, rfl⟩ : ∃ j, k = j + 4 := ⟨k - 4, by omega⟩
 unfold stem_Stem.f
 simp only [Option.bind_some]
 refine stem_round (k + 3) (by omega) a h1 (by omega) 0 (by omega) (fun o => ∃ r, o = some r ∧ 0 < r.size ∧ r.size ≤ a.size + 30) ⟨a, rfl, by omega, by omega⟩ (fun r hr hr2 => ?_)
 refine stem_round (k + 2) (by omega) r hr (by omega) 1 (by omega) (fun o => ∃ r, o = some r ∧ 0 < r.size ∧ r.size ≤ a.size + 30) ⟨r, rfl, by omega, by omega⟩ (fun r2 hr3 hr4 => ?_)
 refine stem_round (k + 1) (by omega) r2 hr3 (by omega) 2 (by omega) (fun o => ∃ r, o = some r ∧ 0 < r.size ∧ r.size ≤ a.size + 30) ⟨r2, rfl, by omega, by omega⟩ (fun r3 hr5 hr6 => ?_)
 unfold stem_Stem.l0
 rw [if_neg (by omega)]
 exact ⟨r3, rfl, hr5, by omega⟩
theorem termsGo_total (ts : List S40) (hT : TokOK ts) (hl : ts.length ≤ 1000000) : ∀ m k i (l : List S40), ts.length - i ≤ m → m + 8 < k → l.length ≤ i → i ≤ ts.length → (∀ x ∈ l, 0 < x.f0.size) →
  ∃ r, terms_Text.l0 k l ts (ts.length : Int) (i : Int) = some r ∧ (∀ x ∈ r, 0 < x.f0.size) ∧ r.length ≤ ts.length := by
 intro m
 induction m with
 | zero =>
  intro k i l hm hk hli hi hx
  obtain ⟨k, rfl⟩ : ∃ j, k = j + 1 := ⟨k - 1, by omega⟩
  unfold terms_Text.l0
  rw [if_neg (by omega)]
  exact ⟨l, rfl, hx, by omega⟩
 | succ m ih =>
  intro k i l hm hk hli hi hx
  obtain ⟨k, rfl⟩ : ∃ j, k = j + 1 := ⟨k - 1, by omega⟩
  unfold terms_Text.l0
  by_cases c : (i : Int) < (ts.length : Int)
  ·rw [if_pos c, if_pos (by omega), if_pos c, rd57_get ts i (by omega), w64 ((i : Int) + 1) (by omega) (by omega)]
   have hti := hT _ (List.getElem_mem (show i < ts.length by omega))
   unfold stem_Stop.f
   simp only [Option.bind_some]
   split
   ·exact ih k (i + 1) l (by omega) (by omega) (by omega) (by omega) hx
   ·obtain ⟨r, hr, h1, _⟩ := stem_total ts[i].f0 hti.1 (by omega) k (by omega)
    rw [hr]
    simp only [Option.bind_some]
    rw [if_pos (by omega)]
    refine ih k (i + 1) _ (by omega) (by omega) (by simp; omega) (by omega) (fun y hy => ?_)
    rcases List.mem_append.1 hy with hy | hy
    ·exact hx y hy
    ·rw [List.mem_singleton.1 hy]; exact h1
  ·rw [if_neg c]
   exact ⟨l, rfl, hx, by omega⟩
theorem text_total (s : ByteArray) (hs : s.size ≤ 100000) (k : Nat) (hk : 3 * s.size + 9 < k) : ∃ r, terms_Text.f k s = some r ∧ (∀ x ∈ r, 0 < x.f0.size) ∧ r.length ≤ s.size := by
 unfold terms_Text.f
 obtain ⟨ts, ht, h1, h2⟩ := wordsF_total s (by omega) k (by omega)
 rw [ht]
 simp only [Option.bind_some]
 obtain ⟨r, h3, h4, h5⟩ := termsGo_total ts h1 (by omega) ts.length k 0 [] (by omega) (by omega) (by simp) (by omega) (by simp)
 exact ⟨r, h3, h4, by omega⟩
theorem rd25_get (xs : List S25) (i : Nat) (h : i < xs.length) : rd_T25 xs (i : Int) = xs[i] := by simp [rd_T25, List.getD_eq_getElem?_getD, List.getElem?_eq_getElem h]
theorem tok_total (l : List S40) (hl : l.length ≤ 1000000000) (a : ByteArray) (b : Int) : ∀ (d k j : Nat), l.length - j ≤ d → j ≤ l.length → d + 1 ≤ k → ∃ r, api_Token_94.l0 k l (l.length : Int) (j : Int) a b = some r := by
 intro d
 induction d with
 | zero =>
  intro k j h hj hk
  obtain ⟨k, rfl⟩ : ∃ q, k = q + 1 := ⟨k - 1, by omega⟩
  exact ⟨-1, by rw [api_Token_94.l0, if_neg (by omega)]⟩
 | succ d ih =>
  intro k j h hj hk
  obtain ⟨k, rfl⟩ : ∃ q, k = q + 1 := ⟨k - 1, by omega⟩
  by_cases c : j < l.length
  ·have w2 : wrap64 ((j : Int) + 1) = ((j + 1 : Nat) : Int) := by rw [w64x _ (by omega) (by omega)]; omega
   rw [api_Token_94.l0, if_pos (by omega), if_pos (by omega), if_pos (by omega), w2]
   split
   ·exact ⟨_, rfl⟩
   ·exact ih k (j + 1) (by omega) (by omega) (by omega)
  ·exact ⟨-1, by rw [api_Token_94.l0, if_neg (by omega)]⟩
theorem behind_total (a b c : Int) : ∃ x y, excerpt_behind.f a b c = some (x, y) := by
 unfold excerpt_behind.f
 repeat' split
 all_goals exact ⟨_, _, rfl⟩
theorem begins_total (l : List S40) (hl : l.length ≤ 1000000) (at_ a f : Int) (ts : List S40) (kids : List S25) (ht : ts.length ≤ 1000) : ∀ (d k j : Nat) (p : List Int), ts.length - j ≤ d → j ≤ ts.length → p.length ≤ j → d + l.length + 5 ≤ k →
  ∃ q b, excerpt_begins.l0 k l at_ p ts (ts.length : Int) (j : Int) a f ts kids = some (q, b) ∧ q.length ≤ ts.length := by
 intro d
 induction d with
 | zero =>
  intro k j p h hj hp hk
  obtain ⟨k, rfl⟩ : ∃ q, k = q + 1 := ⟨k - 1, by omega⟩
  exact ⟨p, _, by rw [excerpt_begins.l0, if_neg (by omega)], by omega⟩
 | succ d ih =>
  intro k j p h hj hp hk
  obtain ⟨k, rfl⟩ : ∃ q, k = q + 1 := ⟨k - 1, by omega⟩
  by_cases c : j < ts.length
  ·have w2 : wrap64 ((j : Int) + 1) = ((j + 1 : Nat) : Int) := by rw [w64x _ (by omega) (by omega)]; omega
   obtain ⟨x, y, hxy⟩ := behind_total at_ (rd_T40 ts 0).f1 (rd_T40 ts (j : Int)).f1
   rw [excerpt_begins.l0, if_pos (by omega), if_pos (by omega), if_pos (by omega), if_pos (by omega), hxy]
   simp only [Option.bind_some]
   cases y with
   | false =>
    rw [if_neg (by simp)]
    exact ⟨[], false, rfl, by simp⟩
   | true =>
    rw [if_pos rfl]
    obtain ⟨r, hr⟩ := tok_total l (by omega) (rd_T40 ts (j : Int)).f0 x l.length k 0 (by omega) (by omega) (by omega)
    have e : api_Token_73.f k l (rd_T40 ts (j : Int)).f0 x = some (decide (r ≥ 0)) := by
     unfold api_Token_73.f api_Token_94.f
     rw [show (0 : Int) = ((0 : Nat) : Int) from rfl, hr]
     rfl
    rw [e]
    simp only [Option.bind_some]
    split
    ·rw [if_pos (by omega), w2]
     exact ih k (j + 1) _ (by omega) (by omega) (by simp; omega) (by omega)
    ·exact ⟨[], false, rfl, by simp⟩
  ·exact ⟨p, _, by rw [excerpt_begins.l0, if_neg (by omega)], by omega⟩
theorem prefix_total (a b : ByteArray) : ∃ r, strings_HasPrefix.f a b = some r := by
 unfold strings_HasPrefix.f stringslite_HasPrefix.f
 split
 ·repeat' split
  all_goals first | exact ⟨_, rfl⟩ | (exfalso; omega)
 ·exact ⟨_, rfl⟩
theorem marks_total (l : List S40) (hl : l.length ≤ 1000000) (a f : Int) (ts : List S40) (kids : List S25) (h1 : 0 < ts.length) (ht : ts.length ≤ 20) : ∀ (d k j : Nat) (out : List Int), l.length - j ≤ d → j ≤ l.length → out.length ≤ 20 * j → d + l.length + 50 ≤ k →
  ∃ q, excerpt_marks.l0 k l out l (l.length : Int) (j : Int) a f ts kids = some q ∧ q.length ≤ 20 * l.length := by
 intro d
 induction d with
 | zero =>
  intro k j out h hj ho hk
  obtain ⟨k, rfl⟩ : ∃ q, k = q + 1 := ⟨k - 1, by omega⟩
  exact ⟨out, by rw [excerpt_marks.l0, if_neg (by omega)], by omega⟩
 | succ d ih =>
  intro k j out h hj ho hk
  obtain ⟨k, rfl⟩ : ∃ q, k = q + 1 := ⟨k - 1, by omega⟩
  by_cases c : j < l.length
  ·have w2 : wrap64 ((j : Int) + 1) = ((j + 1 : Nat) : Int) := by rw [w64x _ (by omega) (by omega)]; omega
   have i0 := ih k (j + 1) out (by omega) (by omega) (by omega) (by omega)
   have i1 := ih k (j + 1) (out ++ [(rd_T40 l (j : Int)).f1]) (by omega) (by omega) (by simp; omega) (by omega)
   obtain ⟨q, b, hq, hq2⟩ := begins_total l hl (rd_T40 l (j : Int)).f1 a f ts kids (by omega) ts.length k 0 [] (by omega) (by omega) (by simp) (by omega)
   have i2 := ih k (j + 1) (out ++ q) (by omega) (by omega) (by simp; omega) (by omega)
   have eb : excerpt_begins.f k l (rd_T40 l (j : Int)).f1 a f ts kids = some (q, b) := hq
   obtain ⟨r, hr⟩ := prefix_total (rd_T40 l (j : Int)).f0 (rd_T40 ts 0).f0
   rw [excerpt_marks.l0, if_pos (by omega), if_pos (by omega), if_pos (by omega), w2, if_pos (show (0 : Int) < (ts.length : Int) by omega), if_pos (show out.length < 17592186044416 by omega), hr, eb]
   simp only [Option.bind_some]
   rw [if_pos (show out.length + q.length < 17592186044416 by omega)]
   repeat' split
   all_goals first | exact i1 | exact i2 | exact i0 | (exfalso; omega)
  ·exact ⟨out, by rw [excerpt_marks.l0, if_neg (by omega)], by omega⟩
theorem Marks_go (l : List S40) (hl : l.length ≤ 1000) (x2 : Int) (ls : List S25) (hn : ls.length ≤ 1000) (hg : ∀ z ∈ ls, z.f2.length ≤ 20) : ∀ (d k j : Nat) (out : List Int), ls.length - j ≤ d → j ≤ ls.length → out.length ≤ 20 * l.length * j → d + 2 * l.length + 60 ≤ k →
  ∃ q, excerpt_Marks.l0 k x2 l out ls (ls.length : Int) (j : Int) = some q ∧ q.length ≤ 20 * l.length * ls.length := by
 intro d
 have fin : ∀ (k : Nat) (out : List Int) (j : Int), ¬ j < (ls.length : Int) → out.length ≤ 20 * l.length * ls.length → ∃ q, excerpt_Marks.l0 (k + 1) x2 l out ls (ls.length : Int) j = some q ∧ q.length ≤ 20 * l.length * ls.length := by
  intro k out j hj ho
  have h2 : 20 * l.length * ls.length ≤ 20 * 1000 * 1000 := Nat.mul_le_mul (by omega) hn
  have e1 : slices_Sort_int_int.f out = some () := by unfold slices_Sort_int_int.f; rw [if_pos (by omega)]
  refine ⟨Lib.compact (out.mergeSort fun x y => decide (x ≤ y)), by rw [excerpt_Marks.l0, if_neg hj, e1]; rfl, ?_⟩
  have := Lib.compact_length_le (out.mergeSort fun x y => decide (x ≤ y))
  rw [List.length_mergeSort] at this
  omega
 have lift : ∀ j, j + 1 ≤ ls.length → 20 * l.length * j + 20 * l.length = 20 * l.length * (j + 1) := fun j _ => by rw [Nat.mul_add]; omega
 have big : ∀ j, j ≤ ls.length → 20 * l.length * j ≤ 20000000 := fun j hj => by
  have : 20 * l.length * j ≤ 20 * 1000 * 1000 := Nat.mul_le_mul (by omega) (by omega)
  omega
 induction d with
 | zero =>
  intro k j out h hj ho hk
  obtain ⟨k, rfl⟩ : ∃ q, k = q + 1 := ⟨k - 1, by omega⟩
  obtain rfl : j = ls.length := by omega
  exact fin k out _ (by omega) ho
 | succ d ih =>
  intro k j out h hj ho hk
  obtain ⟨k, rfl⟩ : ∃ q, k = q + 1 := ⟨k - 1, by omega⟩
  by_cases c : j < ls.length
  ·have w2 : wrap64 ((j : Int) + 1) = ((j + 1 : Nat) : Int) := by rw [w64x _ (by omega) (by omega)]; omega
   have hL := lift j c
   have hB := big j hj
   have i0 := ih k (j + 1) out (by omega) (by omega) (by omega) (by omega)
   have hz := hg ls[j] (List.getElem_mem c)
   rw [excerpt_Marks.l0, if_pos (by omega), if_pos (by omega), if_pos (by omega), w2, rd25_get ls j c]
   by_cases c2 : 0 < ls[j].f2.length
   ·obtain ⟨q, hq, hq2⟩ := marks_total l (by omega) ls[j].f0 ls[j].f1 ls[j].f2 ls[j].f3 c2 hz l.length k 0 [] (by omega) (by omega) (by simp) (by omega)
    have em : excerpt_marks.f k l ls[j].f0 ls[j].f1 ls[j].f2 ls[j].f3 = some q := hq
    have i1 := ih k (j + 1) (out ++ q) (by omega) (by omega) (by simp; omega) (by omega)
    rw [if_pos (by omega), em]
    simp only [Option.bind_some]
    rw [if_pos (show out.length + q.length < 17592186044416 by omega)]
    repeat' split
    all_goals first | exact i1 | exact i0 | (exfalso; omega)
   ·rw [if_neg (by omega)]
    exact i0
  ·obtain rfl : j = ls.length := by omega
   exact fin k out _ (by omega) ho
mutual
theorem node_ind1 (P : S25 → Prop) (h : ∀ a f ts kids, (∀ z ∈ kids, P z) → P ⟨a, f, ts, kids⟩) : ∀ x, P x
 | ⟨a, f, ts, kids⟩ => h a f ts kids (node_ind2 P h kids)
theorem node_ind2 (P : S25 → Prop) (h : ∀ a f ts kids, (∀ z ∈ kids, P z) → P ⟨a, f, ts, kids⟩) : ∀ l : List S25, ∀ z ∈ l, P z
 | [], _, hz => by cases hz
 | x :: t, z, hz => by
  rcases List.mem_cons.1 hz with e | hz
  ·rw [e]; exact node_ind1 P h x
  ·exact node_ind2 P h t z hz
end
mutual
def Good : S25 → Prop
 | ⟨_, _, ts, kids⟩ => ts.length ≤ 20 ∧ kids.length ≤ 20 ∧ GoodL kids
def GoodL : List S25 → Prop
 | [] => True
 | x :: t => Good x ∧ GoodL t
end
theorem goodL_mem : ∀ (l : List S25), GoodL l ↔ ∀ z ∈ l, Good z
 | [] => by simp [GoodL]
 | x :: t => by simp [GoodL, goodL_mem t]
mutual
def leavesF : S25 → List S25
 | ⟨a, f, ts, kids⟩ => if a = 2 ∨ a = 3 ∨ a = 4 then [⟨a, f, ts, []⟩] else if a = 5 ∨ a = 6 then leavesL kids else []
def leavesL : List S25 → List S25
 | [] => []
 | x :: t => leavesF x ++ leavesL t
end
theorem leavesL_drop (l : List S25) (i : Nat) (h : i < l.length) : leavesL (l.drop i) = leavesF l[i] ++ leavesL (l.drop (i + 1)) := by
 rw [List.drop_eq_getElem_cons h, leavesL]
theorem leavesL_mem (l : List S25) (z : S25) (h : z ∈ l) : (leavesF z).length ≤ (leavesL l).length := by
 induction l with
 | nil => cases h
 | cons a t ih =>
  rw [leavesL, List.length_append]
  rcases List.mem_cons.1 h with e | h
  ·rw [e]; omega
  ·have := ih h; omega
theorem rdN_get (xs : List S25) (i : Nat) (h : i < xs.length) : rd_T25 xs (i : Int) = xs[i] := by simp [rd_T25, List.getD_eq_getElem?_getD, List.getElem?_eq_getElem h]
theorem rdT_get (xs : List S40) (i : Nat) (h : i < xs.length) : rd_T40 xs (i : Int) = xs[i] := by simp [rd_T40, List.getD_eq_getElem?_getD, List.getElem?_eq_getElem h]
theorem wr64 (n : Int) (h0 : -9223372036854775808 ≤ n) (h1 : n ≤ 9223372036854775807) : wrap64 n = n := by unfold wrap64; omega
theorem mn_range (s : Nat) : 0 ≤ mn (s : Int) 1000 / 30 ∧ mn (s : Int) 1000 / 30 ≤ 33 := by
 unfold mn
 split <;> omega
theorem nodes_known : ∀ k,
  (∀ (x : S25) (d r : Int), 0 ≤ d → d ≤ 13 → scholiaplain_nodes.f k x.f0 x.f1 x.f2 x.f3 d = some r → 0 ≤ r ∧ r ≤ 1000 ∧ (r ≤ 100 → Good x ∧ ((leavesF x).length : Int) ≤ r)) ∧
  (∀ (d x5 : Int) (ts : List S40) (i : Nat) (a f : Int) (us : List S40) (kids : List S25) (r : Int), 0 ≤ d → d ≤ 12 → ts.length ≤ 20 → kids.length ≤ 20 → i ≤ ts.length → 0 ≤ x5 → x5 ≤ 21 + 33 * (i : Int) →
   scholiaplain_nodes.l0 k d x5 ts (ts.length : Int) (i : Int) a f us kids = some r → 0 ≤ r ∧ r ≤ 1000 ∧ (r ≤ 100 → (∀ z ∈ kids, Good z) ∧ x5 + ((leavesL kids).length : Int) ≤ r)) ∧
  (∀ (d x5 : Int) (kids : List S25) (i : Nat) (r : Int), 0 ≤ d → d ≤ 12 → kids.length ≤ 20 → i ≤ kids.length → 0 ≤ x5 → x5 ≤ 1000 →
   scholiaplain_nodes.l1 k d x5 kids (kids.length : Int) (i : Int) = some r → 0 ≤ r ∧ r ≤ 1000 ∧ (r ≤ 100 → (∀ z ∈ kids.drop i, Good z) ∧ x5 + ((leavesL (kids.drop i)).length : Int) ≤ r)) := by
 intro k
 induction k using Nat.strongRecOn with
 | _ k ih =>
 refine ⟨?_, ?_, ?_⟩
 ·intro x d r h0 h1 h
  cases k with
  | zero => simp [scholiaplain_nodes.f] at h
  | succ k =>
  rw [scholiaplain_nodes.f] at h
  have big : ∀ (k : Nat) (b : Bool), b = true → scholiaplain_nodes.j0 k d b x.f0 x.f1 x.f2 x.f3 = some r → r = 1000 := by
   intro k b hb hj
   cases k with
   | zero => simp [scholiaplain_nodes.j0] at hj
   | succ k =>
    rw [scholiaplain_nodes.j0, if_pos hb] at hj
    exact (Option.some.inj hj).symm
  split at h
  ·have := big _ _ rfl h; omega
  ·rename_i hd
   split at h
   ·have := big _ _ rfl h; omega
   ·rename_i hk
    by_cases ht : (x.f2.length : Int) > 20
    ·have := big _ _ (decide_eq_true ht) h; omega
    ·rw [decide_eq_false ht] at h
     cases k with
     | zero => simp [scholiaplain_nodes.j0] at h
     | succ k =>
     rw [scholiaplain_nodes.j0, if_neg (by simp), wr64 _ (by omega) (by omega)] at h
     have := (ih k (by omega)).2.1 d (1 + (x.f2.length : Int)) x.f2 0 x.f0 x.f1 x.f2 x.f3 r h0 (by omega) (by omega) (by omega) (by omega) (by omega) (by omega) h
     refine ⟨this.1, this.2.1, fun hr => ?_⟩
     obtain ⟨g1, g2⟩ := this.2.2 hr
     obtain ⟨a, f, ts, kids⟩ := x
     refine ⟨⟨by simp only at ht; omega, by simp only at hk; omega, (goodL_mem kids).2 g1⟩, ?_⟩
     simp only [leavesF]
     simp only at g2
     split
     ·simp only [List.length_cons, List.length_nil]; omega
     ·split
      ·omega
      ·simp only [List.length_nil]; omega
 ·intro d x5 ts i a f us kids r h0 h1 ht hk hi h5 h6 h
  cases k with
  | zero => simp [scholiaplain_nodes.l0] at h
  | succ k =>
  rw [scholiaplain_nodes.l0] at h
  by_cases c : (i : Int) < (ts.length : Int)
  ·rw [if_pos c, if_pos (by omega), if_pos c, rdT_get ts i (by omega)] at h
   have hm := mn_range (ts[i].f0.size)
   rw [wr64 _ (by omega) (by omega), wr64 _ (by omega) (by omega)] at h
   have := (ih k (by omega)).2.1 d (x5 + mn (ts[i].f0.size : Int) 1000 / 30) ts (i + 1) a f us kids r h0 h1 ht hk (by omega) (by omega) (by omega) h
   refine ⟨this.1, this.2.1, fun hr => ?_⟩
   obtain ⟨g1, g2⟩ := this.2.2 hr
   exact ⟨g1, by omega⟩
  ·rw [if_neg c] at h
   exact (ih k (by omega)).2.2 d x5 kids 0 r h0 h1 hk (by omega) h5 (by omega) h
 ·intro d x5 kids i r h0 h1 hk hi h5 h6 h
  cases k with
  | zero => simp [scholiaplain_nodes.l1] at h
  | succ k =>
  rw [scholiaplain_nodes.l1] at h
  by_cases c : (i : Int) < (kids.length : Int)
  ·have hi2 : i < kids.length := by omega
   rw [if_pos c, if_pos (by omega), if_pos c, rdN_get kids i hi2, wr64 (d + 1) (by omega) (by omega)] at h
   obtain ⟨t, hf, h⟩ := Option.bind_eq_some_iff.1 h
   obtain ⟨q1, q2, q3⟩ := (ih k (by omega)).1 kids[i] (d + 1) t (by omega) (by omega) hf
   rw [wr64 (x5 + t) (by omega) (by omega)] at h
   by_cases c2 : x5 + t > 100
   ·rw [if_pos c2] at h
    have := Option.some.inj h
    omega
   ·rw [if_neg c2, wr64 _ (by omega) (by omega)] at h
    have := (ih k (by omega)).2.2 d (x5 + t) kids (i + 1) r h0 h1 hk (by omega) (by omega) (by omega) h
    refine ⟨this.1, this.2.1, fun hr => ?_⟩
    obtain ⟨g1, g2⟩ := this.2.2 hr
    obtain ⟨g3, g4⟩ := q3 (by omega)
    refine ⟨?_, ?_⟩
    ·rw [List.drop_eq_getElem_cons hi2]
     intro z hz
     rcases List.mem_cons.1 hz with e | hz
     ·rw [e]; exact g3
     ·exact g1 z hz
    ·rw [leavesL_drop kids i hi2, List.length_append]
     omega
  ·rw [if_neg c] at h
   obtain rfl : i = kids.length := by omega
   have := Option.some.inj h
   rw [List.drop_length]
   refine ⟨by omega, by omega, fun hr => ⟨by simp, ?_⟩⟩
   simp only [leavesL, List.length_nil]
   omega
theorem bound_allN {α : Type} (P : Nat → α → Prop) : ∀ l : List α, (∀ y ∈ l, ∃ K, ∀ k, K ≤ k → P k y) → ∃ K, ∀ y ∈ l, ∀ k, K ≤ k → P k y
 | [], _ => ⟨0, fun _ h => by cases h⟩
 | a :: t, h => by
  obtain ⟨K1, h1⟩ := h a (by simp)
  obtain ⟨K2, h2⟩ := bound_allN P t (fun y hy => h y (by simp [hy]))
  refine ⟨max K1 K2, fun y hy k hk => ?_⟩
  rcases List.mem_cons.1 hy with rfl | hy
  ·exact h1 k (by omega)
  ·exact h2 y hy k (by omega)
theorem nodes_ends (x : S25) : ∃ K, ∀ k, K ≤ k → ∀ d : Int, 0 ≤ d → d ≤ 13 → ∃ r, scholiaplain_nodes.f k x.f0 x.f1 x.f2 x.f3 d = some r := by
 refine node_ind1 (fun x => ∃ K, ∀ k, K ≤ k → ∀ d : Int, 0 ≤ d → d ≤ 13 → ∃ r, scholiaplain_nodes.f k x.f0 x.f1 x.f2 x.f3 d = some r) ?_ x
 intro a f ts kids hkids
 obtain ⟨K, hK⟩ := bound_allN (fun k z => ∀ d : Int, 0 ≤ d → d ≤ 13 → ∃ r, scholiaplain_nodes.f k z.f0 z.f1 z.f2 z.f3 d = some r) kids hkids
 have loop1 : kids.length ≤ 20 → ∀ (d : Int), 0 ≤ d → d ≤ 12 → ∀ m k i (x5 : Int), kids.length - i ≤ m → K + m < k → i ≤ kids.length → 0 ≤ x5 → x5 ≤ 1000 → ∃ r, scholiaplain_nodes.l1 k d x5 kids (kids.length : Int) ((i : Nat) : Int) = some r := by
  intro hk20 d h0 h1 m
  induction m with
  | zero =>
   intro k i x5 hm hk hi _ _
   obtain ⟨k, rfl⟩ : ∃ j, k = j + 1 := ⟨k - 1, by omega⟩
   rw [scholiaplain_nodes.l1, if_neg (by omega)]
   exact ⟨_, rfl⟩
  | succ m ih =>
   intro k i x5 hm hk hi h5 h6
   obtain ⟨k, rfl⟩ : ∃ j, k = j + 1 := ⟨k - 1, by omega⟩
   rw [scholiaplain_nodes.l1]
   by_cases c : (i : Int) < (kids.length : Int)
   ·have hi2 : i < kids.length := by omega
    rw [if_pos c, if_pos (by omega), if_pos c, rdN_get kids i hi2, wr64 (d + 1) (by omega) (by omega)]
    obtain ⟨t, ht⟩ := hK kids[i] (List.getElem_mem hi2) k (by omega) (d + 1) (by omega) (by omega)
    obtain ⟨q1, q2, _⟩ := (nodes_known k).1 kids[i] (d + 1) t (by omega) (by omega) ht
    rw [ht]
    simp only [Option.bind_some]
    rw [wr64 (x5 + t) (by omega) (by omega)]
    by_cases c2 : x5 + t > 100
    ·rw [if_pos c2]; exact ⟨_, rfl⟩
    ·rw [if_neg c2, wr64 _ (by omega) (by omega)]
     exact ih k (i + 1) (x5 + t) (by omega) (by omega) (by omega) (by omega) (by omega)
   ·rw [if_neg c]; exact ⟨_, rfl⟩
 have loop0 : kids.length ≤ 20 → ts.length ≤ 20 → ∀ (d : Int), 0 ≤ d → d ≤ 12 → ∀ m k i (x5 : Int), ts.length - i ≤ m → K + 21 + m < k → i ≤ ts.length → 0 ≤ x5 → x5 ≤ 21 + 33 * (i : Int) → ∃ r, scholiaplain_nodes.l0 k d x5 ts (ts.length : Int) ((i : Nat) : Int) a f ts kids = some r := by
  intro hk20 ht20 d h0 h1 m
  induction m with
  | zero =>
   intro k i x5 hm hk hi h5 h6
   obtain ⟨k, rfl⟩ : ∃ j, k = j + 1 := ⟨k - 1, by omega⟩
   rw [scholiaplain_nodes.l0, if_neg (by omega)]
   exact loop1 hk20 d h0 h1 kids.length k 0 x5 (by omega) (by omega) (by omega) h5 (by omega)
  | succ m ih =>
   intro k i x5 hm hk hi h5 h6
   obtain ⟨k, rfl⟩ : ∃ j, k = j + 1 := ⟨k - 1, by omega⟩
   rw [scholiaplain_nodes.l0]
   by_cases c : (i : Int) < (ts.length : Int)
   ·rw [if_pos c, if_pos (by omega), if_pos c, rdT_get ts i (by omega)]
    have hm := mn_range (ts[i].f0.size)
    rw [wr64 _ (by omega) (by omega), wr64 _ (by omega) (by omega)]
    exact ih k (i + 1) _ (by omega) (by omega) (by omega) (by omega) (by omega)
   ·rw [if_neg c]
    exact loop1 hk20 d h0 h1 kids.length k 0 x5 (by omega) (by omega) (by omega) h5 (by omega)
 refine ⟨K + 50, fun k hk d h0 h1 => ?_⟩
 obtain ⟨k, rfl⟩ : ∃ j, k = j + 2 := ⟨k - 2, by omega⟩
 show ∃ r, scholiaplain_nodes.f (k + 2) a f ts kids d = some r
 rw [scholiaplain_nodes.f]
 split
 ·rw [scholiaplain_nodes.j0, if_pos rfl]; exact ⟨_, rfl⟩
 ·split
  ·rw [scholiaplain_nodes.j0, if_pos rfl]; exact ⟨_, rfl⟩
  ·rename_i hd hk20
   by_cases ht : (ts.length : Int) > 20
   ·rw [decide_eq_true ht, scholiaplain_nodes.j0, if_pos rfl]; exact ⟨_, rfl⟩
   ·rw [decide_eq_false ht, scholiaplain_nodes.j0, if_neg (by simp), wr64 _ (by omega) (by omega)]
    exact loop0 (by omega) (by omega) d h0 (by omega) ts.length k 0 _ (by omega) (by omega) (by omega) (by omega) (by omega)
theorem leaves_ends (x : S25) : Good x → (leavesF x).length ≤ 1000000 → ∃ K, ∀ k, K ≤ k → parse_Leaves.f k x.f0 x.f1 x.f2 x.f3 = some (leavesF x) := by
 refine node_ind1 (fun x => Good x → (leavesF x).length ≤ 1000000 → ∃ K, ∀ k, K ≤ k → parse_Leaves.f k x.f0 x.f1 x.f2 x.f3 = some (leavesF x)) ?_ x
 intro a f ts kids ih hg hl
 obtain ⟨g1, g2, g3⟩ := hg
 have g4 := (goodL_mem kids).1 g3
 simp only [leavesF] at hl
 show ∃ K, ∀ k, K ≤ k → parse_Leaves.f k a f ts kids = some (leavesF ⟨a, f, ts, kids⟩)
 simp only [leavesF]
 by_cases c1 : a = 2 ∨ a = 3 ∨ a = 4
 ·rw [if_pos c1]
  refine ⟨2, fun k hk => ?_⟩
  obtain ⟨k, rfl⟩ : ∃ j, k = j + 2 := ⟨k - 2, by omega⟩
  have hclone : api_Token_49.f ts = some ts := by
   unfold api_Token_49.f
   rw [if_pos (by omega)]
  have j1 : ∀ b, b = true → parse_Leaves.j0 (k + 1) a b a f ts kids = some [⟨a, f, ts, []⟩] := by
   intro b hb
   rw [parse_Leaves.j0, if_pos hb, hclone]; rfl
  rw [parse_Leaves.f]
  split
  ·rename_i h; exact j1 _ (by rw [h]; rfl)
  ·split
   ·rename_i h; exact j1 _ (by rw [h]; rfl)
   ·exact j1 _ (by rw [show a = 4 by omega]; rfl)
 ·rw [if_neg c1]
  rw [if_neg c1] at hl
  have e1 : ∀ k, parse_Leaves.f (k + 2) a f ts kids = if a = 5 then parse_Leaves.j1 k (a == 5) a f ts kids else parse_Leaves.j1 k (a == 6) a f ts kids := by
   intro k
   rw [parse_Leaves.f, if_neg (by omega), if_neg (by omega), parse_Leaves.j0, if_neg (by simp; omega)]
  by_cases c2 : a = 5 ∨ a = 6
  ·rw [if_pos c2]
   rw [if_pos c2] at hl
   obtain ⟨K, hK⟩ := bound_allN (fun k z => parse_Leaves.f k z.f0 z.f1 z.f2 z.f3 = some (leavesF z)) kids (fun z hz => ih z hz (g4 z hz) (Nat.le_trans (leavesL_mem kids z hz) hl))
   have loop : ∀ m k i (acc : List S25), kids.length - i ≤ m → K + m < k → i ≤ kids.length → acc.length + (leavesL (kids.drop i)).length ≤ 1000000 →
     parse_Leaves.l0 k acc kids (kids.length : Int) ((i : Nat) : Int) = some (acc ++ leavesL (kids.drop i)) := by
    intro m
    induction m with
    | zero =>
     intro k i acc hm hk hi _
     obtain ⟨k, rfl⟩ : ∃ j, k = j + 1 := ⟨k - 1, by omega⟩
     obtain rfl : i = kids.length := by omega
     rw [parse_Leaves.l0, if_neg (by omega), List.drop_length, leavesL, List.append_nil]
    | succ m ihm =>
     intro k i acc hm hk hi ha
     obtain ⟨k, rfl⟩ : ∃ j, k = j + 1 := ⟨k - 1, by omega⟩
     by_cases c : (i : Int) < (kids.length : Int)
     ·have hi2 : i < kids.length := by omega
      have q1 := hK kids[i] (List.getElem_mem hi2) k (by omega)
      rw [leavesL_drop kids i hi2, List.length_append] at ha
      have := ihm k (i + 1) (acc ++ leavesF kids[i]) (by omega) (by omega) (by omega) (by rw [List.length_append]; omega)
      rw [leavesL_drop kids i hi2]
      rw [List.append_assoc] at this
      rw [parse_Leaves.l0, if_pos c, if_pos (by omega), if_pos c, rdN_get kids i hi2, q1]
      simp only [Option.bind_some]
      rw [if_pos (by omega), wr64 _ (by omega) (by omega)]
      exact this
     ·obtain rfl : i = kids.length := by omega
      rw [parse_Leaves.l0, if_neg (by omega), List.drop_length, leavesL, List.append_nil]
   refine ⟨K + kids.length + 5, fun k hk => ?_⟩
   obtain ⟨k, rfl⟩ : ∃ j, k = j + 3 := ⟨k - 3, by omega⟩
   have := loop kids.length k 0 [] (by omega) (by omega) (by omega) (by simpa using hl)
   rw [List.drop_zero, List.nil_append] at this
   have j1 : ∀ b, b = true → parse_Leaves.j1 (k + 1) b a f ts kids = some (leavesL kids) := by
    intro b hb
    rw [parse_Leaves.j1, if_pos hb]; exact this
   rw [e1 (k + 1)]
   split
   ·rename_i h; exact j1 _ (by rw [h]; rfl)
   ·exact j1 _ (by rw [show a = 6 by omega]; rfl)
  ·rw [if_neg c2]
   refine ⟨3, fun k hk => ?_⟩
   obtain ⟨k, rfl⟩ : ∃ j, k = j + 3 := ⟨k - 3, by omega⟩
   rw [e1 (k + 1), if_neg (by omega), parse_Leaves.j1, if_neg (by simp; omega)]
theorem leaves_good (x : S25) : Good x → ∀ z ∈ leavesF x, Good z := by
 refine node_ind1 (fun x => Good x → ∀ z ∈ leavesF x, Good z) ?_ x
 intro a f ts kids ih hg z hz
 obtain ⟨g1, g2, g3⟩ := hg
 have g4 := (goodL_mem kids).1 g3
 simp only [leavesF] at hz
 split at hz
 ·rw [List.mem_singleton.1 hz]
  exact ⟨g1, by simp, by simp [GoodL]⟩
 ·split at hz
  ·have : ∀ l : List S25, (∀ u ∈ l, u ∈ kids) → z ∈ leavesL l → Good z := by
    intro l
    induction l with
    | nil => intro _ h; simp [leavesL] at h
    | cons u t iht =>
     intro hs h
     rw [leavesL, List.mem_append] at h
     rcases h with h | h
     ·exact ih u (hs u (by simp)) (g4 u (hs u (by simp))) z h
     ·exact iht (fun v hv => hs v (by simp [hv])) h
   exact this kids (fun _ h => h) hz
  ·cases hz
def exS : ByteArray := ⟨#[116, 104, 101, 32, 113, 117, 105, 99, 107, 32, 114, 101, 100, 32, 102, 111, 120, 32, 114, 97, 110]⟩
def exT : List S40 := [⟨⟨#[102, 111, 120]⟩, 0⟩]
def exX : List S40 := (terms_Text.f 100 exS).getD []
def exP : List S60 := (token_Spans.f 100 exS).getD []
set_option maxRecDepth 100000 in
theorem ex_text : terms_Text.f 100 exS = some exX := by kernel_rfl
set_option maxRecDepth 100000 in
theorem ex_spans : token_Spans.f 100 exS = some exP := by kernel_rfl
set_option maxRecDepth 100000 in
theorem ex_len : exP.length = 5 := by kernel_rfl
set_option maxRecDepth 100000 in
theorem ex_leaves : parse_Leaves.f 100 2 0 exT [] = some [⟨2, 0, exT, []⟩] := by kernel_rfl
set_option maxRecDepth 100000 in
theorem ex_marks : excerpt_marks.f 99 exX 2 0 exT [] = some [3] := by kernel_rfl
set_option maxRecDepth 100000 in
theorem ex_window : excerpt_Window.f 100 [3] 5 2 = some 2 := by kernel_rfl
set_option maxRecDepth 100000 in
theorem ex_piece : excerpt_piece.f exS exP 2 4 [3] = some ⟨#[114, 101, 100, 32, 91, 102, 111, 120, 93]⟩ := by kernel_rfl
theorem ex_Marks : excerpt_Marks.f 100 exS 2 0 exT [] 1 = some [3] := by
 unfold excerpt_Marks.f
 rw [ex_text]
 simp only [Option.bind_some]
 rw [ex_leaves]
 simp only [Option.bind_some]
 change excerpt_Marks.l0 (99 + 1) 1 exX [] [⟨2, 0, exT, []⟩] 1 0 = _
 have e : rd_T25 ([⟨2, 0, exT, []⟩] : List S25) 0 = ⟨2, 0, exT, []⟩ := rfl
 rw [excerpt_Marks.l0, if_pos (by decide), if_pos (by decide), if_pos (by decide), e]
 rw [if_pos (by decide), if_pos rfl, ex_marks]
 simp only [Option.bind_some]
 rw [if_pos (by decide), show wrap64 ((0 : Int) + 1) = 1 from by kernel_rfl, excerpt_Marks.l0, if_neg (by decide)]
 unfold slices_Sort_int_int.f slices_Compact_int_int.f
 rw [if_pos (by decide)]
 have e1 : ([3] : List Int).mergeSort (fun x y => decide (x ≤ y)) = [3] := by simp
 have e2 : Lib.compact ([3] : List Int) = [3] := by kernel_rfl
 rw [List.nil_append, e1, e2]
 rfl
theorem awake_some : ∃ k, scholialaw31_awake.f k = some true := by
 refine ⟨100, ?_⟩
 unfold scholialaw31_awake.f
 change (excerpt_Excerpt.f 100 exS 2 0 exT [] 1 2).bind _ = _
 have e : excerpt_Excerpt.f 100 exS 2 0 exT [] 1 2 = some ⟨#[46, 46, 46, 114, 101, 100, 32, 91, 102, 111, 120, 93, 46, 46, 46]⟩ := by
  unfold excerpt_Excerpt.f
  rw [ex_spans]
  simp only [Option.bind_some]
  rw [ex_len, if_neg (by decide), ex_Marks]
  simp only [Option.bind_some]
  rw [show mn (mx (2 : Int) 1) 20 = 2 from by kernel_rfl]
  rw [show (((5 : Nat) : Int)) = 5 from rfl, ex_window]
  simp only [Option.bind_some]
  rw [show mn (wrap64 ((2 : Int) + 2)) 5 = 4 from by kernel_rfl, ex_piece]
  simp only [Option.bind_some]
  rw [if_pos (by decide), if_pos (by decide), if_pos (by decide), if_pos (by decide)]
  rfl
 rw [e]
 simp only [Option.bind_some]
 rw [ByteArray.toList_eq]
 rfl
theorem spL_asc (s : ByteArray) : AscTo 0 (spL s) s.size := asc_up _ _ _ _ (pinv_text s).1.asc (by have := (pinv_text s).2; omega)
theorem spA_len (s : ByteArray) : (spA s).length = (spL s).length := by simp [spA]
theorem bytes_eq {a b : ByteArray} (h : a.data.toList = b.data.toList) : a = b := by
 cases a with
 | mk d => cases b with
  | mk e => congr; exact Array.toList_inj.1 h
theorem first_last : ∀ (l : List S58) (z : Int), AscTo 0 l z → l ≠ [] → 0 ≤ firstS l ∧ firstS l ≤ lastS l ∧ lastS l ≤ z := by
 intro l z h hn
 have e := endOf_last l 0 hn
 cases l with
 | nil => exact absurd rfl hn
 | cons x t =>
  obtain ⟨a1, a2, a3⟩ := h
  have := endOf_le t x.f1 z a3
  rw [show endOf 0 (x :: t) = endOf x.f1 t from rfl] at e
  have f0 : firstS (x :: t) = x.f0 := rfl
  omega
theorem excerptF (s : ByteArray) (x : S25) (fld : Int) (k : Nat) (m : List Int) (hs : s.size ≤ 1000) (hk : 5000 ≤ k) (hm : excerpt_Marks.f k s x.f0 x.f1 x.f2 x.f3 fld = some m) (hml : m.length ≤ 40000000) (hmk : m.length + 10 ≤ k) (h0 : (spL s).length ≠ 0) (h20 : (spL s).length ≤ 20) :
  ∃ r : List UInt8, excerpt_Excerpt.f k s x.f0 x.f1 x.f2 x.f3 fld 20 = some ⟨r.toArray⟩ ∧ flt r = flt (s.extract (firstS (spL s)).toNat (lastS (spL s)).toNat).data.toList ∧ r.length ≤ 3000 := by
 obtain ⟨r, r1, r2, r3⟩ := pieceF s (spL s) m hs (by omega) hml (by intro e; rw [e] at h0; exact h0 rfl) (spL_asc s)
 refine ⟨r, ?_, r2, r3⟩
 have q1 : mx (20 : Int) 1 = 20 := by unfold mx; omega
 have q2 : mn (20 : Int) 20 = 20 := by unfold mn; omega
 have q3 : wrap64 ((0 : Int) + 20) = 20 := w64x _ (by omega) (by omega)
 have q4 : mn (20 : Int) ((spL s).length : Int) = ((spL s).length : Int) := by unfold mn; omega
 unfold excerpt_Excerpt.f
 rw [SpansF s (by omega) k (by omega)]
 simp only [Option.bind_some]
 rw [spA_len, if_neg (by omega), hm]
 simp only [Option.bind_some]
 rw [q1, q2, windowF m (by omega) _ (by omega) (by omega) k (by omega)]
 simp only [Option.bind_some]
 rw [q3, q4]
 change (excerpt_piece.f s ((spL s).map cv) 0 ((spL s).length : Int) m).bind _ = _
 rw [r1]
 simp only [Option.bind_some]
 rw [if_neg (by omega), if_neg (by omega)]
theorem more_of {f : Nat → Option Bool} (hm : ∀ k, LeO (f k) (f (k + 1))) {k k' : Nat} (h : f k = some true) (hk : k ≤ k') : f k' = some true := by
 obtain ⟨j, rfl⟩ : ∃ j, k' = k + j := ⟨k' - k, by omega⟩
 exact more_rounds hm k j true h
theorem wholeF (s : ByteArray) (x : S25) (fld : Int) (k : Nat) (m : List Int) (hs : s.size ≤ 1000) (hk : 5000 ≤ k) (hm : excerpt_Marks.f k s x.f0 x.f1 x.f2 x.f3 fld = some m) (hml : m.length ≤ 40000000) (hmk : m.length + 10 ≤ k) (h0 : (spL s).length ≠ 0) (h20 : (spL s).length ≤ 20)
  (hb1 : decide (0 ≤ Lib.indexByte s.data.toList 91) = false) (hb2 : decide (0 ≤ Lib.indexByte s.data.toList 93) = false) (ha : scholialaw31_awake.f k = some true) :
  wholeEnd k s fld (firstS (spL s)) (lastS (spL s)) x.f0 x.f1 x.f2 x.f3 = some true := by
 obtain ⟨r, r1, r2, r3⟩ := excerptF s x fld k m hs hk hm hml hmk h0 h20
 obtain ⟨f1, f2, f3⟩ := first_last (spL s) s.size (spL_asc s) (by intro e; rw [e] at h0; exact h0 rfl)
 unfold wholeEnd
 rw [r1]
 simp only [Option.bind_some]
 have z1 : (⟨r.toArray⟩ : ByteArray).size ≤ 40000000 := by show r.toArray.size ≤ _; simp; omega
 rw [replF _ _ z1]
 simp only [Option.bind_some]
 have z2 : (⟨(r.filter fun b => b != 91).toArray⟩ : ByteArray).size ≤ 40000000 := by
  show (r.filter fun b => b != 91).toArray.size ≤ _
  have := List.length_filter_le (fun b : UInt8 => b != 91) r
  simp only [List.size_toArray]
  omega
 rw [replF _ _ z2]
 simp only [Option.bind_some]
 rw [if_pos f1, if_pos f2, if_pos f3]
 have e : (⟨(flt r).toArray⟩ : ByteArray) = s.extract (firstS (spL s)).toNat (lastS (spL s)).toNat := by
  apply bytes_eq
  show flt r = _
  rw [r2]
  apply flt_self
  ·intro b hb
   refine idx_none 91 _ hb1 b ?_
   rw [ext_list] at hb
   exact List.mem_of_mem_take (List.mem_of_mem_drop hb)
  ·intro b hb
   refine idx_none 93 _ hb2 b ?_
   rw [ext_list] at hb
   exact List.mem_of_mem_take (List.mem_of_mem_drop hb)
 have e2 : (⟨((r.filter fun b => b != 91).filter fun b => b != 93).toArray⟩ : ByteArray) = s.extract (firstS (spL s)).toNat (lastS (spL s)).toNat := e
 change (if ByteArray.toList (⟨((r.filter fun b => b != 91).filter fun b => b != 93).toArray⟩ : ByteArray) = _ then _ else _) = _
 rw [e2, if_pos rfl, ha]
 rfl
theorem whole_plain (s : ByteArray) (hs : s.size ≤ 1048576) (x : S25) (fld : Int) : ∃ k, scholialaw31_ExcerptWhole.f k s x.f0 x.f1 x.f2 x.f3 fld = some true := by
 obtain ⟨Ka, hKa⟩ := awake_some
 have aw : ∀ k, Ka ≤ k → scholialaw31_awake.f k = some true := fun k hk => more_of scholialaw31_awake.mono hKa hk
 have jt : ∀ k, Ka ≤ k → scholialaw31_ExcerptWhole.j0 (k + 1) s fld true x.f0 x.f1 x.f2 x.f3 = some true := by
  intro k hk
  rw [scholialaw31_ExcerptWhole.j0, if_pos rfl, aw k hk]
  rfl
 obtain ⟨K1, h1⟩ := nodes_ends x
 by_cases big : s.size > 1000
 ·refine ⟨Ka + 4 * s.size + 41, ?_⟩
  unfold scholialaw31_ExcerptWhole.f
  rw [countF s (by omega) _ (by omega)]
  simp only [Option.bind_some]
  rw [if_pos (by omega)]
  exact jt (Ka + 4 * s.size + 40) (by omega)
 have fr : ∀ k, 4 * s.size + 40 ≤ k → K1 ≤ k → ∃ r, scholiaplain_nodes.f k x.f0 x.f1 x.f2 x.f3 0 = some r ∧ scholialaw31_ExcerptWhole.f k s x.f0 x.f1 x.f2 x.f3 fld = (if decide (r ≤ 100) = true then (if ((spL s).length : Int) = 0 then (scholialaw31_ExcerptWhole.j0 k s fld true x.f0 x.f1 x.f2 x.f3) else (if ((spL s).length : Int) > 20 then (scholialaw31_ExcerptWhole.j0 k s fld true x.f0 x.f1 x.f2 x.f3) else (if decide (0 ≤ Lib.indexByte s.data.toList 91) = true then (scholialaw31_ExcerptWhole.j0 k s fld true x.f0 x.f1 x.f2 x.f3) else (scholialaw31_ExcerptWhole.j0 k s fld (decide (0 ≤ Lib.indexByte s.data.toList 93)) x.f0 x.f1 x.f2 x.f3)))) else (scholialaw31_ExcerptWhole.j0 k s fld true x.f0 x.f1 x.f2 x.f3)) := by
  intro k hk hk1
  obtain ⟨r, hr⟩ := h1 k hk1 0 (by omega) (by omega)
  refine ⟨r, hr, ?_⟩
  unfold scholialaw31_ExcerptWhole.f
  rw [countF s (by omega) _ (by omega)]
  simp only [Option.bind_some]
  rw [if_neg (by omega)]
  unfold scholiaplain_Node.f
  rw [hr]
  simp only [Option.bind_some]
  rw [contF, contF]
  simp only [Option.bind_some]
 by_cases hmain : (∃ r, scholiaplain_nodes.f (Ka + K1 + 5000) x.f0 x.f1 x.f2 x.f3 0 = some r ∧ r ≤ 100) ∧ (spL s).length ≠ 0 ∧ (spL s).length ≤ 20 ∧ decide (0 ≤ Lib.indexByte s.data.toList 91) = false ∧ decide (0 ≤ Lib.indexByte s.data.toList 93) = false
 ·obtain ⟨⟨r0, e0, hr0⟩, h0, h20, hb1, hb2⟩ := hmain
  obtain ⟨_, _, hgood⟩ := (nodes_known _).1 x 0 r0 (by omega) (by omega) e0
  obtain ⟨gx, lx⟩ := hgood hr0
  obtain ⟨K3, h3⟩ := leaves_ends x gx (by omega)
  obtain ⟨K, hK⟩ : ∃ K, K = Ka + K1 + K3 + 30000000 := ⟨_, rfl⟩
  have lg := leaves_good x gx
  have hps := pcL_len s
  obtain ⟨ts, t1, _, t3⟩ := text_total s (by omega) K (by omega)
  obtain ⟨m, m1, m2⟩ := Marks_go ts (by omega) fld (leavesF x) (by omega) (fun z hz => by
   have := lg z hz
   obtain ⟨za, zf, zt, zk⟩ := z
   exact this.1) (leavesF x).length K 0 [] (by omega) (by omega) (by simp) (by omega)
  have mb : 20 * ts.length * (leavesF x).length ≤ 20 * 1000 * 1000 := Nat.mul_le_mul (by omega) (by omega)
  have mF : excerpt_Marks.f K s x.f0 x.f1 x.f2 x.f3 fld = some m := by
   unfold excerpt_Marks.f
   rw [t1]
   simp only [Option.bind_some]
   rw [h3 _ (by omega)]
   exact m1
  have hw := wholeF s x fld K m (by omega) (by omega) mF (by omega) (by omega) h0 h20 hb1 hb2 (aw _ (by omega))
  refine ⟨K + 2 * (pcL s).length + 1 + 1, ?_⟩
  obtain ⟨r, hr, hf⟩ := fr (K + 2 * (pcL s).length + 1 + 1) (by omega) (by omega)
  have hmono := more_rounds (fun k => scholiaplain_Node.mono x.f0 x.f1 x.f2 x.f3 k) (Ka + K1 + 5000) (K - (Ka + K1 + 5000) + 2 * (pcL s).length + 1 + 1) true (by unfold scholiaplain_Node.f; rw [e0]; simp [hr0])
  rw [show Ka + K1 + 5000 + (K - (Ka + K1 + 5000) + 2 * (pcL s).length + 1 + 1) = K + 2 * (pcL s).length + 1 + 1 by omega] at hmono
  unfold scholiaplain_Node.f at hmono
  rw [hr] at hmono
  have hr100 : decide (r ≤ 100) = true := by simpa using hmono
  rw [hf, if_pos hr100, if_neg (by omega), if_neg (by omega), if_neg (by rw [hb1]; simp), hb2, scholialaw31_ExcerptWhole.j0, if_neg (by simp), piecesF s (by omega) _ (by omega)]
  simp only [Option.bind_some]
  have hlaw := (pinv_text s).1.law
  have hend := (pinv_text s).2
  have := whole_loop s fld x.f0 x.f1 x.f2 x.f3 (pcL s) (by omega) K (pcL s).length 0 (-1, 0, 0) (by omega) (by simp) (by
   rw [List.drop_zero]
   change (lawG (pcL s)).2.2 ≤ 40000000
   rw [hlaw]
   simp only
   omega)
  rw [List.drop_zero] at this
  change scholialaw31_ExcerptWhole.l0 (K + 2 * (pcL s).length + 1) s fld (-1) 0 0 (pcL s) ((pcL s).length : Int) ((0 : Nat) : Int) x.f0 x.f1 x.f2 x.f3 = wholeEnd _ s fld (lawG (pcL s)).1 (lawG (pcL s)).2.1 x.f0 x.f1 x.f2 x.f3 at this
  rw [hlaw] at this
  exact this.trans hw
 ·refine ⟨Ka + K1 + 4999 + 1, ?_⟩
  obtain ⟨r, hr, hf⟩ := fr (Ka + K1 + 4999 + 1) (by omega) (by omega)
  have j := jt (Ka + K1 + 4999) (by omega)
  rw [hf]
  by_cases c1 : r ≤ 100
  ·rw [if_pos (by simpa using c1)]
   by_cases c2 : ((spL s).length : Int) = 0
   ·rw [if_pos c2]; exact j
   ·rw [if_neg c2]
    by_cases c3 : ((spL s).length : Int) > 20
    ·rw [if_pos c3]; exact j
    ·rw [if_neg c3]
     cases b1 : decide (0 ≤ Lib.indexByte s.data.toList 91) with
     | true => rw [if_pos rfl]; exact j
     | false =>
      rw [if_neg (by simp)]
      cases b2 : decide (0 ≤ Lib.indexByte s.data.toList 93) with
      | true => exact j
      | false => exact absurd ⟨⟨r, hr, c1⟩, by omega, by omega, b1, b2⟩ hmain
  ·rw [if_neg (by simpa using c1)]; exact j
end Go.Proofs.YtcgkmomhjincgaaGreatDoor.LibX.Scr
