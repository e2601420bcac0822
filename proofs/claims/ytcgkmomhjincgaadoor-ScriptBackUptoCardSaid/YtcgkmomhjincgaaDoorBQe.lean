/- The lines of script and their laws, part Qe: contracts by hand. -/
import Derived.Test.YtcgkmomhjincgaaDoorBLibQ0
import Derived.Test.YtcgkmomhjincgaaDoorBQd
import Derived.Deep.RegionHeld3
import Derived.Lib.ItoaLen
namespace Go.Proofs.YtcgkmomhjincgaaDoor.LibQ.Scr
open Go.RowKit Go.Proofs.YtcgkmomhjincgaaDoor.LibQ Go.Proofs.YtcgkmomhjincgaaDoorW.PrintWords Go.Proofs.YtcgkmomhjincgaaDoorW.PrintLast Go.Proofs.YtcgkmomhjincgaaDoorW.PrintMore
set_option linter.unusedVariables false
set_option linter.unusedSimpArgs false
attribute [local go_sem] max2_int min2_int max_two min_two max_three min_three max_four min_four
def consH {α : Type} (b : α) : List (List α) → List (List α)
  | [] => [[b]]
  | x :: t => (b :: x) :: t
def splC : List Int → List (List Int)
  | [] => [[]]
  | c :: t => if c = 32 then [] :: splC t else consH c (splC t)
theorem splC_ne : ∀ l : List Int, splC l ≠ []
  | [] => by simp [splC]
  | c :: t => by
    rw [splC]
    split
    · simp
    · cases splC t <;> simp [consH]
theorem splC_len : ∀ l : List Int, (splC l).length ≤ l.length + 1
  | [] => by simp [splC]
  | c :: t => by
    have h := splC_len t
    have hn := splC_ne t
    rw [splC]
    split
    · simp; omega
    · cases hs : splC t with
      | nil => exact absurd hs hn
      | cons x u => rw [hs] at h; simp only [consH, List.length_cons] at h ⊢; omega
def wordsB (s : ByteArray) : List ByteArray := (splC (bytesOf s)).map strOfNums
theorem index_ne (b : UInt8) (l : List UInt8) (h : b ≠ 32) : Lib.index (b :: l) [32] = if Lib.index l [32] == -1 then -1 else Lib.index l [32] + 1 := by
  have hp : ([32] : List UInt8).isPrefixOf (b :: l) = false := by simp [List.isPrefixOf, Ne.symm h]
  rw [Lib.index, hp]; simp
theorem index_eq (l : List UInt8) : Lib.index (32 :: l) [32] = 0 := by rw [Lib.index]; simp [List.isPrefixOf]
theorem splitK_ne (b : UInt8) (h : b ≠ 32) : ∀ (k : Nat) (l : List UInt8), Lib.splitK [32] 0 k (b :: l) = consH b (Lib.splitK [32] 0 k l)
  | 0, l => rfl
  | k + 1, l => by
    rw [Lib.splitK, Lib.splitK, index_ne b l h]
    by_cases hm : Lib.index l [32] = -1
    · rw [if_pos (by rw [if_pos (beq_iff_eq.2 hm)]; rfl), if_pos (beq_iff_eq.2 hm)]
      rfl
    · have hge := Lib.index_ge l [32]
      rw [if_neg (fun e => hm (beq_iff_eq.1 e)), if_neg (by intro e; have := beq_iff_eq.1 e; omega), if_neg (fun e => hm (beq_iff_eq.1 e))]
      rw [show (Lib.index l [32] + 1).toNat = (Lib.index l [32]).toNat + 1 by omega]
      simp [consH]
def splU : List UInt8 → List (List UInt8)
  | [] => [[]]
  | c :: t => if c = 32 then [] :: splU t else consH c (splU t)
theorem splitK_all : ∀ l : List UInt8, Lib.splitK [32] 0 (Lib.count l [32]) l = splU l
  | [] => by
    rw [Lib.count_one]
    rfl
  | b :: l => by
    by_cases h : b = 32
    · subst h
      rw [Lib.count_cons_eq, Nat.add_comm, Lib.splitK, index_eq, if_neg (by decide)]
      simp only [splU, if_true]
      rw [← splitK_all l]
      rfl
    · rw [Lib.count_cons_ne b 32 l h, splitK_ne b h, splitK_all l, splU, if_neg h]
theorem splU_C : ∀ l : List UInt8, (splU l).map (fun x => x.map fun b => (b.toNat : Int)) = splC (l.map fun b => (b.toNat : Int))
  | [] => rfl
  | b :: l => by
    have ih := splU_C l
    rw [splU, List.map_cons, splC]
    by_cases h : b = 32
    · subst h
      rw [if_pos rfl, if_pos (by rfl), List.map_cons, ih]; rfl
    · have h2 : ¬ (b.toNat : Int) = 32 := by
        intro e
        have e2 : b.toNat = (32 : UInt8).toNat := by
          show b.toNat = 32
          omega
        exact h (UInt8.toNat_inj.1 e2)
      rw [if_neg h, if_neg h2, ← ih]
      cases splU l <;> simp [consH]
theorem split_f (s : ByteArray) (hs : s.size ≤ 40000000) : strings_Split.f s ⟨#[32]⟩ = some (wordsB s) := by
  unfold strings_Split.f
  rw [if_pos ⟨by omega, by decide⟩]
  congr 1
  have h := Lib.splitB_data ⟨#[32]⟩ 0 (Lib.countB s ⟨#[32]⟩) s
  have hc : Lib.countB s ⟨#[32]⟩ = Lib.count s.data.toList [32] := rfl
  rw [hc] at h ⊢
  rw [show ((⟨#[32]⟩ : ByteArray).data.toList) = [32] from rfl, splitK_all] at h
  have hu := splU_C s.data.toList
  rw [← h, List.map_map] at hu
  unfold wordsB
  show _ = (splC (bytesOf s)).map strOfNums
  rw [show bytesOf s = s.data.toList.map fun b => (b.toNat : Int) from rfl, ← hu, List.map_map]
  refine ((List.map_congr_left (g := id) (fun x _ => ?_)).trans (List.map_id _)).symm
  exact strOf_bytes x
def kinds : List (ByteArray × Int × ByteArray × List Int) := [(⟨#[112, 117, 116]⟩, 1, ⟨#[82, 68, 70, 83]⟩, [0, 6, 5, 7]), (⟨#[100, 114, 111, 112]⟩, 2, ⟨#[82, 68]⟩, [0, 6]), (⟨#[115, 121, 110, 99]⟩, 3, ⟨#[82]⟩, [0]), (⟨#[115, 101, 110, 100]⟩, 4, ⟨#[82, 84]⟩, [0, 1]), (⟨#[100, 101, 108, 105, 118, 101, 114]⟩, 5, ⟨#[82, 84, 78]⟩, [0, 1, 2]), (⟨#[108, 111, 115, 101]⟩, 6, ⟨#[82, 84, 78]⟩, [0, 1, 2]), (⟨#[100, 111, 117, 98, 108, 101]⟩, 7, ⟨#[82, 84, 78]⟩, [0, 1, 2]), (⟨#[115, 112, 111, 105, 108]⟩, 8, ⟨#[82, 84, 78, 65, 88]⟩, [0, 1, 2, 4, 3]), (⟨#[99, 114, 97, 115, 104]⟩, 9, ⟨#[82, 88, 65, 75]⟩, [0, 3, 4, 8]), (⟨#[115, 116, 97, 114, 116]⟩, 10, ⟨#[82]⟩, [0]), (⟨#[102, 117, 115, 101]⟩, 11, ⟨#[82, 78]⟩, [0, 2]), (⟨#[102, 108, 117, 115, 104]⟩, 12, ⟨#[82]⟩, [0]), (⟨#[99, 111, 109, 112, 97, 99, 116]⟩, 13, ⟨#[82]⟩, [0]), (⟨#[99, 111, 108, 108, 101, 99, 116]⟩, 14, ⟨#[82]⟩, [0]), (⟨#[115, 97, 118, 101]⟩, 15, ⟨#[82]⟩, [0]), (⟨#[113, 117, 101, 114, 121]⟩, 16, ⟨#[82, 78, 83]⟩, [0, 2, 7])]
def TabK : Int → List (ByteArray × Int × ByteArray × List Int) → Prop
  | j, [] => j = 17
  | j, e :: t => script_word.f j = some (e.1, e.2.2.2) ∧ e.2.1 = j ∧ 1 ≤ j ∧ j ≤ 16 ∧ TabK (j + 1) t
theorem tabK : TabK 1 kinds := by
  unfold kinds
  iterate 16 (refine And.intro rfl (And.intro rfl (And.intro (by decide) (And.intro (by decide) ?_))))
  rfl
def selK (T : List (ByteArray × Int × ByteArray × List Int)) (w : ByteArray) : Option (ByteArray × Int × ByteArray × List Int) := T.find? (fun e => decide (e.1 = w))
def kdOf : Option (ByteArray × Int × ByteArray × List Int) → Int | some e => e.2.1 | none => 0
def psOf : Option (ByteArray × Int × ByteArray × List Int) → List Int | some e => e.2.2.2 | none => []
def nmOf : Option (ByteArray × Int × ByteArray × List Int) → ByteArray | some e => e.1 | none => ⟨#[]⟩
theorem selK_hit (e : ByteArray × Int × ByteArray × List Int) (t) (w : ByteArray) (h : e.1 = w) : selK (e :: t) w = some e := by
  unfold selK
  rw [List.find?_cons_of_pos (by simpa using h)]
theorem selK_miss (e : ByteArray × Int × ByteArray × List Int) (t) (w : ByteArray) (h : ¬ e.1 = w) : selK (e :: t) w = selK t w := by
  unfold selK
  rw [List.find?_cons_of_neg (by simpa using h)]
theorem kind_l0 (w : ByteArray) : ∀ (T : List (ByteArray × Int × ByteArray × List Int)) (j : Int) (k : Nat), TabK j T → T.length < k → script_kind.l0 k w j = some (kdOf (selK T w))
  | [], j, k, h, hk => by
    obtain ⟨k, rfl⟩ : ∃ m, k = m + 1 := ⟨k - 1, by simp at hk; omega⟩
    have hj : j = 17 := h
    rw [script_kind.l0, if_neg (by omega)]
    rfl
  | e :: t, j, k, h, hk => by
    obtain ⟨k, rfl⟩ : ∃ m, k = m + 1 := ⟨k - 1, by simp at hk; omega⟩
    obtain ⟨h1, h2, h3, h4, h5⟩ := h
    rw [script_kind.l0, if_pos h4, h1, Option.bind_some, wr_id (j + 1) (by omega) (by omega)]
    by_cases c : e.1 = w
    · rw [if_pos (toList_inj.2 c), selK_hit e t w c]
      exact congrArg some h2.symm
    · rw [if_neg (fun h => c (toList_inj.1 h)), selK_miss e t w c]
      exact kind_l0 w t (j + 1) k h5 (by simp at hk; omega)
theorem kind_f (w : ByteArray) (k : Nat) (hk : 17 ≤ k) : script_kind.f k w = some (kdOf (selK kinds w)) := kind_l0 w kinds 1 k tabK (by show 16 < k; omega)
theorem selK_mem (w : ByteArray) (e) (h : selK kinds w = some e) : e ∈ kinds ∧ e.1 = w := by
  unfold selK at h
  exact ⟨List.mem_of_find?_eq_some h, by simpa using List.find?_some h⟩
theorem kinds_word : ∀ e ∈ kinds, selK kinds e.1 = some e ∧ script_word.f e.2.1 = some (e.1, e.2.2.2) ∧ 1 ≤ e.2.1 ∧ e.2.1 ≤ 16 ∧ 0 < e.1.size ∧ e.2.2.1.size ≤ 100 := by decide +kernel
theorem script_far (n : Int) (h : ∀ e ∈ kinds, e.2.1 ≠ n) : script_word.f n = some (⟨#[]⟩, []) := by
  unfold kinds at h
  simp only [List.mem_cons, List.not_mem_nil, or_false, forall_eq_or_imp, forall_eq] at h
  unfold script_word.f
  rw [if_neg (Ne.symm h.1), if_neg (Ne.symm h.2.1), if_neg (Ne.symm h.2.2.1), if_neg (Ne.symm h.2.2.2.1), if_neg (Ne.symm h.2.2.2.2.1), if_neg (Ne.symm h.2.2.2.2.2.1), if_neg (Ne.symm h.2.2.2.2.2.2.1), if_neg (Ne.symm h.2.2.2.2.2.2.2.1), if_neg (Ne.symm h.2.2.2.2.2.2.2.2.1), if_neg (Ne.symm h.2.2.2.2.2.2.2.2.2.1), if_neg (Ne.symm h.2.2.2.2.2.2.2.2.2.2.1), if_neg (Ne.symm h.2.2.2.2.2.2.2.2.2.2.2.1), if_neg (Ne.symm h.2.2.2.2.2.2.2.2.2.2.2.2.1), if_neg (Ne.symm h.2.2.2.2.2.2.2.2.2.2.2.2.2.1), if_neg (Ne.symm h.2.2.2.2.2.2.2.2.2.2.2.2.2.2.1), if_neg (Ne.symm h.2.2.2.2.2.2.2.2.2.2.2.2.2.2.2)]
def selN (n : Int) : Option (ByteArray × Int × ByteArray × List Int) := kinds.find? (fun e => decide (e.2.1 = n))
theorem selN_cases (n : Int) : (∃ e ∈ kinds, selN n = some e ∧ e.2.1 = n) ∨ (selN n = none ∧ ∀ e ∈ kinds, e.2.1 ≠ n) := by
  unfold selN
  cases h : kinds.find? (fun e => decide (e.2.1 = n)) with
  | none => exact .inr ⟨rfl, fun e he => by simpa using List.find?_eq_none.1 h e he⟩
  | some e => exact .inl ⟨e, List.mem_of_find?_eq_some h, rfl, by simpa using List.find?_some h⟩
theorem word_f (n : Int) : script_word.f n = some (nmOf (selN n), psOf (selN n)) := by
  rcases selN_cases n with ⟨e, he, hs, hn⟩ | ⟨hs, hn⟩
  · rw [hs, ← hn]; exact (kinds_word e he).2.1
  · rw [hs]; exact script_far n hn
theorem sel_both (w : ByteArray) : (∃ e ∈ kinds, selK kinds w = some e ∧ e.1 = w ∧ selN e.2.1 = some e) ∨ (selK kinds w = none ∧ selN 0 = none) := by
  cases h : selK kinds w with
  | none => exact .inr ⟨rfl, by decide +kernel⟩
  | some e =>
    obtain ⟨hm, he⟩ := selK_mem w e h
    exact .inl ⟨e, hm, rfl, he, (show ∀ e ∈ kinds, selN e.2.1 = some e by decide +kernel) e hm⟩
def decI (n : Nat) : List Int := (Lib.decDigits n).map fun b => (b.toNat : Int)
theorem decI_one (n : Nat) (h : n < 10) : decI n = [48 + (n : Int)] := by
  unfold decI
  rw [Lib.decDigits_one h, List.map_singleton, UInt8.toNat_ofNat']
  congr 1
  omega
theorem decI_more (n : Nat) (h : ¬ n < 10) : decI n = decI (n / 10) ++ [48 + ((n % 10 : Nat) : Int)] := by
  unfold decI
  rw [Lib.decDigits, dif_neg h, List.map_append, List.map_singleton, UInt8.toNat_ofNat']
  congr 2
  omega
theorem decI_dig (n : Nat) : ∀ c ∈ decI n, 48 ≤ c ∧ c ≤ 57 := by
  induction n using Nat.strongRecOn with
  | _ n ih =>
  by_cases h : n < 10
  · rw [decI_one n h]; intro c hc; rw [List.mem_singleton] at hc; omega
  · rw [decI_more n h]
    intro c hc
    rcases List.mem_append.1 hc with hc | hc
    · exact ih (n / 10) (by omega) c hc
    · rw [List.mem_singleton] at hc; omega
theorem decI_head (n : Nat) (h1 : 1 ≤ n) : ∃ c t, decI n = c :: t ∧ ¬ c = 48 := by
  induction n using Nat.strongRecOn with
  | _ n ih =>
  by_cases h : n < 10
  · exact ⟨48 + (n : Int), [], decI_one n h, by omega⟩
  · obtain ⟨c, t, e, hc⟩ := ih (n / 10) (by omega) (by omega)
    exact ⟨c, t ++ [48 + ((n % 10 : Nat) : Int)], by rw [decI_more n h, e]; rfl, hc⟩
theorem decI_len (m : Nat) : ∀ n : Nat, n < 10 ^ (m + 1) → (decI n).length ≤ m + 1 := by
  induction m with
  | zero => intro n h; rw [decI_one n (by simpa using h)]; simp
  | succ m ih =>
    intro n h
    by_cases h10 : n < 10
    · rw [decI_one n h10]; simp
    · have h2 : n < 10 ^ (m + 1) * 10 := h
      have := ih (n / 10) (by omega)
      rw [decI_more n h10, List.length_append]
      simp only [List.length_cons, List.length_nil]
      omega
def valI (a : Int) (l : List Int) : Int := l.foldl (fun a c => 10 * a + (c - 48)) a
theorem valI_app (a : Int) (l : List Int) (c : Int) : valI a (l ++ [c]) = 10 * valI a l + (c - 48) := by simp [valI]
theorem decI_val (n : Nat) : valI 0 (decI n) = n := by
  induction n using Nat.strongRecOn with
  | _ n ih =>
  by_cases h : n < 10
  · rw [decI_one n h]; simp [valI]; omega
  · rw [decI_more n h, valI_app, ih (n / 10) (by omega)]; omega
theorem decI_of : ∀ (m : Nat) (L : List Int), L.length = m + 1 → (∀ c ∈ L, 48 ≤ c ∧ c ≤ 57) → (m = 0 ∨ ¬ L.headD 0 = 48) → ∃ n : Nat, L = decI n ∧ (m = 0 ∨ 1 ≤ n) := by
  intro m
  induction m with
  | zero =>
    intro L hl hd _
    match L, hl with
    | [c], _ =>
      have := hd c (List.mem_cons_self ..)
      exact ⟨(c - 48).toNat, by rw [decI_one _ (by omega)]; congr 1; omega, .inl rfl⟩
  | succ m ih =>
    intro L hl hd hh
    have hh2 : ¬ L.headD 0 = 48 := by rcases hh with h | h; · omega
                                      · exact h
    rcases List.eq_nil_or_concat L with h | ⟨L', c, rfl⟩
    · rw [h] at hl; simp at hl
    · simp only [List.concat_eq_append] at hl hd hh2 ⊢
      rw [List.length_append] at hl
      simp only [List.length_cons, List.length_nil] at hl
      have hl2 : L'.length = m + 1 := by omega
      have hne : L' ≠ [] := by intro h; rw [h] at hl2; simp at hl2
      have hhd : ¬ L'.headD 0 = 48 := by
        cases L' with
        | nil => exact absurd rfl hne
        | cons a t => simpa using hh2
      obtain ⟨n, hn, h1⟩ := ih L' hl2 (fun c hc => hd c (List.mem_append_left _ hc)) (.inr hhd)
      have hn1 : 1 ≤ n := by
        rcases h1 with h | h
        · have hd1 := hd
          rcases Nat.eq_zero_or_pos n with h0 | h0
          · subst h0
            rw [decI_one 0 (by omega)] at hn
            rw [hn] at hhd
            exact absurd rfl hhd
          · exact h0
        · exact h
      have hc := hd c (List.mem_append_right _ (List.mem_cons_self ..))
      refine ⟨10 * n + (c - 48).toNat, ?_, .inr (by omega)⟩
      rw [decI_more _ (by omega), show (10 * n + (c - 48).toNat) / 10 = n by omega, ← hn]
      congr 2
      omega
def numR (l : List Int) : Int × Bool :=
  if l = [45, 49] then (-1, true) else if l = [] ∨ 10 < l.length ∨ (1 < l.length ∧ l.headD 0 = 48) then (0, false)
  else if (∀ c ∈ l, 48 ≤ c ∧ c ≤ 57) then (valI 0 l, decide (valI 0 l ≤ 1073741824)) else (0, false)
def itoaI (n : Int) : List Int := (Lib.itoa n).map fun b => (b.toNat : Int)
theorem itoaI_nat (n : Nat) : itoaI (n : Int) = decI n := by unfold itoaI decI Lib.itoa; rw [if_neg (by omega), Int.toNat_natCast]
theorem itoaI_neg : itoaI (-1) = [45, 49] := by
  unfold itoaI Lib.itoa
  rw [if_pos (by omega), show Int.natAbs (-1) = 1 from rfl, Lib.decDigits_one (by omega)]
  rfl
theorem numR_of (n : Int) (h0 : -1 ≤ n) (h1 : n ≤ 1073741824) : numR (itoaI n) = (n, true) := by
  by_cases c : n = -1
  · subst c; rw [itoaI_neg]; rfl
  · obtain ⟨m, rfl⟩ := Int.eq_ofNat_of_zero_le (show 0 ≤ n by omega)
    rw [itoaI_nat]
    have hd := decI_dig m
    have hl := decI_len 9 m (by omega)
    unfold numR
    rw [if_neg, if_neg, if_pos hd, decI_val, decide_eq_true h1]
    · rintro (h | h | ⟨h2, h3⟩)
      · by_cases m0 : m = 0
        · subst m0; rw [decI_one 0 (by omega)] at h; cases h
        · obtain ⟨c, t, e, _⟩ := decI_head m (by omega); rw [e] at h; cases h
      · omega
      · by_cases m0 : m = 0
        · subst m0; rw [decI_one 0 (by omega)] at h2; simp at h2
        · obtain ⟨c, t, e, hc⟩ := decI_head m (by omega); rw [e] at h3; exact hc h3
    · intro h
      have := hd 45 (by rw [h]; simp)
      omega
theorem numR_inv (l : List Int) (n : Int) (h : numR l = (n, true)) : -1 ≤ n ∧ n ≤ 1073741824 ∧ l = itoaI n := by
  unfold numR at h
  split at h
  · rename_i hl
    obtain ⟨rfl, _⟩ := Prod.mk.inj h
    exact ⟨by omega, by omega, by rw [hl, itoaI_neg]⟩
  · split at h
    · cases (Prod.mk.inj h).2
    · rename_i h1 h2
      split at h
      · rename_i hd
        obtain ⟨hv, hb⟩ := Prod.mk.inj h
        have hle := of_decide_eq_true hb
        have hne : l ≠ [] := fun e => h2 (.inl e)
        obtain ⟨m, hm⟩ : ∃ m, l.length = m + 1 := ⟨l.length - 1, by have := List.length_pos_iff.2 hne; omega⟩
        obtain ⟨u, hu, _⟩ := decI_of m l hm hd (by
          by_cases m0 : m = 0
          · exact .inl m0
          · exact .inr (fun e => h2 (.inr (.inr ⟨by omega, e⟩))))
        rw [hu, decI_val] at hv
        subst hv
        exact ⟨by omega, by rw [hu, decI_val] at hle; exact hle, by rw [itoaI_nat]; exact hu⟩
      · cases (Prod.mk.inj h).2
theorem pu_app (c : UInt8) : ∀ (l : List UInt8) (acc a : Nat), Lib.parseUint10 acc l = .ok a → Lib.parseUint10 acc (l ++ [c]) = Lib.parseUint10 a [c]
  | [], acc, a, h => by
    have e : acc = a := by simpa [Lib.parseUint10] using h
    rw [e]; rfl
  | x :: t, acc, a, h => by
    rw [Lib.parseUint10] at h
    rw [List.cons_append, Lib.parseUint10]
    split at h
    · rename_i h1
      rw [if_pos h1]
      split at h
      · cases h
      · rename_i h2
        rw [if_neg h2]
        split at h
        · cases h
        · rename_i h3
          rw [if_neg h3]
          exact pu_app c t _ a h
    · cases h
theorem pu_dec (n : Nat) : n ≤ 1073741824 → Lib.parseUint10 0 (Lib.decDigits n) = .ok n := by
  induction n using Nat.strongRecOn with
  | _ n ih =>
  intro hn
  have hdg : ∀ d : Nat, d < 10 → (UInt8.ofNat (48 + d)).toNat = 48 + d := fun d hd => by rw [UInt8.toNat_ofNat']; omega
  by_cases h : n < 10
  · rw [Lib.decDigits_one h, Lib.parseUint10, hdg n h, if_pos (by omega), if_neg (by omega), if_neg (by omega), Lib.parseUint10]
    congr 1
    omega
  · rw [Lib.decDigits, dif_neg h, pu_app _ _ _ _ (ih (n / 10) (by omega) (by omega)), Lib.parseUint10, hdg (n % 10) (by omega), if_pos (by omega), if_neg (by omega), if_neg (by omega), Lib.parseUint10]
    congr 1
    omega
theorem atoi_itoa (n : Int) (h0 : -1 ≤ n) (h1 : n ≤ 1073741824) : Lib.atoiAll (Lib.itoa n) = .ok n := by
  by_cases c : n = -1
  · subst c
    rw [show Lib.itoa (-1) = [45, 49] by unfold Lib.itoa; rw [if_pos (by omega), show Int.natAbs (-1) = 1 from rfl, Lib.decDigits_one (by omega)]; rfl]
    rfl
  · obtain ⟨m, rfl⟩ := Int.eq_ofNat_of_zero_le (show 0 ≤ n by omega)
    rw [Lib.itoa_nonneg]
    have hp := pu_dec m (by omega)
    have hd := decI_dig m
    unfold decI at hd
    cases hl : Lib.decDigits m with
    | nil =>
      exfalso
      by_cases m0 : m < 10
      · rw [Lib.decDigits_one m0] at hl; cases hl
      · rw [Lib.decDigits, dif_neg m0] at hl; simp at hl
    | cons x t =>
      rw [hl] at hp hd
      have hx := hd (x.toNat : Int) (by simp)
      unfold Lib.atoiAll Lib.parseMag
      have e1 : (if x.toNat = 43 ∨ x.toNat = 45 then t else x :: t) = x :: t := if_neg (by omega)
      simp only [e1]
      rw [if_neg (by simp), hp]
      simp only
      rw [if_neg (by omega), if_neg (by omega), if_neg (by omega)]
theorem itoaI_list (w : ByteArray) (n : Int) : bytesOf w = itoaI n ↔ w.data.toList = Lib.itoa n := by
  constructor
  · intro h
    have h2 := congrArg strOfNums h
    rw [strOf_bytes] at h2
    have h3 : strOfNums (itoaI n) = ⟨(Lib.itoa n).toArray⟩ := strOf_bytes ⟨(Lib.itoa n).toArray⟩
    rw [h3] at h2
    rw [h2]
  · intro h
    show w.data.toList.map _ = _
    rw [h]; rfl
theorem snum_f (w : ByteArray) (hw : w.size ≤ 40000000) : ∃ n, script_number.f w = some (n, (numR (bytesOf w)).2) ∧ ((numR (bytesOf w)).2 = true → n = (numR (bytesOf w)).1) := by
  unfold script_number.f
  rw [if_pos hw]
  obtain ⟨⟨m, b⟩, hm⟩ : ∃ r, r = numR (bytesOf w) := ⟨_, rfl⟩
  rw [← hm]
  cases b with
  | true =>
    obtain ⟨h0, h1, h2⟩ := numR_inv _ _ hm.symm
    have h3 := (itoaI_list w m).1 h2
    have ha : atoiN w = (m, true) := by unfold atoiN; rw [h3, atoi_itoa m h0 h1]
    refine ⟨m, ?_, fun _ => rfl⟩
    rw [ha]
    simp only [Bool.true_and, decide_eq_true h0, decide_eq_true h1, ByteArray.toList_eq, h3]
    simp
  | false =>
    refine ⟨(atoiN w).1, ?_, fun h => by cases h⟩
    congr 2
    refine Bool.eq_false_iff.2 (fun h => ?_)
    simp only [Bool.and_eq_true, decide_eq_true_eq, ByteArray.toList_eq, beq_iff_eq] at h
    obtain ⟨⟨⟨_, h0⟩, h1⟩, h2⟩ := h
    have h3 := numR_of _ h0 h1
    rw [← (itoaI_list w _).2 h2.symm, ← hm] at h3
    cases (Prod.mk.inj h3).2
def ltr (p : Int) : Int := if p = 0 then 82 else if p = 1 then 84 else if p = 2 then 78 else if p = 3 then 88 else if p = 4 then 65 else if p = 5 then 70 else if p = 6 then 68 else if p = 7 then 83 else 75
def goodPs : List Int → Bool
  | [] => true
  | p :: ps => if p = 8 then ps.isEmpty else decide (0 ≤ p) && decide (p ≤ 7) && goodPs ps
theorem kinds_good : ∀ e ∈ kinds, goodPs e.2.2.2 = true ∧ bytesOf e.2.2.1 = e.2.2.2.map ltr ∧ e.2.2.2 ≠ [] ∧ e.2.1 ≠ 0 ∧ e.2.2.2.length ≤ 5 := by decide +kernel
def setW (x : S42) (p : Int) (wd : ByteArray) : S42 × Bool :=
  if p = 6 then ({ x with f6 := (unqF wd).1 }, (unqF wd).2) else if p = 7 then ({ x with f8 := (unqF wd).1 }, (unqF wd).2) else (setN x p (numR (bytesOf wd)).1, (numR (bytesOf wd)).2)
def numsS : List ByteArray → Option (List Int)
  | [] => some []
  | w :: t => if (numR (bytesOf w)).2 = true then (numsS t).map ((numR (bytesOf w)).1 :: ·) else none
def rdGo : List Int → List ByteArray → S42 → S42 × Bool
  | [], ws, x => if ws = [] then (x, true) else (z42, false)
  | p :: ps, ws, x => if p = 8 then (match numsS ws with | none => (z42, false) | some l => ({ x with f9 := l }, true))
    else match ws with
      | [] => (z42, false)
      | wd :: t => if (setW x p wd).2 = true then rdGo ps t (setW x p wd).1 else (z42, false)
theorem rdGo_eight (p : Int) (ps : List Int) (ws : List ByteArray) (x : S42) (h : p = 8) : rdGo (p :: ps) ws x = (match numsS ws with | none => (z42, false) | some l => ({ x with f9 := l }, true)) := by
  cases ws with
  | nil => rw [rdGo, if_pos h]
  | cons a t => rw [rdGo, if_pos h]
theorem put_f (k : Nat) (p : Int) (wd : ByteArray) (x : S42) (hw : wd.size ≤ 40000000) (hk : 400000000 < k) : ∃ x', putF k p wd x = some (x', (setW x p wd).2) ∧ ((setW x p wd).2 = true → x' = (setW x p wd).1) := by
  unfold putF setW
  by_cases c6 : p = 6
  · rw [if_pos c6, if_pos c6, unq_f wd hw k (by omega)]
    exact ⟨_, rfl, fun _ => rfl⟩
  · rw [if_neg c6, if_neg c6]
    by_cases c7 : p = 7
    · rw [if_pos c7, if_pos c7, unq_f wd hw k (by omega)]
      exact ⟨_, rfl, fun _ => rfl⟩
    · rw [if_neg c7, if_neg c7]
      obtain ⟨n, hn, he⟩ := snum_f wd hw
      rw [hn]
      exact ⟨_, rfl, fun h => by rw [he h]⟩
theorem list_l0 (k0 : Nat) : ∀ (n : Nat) (ws : List ByteArray) (L : List ByteArray) (xs : List Int) (i k : Nat), L.length ≤ n → n < k → ws.drop i = L → i ≤ ws.length → ws.length ≤ 40000001 → xs.length ≤ i → (∀ w ∈ ws, w.size ≤ 40000000) →
    script_list.l0 k xs ws (ws.length : Int) (i : Int) = some (match numsS L with | none => ([], false) | some l => (xs ++ l, true)) := by
  intro n
  induction n with
  | zero =>
    intro ws L xs i k hL hk hd hi hl hx hw
    obtain rfl := List.eq_nil_of_length_eq_zero (Nat.le_zero.1 hL)
    have h1 := congrArg List.length hd
    rw [List.length_drop] at h1
    simp only [List.length_nil] at h1
    obtain ⟨k, rfl⟩ : ∃ m, k = m + 1 := ⟨k - 1, by omega⟩
    rw [script_list.l0, if_neg (by omega)]
    simp [numsS]
  | succ n ih =>
    intro ws L xs i k hL hk hd hi hl hx hw
    obtain ⟨k, rfl⟩ : ∃ m, k = m + 1 := ⟨k - 1, by omega⟩
    have h1 := congrArg List.length hd
    rw [List.length_drop] at h1
    cases L with
    | nil =>
      simp only [List.length_nil] at h1
      rw [script_list.l0, if_neg (by omega)]
      simp [numsS]
    | cons w t =>
      simp only [List.length_cons] at h1 hL
      have hlt : i < ws.length := by omega
      have h2 := List.drop_eq_getElem_cons hlt
      rw [hd] at h2
      obtain ⟨h3, h4⟩ := List.cons.inj h2
      have hr : rdOf ByteArray.empty ws (i : Int) = w := by
        rw [h3]
        simp [rdOf, List.getD_eq_getElem?_getD, List.getElem?_eq_getElem hlt]
      have hws := hw w (by rw [h3]; exact List.getElem_mem hlt)
      obtain ⟨m, hm, he⟩ := snum_f w hws
      have e1 : (i : Int) + 1 = ((i + 1 : Nat) : Int) := by omega
      rw [script_list.l0, if_pos (by omega), if_pos (by omega), if_pos (by omega), hr, hm, Option.bind_some]
      by_cases c : (numR (bytesOf w)).2 = true
      · simp only [c, if_true]
        rw [if_pos (by omega), wr_id ((i : Int) + 1) (by omega) (by omega), e1, ih ws t _ (i + 1) k (by omega) (by omega) h4.symm (by omega) hl (by simp; omega) hw, numsS, if_pos c, he c]
        cases numsS t <;> simp
      · rw [numsS, if_neg c]
        simp only [Bool.not_eq_true] at c
        simp only [c]
        rfl
theorem list_f (k : Nat) (ws : List ByteArray) (hl : ws.length ≤ 40000001) (hw : ∀ w ∈ ws, w.size ≤ 40000000) (hk : 400000000 < k) : script_list.f k ws = some (match numsS ws with | none => ([], false) | some l => (l, true)) := by
  have h := list_l0 0 ws.length ws ws [] 0 k (Nat.le_refl _) (by omega) rfl (Nat.zero_le _) hl (Nat.le_refl _) hw
  exact h
theorem readGo_f (k n : Nat) (hk : 400000000 < k) : ∀ (ps : List Int) (ws : List ByteArray) (x : S42), ws.length ≤ 40000001 → (∀ w ∈ ws, w.size ≤ 40000000) →
    readGo k n ps ws x = some (if 240 < n then (z42, false) else rdGo ps ws x)
  | [], ws, x, hl, hw => by
    rw [readGo, rdGo]
    congr 1
    by_cases h : 240 < n
    · rw [if_pos (.inr h), if_pos h]
    · rw [if_neg h]
      by_cases e : ws = []
      · rw [if_pos e, if_neg (by rw [e]; simp; omega)]
      · rw [if_neg e, if_pos (.inl (List.length_pos_iff.2 e))]
  | p :: ps, ws, x, hl, hw => by
    by_cases c8 : p = 8
    · rw [readGo_eight k n p ps ws x c8, list_f k ws hl hw hk, Option.bind_some, rdGo_eight p ps ws x c8]
      congr 1
      cases numsS ws with
      | none => simp
      | some l => by_cases h : 240 < n <;> simp [h]
    · cases ws with
      | nil =>
        rw [readGo, if_neg c8, rdGo, if_neg c8]
        simp
      | cons wd t =>
        rw [readGo, if_neg c8, rdGo, if_neg c8]
        obtain ⟨x', hx, he⟩ := put_f k p wd x (hw wd (List.mem_cons_self ..)) hk
        rw [hx, Option.bind_some]
        by_cases c : (setW x p wd).2 = true
        · simp only [c, if_true]
          rw [if_neg (by simp), readGo_f k n hk ps t x' (by simp only [List.length_cons] at hl; omega) (fun w hm => hw w (List.mem_cons_of_mem _ hm)), he c]
        · rw [if_neg c]
          simp only [Bool.not_eq_true] at c
          simp only [c]
          simp
def readS (s : ByteArray) : S42 × Bool := if 240 < s.size then (z42, false) else
  match selK kinds ((wordsB s).headD ⟨#[]⟩) with
  | none => (z42, false)
  | some e => rdGo e.2.2.2 (wordsB s).tail { z42 with f0 := e.2.1 }
theorem splC_mem : ∀ (l x : List Int), x ∈ splC l → x.length ≤ l.length
  | [], x, h => by simp [splC] at h; simp [h]
  | c :: t, x, h => by
    rw [splC] at h
    split at h
    · rcases List.mem_cons.1 h with rfl | h
      · simp
      · have := splC_mem t x h; simp; omega
    · cases hs : splC t with
      | nil => exact absurd hs (splC_ne t)
      | cons y u =>
        rw [hs] at h
        rcases List.mem_cons.1 h with rfl | h
        · have := splC_mem t y (by rw [hs]; exact List.mem_cons_self ..); simp; omega
        · have := splC_mem t x (by rw [hs]; exact List.mem_cons_of_mem _ h); simp; omega
theorem wordsB_mem (s w : ByteArray) (h : w ∈ wordsB s) : w.size ≤ s.size := by
  unfold wordsB at h
  obtain ⟨x, hx, rfl⟩ := List.mem_map.1 h
  have := splC_mem _ _ hx
  rw [bytesOf_length] at this
  rw [strOf_size]; exact this
theorem wordsB_len (s : ByteArray) : 0 < (wordsB s).length ∧ (wordsB s).length ≤ s.size + 1 := by
  unfold wordsB
  rw [List.length_map]
  have h1 := splC_len (bytesOf s)
  rw [bytesOf_length] at h1
  exact ⟨List.length_pos_iff.2 (splC_ne _), h1⟩
theorem read_f (s : ByteArray) (hs : s.size ≤ 40000000) (k : Nat) (hk : 400000000 < k) : readF k s = some (readS s) := by
  unfold readF readS
  rw [split_f s hs, Option.bind_some, kind_f _ k (by omega), Option.bind_some]
  have hl := wordsB_len s
  have hw : ∀ w ∈ (wordsB s).tail, w.size ≤ 40000000 := fun w hm => Nat.le_trans (wordsB_mem s w (List.mem_of_mem_tail hm)) hs
  have ht : (wordsB s).tail.length ≤ 40000001 := by rw [List.length_tail]; omega
  rcases sel_both ((wordsB s).headD ⟨#[]⟩) with ⟨e, he, hk1, _, hn⟩ | ⟨hk1, hn⟩
  · rw [hk1]
    show (script_word.f e.2.1).bind _ = _
    rw [word_f, hn, Option.bind_some]
    show (if e.2.2.2 = [] then _ else _) = _
    rw [if_neg (kinds_good e he).2.2.1, readGo_f k s.size hk _ _ _ ht hw]
    rfl
  · rw [hk1]
    show (script_word.f 0).bind _ = _
    rw [word_f, hn, Option.bind_some]
    show (if ([] : List Int) = [] then _ else _) = _
    rw [if_pos rfl]
    split <;> rfl
theorem eq_l0 (l m : List Int) (hl : l.length = m.length) (hb : l.length ≤ 40000001) : ∀ (d i k : Nat), d = l.length - i → d < k → i ≤ l.length → slices_Equal_int_int.l0 k l m (l.length : Int) (i : Int) = some (decide (l.drop i = m.drop i)) := by
  intro d
  induction d with
  | zero =>
    intro i k hd hk hi
    obtain ⟨k, rfl⟩ : ∃ j, k = j + 1 := ⟨k - 1, by omega⟩
    rw [slices_Equal_int_int.l0, if_neg (by omega), List.drop_eq_nil_of_le (by omega), List.drop_eq_nil_of_le (by omega)]
    simp
  | succ d ih =>
    intro i k hd hk hi
    obtain ⟨k, rfl⟩ : ∃ j, k = j + 1 := ⟨k - 1, by omega⟩
    have h1 : i < l.length := by omega
    have h2 : i < m.length := by omega
    have e1 : (i : Int) + 1 = ((i + 1 : Nat) : Int) := by omega
    have r1 : rd l (i : Int) = l[i] := by simp [rd, List.getD_eq_getElem?_getD, List.getElem?_eq_getElem h1]
    have r2 : rd m (i : Int) = m[i] := by simp [rd, List.getD_eq_getElem?_getD, List.getElem?_eq_getElem h2]
    rw [slices_Equal_int_int.l0, if_pos (by omega), if_pos (by omega), if_pos (by omega), if_pos (by omega), r1, r2, wr_id ((i : Int) + 1) (by omega) (by omega), e1, List.drop_eq_getElem_cons h1, List.drop_eq_getElem_cons h2]
    by_cases c : l[i] = m[i]
    · rw [if_pos c, ih (i + 1) k (by omega) (by omega) (by omega)]
      congr 1
      exact decide_eq_decide.2 ⟨fun h => by rw [c, h], fun h => (List.cons.inj h).2⟩
    · rw [if_neg c, decide_eq_false (fun h => c (List.cons.inj h).1)]
theorem eq_f (l m : List Int) (hb : l.length ≤ 40000001) (k : Nat) (hk : 40000001 < k) : slices_Equal_int_int.f k l m = some (decide (l = m)) := by
  unfold slices_Equal_int_int.f
  by_cases c : l.length = m.length
  · rw [if_pos (by omega)]
    exact eq_l0 l m c hb l.length 0 k rfl (by omega) (Nat.zero_le _)
  · rw [if_neg (by omega), decide_eq_false (fun h => c (by rw [h]))]
def sameB (x y : S42) : Bool := decide (x.f0 = y.f0) && decide (x.f1 = y.f1) && decide (x.f2 = y.f2) && decide (x.f3 = y.f3) && decide (x.f4 = y.f4) && decide (x.f5 = y.f5) && decide (x.f6 = y.f6) && decide (x.f7 = y.f7) && decide (x.f8 = y.f8) && decide (x.f9 = y.f9)
theorem sameB_iff (x y : S42) : sameB x y = true ↔ x = y := by
  constructor
  · intro h
    simp only [sameB, Bool.and_eq_true, decide_eq_true_eq] at h
    obtain ⟨⟨⟨⟨⟨⟨⟨⟨⟨h0, h1⟩, h2⟩, h3⟩, h4⟩, h5⟩, h6⟩, h7⟩, h8⟩, h9⟩ := h
    cases x; cases y
    simp only at h0 h1 h2 h3 h4 h5 h6 h7 h8 h9
    subst h0; subst h1; subst h2; subst h3; subst h4; subst h5; subst h6; subst h7; subst h8; subst h9
    rfl
  · rintro rfl
    simp [sameB]
theorem same_f (x y : S42) (hb : x.f9.length ≤ 40000001) (k : Nat) (hk : 40000002 < k) : script_Same.f k x.f0 x.f1 x.f2 x.f3 x.f4 x.f5 x.f6 x.f7 x.f8 x.f9 y.f0 y.f1 y.f2 y.f3 y.f4 y.f5 y.f6 y.f7 y.f8 y.f9 = some (sameB x y) := by
  unfold script_Same.f
  by_cases h0 : x.f0 = y.f0
  rotate_left
  · rw [if_neg h0]
    simp [sameB, h0]
  rw [if_pos h0]
  by_cases h1 : x.f1 = y.f1
  rotate_left
  · rw [if_neg h1]
    simp [sameB, h1]
  rw [if_pos h1]
  by_cases h2 : x.f2 = y.f2
  rotate_left
  · rw [if_neg h2]
    simp [sameB, h2]
  rw [if_pos h2]
  by_cases h3 : x.f3 = y.f3
  rotate_left
  · rw [if_neg h3]
    simp [sameB, h3]
  rw [if_pos h3]
  by_cases h4 : x.f4 = y.f4
  rotate_left
  · rw [if_neg h4]
    simp [sameB, h4]
  rw [if_pos h4]
  by_cases h5 : x.f5 = y.f5
  rotate_left
  · rw [if_neg h5]
    simp [sameB, h5]
  rw [if_pos h5]
  by_cases h7 : x.f7 = y.f7
  rotate_left
  · rw [if_neg h7]
    simp [sameB, h7]
  rw [if_pos h7]
  by_cases h6 : x.f6 = y.f6
  rotate_left
  · rw [if_neg (fun h => h6 (toList_inj.1 h))]
    simp [sameB, h6]
  rw [if_pos (toList_inj.2 h6)]
  by_cases h8 : x.f8 = y.f8
  rotate_left
  · rw [if_neg (fun h => h8 (toList_inj.1 h))]
    simp [sameB, h8]
  rw [if_pos (toList_inj.2 h8)]
  rw [eq_f _ _ hb k (by omega), Option.bind_some]
  simp [sameB, h0, h1, h2, h3, h4, h5, h6, h7, h8]
abbrev smallI (n : Int) : Prop := -1 ≤ n ∧ n ≤ 1073741824
theorem min_size (s : ByteArray) : 0 ≤ mn (s.size : Int) 8192 ∧ mn (s.size : Int) 8192 ≤ 8192 ∧ (mn (s.size : Int) 8192 < 8192 → (s.size : Int) = mn (s.size : Int) 8192) ∧ (mn (s.size : Int) 8192 ≤ (s.size : Int)) := by
  unfold mn; omega
theorem min_len (s : List Int) : 0 ≤ mn (s.length : Int) 8192 ∧ mn (s.length : Int) 8192 ≤ 8192 ∧ (mn (s.length : Int) 8192 < 8192 → (s.length : Int) = mn (s.length : Int) 8192) ∧ (mn (s.length : Int) 8192 ≤ (s.length : Int)) := by
  unfold mn; omega
theorem brief_l0 (l : List S42) (hl : l.length ≤ 40000001) (most : Int) : ∀ (d : Nat) (n : Int) (i k : Nat), d = l.length - i → 2 * d + 2 < k → i ≤ l.length → 0 ≤ n → n ≤ 8192 → ∃ b, scholiaplain_Brief.l0 k l most n (i : Int) = some b
  | 0, n, i, k, hd, hk, hi, h0, h1 => by
    obtain ⟨k, rfl⟩ : ∃ j, k = j + 2 := ⟨k - 2, by omega⟩
    exact ⟨true, by rw [scholiaplain_Brief.l0, if_neg (by omega), scholiaplain_Brief.j1, if_neg (by simp)]⟩
  | d + 1, n, i, k, hd, hk, hi, h0, h1 => by
    obtain ⟨k, rfl⟩ : ∃ j, k = j + 2 := ⟨k - 2, by omega⟩
    have hlt : i < l.length := by omega
    by_cases c : (i : Int) < most
    · obtain ⟨x, hx⟩ : ∃ x, x = rd_T42 l (i : Int) := ⟨_, rfl⟩
      have m1 := min_size x.f6
      have m2 := min_size x.f8
      have m3 := min_len x.f9
      rw [scholiaplain_Brief.l0, if_pos (by omega), scholiaplain_Brief.j1, if_pos (by simpa using c), if_pos (by omega), if_pos (by omega), ← hx, wr_id (n + _) (by omega) (by omega)]
      by_cases c2 : n + (mn ((x.f6.size : Nat) : Int) 8192 + mn ((x.f8.size : Nat) : Int) 8192 + mn ((x.f9.length : Nat) : Int) 8192) > 8192
      · rw [if_pos c2]
        exact ⟨false, rfl⟩
      · rw [if_neg c2, wr_id ((i : Int) + 1) (by omega) (by omega), show (i : Int) + 1 = ((i + 1 : Nat) : Int) by omega]
        exact brief_l0 l hl most d (n + (mn ((x.f6.size : Nat) : Int) 8192 + mn ((x.f8.size : Nat) : Int) 8192 + mn ((x.f9.length : Nat) : Int) 8192)) (i + 1) k (by omega) (by omega) (by omega) (by omega) (by omega)
    · rw [scholiaplain_Brief.l0, if_pos (by omega), scholiaplain_Brief.j1, if_neg (by simpa using c)]
      exact ⟨true, rfl⟩
theorem brief_f (l : List S42) (hl : l.length ≤ 40000001) (most : Int) (k : Nat) (hk : 400000000 < k) : ∃ b, scholiaplain_Brief.f k l most = some b :=
  brief_l0 l hl most l.length 0 0 k rfl (by omega) (Nat.zero_le _) (by omega) (by omega)
def inI (n : Int) : Prop := -9223372036854775808 ≤ n ∧ n ≤ 9223372036854775807
structure OkS (x : S42) : Prop where
  n1 : inI x.f1
  n2 : inI x.f2
  n3 : inI x.f3
  n4 : inI x.f4
  n5 : inI x.f5
  n7 : inI x.f7
  n9 : ∀ n ∈ x.f9, inI n
  sz : x.f6.size + x.f8.size + x.f9.length ≤ 1048576
theorem getN_in {x : S42} (h : OkS x) (p : Int) : inI (getN x p) := by
  unfold getN
  repeat' split
  all_goals first | exact h.n1 | exact h.n2 | exact h.n3 | exact h.n4 | exact h.n5 | exact h.n7
theorem itoa_in (n : Int) (h : inI n) : strconv_Itoa_50.f n = some (itoaB n) := by unfold strconv_Itoa_50.f itoaB; rw [if_pos (show -9223372036854775808 ≤ n ∧ n ≤ 9223372036854775807 from h)]
theorem itoasW_f : ∀ l : List Int, (∀ n ∈ l, inI n) → itoasW l = some (l.map itoaB)
  | [], _ => rfl
  | n :: t, h => by
    rw [itoasW, itoa_in n (h n (List.mem_cons_self ..)), Option.bind_some, itoasW_f t (fun m hm => h m (List.mem_cons_of_mem _ hm))]
    rfl
def wordP (x : S42) (p : Int) : List ByteArray := if p = 6 then [quoteB x.f6] else if p = 7 then [quoteB x.f8] else if p = 8 then x.f9.map itoaB else [itoaB (getN x p)]
def wordsP (x : S42) : List Int → List ByteArray
  | [] => []
  | p :: ps => wordP x p ++ wordsP x ps
theorem partW_f (x : S42) (h : OkS x) (p : Int) : partW x p = some (wordP x p) := by
  have hs := h.sz
  unfold partW wordP
  by_cases c6 : p = 6
  · rw [if_pos c6, if_pos c6, quote_f _ (by omega)]; rfl
  · rw [if_neg c6, if_neg c6]
    by_cases c7 : p = 7
    · rw [if_pos c7, if_pos c7, quote_f _ (by omega)]; rfl
    · rw [if_neg c7, if_neg c7]
      by_cases c8 : p = 8
      · rw [if_pos c8, if_pos c8, itoasW_f _ h.n9]
      · rw [if_neg c8, if_neg c8, itoa_in _ (getN_in h p)]; rfl
theorem partsW_f (x : S42) (h : OkS x) : ∀ ps, partsW x ps = some (wordsP x ps)
  | [] => rfl
  | p :: ps => by
    rw [partsW, partW_f x h p, Option.bind_some, partsW_f x h ps]
    rfl
def glueL (s : ByteArray) (ws : List ByteArray) : ByteArray := ws.foldl (fun s w => s ++ ⟨#[32]⟩ ++ w) s
theorem ic_cons (a b : List UInt8) (t : List (List UInt8)) : Lib.join (a :: b :: t) [32] = a ++ [32] ++ Lib.join (b :: t) [32] := by
  simp [Lib.join, List.intercalate, List.intersperse]
theorem ic_pre (a b : List UInt8) (t : List (List UInt8)) : Lib.join ((a ++ b) :: t) [32] = a ++ Lib.join (b :: t) [32] := by
  cases t <;> simp [Lib.join, List.intercalate, List.intersperse]
theorem join_glue : ∀ (ws : List ByteArray) (s : ByteArray), joinB (s :: ws) = glueL s ws
  | [], s => by
    unfold joinB glueL
    simp [Lib.join, List.intercalate]
  | w :: t, s => by
    have ih := join_glue t (s ++ ⟨#[32]⟩ ++ w)
    have e : joinB (s :: w :: t) = joinB ((s ++ ⟨#[32]⟩ ++ w) :: t) := by
      unfold joinB
      congr 2
      rw [List.map_cons, List.map_cons, List.map_cons, ic_cons, show (s ++ (⟨#[32]⟩ : ByteArray) ++ w).data.toList = (s.data.toList ++ [32]) ++ w.data.toList by simp, ic_pre]
    rw [e, ih]
    rfl
def sumS (ws : List ByteArray) : Nat := (ws.map (fun w => w.size + 1)).sum
theorem glue_size : ∀ (ws : List ByteArray) (s : ByteArray), (glueL s ws).size = s.size + sumS ws
  | [], s => by simp [glueL, sumS]
  | w :: t, s => by
    have ih := glue_size t (s ++ ⟨#[32]⟩ ++ w)
    show (glueL (s ++ ⟨#[32]⟩ ++ w) t).size = _
    rw [ih, ByteArray.size_append, ByteArray.size_append]
    have h1 : (⟨#[32]⟩ : ByteArray).size = 1 := rfl
    simp only [sumS, List.map_cons, List.sum_cons]
    omega
theorem sumS_app (a b : List ByteArray) : sumS (a ++ b) = sumS a + sumS b := by simp [sumS]
theorem itoaB_size (n : Int) (h : inI n) : (itoaB n).size ≤ 21 := by
  have h1 := Lib.itoa_length_le n h.1 h.2
  simpa [itoaB, ByteArray.size] using h1
theorem sum_itoa : ∀ l : List Int, (∀ n ∈ l, inI n) → sumS (l.map itoaB) ≤ 22 * l.length
  | [], _ => by simp [sumS]
  | n :: t, h => by
    have h1 := itoaB_size n (h n (List.mem_cons_self ..))
    have ih := sum_itoa t (fun m hm => h m (List.mem_cons_of_mem _ hm))
    simp only [sumS, List.map_cons, List.sum_cons, List.length_cons] at ih ⊢
    omega
theorem sum_words (x : S42) (h : OkS x) : ∀ ps : List Int, sumS (wordsP x ps) ≤ ps.count 6 * (3 * x.f6.size + 2) + ps.count 7 * (3 * x.f8.size + 2) + ps.count 8 * (22 * x.f9.length) + 22 * ps.length
  | [] => by simp [wordsP, sumS]
  | p :: ps => by
    have ih := sum_words x h ps
    have q6 := quoteB_size x.f6
    have q8 := quoteB_size x.f8
    rw [wordsP, sumS_app]
    simp only [List.count_cons, List.length_cons]
    unfold wordP
    by_cases c6 : p = 6
    · subst c6
      simp only [sumS, if_true, beq_self_eq_true, List.map_cons, List.map_nil, List.sum_cons, List.sum_nil, show ((6 : Int) == 7) = false by decide, show ((6 : Int) == 8) = false by decide, Bool.false_eq_true, if_false, Nat.add_mul, Nat.one_mul, Nat.add_zero] at ih ⊢
      omega
    · by_cases c7 : p = 7
      · subst c7
        simp only [sumS, if_true, beq_self_eq_true, List.map_cons, List.map_nil, List.sum_cons, List.sum_nil, show ((7 : Int) == 6) = false by decide, show ((7 : Int) == 8) = false by decide, show ¬ ((7 : Int) = 6) by decide, Bool.false_eq_true, if_false, Nat.add_mul, Nat.one_mul, Nat.add_zero] at ih ⊢
        omega
      · by_cases c8 : p = 8
        · subst c8
          have h9 := sum_itoa x.f9 h.n9
          simp only [sumS, if_true, beq_self_eq_true, show ((8 : Int) == 6) = false by decide, show ((8 : Int) == 7) = false by decide, show ¬ ((8 : Int) = 6) by decide, show ¬ ((8 : Int) = 7) by decide, Bool.false_eq_true, if_false, Nat.add_mul, Nat.one_mul, Nat.add_zero] at ih h9 ⊢
          omega
        · have hi := itoaB_size _ (getN_in h p)
          simp only [sumS, c6, c7, c8, List.map_cons, List.map_nil, List.sum_cons, List.sum_nil, beq_iff_eq, if_false, Nat.add_zero] at ih ⊢
          omega
theorem kinds_count : ∀ e ∈ kinds, e.2.2.2.count 6 ≤ 1 ∧ e.2.2.2.count 7 ≤ 1 ∧ e.2.2.2.count 8 ≤ 1 ∧ e.1.size ≤ 10 := by decide +kernel
theorem sum_kind (x : S42) (h : OkS x) (e) (he : e ∈ kinds) : (joinB (e.1 :: wordsP x e.2.2.2)).size ≤ 30000000 := by
  obtain ⟨k6, k7, k8, k1⟩ := kinds_count e he
  have hl := (kinds_good e he).2.2.2.2
  have hs := h.sz
  have h1 := sum_words x h e.2.2.2
  have m6 := Nat.mul_le_mul_right (3 * x.f6.size + 2) k6
  have m7 := Nat.mul_le_mul_right (3 * x.f8.size + 2) k7
  have m8 := Nat.mul_le_mul_right (22 * x.f9.length) k8
  rw [join_glue, glue_size]
  omega
theorem words_count (x : S42) : ∀ ps : List Int, (wordsP x ps).length ≤ ps.length + ps.count 8 * x.f9.length
  | [] => by simp [wordsP]
  | p :: ps => by
    have ih := words_count x ps
    rw [wordsP, List.length_append]
    simp only [List.count_cons, List.length_cons]
    unfold wordP
    by_cases c8 : p = 8
    · subst c8
      simp only [beq_self_eq_true, if_true, show ¬ ((8 : Int) = 6) by decide, show ¬ ((8 : Int) = 7) by decide, if_false, List.length_map, Nat.add_mul, Nat.one_mul]
      omega
    · have hb : (p == 8) = false := by simpa using c8
      have : (if p = 6 then [quoteB x.f6] else if p = 7 then [quoteB x.f8] else if p = 8 then x.f9.map itoaB else [itoaB (getN x p)]).length = 1 := by
        rw [if_neg c8]
        split
        · rfl
        · split <;> rfl
      rw [this, hb]
      simp only [Bool.false_eq_true, if_false, Nat.add_zero]
      omega
def lineS (x : S42) : ByteArray × Int := match selN x.f0 with
  | none => noL
  | some e => if (readS (joinB (e.1 :: wordsP x e.2.2.2))).2 = true ∧ sameB x (readS (joinB (e.1 :: wordsP x e.2.2.2))).1 = true then (joinB (e.1 :: wordsP x e.2.2.2), 0) else noL
theorem line_end (s : ByteArray) (r : S42 × Bool) (x : S42) : (if r.2 = false then some noL else (some (sameB x r.1)).bind fun b => if b = true then some (s, (0 : Int)) else some noL) = some (if r.2 = true ∧ sameB x r.1 = true then (s, 0) else noL) := by
  obtain ⟨y, b⟩ := r
  cases b with
  | false => simp
  | true =>
    simp only [Option.bind_some, true_and]
    cases sameB x y <;> simp
theorem line_f (x : S42) (h : OkS x) (k : Nat) (hk : 400000000 < k) : lineF k x = some (lineS x) := by
  unfold lineF lineS
  rw [word_f, Option.bind_some]
  have hs := h.sz
  rcases selN_cases x.f0 with ⟨e, he, hsel, _⟩ | ⟨hsel, _⟩
  · rw [hsel]
    show (if e.1.size = 0 then _ else (partsW x e.2.2.2).bind _) = _
    have h0 := (kinds_word e he).2.2.2.2.1
    have hj := sum_kind x h e he
    have hc := words_count x e.2.2.2
    have h8 := Nat.mul_le_mul_right x.f9.length (kinds_count e he).2.2.1
    have hl := (kinds_good e he).2.2.2.2
    rw [if_neg (by omega), partsW_f x h, Option.bind_some]
    show (if (joinB (e.1 :: wordsP x e.2.2.2)).size ≤ 40000000 ∧ (e.1 :: wordsP x e.2.2.2).length ≤ 40000000 then _ else none) = _
    rw [if_pos ⟨by omega, by simp only [List.length_cons]; omega⟩]
    have hr := read_f (joinB (e.1 :: wordsP x e.2.2.2)) (by omega) k hk
    show (readF k (joinB (e.1 :: wordsP x e.2.2.2))).bind _ = _
    rw [hr, Option.bind_some, same_f x _ (by omega) k (by omega)]
    exact line_end _ _ x
  · rw [hsel]
    rfl
structure Fine (n : Nat) (y : S42) : Prop where
  n1 : smallI y.f1
  n2 : smallI y.f2
  n3 : smallI y.f3
  n4 : smallI y.f4
  n5 : smallI y.f5
  n7 : smallI y.f7
  n9 : ∀ m ∈ y.f9, smallI m
  l6 : y.f6.size ≤ n
  l8 : y.f8.size ≤ n
theorem unqL_len : ∀ (m : Nat) (l r : List Int), l.length ≤ m → unqL l = some r → r.length ≤ l.length := by
  intro m
  induction m with
  | zero =>
    intro l r hm h
    obtain rfl := List.eq_nil_of_length_eq_zero (Nat.le_zero.1 hm)
    simp [unqL] at h
    simp [h]
  | succ m ih =>
    intro l r hm h
    cases l with
    | nil => simp [unqL] at h; simp [h]
    | cons c t =>
      simp only [List.length_cons] at hm
      by_cases hc : c = 37
      · subst hc
        match t, h, hm with
        | [], h, _ => simp [unqL] at h
        | [a], h, _ => simp [unqL] at h
        | a :: b :: u, h, hm =>
          simp only [unqL, if_true] at h
          simp only [List.length_cons] at hm
          split at h
          · cases h
          · obtain ⟨q, hq, rfl⟩ := Option.map_eq_some_iff.1 h
            have := ih u q (by omega) hq
            simp only [List.length_cons]
            omega
      · rw [unqL_ne c t hc] at h
        obtain ⟨q, hq, rfl⟩ := Option.map_eq_some_iff.1 h
        have := ih t q (by omega) hq
        simp only [List.length_cons]
        omega
theorem unqF_size (q : ByteArray) : (unqF q).1.size ≤ q.size := by
  unfold unqF
  split
  · show 0 ≤ _; omega
  · unfold unqR
    cases h : unqL (bytesOf q) with
    | none => show 0 ≤ _; omega
    | some l =>
      have hl := unqL_len _ _ _ (Nat.le_refl _) h
      rw [bytesOf_length] at hl
      show (finU q ([] ++ l)).1.size ≤ _
      rw [List.nil_append]
      unfold finU
      split
      · show 0 ≤ _; omega
      · split
        · show (strOfNums l).size ≤ _
          rw [strOf_size]; exact hl
        · show 0 ≤ _; omega
theorem numR_small (l : List Int) (h : (numR l).2 = true) : smallI (numR l).1 := by
  obtain ⟨⟨m, b⟩, hq⟩ : ∃ r, r = numR l := ⟨_, rfl⟩
  have hb : b = true := by rw [← hq] at h; exact h
  subst hb
  obtain ⟨h0, h1, _⟩ := numR_inv l m hq.symm
  rw [← hq]
  exact ⟨h0, h1⟩
theorem setW_fine (n : Nat) (x : S42) (p : Int) (wd : ByteArray) (hx : Fine n x) (hw : wd.size ≤ n) (h : (setW x p wd).2 = true) : Fine n (setW x p wd).1 := by
  have hu := unqF_size wd
  unfold setW at h ⊢
  by_cases c6 : p = 6
  · rw [if_pos c6] at h ⊢
    exact ⟨hx.n1, hx.n2, hx.n3, hx.n4, hx.n5, hx.n7, hx.n9, Nat.le_trans hu hw, hx.l8⟩
  · rw [if_neg c6] at h ⊢
    by_cases c7 : p = 7
    · rw [if_pos c7] at h ⊢
      exact ⟨hx.n1, hx.n2, hx.n3, hx.n4, hx.n5, hx.n7, hx.n9, hx.l6, Nat.le_trans hu hw⟩
    · rw [if_neg c7] at h ⊢
      have hs := numR_small _ h
      unfold setN
      repeat' split
      · exact ⟨hs, hx.n2, hx.n3, hx.n4, hx.n5, hx.n7, hx.n9, hx.l6, hx.l8⟩
      · exact ⟨hx.n1, hs, hx.n3, hx.n4, hx.n5, hx.n7, hx.n9, hx.l6, hx.l8⟩
      · exact ⟨hx.n1, hx.n2, hs, hx.n4, hx.n5, hx.n7, hx.n9, hx.l6, hx.l8⟩
      · exact ⟨hx.n1, hx.n2, hx.n3, hs, hx.n5, hx.n7, hx.n9, hx.l6, hx.l8⟩
      · exact ⟨hx.n1, hx.n2, hx.n3, hx.n4, hs, hx.n7, hx.n9, hx.l6, hx.l8⟩
      · exact ⟨hx.n1, hx.n2, hx.n3, hx.n4, hx.n5, hs, hx.n9, hx.l6, hx.l8⟩
theorem setW_f9 (x : S42) (p : Int) (wd : ByteArray) : (setW x p wd).1.f9 = x.f9 := by
  unfold setW
  split
  · rfl
  · split
    · rfl
    · exact setN_f9 x p _
theorem nums_fine : ∀ (ws : List ByteArray) (l : List Int), numsS ws = some l → l.length = ws.length ∧ ∀ m ∈ l, smallI m
  | [], l, h => by simp [numsS] at h; subst h; exact ⟨rfl, fun m hm => by cases hm⟩
  | w :: t, l, h => by
    rw [numsS] at h
    split at h
    · rename_i hb
      obtain ⟨q, hq, rfl⟩ := Option.map_eq_some_iff.1 h
      obtain ⟨h1, h2⟩ := nums_fine t q hq
      refine ⟨by simp [h1], fun m hm => ?_⟩
      rcases List.mem_cons.1 hm with rfl | hm
      · exact numR_small _ hb
      · exact h2 m hm
    · cases h
theorem rdGo_fine (n : Nat) : ∀ (ps : List Int) (ws : List ByteArray) (x : S42), Fine n x → x.f9 = [] → (∀ w ∈ ws, w.size ≤ n) → (rdGo ps ws x).2 = true → Fine n (rdGo ps ws x).1 ∧ (rdGo ps ws x).1.f9.length ≤ ws.length
  | [], ws, x, hx, h9, hw, h => by
    rw [rdGo] at h ⊢
    split at h
    · rename_i e
      rw [if_pos e]
      exact ⟨hx, by rw [h9]; simp⟩
    · cases h
  | p :: ps, ws, x, hx, h9, hw, h => by
    by_cases c8 : p = 8
    · rw [rdGo_eight p ps ws x c8] at h ⊢
      cases hn : numsS ws with
      | none => rw [hn] at h; cases h
      | some l =>
        obtain ⟨h1, h2⟩ := nums_fine ws l hn
        exact ⟨⟨hx.n1, hx.n2, hx.n3, hx.n4, hx.n5, hx.n7, h2, hx.l6, hx.l8⟩, Nat.le_of_eq h1⟩
    · cases ws with
      | nil => rw [rdGo, if_neg c8] at h; cases h
      | cons wd t =>
        rw [rdGo, if_neg c8] at h ⊢
        by_cases c : (setW x p wd).2 = true
        · simp only [c, if_true] at h ⊢
          have ih := rdGo_fine n ps t _ (setW_fine n x p wd hx (hw wd (List.mem_cons_self ..)) c) ((setW_f9 x p wd).trans h9) (fun w hm => hw w (List.mem_cons_of_mem _ hm)) h
          exact ⟨ih.1, Nat.le_trans ih.2 (by simp)⟩
        · simp only [if_neg c] at h
          cases h
theorem fine_zero (n : Nat) (kd : Int) : Fine n { z42 with f0 := kd } :=
  have h0 : smallI 0 := by decide
  ⟨h0, h0, h0, h0, h0, h0, (fun m hm => (by cases hm)), Nat.zero_le _, Nat.zero_le _⟩
theorem readS_fine (s : ByteArray) (h : (readS s).2 = true) : s.size ≤ 240 ∧ Fine 240 (readS s).1 ∧ (readS s).1.f9.length ≤ 240 := by
  unfold readS at h ⊢
  by_cases c : 240 < s.size
  · rw [if_pos c] at h; cases h
  · rw [if_neg c] at h ⊢
    cases hk : selK kinds ((wordsB s).headD ⟨#[]⟩) with
    | none => rw [hk] at h; cases h
    | some e =>
      rw [hk] at h
      have hl := wordsB_len s
      have hw : ∀ w ∈ (wordsB s).tail, w.size ≤ 240 := fun w hm => Nat.le_trans (wordsB_mem s w (List.mem_of_mem_tail hm)) (by omega)
      have ih := rdGo_fine 240 e.2.2.2 (wordsB s).tail { z42 with f0 := e.2.1 } (fine_zero 240 _) rfl hw h
      refine ⟨by omega, ih.1, Nat.le_trans ih.2 ?_⟩
      rw [List.length_tail]
      omega
theorem rdGo_zero : ∀ (ps : List Int) (ws : List ByteArray) (x : S42), (rdGo ps ws x).2 = false → (rdGo ps ws x).1 = z42
  | [], ws, x, h => by
    rw [rdGo] at h ⊢
    split at h
    · cases h
    · rename_i e
      rw [if_neg e]
  | p :: ps, ws, x, h => by
    by_cases c8 : p = 8
    · rw [rdGo_eight p ps ws x c8] at h ⊢
      cases hn : numsS ws with
      | none => rfl
      | some l => rw [hn] at h; cases h
    · cases ws with
      | nil => rw [rdGo, if_neg c8]
      | cons wd t =>
        rw [rdGo, if_neg c8] at h ⊢
        by_cases c : (setW x p wd).2 = true
        · simp only [c, if_true] at h ⊢
          exact rdGo_zero ps t _ h
        · simp only [if_neg c]
theorem readS_zero (s : ByteArray) (h : (readS s).2 = false) : (readS s).1 = z42 := by
  unfold readS at h ⊢
  by_cases c : 240 < s.size
  · rw [if_pos c]
  · rw [if_neg c] at h ⊢
    cases hk : selK kinds ((wordsB s).headD ⟨#[]⟩) with
    | none => rfl
    | some e =>
      rw [hk] at h
      exact rdGo_zero _ _ _ h
end Go.Proofs.YtcgkmomhjincgaaDoor.LibQ.Scr
