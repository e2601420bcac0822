/- The lines of script and their laws, part Qn: contracts by hand. -/
import Derived.Test.YtcgkmomhjincgaaDoorBLibQ0
import Derived.Test.YtcgkmomhjincgaaDoorBQk
import Derived.RangeFuncNested
import Derived.RangeFuncBound
import Derived.RangeFuncCalls
import Derived.RangeFuncLeaves
import Derived.WalkKit
import Derived.OwnWalkIn
import Derived.TacticsInMore
import Derived.LoopNIn
import Derived.LoopIn
import Derived.Shelf.RegionOpen
import Derived.IntWalk
import Derived.Lib.Hide
import Derived.Maps.AppendAt
import Derived.Lib.AppendStr
import Derived.Lib.UnsafeStr
import Derived.Lib.Builder
import Derived.Laws.Externs
import Derived.HandedShaped
import Derived.Shelf.Vars
import Derived.Deep.DeepHandedRow
import Derived.Carry
import Derived.ProofKit
import Derived.OpenShut
import Derived.ShutString
import Derived.ChangeOld
import Derived.SizedLaws
import Derived.LaidMore
import Derived.Lay
import Derived.SevenTiedAt
import Derived.Stop.Joined
namespace Go.Proofs.YtcgkmomhjincgaaDoor.LibQ.Scr
open Go.RowKit Go.Proofs.YtcgkmomhjincgaaDoor.LibQ Go.Proofs.YtcgkmomhjincgaaDoorW.PrintWords Go.Proofs.YtcgkmomhjincgaaDoorW.PrintLast Go.Proofs.YtcgkmomhjincgaaDoorW.PrintMore
set_option linter.unusedVariables false
set_option linter.unusedSimpArgs false
attribute [local go_sem] max2_int min2_int max_two min_two max_three min_three max_four min_four
theorem getN_set (x : S42) (p n : Int) (h0 : 0 ≤ p) (h5 : p ≤ 5) : getN (setN x p n) p = n := by
  have : p = 0 ∨ p = 1 ∨ p = 2 ∨ p = 3 ∨ p = 4 ∨ p = 5 := by omega
  rcases this with rfl | rfl | rfl | rfl | rfl | rfl <;> rfl
theorem wordP_keep (x : S42) (p q : Int) (wd : ByteArray) (h0 : 0 ≤ p) (h7 : p ≤ 7) (q0 : 0 ≤ q) (q8 : q ≤ 8) (hne : p ≠ q) : wordP (setW x p wd).1 q = wordP x q := by
  have h1 : p = 0 ∨ p = 1 ∨ p = 2 ∨ p = 3 ∨ p = 4 ∨ p = 5 ∨ p = 6 ∨ p = 7 := by omega
  have h2 : q = 0 ∨ q = 1 ∨ q = 2 ∨ q = 3 ∨ q = 4 ∨ q = 5 ∨ q = 6 ∨ q = 7 ∨ q = 8 := by omega
  clear h0 h7 q0 q8
  rcases h1 with rfl | rfl | rfl | rfl | rfl | rfl | rfl | rfl <;> rcases h2 with rfl | rfl | rfl | rfl | rfl | rfl | rfl | rfl | rfl <;> first | exact absurd rfl hne | rfl
theorem unq_canon (q : ByteArray) (h : (unqF q).2 = true) : quoteB (unqF q).1 = q := by
  unfold unqF at h ⊢
  by_cases c : q.toList = [37]
  · rw [if_pos c]
    have e : q = ⟨#[37]⟩ := toList_inj.1 (by rw [c, ByteArray.toList_eq])
    rw [e]
    rfl
  · rw [if_neg c] at h ⊢
    unfold unqR at h ⊢
    cases hu : unqL (bytesOf q) with
    | none => rw [hu] at h; cases h
    | some l =>
      rw [hu] at h
      simp only [List.nil_append] at h ⊢
      unfold finU at h ⊢
      by_cases c1 : l = []
      · rw [if_pos c1] at h; cases h
      · rw [if_neg c1] at h ⊢
        by_cases c2 : quoteB (strOfNums l) = q
        · rw [if_pos c2]; exact c2
        · rw [if_neg c2] at h; cases h
theorem num_canon (w : ByteArray) (h : (numR (bytesOf w)).2 = true) : itoaB (numR (bytesOf w)).1 = w := by
  obtain ⟨n, hn⟩ : ∃ n, n = (numR (bytesOf w)).1 := ⟨_, rfl⟩
  have h1 := numR_inv (bytesOf w) n (Prod.ext hn.symm h)
  rw [← hn]
  have h2 := (itoaI_list w n).1 h1.2.2
  apply ByteArray.ext
  apply Array.toList_inj.1
  exact h2.symm
theorem wordP_set (x : S42) (p : Int) (wd : ByteArray) (h0 : 0 ≤ p) (h7 : p ≤ 7) (h : (setW x p wd).2 = true) : wordP (setW x p wd).1 p = [wd] := by
  unfold setW at h ⊢
  unfold wordP
  by_cases c6 : p = 6
  · rw [if_pos c6] at h
    rw [if_pos c6, if_pos c6]
    show [quoteB (unqF wd).1] = _
    rw [unq_canon wd h]
  · rw [if_neg c6] at h
    rw [if_neg c6, if_neg c6]
    by_cases c7 : p = 7
    · rw [if_pos c7] at h
      rw [if_pos c7, if_pos c7]
      show [quoteB (unqF wd).1] = _
      rw [unq_canon wd h]
    · rw [if_neg c7] at h
      rw [if_neg c7, if_neg c7, if_neg (by omega)]
      show [itoaB (getN (setN x p (numR (bytesOf wd)).1) p)] = _
      rw [getN_set x p _ h0 (by omega), num_canon wd h]
theorem nums_canon : ∀ (ws : List ByteArray) (l : List Int), numsS ws = some l → l.map itoaB = ws
  | [], l, h => by obtain rfl := Option.some.inj h; rfl
  | w :: t, l, h => by
    simp only [numsS] at h
    split at h
    · rename_i c
      obtain ⟨l', h1, h2⟩ := Option.map_eq_some_iff.1 h
      rw [← h2, List.map_cons, nums_canon t l' h1, num_canon w c]
    · cases h
theorem setW_f0 (x : S42) (p : Int) (wd : ByteArray) : (setW x p wd).1.f0 = x.f0 := by
  unfold setW
  split
  · rfl
  · split
    · rfl
    · show (setN x p _).f0 = _
      unfold setN
      repeat' split
      all_goals rfl
theorem rdGo_back : ∀ (ps : List Int) (ws : List ByteArray) (x : S42), goodPs ps = true → ps.Nodup → (rdGo ps ws x).2 = true →
    wordsP (rdGo ps ws x).1 ps = ws ∧ (rdGo ps ws x).1.f0 = x.f0 ∧ ∀ q, 0 ≤ q → q ≤ 8 → q ∉ ps → wordP (rdGo ps ws x).1 q = wordP x q
  | [], ws, x, _, _, h => by
    rw [rdGo] at h ⊢
    by_cases e : ws = []
    · rw [if_pos e]
      exact ⟨e.symm, rfl, fun _ _ _ _ => rfl⟩
    · rw [if_neg e] at h; cases h
  | p :: ps, ws, x, hg, hn, h => by
    by_cases c8 : p = 8
    · rw [rdGo_eight p ps ws x c8] at h ⊢
      rw [goodPs, if_pos c8] at hg
      obtain rfl := List.isEmpty_iff.1 hg
      subst c8
      cases hm : numsS ws with
      | none => rw [hm] at h; cases h
      | some l =>
        refine ⟨?_, rfl, ?_⟩
        · show l.map itoaB ++ [] = ws
          rw [List.append_nil, nums_canon ws l hm]
        · intro q q0 q8 hq
          have h2 : q = 0 ∨ q = 1 ∨ q = 2 ∨ q = 3 ∨ q = 4 ∨ q = 5 ∨ q = 6 ∨ q = 7 := by
            have : q ≠ 8 := fun e => hq (by rw [e]; simp)
            omega
          rcases h2 with rfl | rfl | rfl | rfl | rfl | rfl | rfl | rfl <;> rfl
    · rw [goodPs, if_neg c8] at hg
      simp only [Bool.and_eq_true, decide_eq_true_eq] at hg
      obtain ⟨⟨g0, g7⟩, g⟩ := hg
      rw [List.nodup_cons] at hn
      cases ws with
      | nil => rw [rdGo, if_neg c8] at h; cases h
      | cons wd t =>
        rw [rdGo, if_neg c8] at h ⊢
        by_cases c : (setW x p wd).2 = true
        · simp only [c, if_true] at h ⊢
          obtain ⟨i1, i2, i3⟩ := rdGo_back ps t (setW x p wd).1 g hn.2 h
          refine ⟨?_, i2.trans (setW_f0 x p wd), ?_⟩
          · rw [wordsP, i1, i3 p g0 (by omega) hn.1, wordP_set x p wd g0 g7 c]
            rfl
          · intro q q0 q8 hq
            rw [i3 q q0 q8 (fun hm => hq (List.mem_cons_of_mem _ hm)), wordP_keep x p q wd g0 g7 q0 q8 (fun e => hq (by rw [e]; simp))]
        · rw [if_neg c] at h; cases h
theorem kinds_nodup : ∀ e ∈ kinds, e.2.2.2.Nodup ∧ (∀ b ∈ e.1.data.toList, b ≠ 10) := by decide +kernel
theorem splU_ne : ∀ l : List UInt8, splU l ≠ []
  | [] => by simp [splU]
  | c :: t => by
    rw [splU]
    split
    · simp
    · cases splU t <;> simp [consH]
theorem join_spl : ∀ l : List UInt8, Lib.join (splU l) [32] = l
  | [] => by simp [splU, Lib.join, List.intercalate]
  | c :: t => by
    have ih := join_spl t
    have hne := splU_ne t
    rw [splU]
    cases hs : splU t with
    | nil => exact absurd hs hne
    | cons x u =>
      rw [hs] at ih
      by_cases h : c = 32
      · rw [if_pos h, ic_cons, ih, h]; rfl
      · rw [if_neg h]
        show Lib.join (([c] ++ x) :: u) [32] = _
        rw [ic_pre, ih]; rfl
theorem join_words (s : ByteArray) : joinB (wordsB s) = s := by
  have hu := splU_C s.data.toList
  have e : wordsB s = (splU s.data.toList).map fun x => (⟨x.toArray⟩ : ByteArray) := by
    unfold wordsB
    rw [show bytesOf s = s.data.toList.map fun b => (b.toNat : Int) from rfl, ← hu, List.map_map]
    exact List.map_congr_left (fun x _ => strOf_bytes ⟨x.toArray⟩)
  unfold joinB
  rw [e, List.map_map]
  have e2 : (splU s.data.toList).map ((fun y : ByteArray => y.data.toList) ∘ fun x => (⟨x.toArray⟩ : ByteArray)) = splU s.data.toList := by
    exact (List.map_congr_left (g := id) (fun x _ => rfl)).trans (List.map_id _)
  rw [e2, join_spl]
theorem read_line (s : ByteArray) (h : (readS s).2 = true) : lineS (readS s).1 = (s, 0) := by
  obtain ⟨r, hr⟩ : ∃ r, r = (readS s).1 := ⟨_, rfl⟩
  have hrs : readS s = (r, true) := Prod.ext hr.symm h
  rw [← hr]
  unfold readS at hrs
  by_cases c : 240 < s.size
  · rw [if_pos c] at hrs; cases (Prod.mk.inj hrs).2
  rw [if_neg c] at hrs
  rcases sel_both ((wordsB s).headD ⟨#[]⟩) with ⟨e, he, hk1, hk2, hk3⟩ | ⟨hk1, _⟩
  · rw [hk1] at hrs
    simp only at hrs
    have hg := kinds_good e he
    have hb := rdGo_back e.2.2.2 (wordsB s).tail { z42 with f0 := e.2.1 } hg.1 (kinds_nodup e he).1 (by rw [hrs])
    rw [hrs] at hb
    obtain ⟨b1, b2, _⟩ := hb
    simp only at b1 b2
    have hl := wordsB_len s
    have hw : e.1 :: wordsP r e.2.2.2 = wordsB s := by
      rw [b1, hk2]
      cases hws : wordsB s with
      | nil => rw [hws] at hl; simp at hl
      | cons a t => rfl
    unfold lineS
    rw [b2, hk3]
    simp only
    rw [hw, join_words]
    have hrs2 : readS s = (r, true) := Prod.ext hr.symm h
    rw [hrs2, if_pos ⟨rfl, (sameB_iff r r).2 rfl⟩]
  · rw [hk1] at hrs
    cases (Prod.mk.inj hrs).2
def NoLF (w : ByteArray) : Prop := ∀ b ∈ w.data.toList, b ≠ 10
theorem nolf_of (w : ByteArray) (h : ∀ c ∈ bytesOf w, c ≠ 10) : NoLF w := by
  intro b hb e
  subst e
  exact h 10 (List.mem_map.2 ⟨10, hb, rfl⟩) rfl
theorem hexD_no (x : Int) (h0 : 0 ≤ x) (h1 : x < 16) : hexD x ≠ 10 := by
  intro e
  have h := (hexD_nib x h0 h1).1
  rw [e] at h
  have : nibV 10 = -1 := by decide
  omega
theorem quoteL_no : ∀ l : List Int, (∀ c ∈ l, 0 ≤ c ∧ c ≤ 255) → ∀ c ∈ quoteL l, c ≠ 10
  | [], _ => by simp [quoteL]
  | c :: t, h => by
    have ih := quoteL_no t (fun d hd => h d (List.mem_cons_of_mem _ hd))
    obtain ⟨c0, c1⟩ := h c (List.mem_cons_self ..)
    have e : quoteL (c :: t) = quote1 c ++ quoteL t := by simp [quoteL]
    rw [e]
    intro d hd
    rcases List.mem_append.1 hd with hd | hd
    · unfold quote1 at hd
      split at hd
      · simp only [List.mem_singleton] at hd; omega
      · simp only [List.mem_cons, List.not_mem_nil, or_false] at hd
        rcases hd with rfl | rfl | rfl
        · omega
        · exact hexD_no _ (by omega) (by omega)
        · exact hexD_no _ (by omega) (by omega)
    · exact ih d hd
theorem quoteB_no (s : ByteArray) : NoLF (quoteB s) := by
  have hr := bytesOf_range s
  unfold quoteB
  split
  · intro b hb
    have : b = 37 := by simpa using hb
    rw [this]; decide
  · apply nolf_of
    rw [bytes_strOf _ (quoteL_range _ hr)]
    exact quoteL_no _ hr
theorem dec_no (n : Nat) : ∀ b ∈ Lib.decDigits n, b ≠ 10 := by
  intro b hb e
  have := decI_dig n (b.toNat : Int) (List.mem_map.2 ⟨b, hb, rfl⟩)
  rw [e] at this
  exact absurd this.1 (by decide)
theorem itoaB_no (n : Int) : NoLF (itoaB n) := by
  intro b hb
  have hb2 : b ∈ Lib.itoa n := hb
  unfold Lib.itoa at hb2
  split at hb2
  · rcases List.mem_cons.1 hb2 with rfl | hb2
    · decide
    · exact dec_no _ b hb2
  · exact dec_no _ b hb2
theorem wordP_no (x : S42) (p : Int) : ∀ w ∈ wordP x p, NoLF w := by
  intro w hw
  unfold wordP at hw
  split at hw
  · rw [List.mem_singleton] at hw; subst hw; exact quoteB_no _
  · split at hw
    · rw [List.mem_singleton] at hw; subst hw; exact quoteB_no _
    · split at hw
      · obtain ⟨n, _, rfl⟩ := List.mem_map.1 hw
        exact itoaB_no n
      · rw [List.mem_singleton] at hw; subst hw; exact itoaB_no _
theorem wordsP_no (x : S42) : ∀ ps : List Int, ∀ w ∈ wordsP x ps, NoLF w
  | [], w, hw => by cases hw
  | p :: ps, w, hw => by
    rcases List.mem_append.1 hw with hw | hw
    · exact wordP_no x p w hw
    · exact wordsP_no x ps w hw
theorem glue_no : ∀ (ws : List ByteArray) (s : ByteArray), NoLF s → (∀ w ∈ ws, NoLF w) → NoLF (glueL s ws)
  | [], s, h, _ => h
  | w :: t, s, h, hw => by
    refine glue_no t (s ++ ⟨#[32]⟩ ++ w) ?_ (fun v hv => hw v (List.mem_cons_of_mem _ hv))
    intro b hb
    have e : (s ++ (⟨#[32]⟩ : ByteArray) ++ w).data.toList = (s.data.toList ++ [32]) ++ w.data.toList := by simp
    rw [e] at hb
    rcases List.mem_append.1 hb with hb | hb
    · rcases List.mem_append.1 hb with hb | hb
      · exact h b hb
      · rw [List.mem_singleton] at hb; rw [hb]; decide
    · exact hw w (List.mem_cons_self ..) b hb
theorem line_bytes (x : S42) (h : (lineS x).2 = 0) : 0 < (lineS x).1.size ∧ NoLF (lineS x).1 := by
  unfold lineS at h ⊢
  rcases selN_cases x.f0 with ⟨e, he, hsel, _⟩ | ⟨hsel, _⟩
  · rw [hsel] at h ⊢
    simp only at h ⊢
    split at h
    · rename_i c
      rw [if_pos c]
      simp only
      rw [join_glue]
      refine ⟨?_, glue_no _ _ (kinds_nodup e he).2 (wordsP_no x _)⟩
      rw [glue_size]
      have := (kinds_word e he).2.2.2.2.1
      omega
    · cases h
  · rw [hsel] at h; cases h
def mayL (l : List S42) : List S42 := l.filter fun x => decide ((lineS x).2 = 0)
theorem mayL_snoc (l : List S42) (x : S42) : mayL (l ++ [x]) = mayL l ++ (if (lineS x).2 = 0 then [x] else []) := by
  unfold mayL
  rw [List.filter_append]
  congr 1
  by_cases c : (lineS x).2 = 0 <;> simp [c]
theorem mayL_len (l : List S42) : (mayL l).length ≤ l.length := List.length_filter_le _ _
theorem cut_write : ∀ l : List S42, cutGo (writeP l) [] = (mayL l).map fun x => (lineS x).1.data.toList
  | [] => rfl
  | x :: t => by
    have ih := cut_write t
    have e : writeP (x :: t) = (if (lineS x).2 = 0 then (lineS x).1.data.toList ++ [10] else []) ++ writeP t := by simp [writeP]
    rw [e]
    by_cases c : (lineS x).2 = 0
    · rw [if_pos c, List.append_assoc, show ([10] : List UInt8) ++ writeP t = 10 :: writeP t from rfl, cutGo_hit _ _ _ (line_bytes x c).2, ih]
      simp [mayL, c]
    · rw [if_neg c, List.nil_append, ih]
      simp [mayL, c]
theorem parseGo_lines : ∀ (Y : List S42) (L : List ByteArray) (xs : List S42) (n : Int), L.map trimB = Y.map (fun x => (lineS x).1) → (∀ x ∈ Y, (lineS x).2 = 0) → parseGo L xs n = (xs ++ Y, n + Y.length, 0)
  | [], L, xs, n, h, _ => by
    have : L = [] := List.map_eq_nil_iff.1 h
    subst this
    simp [parseGo]
  | x :: Y, L, xs, n, h, hY => by
    cases L with
    | nil => cases h
    | cons y t =>
      rw [List.map_cons, List.map_cons] at h
      obtain ⟨h1, h2⟩ := List.cons.inj h
      have hx := hY x (List.mem_cons_self ..)
      have hz := (line_bytes x hx).1
      rw [parseGo, h1, if_neg (by omega), lineS_read x hx]
      simp only [if_true]
      rw [parseGo_lines Y t (xs ++ [x]) (n + 1) h2 (fun v hv => hY v (List.mem_cons_of_mem _ hv)), List.append_assoc]
      congr 2
      simp only [List.length_cons]
      omega
theorem parse_write (l : List S42) (hl : l.length ≤ 40) : parseS (toB (writeP l)) = (mayL l, ((mayL l).length : Int), 0) := by
  have hs := writeP_len l
  have hz : (toB (writeP l)).size = (writeP l).length := by
    show (writeP l).toArray.size = _
    rw [List.size_toArray]
  unfold parseS
  rw [if_neg (by omega), parseGo_lines (mayL l) _ [] 0 ?_ ?_]
  · simp
  · rw [lines_cut _ _ (by omega)]
    show (cutGo (writeP l) []).map toB = _
    rw [cut_write, List.map_map]
    exact List.map_congr_left (fun x _ => toB_list _)
  · intro x hx
    have := (List.mem_filter.1 hx).2
    exact of_decide_eq_true this
theorem write_small (l : List S42) (hl : l.length ≤ 40) : (toB (writeP l)).size ≤ 32768 := by
  have hs := writeP_len l
  show (writeP l).toArray.size ≤ _
  rw [List.size_toArray]
  omega
theorem mayL_f9 (l : List S42) : ∀ x ∈ mayL l, x.f9.length ≤ 40000001 := by
  intro x hx
  have h := of_decide_eq_true (List.mem_filter.1 hx).2
  have h2 := lineS_read x h
  have h3 := (readS_fine (lineS x).1 (by rw [h2])).2.2
  rw [h2] at h3
  simp only at h3
  omega
def kfix (w0 : World) : Kd S42 where
  sz := k42.sz
  E := []
  K := fun _ x cs => k42.K w0 x cs
  M := fun _ _ _ x cs => k42.K w0 x cs
  K_len := fun h => k42.K_len h
  K_one := fun h => k42.K_one h
  K_below := fun _ h => h
  K_of_M := fun h => h
  M_mono := fun _ h => h
  M_bound := fun h => h
  M_move := fun _ h => h
  M_lower := fun _ h => h
theorem fix_reads {w0 w : World} {base : Nat} {ok : Nat → Prop} {A : Option Addr} {c : Nat} {xs : List S42} (hb : Below w0.heap.size w0 w) (h : Kd.S (kfix w0) 42 w base ok (.slice A xs.length c) xs) : Kd.C k42 w A xs.length xs ∧ xs.length ≤ c := by
  have h1 := Kd.R_reads' (Kd.S_R h)
  refine ⟨?_, h1.2.1⟩
  obtain ⟨q1, q2, q3⟩ := h1.2.2
  refine ⟨q1, q2, fun hn => ?_⟩
  obtain ⟨ad, e, hh⟩ := q3 hn
  refine ⟨ad, e, fun j p hj => ?_⟩
  obtain ⟨cs, r1, r2, r3⟩ := hh j p hj
  exact ⟨cs, r1, k42.K_below hb r2, r3⟩
theorem ok_fine {x : S42} (h : Fine 240 x) (h9 : x.f9.length ≤ 240) : OkS x := by
  have g : ∀ n : Int, smallI n → inI n := fun n hn => ⟨by have := hn.1; omega, by have := hn.2; omega⟩
  exact ⟨g _ h.n1, g _ h.n2, g _ h.n3, g _ h.n4, g _ h.n5, g _ h.n7, fun n hn => g _ (h.n9 n hn), by have := h.l6; have := h.l8; omega⟩
set_option maxHeartbeats 16000000 in
set_option maxRecDepth 100000 in
theorem back_main (A : Option Addr) (c : Nat) (l : List S42) (s : ByteArray) (w0 : World) (hG : GL w0) (hr : Kd.C k42 w0 A l.length l) (hc : l.length ≤ c) (hl : l.length ≤ 40) (hok : ∀ x ∈ l, OkS x) (hs : s.size ≤ 4096) (hb : Calls Tryd.prog 24 #[.slice A l.length c, .int .i64 40] w0 fun e w' => e = .returned (.bool true) ∧ Below w0.heap.size w0 w') :
    Calls Tryd.prog 9 #[.slice A l.length c, .string s] w0 fun e w' => e = .returned (.bool true) ∧ Below w0.heap.size w0 w' := by
  have hu := Tryd.underlying42
  have HG0 := Aside0.mk hG
  have HR0 := Aside0.mk hr
  have HC := Aside0.mk hc
  have HL := Aside0.mk hl
  have HOK := Aside0.mk hok
  have HS := Aside0.mk hs
  have HBR := Aside0.mk hb
  have b1 : decide ((40 : Int) < (l.length : Int)) = false := decide_eq_false (by omega)
  have b2 : decide ((4096 : Int) < (s.size : Int)) = false := decide_eq_false (by omega)
  clear hG hr hc hl hok hs hb
  go_enter Tryd.func9, Tryd.ntmps9
  go_wp2_with fail
  refine HBR.out.mono ?_
  rintro e w' ⟨rfl, h0⟩
  have HG := Aside0.mk (HG0.out.below h0)
  have HR := Aside0.mk (Kd.C_below HR0.out h0)
  have H0 := Aside0.mk h0
  clear h0 HG0 HR0
  go_wp2_with fail
  go_loopg [5, 33] l.length (fun n v5 v33 wr => ∃ (j : Nat) (A5 : Option Addr) (c5 : Nat), v33 = .int .i64 (j : Int) ∧ v5 = .slice A5 (mayL (l.take j)).length c5 ∧ Aside0 (Kd.S (kfix w') 42 wr w'.heap.size (fun _ => True) (.slice A5 (mayL (l.take j)).length c5) (mayL (l.take j))) ∧ Aside0 (j ≤ l.length ∧ l.length - j ≤ n) ∧ Aside0 (Below w'.heap.size w' wr))
  case atStart => exact ⟨0, none, 0, rfl, rfl, ⟨Kd.S_nil _ _ _ _ _⟩, ⟨Nat.zero_le _, Nat.le_refl _⟩, ⟨Below.refl _ _⟩⟩
  case round =>
    obtain ⟨j, A5, c5, rfl, rfl, HM, HI, HB⟩ := hrel
    have hj0 := HI.out.1
    by_cases hlt : j < l.length
    · have cb : decide ((j : Int) < (l.length : Int)) = true := decide_eq_true (by omega)
      have cb2 : decide (j < l.length) = true := decide_eq_true hlt
      obtain ⟨ad, A9, c9, ead, hSI0, hc9, hR90⟩ := at_step HR.out j hlt
      obtain ⟨x, hx⟩ : ∃ x, x = l[j] := ⟨_, rfl⟩
      rw [← hx] at hSI0 hc9 hR90
      subst ead
      have HKM := Aside0.mk (k42_mk w' x hc9 hR90)
      have HX := Aside0.mk (show x ∈ l by rw [hx]; exact List.getElem_mem hlt)
      have HT := Aside0.mk (show l.take (j + 1) = l.take j ++ [x] by rw [hx]; exact (List.take_append_getElem hlt).symm)
      have HSI := Aside0.mk (hSI0.below HB.out)
      have HC9 := Aside0.mk hc9
      have HR9 := Aside0.mk (Kd.C_below hR90 HB.out)
      have HBA := Aside0.mk (below_alloc (Below.refl wr.heap.size wr) (.cells #[.int .i64 x.f0, .int .i64 x.f1, .int .i64 x.f2, .int .i64 x.f3, .int .i64 x.f4, .int .i64 x.f5, .string x.f6, .int .i64 x.f7, .string x.f8, .slice A9 x.f9.length c9] 42))
      have HBN := Aside0.mk (blk_new wr (.cells #[.int .i64 x.f0, .int .i64 x.f1, .int .i64 x.f2, .int .i64 x.f3, .int .i64 x.f4, .int .i64 x.f5, .string x.f6, .int .i64 x.f7, .string x.f8, .slice A9 x.f9.length c9] 42))
      have hjb : (j : Int) ≤ 1000 := by have := HL.out; omega
      have hj1 : decide (0 ≤ (j : Int)) = true := decide_eq_true (by omega)
      have HML := Aside0.mk (show (mayL (l.take j)).length ≤ 40 by
        have h1 := mayL_len (l.take j); have h2 := HL.out; rw [List.length_take] at h1; omega)
      clear hx hSI0 hc9 hR90
      obtain ⟨ms, hms⟩ : ∃ z, z = mayL (l.take j) := ⟨_, rfl⟩
      rw [← hms] at HM HML ⊢
      have HMS := Aside0.mk hms
      clear hms
      go_wp2_with (first | ((with_reducible refine gate_dst (N := 36) rfl ?_); refine Kd.event_run rfl (load_in HSI.out _ _ (.tmp 35) rfl rfl) ?_))
      obtain ⟨⟨sx, ex⟩, hsx⟩ : ∃ q, q = lineS x := ⟨_, rfl⟩
      have HLN := Aside0.mk (line_f x (HOK.out x HX.out) 400000001 (by omega))
      rw [← hsx] at HLN
      have HSX := Aside0.mk hsx
      clear hsx
      refine (line_calls 400000001 x A9 c9 _ sx ex ((HG.out.below HB.out).below HBA.out) (Kd.C_below HR9.out HBA.out) HC9.out HLN.out).mono ?_
      rintro e w2 ⟨rfl, hb2⟩
      have HB2 := Aside0.mk (show Below w'.heap.size w' w2 from HB.out.trans ((HBA.out.trans (hb2.mono HBA.out.size)).mono HB.out.size))
      have HM2 := Aside0.mk (Kd.S_below (Kd.S_below HM.out HBA.out) hb2)
      have HC5 := Aside0.mk (show StepAt w2 wr.heap.size x (.slice A9 x.f9.length c9) from blk_below HBN.out hb2)
      clear hb2 HBA HBN HM
      rcases lineS_two x with h0 | h0
      · have e0 : ex = 0 := by have := HSX.out; rw [← this] at h0; exact h0
        subst e0
        have HT2 := Aside0.mk (show mayL (l.take (j + 1)) = ms ++ [x] by
          rw [HT.out, mayL_snoc, if_pos h0, ← HMS.out])
        have HAO := Aside0.mk (Kd.S_mono (ok' := fun k => True ∧ ¬ False) HM2.out (fun k _ => ⟨trivial, fun e => e⟩))
        have HAS := Aside0.mk (show w'.heap.size ≤ w2.heap.size from HB2.out.size)
        clear h0 HM2
        go_wp2_with (first | ((with_reducible refine gate_dst (N := 45) rfl ?_); refine Kd.event_run rfl (load_step' HC5.out _ _ (.tmp 7) rfl rfl) ?_) | ((with_reducible refine gate_builtin (b := .append) (xs := #[.tmp 44, .tmp 46]) rfl ?_); at_builtin; refine Kd.S_append (kfix w') (w0 := w') w'.heap.size rfl (.tmp 44) (.tmp 46) 44 42 (.agg #[(.int .i64 0), (.int .i64 0), (.int .i64 0), (.int .i64 0), (.int .i64 0), (.int .i64 0), (.string ⟨#[]⟩), (.int .i64 0), (.string ⟨#[]⟩), (.slice none 0 0)]) 112 rfl Tryd.underlying44 info42b rfl (show 0 < 10 by omega) (by omega) (.slice A5 ms.length c5) ms x [.int .i64 x.f0, .int .i64 x.f1, .int .i64 x.f2, .int .i64 x.f3, .int .i64 x.f4, .int .i64 x.f5, .string x.f6, .int .i64 x.f7, .string x.f8, .slice A9 x.f9.length c9] (fun _ => True) (fun _ => False) rfl rfl HKM.out (fun _ h => h.elim) (fun _ _ => trivial) HAO.out HB2.out HAS.out (by have := HML.out; omega) ?_; intro v2 w6 ho6 hb6 _ _; obtain ⟨Ao6, co6, eo6⟩ := Kd.R_slice (Kd.S_R ho6); subst eo6; have HO6 := Aside0.mk ho6; have HB6 := Aside0.mk hb6; clear ho6 hb6))
        go_roundg (gk - 1)
        case measure => have h1 := HI.out; have h2 := HL.out; omega
        case rel => exact ⟨j + 1, Ao6, co6, by go_num, by rw [HT2.out]; simp, ⟨by rw [HT2.out]; exact HO6.out⟩, ⟨by omega, by have h1 := HI.out; omega⟩, HB6⟩
      · have e0 : ex = 1 := by have := HSX.out; rw [← this] at h0; exact h0
        subst e0
        have HT2 := Aside0.mk (show mayL (l.take (j + 1)) = ms by
          rw [HT.out, mayL_snoc, if_neg (by rw [h0]; decide), List.append_nil]; exact HMS.out.symm)
        clear h0
        go_wp2_with fail
        go_roundg (gk - 1)
        case measure => have h1 := HI.out; have h2 := HL.out; omega
        case rel => exact ⟨j + 1, A5, c5, by go_num, by rw [HT2.out], ⟨by rw [HT2.out]; exact HM2.out⟩, ⟨by omega, by have h1 := HI.out; omega⟩, HB2⟩
    · have cb : decide ((j : Int) < (l.length : Int)) = false := decide_eq_false (by omega)
      have cb2 : decide (j < l.length) = false := decide_eq_false hlt
      have hE : l.take j = l := List.take_of_length_le (by omega)
      rw [hE] at HM ⊢
      clear hlt hj0 hE
      obtain ⟨ms, hms⟩ : ∃ z, z = mayL l := ⟨_, rfl⟩
      have HPW := Aside0.mk (parse_write l HL.out)
      have H9 := Aside0.mk (mayL_f9 l)
      rw [← hms] at HM HPW H9 ⊢
      have HRW := Aside0.mk (fix_reads HB.out HM.out)
      clear HM hms
      obtain ⟨⟨r, rb⟩, hrr⟩ : ∃ q, q = readS s := ⟨_, rfl⟩
      have HRD := Aside0.mk (read_f s (by have := HS.out; omega) 400000001 (by omega))
      rw [← hrr] at HRD
      have HRR := Aside0.mk hrr
      clear hrr
      go_wp2_with fail
      refine (write_calls A c l wr (HG.out.below HB.out) (Kd.C_below HR.out HB.out) HC.out (by have := HL.out; omega) HOK.out).mono ?_
      rintro e w2 ⟨rfl, hb2⟩
      have HB2 := Aside0.mk (HB.out.trans (hb2.mono HB.out.size))
      have HRW2 := Aside0.mk (Kd.C_below HRW.out.1 hb2)
      clear hb2
      rw [show (⟨(writeP l).toArray⟩ : ByteArray) = toB (writeP l) from rfl]
      go_wp2_with fail
      have hpc := parse_calls (toB (writeP l)) w2 (HG.out.below HB2.out) (write_small l HL.out)
      rw [HPW.out] at hpc
      refine hpc.mono ?_
      clear hpc
      rintro e w3 ⟨v1, rfl, hS1, hb3⟩
      obtain ⟨A1, c1, ev1⟩ := Kd.R_slice (Kd.S_R hS1)
      subst ev1
      have HV1 := Aside0.mk (rows_of_S hS1)
      have HB3 := Aside0.mk (HB2.out.trans (hb3.mono HB2.out.size))
      have HRW3 := Aside0.mk (Kd.C_below HRW2.out hb3)
      clear hS1 hb3 HRW2
      go_wp2_with fail
      refine (ssame_all ms ms w3 A1 c1 A5 c5 HV1.out.1 HV1.out.2 HRW3.out HRW.out.2 H9.out).mono ?_
      rintro e w4 ⟨rfl, hb4⟩
      have HB4 := Aside0.mk (HB3.out.trans (hb4.mono HB3.out.size))
      clear hb4
      rw [show decide (ms = ms) = true from decide_eq_true rfl]
      go_wp2_with fail
      refine (read_calls 400000001 s w4 r rb (HG.out.below HB4.out) (by have := HS.out; omega) HRD.out).mono ?_
      rintro e w5 ⟨v1, rfl, hR1, hb5⟩
      obtain ⟨A2, c2, rfl, hc2, hF2⟩ := Kd.R_V (base' := 0) hR1
      have HC2 := Aside0.mk (And.intro (Kd.F_now hF2) hc2)
      have HB5 := Aside0.mk (HB4.out.trans (hb5.mono HB4.out.size))
      clear hR1 hb5 hc2 hF2
      have HZ5 := Aside0.mk (show StepAt (w5.alloc (.cells (SC z42 (.slice none 0 0)) 42)) w5.heap.size z42 (.slice none 0 0) from blk_new w5 _)
      have HA5 := Aside0.mk (below_alloc (Below.refl w5.heap.size w5) (.cells (SC z42 (.slice none 0 0)) 42))
      cases rb with
      | false =>
        have HRZ := Aside0.mk (show r = z42 by
          have h := HRR.out
          have h1 := readS_zero s (by rw [← h])
          rw [← h] at h1
          exact h1)
        have h9 : r.f9.length ≤ 40000001 := by rw [HRZ.out]; show 0 ≤ _; omega
        go_wp2_with (first | ((with_reducible refine gate_store (t := 42) (p := 13) rfl ?_); refine store_event (t := 42) (p := 13) (v := .tmp 73) (w1 := putS (w5.alloc (.cells (SC z42 (.slice none 0 0)) 42)) w5.heap.size r (.slice A2 r.f9.length c2)) rfl rfl rfl (store_step HZ5.out r (.slice A2 r.f9.length c2) rfl _ _ (.tmp 13) (.tmp 73) rfl rfl rfl) ?_; intro w6 hw6; have HC6 := Aside0.mk (show StepAt w6 w5.heap.size r (.slice A2 r.f9.length c2) by rw [hw6]; exact putS_at HZ5.out _ _); have hb6 : Below w5.heap.size w5 w6 := (by rw [hw6]; exact putS_below HA5.out (Nat.le_refl _) _ _); have HB6 := Aside0.mk (HB5.out.trans (hb6.mono HB5.out.size)); have HC26 := Aside0.mk (And.intro (Kd.C_below HC2.out.1 hb6) HC2.out.2); clear hw6 hb6) | ((with_reducible refine gate_dst (N := 77) rfl ?_); refine Kd.event_run rfl (load_step' HC6.out _ _ (.tmp 13) rfl rfl) ?_))
        refine (ssame_calls r z42 A2 c2 none 0 w6 h9 HC26.out.1 HC26.out.2 (Kd.C_nil _ _) (Nat.le_refl _)).mono ?_
        rintro e w7 ⟨rfl, hb7⟩
        rw [show sameB r z42 = true from (sameB_iff _ _).2 HRZ.out]
        have HB7 := Aside0.mk (HB6.out.trans (hb7.mono HB6.out.size))
        clear hb7
        go_wp2_with fail
        refine (awake_calls w7 (HG.out.below HB7.out)).mono ?_
        rintro e w8 ⟨rfl, hb8⟩
        have HB8 := Aside0.mk (H0.out.trans ((HB7.out.trans (hb8.mono HB7.out.size)).mono H0.out.size))
        clear hb8
        go_wp2
        go_ret
        exact ⟨rfl, HB8.out⟩
      | true =>
        have h2 : (readS s).2 = true := by rw [← HRR.out]
        have h3 := readS_fine s h2
        have h4 := read_line s h2
        rw [← HRR.out] at h3 h4
        simp only at h3 h4
        have HLN := Aside0.mk (line_f r (ok_fine h3.2.1 h3.2.2) 400000001 (by omega))
        rw [h4] at HLN
        clear h2 h3 h4
        go_wp2_with (first | ((with_reducible refine gate_store (t := 42) (p := 13) rfl ?_); refine store_event (t := 42) (p := 13) (v := .tmp 73) (w1 := putS (w5.alloc (.cells (SC z42 (.slice none 0 0)) 42)) w5.heap.size r (.slice A2 r.f9.length c2)) rfl rfl rfl (store_step HZ5.out r (.slice A2 r.f9.length c2) rfl _ _ (.tmp 13) (.tmp 73) rfl rfl rfl) ?_; intro w6 hw6; have HC6 := Aside0.mk (show StepAt w6 w5.heap.size r (.slice A2 r.f9.length c2) by rw [hw6]; exact putS_at HZ5.out _ _); have hb6 : Below w5.heap.size w5 w6 := (by rw [hw6]; exact putS_below HA5.out (Nat.le_refl _) _ _); have HB6 := Aside0.mk (HB5.out.trans (hb6.mono HB5.out.size)); have HC26 := Aside0.mk (And.intro (Kd.C_below HC2.out.1 hb6) HC2.out.2); clear hw6 hb6) | ((with_reducible refine gate_dst (N := 84) rfl ?_); refine Kd.event_run rfl (load_step' HC6.out _ _ (.tmp 13) rfl rfl) ?_))
        refine (line_calls 400000001 r A2 c2 w6 s 0 (HG.out.below HB6.out) HC26.out.1 HC26.out.2 HLN.out).mono ?_
        rintro e w7 ⟨rfl, hb7⟩
        have HB7 := Aside0.mk (HB6.out.trans (hb7.mono HB6.out.size))
        clear hb7
        go_wp2_with fail
        refine (awake_calls w7 (HG.out.below HB7.out)).mono ?_
        rintro e w8 ⟨rfl, hb8⟩
        have HB8 := Aside0.mk (H0.out.trans ((HB7.out.trans (hb8.mono HB7.out.size)).mono H0.out.size))
        clear hb8
        go_wp2
        go_ret
        exact ⟨rfl, HB8.out⟩
set_option maxHeartbeats 16000000 in
set_option maxRecDepth 100000 in
theorem back_calls (A : Option Addr) (c : Nat) (l : List S42) (s : ByteArray) (w : World) (hG : GL w) (hr : Kd.C k42 w A l.length l) (hc : l.length ≤ c) (hl : l.length ≤ 1048576) (hok : ∀ x ∈ l, OkS x) :
    Calls Tryd.prog 9 #[.slice A l.length c, .string s] w fun e w' => e = .returned (.bool true) ∧ Below w.heap.size w w' := by
  by_cases c1 : 40 < l.length
  · have b1 : decide ((40 : Int) < (l.length : Int)) = true := decide_eq_true (by omega)
    have HG := Aside0.mk hG
    clear hG hr hc hl hok c1
    go_enter Tryd.func9, Tryd.ntmps9
    go_wp2_with fail
    refine (awake_calls w HG.out).mono ?_
    rintro e w2 ⟨rfl, hb⟩
    have HB := Aside0.mk hb
    clear hb
    go_wp2
    go_ret
    exact ⟨rfl, HB.out⟩
  · have b1 : decide ((40 : Int) < (l.length : Int)) = false := decide_eq_false (by omega)
    obtain ⟨bb, hbb⟩ := brief_f l (by omega) 40 400000001 (by omega)
    have hB : Calls Tryd.prog 24 #[.slice A l.length c, .int .i64 40] w fun e w' => e = .returned (.bool bb) ∧ Below w.heap.size w w' := scholiaplain_Brief.calls 400000001 A c l 40 bb w hr hc hbb
    by_cases c2 : bb = true ∧ s.size ≤ 4096
    · obtain ⟨rfl, c3⟩ := c2
      exact back_main A c l s w hG hr hc (by omega) hok c3 hB
    · have HB0 := Aside0.mk hB
      have HG := Aside0.mk hG
      cases bb with
      | false =>
        clear hG hr hc hl hok c1 hB hbb c2
        go_enter Tryd.func9, Tryd.ntmps9
        go_wp2_with fail
        refine HB0.out.mono ?_
        rintro e w1 ⟨rfl, hb⟩
        have HB1 := Aside0.mk hb
        clear hb
        go_wp2_with fail
        refine (awake_calls w1 (HG.out.below HB1.out)).mono ?_
        rintro e w2 ⟨rfl, hb⟩
        have HB := Aside0.mk (HB1.out.trans (hb.mono HB1.out.size))
        clear hb
        go_wp2
        go_ret
        exact ⟨rfl, HB.out⟩
      | true =>
        have b2 : decide ((4096 : Int) < (s.size : Int)) = true := decide_eq_true (by
          rcases Nat.lt_or_ge 4096 s.size with h | h
          · omega
          · exact absurd ⟨rfl, h⟩ c2)
        clear hG hr hc hl hok c1 hB hbb c2
        go_enter Tryd.func9, Tryd.ntmps9
        go_wp2_with fail
        refine HB0.out.mono ?_
        rintro e w1 ⟨rfl, hb⟩
        have HB1 := Aside0.mk hb
        clear hb
        go_wp2_with fail
        refine (awake_calls w1 (HG.out.below HB1.out)).mono ?_
        rintro e w2 ⟨rfl, hb⟩
        have HB := Aside0.mk (HB1.out.trans (hb.mono HB1.out.size))
        clear hb
        go_wp2
        go_ret
        exact ⟨rfl, HB.out⟩
end Go.Proofs.YtcgkmomhjincgaaDoor.LibQ.Scr
