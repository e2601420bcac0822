/- The lines of script and their laws, part Qb: contracts by hand. -/
import Derived.Test.YtcgkmomhjincgaaDoorBLibQ0
import Derived.Test.YtcgkmomhjincgaaDoorBQa
import Derived.Test.YtcgkmomhjincgaaDoorBLibQ3
namespace Go.Proofs.YtcgkmomhjincgaaDoor.LibQ.Scr
open Go.RowKit Go.Proofs.YtcgkmomhjincgaaDoor.LibQ Go.Proofs.YtcgkmomhjincgaaDoorW.PrintWords Go.Proofs.YtcgkmomhjincgaaDoorW.PrintLast Go.Proofs.YtcgkmomhjincgaaDoorW.PrintMore
set_option linter.unusedVariables false
set_option linter.unusedSimpArgs false
attribute [local go_sem] max2_int min2_int max_two min_two max_three min_three max_four min_four
def nibV (c : Int) : Int := if 48 ≤ c ∧ c ≤ 57 then c - 48 else if 97 ≤ c ∧ c ≤ 102 then c - 87 else -1
theorem nibV_lt (c : Int) : -1 ≤ nibV c ∧ nibV c < 16 := by unfold nibV; split <;> (try split) <;> omega
theorem nib_tab : ∀ n : Fin 256, script_nibble.f 2 (n.val : Int) = some (nibV (n.val : Int)) := by decide +kernel
theorem nib_f (c : Int) (h0 : 0 ≤ c) (h1 : c ≤ 255) (k : Nat) (hk : 2 ≤ k) : script_nibble.f k c = some (nibV c) := by
  obtain ⟨n, rfl⟩ := Int.eq_ofNat_of_zero_le h0
  exact at_rounds (script_nibble.mono _) hk (nib_tab ⟨n, by omega⟩)
theorem suf_at (s : ByteArray) (i : Nat) (c : Int) (t : List Int) (h : (bytesOf s).drop i = c :: t) : i < s.size ∧ bt s (i : Int) = c ∧ (bytesOf s).drop (i + 1) = t ∧ 0 ≤ c ∧ c ≤ 255 := by
  have hi : i < s.size := by
    rcases Nat.lt_or_ge i s.size with h1 | h1
    · exact h1
    · rw [List.drop_eq_nil_of_le (by rw [bytesOf_length]; exact h1)] at h; cases h
  rw [plain_step s i hi, rd_bytesOf] at h
  obtain ⟨h1, h2⟩ := List.cons.inj h
  have := bt_range s (i : Int)
  exact ⟨hi, h1, h2, by omega, by omega⟩
theorem suf_len (s : ByteArray) (i : Nat) (L : List Int) (h : (bytesOf s).drop i = L) (hi : i ≤ s.size) : L.length + i = s.size := by
  rw [← h, List.length_drop, bytesOf_length]; omega
theorem wr_id (x : Int) (h0 : -9223372036854775808 ≤ x) (h1 : x ≤ 9223372036854775807) : wrap64 x = x := by unfold wrap64; omega
def quoteB (s : ByteArray) : ByteArray := if s.size = 0 then ⟨#[37]⟩ else strOfNums (quoteL (bytesOf s))
def unqL : List Int → Option (List Int)
  | [] => some []
  | c :: t => if c = 37 then (match t with
      | a :: b :: r => if nibV a < 0 ∨ nibV b < 0 then none else (unqL r).map ((nibV a * 16 + nibV b) :: ·)
      | _ => none)
    else (unqL t).map (c :: ·)
def finU (q : ByteArray) (l : List Int) : ByteArray × Bool := if l = [] then (⟨#[]⟩, false) else if quoteB (strOfNums l) = q then (strOfNums l, true) else (⟨#[]⟩, false)
def unqR (q : ByteArray) (xs L : List Int) : ByteArray × Bool := match unqL L with | none => (⟨#[]⟩, false) | some l => finU q (xs ++ l)
theorem strOf_size (l : List Int) : (strOfNums l).size = l.length := by simp [strOfNums, ByteArray.size]
theorem toList_inj {a b : ByteArray} : a.toList = b.toList ↔ a = b := by
  constructor
  · intro h
    rw [ByteArray.toList_eq, ByteArray.toList_eq] at h
    exact ByteArray.ext (Array.toList_inj.1 h)
  · rintro rfl; rfl
theorem strOf_nil (l : List Int) : (strOfNums l).toList = [] ↔ l = [] := by
  rw [show ([] : List UInt8) = (⟨#[]⟩ : ByteArray).toList by rw [ByteArray.toList_eq], toList_inj]
  constructor
  · intro h
    have := strOf_size l
    rw [h] at this
    exact List.eq_nil_of_length_eq_zero this.symm
  · rintro rfl; rfl
theorem quote_f (s : ByteArray) (h : s.size ≤ 40000000) : script_Quote.f s = some (quoteB s) := by unfold script_Quote.f quoteB; rw [if_pos h]
theorem fin_core (q : ByteArray) (l : List Int) (c : ¬ l = []) : (if (quoteB (strOfNums l)).toList = q.toList then (some (strOfNums l, true)) else (some ((⟨#[]⟩ : ByteArray), false))) = some (finU q l) := by
  unfold finU
  rw [if_neg c]
  by_cases d : quoteB (strOfNums l) = q
  · rw [if_pos (toList_inj.2 d), if_pos d]
  · rw [if_neg (fun h => d (toList_inj.1 h)), if_neg d]
theorem fin_eq (q : ByteArray) (l : List Int) (hl : l.length ≤ 40000000) :
    (if (strOfNums l).toList = ([] : List UInt8) then (some ((⟨#[]⟩ : ByteArray), false)) else ((script_Quote.f (strOfNums l)).bind fun t => (if t.toList = q.toList then (some (strOfNums l, true)) else (some ((⟨#[]⟩ : ByteArray), false))))) = some (finU q l) := by
  rw [quote_f _ (by rw [strOf_size]; exact hl), Option.bind_some]
  by_cases c : l = []
  · rw [if_pos ((strOf_nil l).2 c)]; unfold finU; rw [if_pos c]
  · rw [if_neg (fun h => c ((strOf_nil l).1 h))]
    exact fin_core q l c
theorem unqL_ne (c : Int) (t : List Int) (h : ¬ c = 37) : unqL (c :: t) = (unqL t).map (c :: ·) := by rw [unqL.eq_def]; simp [h]
theorem byte_eq (x y : Int) (h : ¬ x < 0) (h2 : ¬ y < 0) (h3 : x < 16) (h4 : y < 16) : (wrap64 ((wrap64 (x * 16)) + y)) % 256 = x * 16 + y := by
  rw [wr_id (x * 16) (by omega) (by omega), wr_id _ (by omega) (by omega)]; omega
theorem unq_l0 (q : ByteArray) (hq : q.size ≤ 40000000) : ∀ (n : Nat) (L xs : List Int) (i k : Nat), L.length ≤ n → n + 30 < k → (bytesOf q).drop i = L → i ≤ q.size → xs.length ≤ i → script_Unquote.l0 k q xs (i : Int) = some (unqR q xs L) := by
  intro n
  induction n with
  | zero =>
    intro L xs i k hL hk hd hi hx
    obtain rfl := List.eq_nil_of_length_eq_zero (Nat.le_zero.1 hL)
    have hs := suf_len q i _ hd hi
    obtain ⟨k, rfl⟩ : ∃ m, k = m + 1 := ⟨k - 1, by omega⟩
    rw [script_Unquote.l0, if_neg (by simp at hs; omega), fin_eq q xs (by omega)]
    simp [unqR, unqL]
  | succ n ih =>
    intro L xs i k hL hk hd hi hx
    obtain ⟨k, rfl⟩ : ∃ m, k = m + 1 := ⟨k - 1, by omega⟩
    have hs := suf_len q i _ hd hi
    match L, hL, hd, hs with
    | [], hL, hd, hs =>
      rw [script_Unquote.l0, if_neg (by simp at hs; omega), fin_eq q xs (by omega)]
      simp [unqR, unqL]
    | c :: t, hL, hd, hs =>
      obtain ⟨h1, h2, h3, h4, h5⟩ := suf_at q i c t hd
      simp only [List.length_cons] at hL hs
      rw [script_Unquote.l0, if_pos (by omega), if_pos (by omega), h2]
      by_cases c37 : c = 37
      · subst c37
        rw [if_pos rfl, wr_id ((i : Int) + 2) (by omega) (by omega), wr_id ((i : Int) + 1) (by omega) (by omega)]
        match t, h3, hL, hs with
        | [], h3, hL, hs => simp only [List.length_nil] at hs; rw [if_pos (by omega)]; simp [unqR, unqL]
        | [a], h3, hL, hs => simp only [List.length_cons, List.length_nil] at hs; rw [if_pos (by omega)]; simp [unqR, unqL]
        | a :: b :: r, h3, hL, hs =>
          simp only [List.length_cons] at hs hL
          obtain ⟨a1, a2, a3, a4, a5⟩ := suf_at q (i + 1) a _ h3
          obtain ⟨b1, b2, b3, b4, b5⟩ := suf_at q (i + 1 + 1) b _ a3
          have ea : ((i + 1 : Nat) : Int) = (i : Int) + 1 := by omega
          have eb : ((i + 1 + 1 : Nat) : Int) = (i : Int) + 2 := by omega
          rw [ea] at a2
          rw [eb] at b2
          rw [if_neg (by omega), if_pos (by omega), if_pos (by omega), a2, nib_f a a4 a5 k (by omega), Option.bind_some, if_pos (by omega), if_pos (by omega), b2, nib_f b b4 b5 k (by omega), Option.bind_some]
          by_cases ca : nibV a < 0
          · rw [if_pos ca]; simp [unqR, unqL, ca]
          · rw [if_neg ca]
            by_cases cb : nibV b < 0
            · rw [if_pos cb]; simp [unqR, unqL, cb]
            · rw [if_neg cb, if_pos (by omega), byte_eq _ _ ca cb (nibV_lt a).2 (nibV_lt b).2, wr_id ((i : Int) + 2 + 1) (by omega) (by omega)]
              have e3 : (i : Int) + 2 + 1 = ((i + 1 + 1 + 1 : Nat) : Int) := by omega
              rw [e3, ih r _ (i + 1 + 1 + 1) k (by omega) (by omega) b3 (by omega) (by simp; omega)]
              simp only [unqR, unqL, if_true]
              rw [if_neg (by omega)]
              cases unqL r <;> simp
      · rw [if_neg c37, if_pos (by omega), wr_id ((i : Int) + 1) (by omega) (by omega)]
        have e1 : (i : Int) + 1 = ((i + 1 : Nat) : Int) := by omega
        rw [e1, ih t _ (i + 1) k (by omega) (by omega) h3 (by omega) (by simp; omega)]
        simp only [unqR]
        rw [unqL_ne c t c37]
        cases unqL t <;> simp
def unqF (q : ByteArray) : ByteArray × Bool := if q.toList = [37] then (⟨#[]⟩, true) else unqR q [] (bytesOf q)
theorem unq_f (q : ByteArray) (hq : q.size ≤ 40000000) (k : Nat) (hk : q.size + 30 < k) : script_Unquote.f k q = some (unqF q) := by
  unfold script_Unquote.f unqF
  split
  · rfl
  · exact unq_l0 q hq q.size _ [] 0 k (by rw [bytesOf_length]; exact Nat.le_refl _) hk rfl (Nat.zero_le _) (Nat.le_refl _)
theorem hexD_tab : ∀ n : Fin 16, nibV (hexD (n.val : Int)) = (n.val : Int) ∧ 0 ≤ hexD (n.val : Int) ∧ hexD (n.val : Int) ≤ 255 := by decide +kernel
theorem hexD_nib (x : Int) (h0 : 0 ≤ x) (h1 : x < 16) : nibV (hexD x) = x ∧ 0 ≤ hexD x ∧ hexD x ≤ 255 := by
  obtain ⟨n, rfl⟩ := Int.eq_ofNat_of_zero_le h0
  exact hexD_tab ⟨n, by omega⟩
theorem quoteL_range : ∀ l : List Int, (∀ c ∈ l, 0 ≤ c ∧ c ≤ 255) → ∀ c ∈ quoteL l, 0 ≤ c ∧ c ≤ 255
  | [], _ => by simp [quoteL]
  | c :: t, h => by
    have ih := quoteL_range t (fun d hd => h d (List.mem_cons_of_mem _ hd))
    obtain ⟨c0, c1⟩ := h c (List.mem_cons_self ..)
    have e : quoteL (c :: t) = quote1 c ++ quoteL t := by simp [quoteL]
    rw [e]
    intro d hd
    rcases List.mem_append.1 hd with hd | hd
    · unfold quote1 at hd
      split at hd
      · simp only [List.mem_singleton] at hd; omega
      · obtain ⟨_, x1, x2⟩ := hexD_nib (c / 16) (by omega) (by omega)
        obtain ⟨_, y1, y2⟩ := hexD_nib (c % 16) (by omega) (by omega)
        simp only [List.mem_cons, List.not_mem_nil, or_false] at hd
        rcases hd with rfl | rfl | rfl <;> omega
    · exact ih d hd
theorem bytesOf_range (s : ByteArray) : ∀ c ∈ bytesOf s, 0 ≤ c ∧ c ≤ 255 := by
  intro c hc
  obtain ⟨i, hi, rfl⟩ := List.mem_iff_getElem.1 hc
  have hi2 : i < s.size := by rw [bytesOf_length] at hi; exact hi
  have h := plain_step s i hi2
  rw [List.drop_eq_getElem_cons hi] at h
  rw [(List.cons.inj h).1, rd_bytesOf]
  exact bt_range s _
theorem strOf_bytes (s : ByteArray) : strOfNums (bytesOf s) = s := by
  apply ByteArray.ext
  apply Array.toList_inj.1
  show ((s.data.toList.map fun b => (b.toNat : Int)).map fun n => UInt8.ofNat n.toNat) = s.data.toList
  rw [List.map_map]
  exact (List.map_congr_left (fun b _ => by simp)).trans (List.map_id _)
theorem bytes_strOf (l : List Int) (h : ∀ c ∈ l, 0 ≤ c ∧ c ≤ 255) : bytesOf (strOfNums l) = l := by
  show ((l.map fun n => UInt8.ofNat n.toNat).map fun b => (b.toNat : Int)) = l
  rw [List.map_map]
  refine (List.map_congr_left (g := id) (fun c hc => ?_)).trans (List.map_id _)
  have := h c hc
  show (((UInt8.ofNat c.toNat).toNat : Nat) : Int) = c
  rw [UInt8.toNat_ofNat']
  omega
def exX : S42 := ⟨1, 0, 0, 0, 0, 0, ⟨#[97]⟩, 1, ⟨#[114, 101, 100, 32, 102, 111, 120]⟩, []⟩
def exL : ByteArray := ⟨#[112, 117, 116, 32, 48, 32, 97, 32, 49, 32, 114, 101, 100, 37, 50, 48, 102, 111, 120]⟩
set_option maxRecDepth 100000 in
theorem ex_line : lineF 60 exX = some (exL, 0) := by kernel_rfl
set_option maxHeartbeats 8000000 in
set_option maxRecDepth 100000 in
theorem awake_calls (w : World) (hG : GL w) : Calls Tryd.prog 19 #[] w fun e w' => e = .returned (.bool true) ∧ Below w.heap.size w w' := by
  have HL : Aside0 (Calls Tryd.prog 25 #[.agg #[.int .i64 1, .int .i64 0, .int .i64 0, .int .i64 0, .int .i64 0, .int .i64 0, .string ⟨#[97]⟩, .int .i64 1, .string ⟨#[114, 101, 100, 32, 102, 111, 120]⟩, .slice none 0 0]] w fun e w' => e = .returned (.tuple #[.string ⟨#[112, 117, 116, 32, 48, 32, 97, 32, 49, 32, 114, 101, 100, 37, 50, 48, 102, 111, 120]⟩, .int .i64 0]) ∧ Below w.heap.size w w') := ⟨line_calls 60 exX none 0 w exL 0 hG (Kd.C_nil _ _) (Nat.le_refl _) ex_line⟩
  have hu := Tryd.underlying42
  clear hG
  go_enter Tryd.func19, Tryd.ntmps19
  go_wp2_with fail
  refine HL.out.mono ?_
  rintro e w1 ⟨rfl, hb⟩
  have HB := Aside0.mk hb
  clear hb
  go_wp2
  go_ret
  exact ⟨rfl, HB.out⟩
theorem quoteB_size (s : ByteArray) : (quoteB s).size ≤ 3 * s.size + 1 := by
  unfold quoteB
  split
  · show 1 ≤ _; omega
  · rw [strOf_size]
    have := quoteL_len (bytesOf s)
    rw [bytesOf_length] at this
    omega
end Go.Proofs.YtcgkmomhjincgaaDoor.LibQ.Scr
