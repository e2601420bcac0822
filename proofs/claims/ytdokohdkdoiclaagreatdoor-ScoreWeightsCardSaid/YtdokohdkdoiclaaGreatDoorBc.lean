/- What the functions answer. -/
import Derived.Test.YtdokohdkdoiclaaGreatDoorBsa
namespace Go.Proofs.YtdokohdkdoiclaaGreatDoor.Eng
set_option linter.unusedVariables false
set_option linter.unusedSimpArgs false
section
variable {H : Hp} {N : Nat}
def by8 (b : Nat) : List AV := [.int .u8 (.ofNat b)]
/-- Bytes that stay as they are. -/
structure Bt (H : Hp) (v : AV) (l : List Nat) : Prop where
  sl : Sl H 1 v (l.map by8) true
  lt : ∀ b ∈ l, b < 256
theorem Bt.mono {H' : Hp} {v : AV} {l : List Nat} (h : Bt H v l) (m : Mo H H') : Bt H' v l := ⟨h.sl.mono m, h.lt⟩
theorem Bt.len {v : AV} {l : List Nat} (h : Bt H v l) : lenS v = some l.length := by rw [h.sl.len, List.length_map]
theorem Bt.elem {v : AV} {l : List Nat} (h : Bt H v l) {j : Nat} (hj : j < l.length) : ∃ b o, ixF 1 v (.ofNat j) = some (b, o) ∧ H.load b o 1 = some [.int .u8 (.ofNat l[j])] := by
  obtain ⟨b, o, h1, h2, _⟩ := h.sl.elem (j := j) (by simpa using hj)
  exact ⟨b, o, h1, by rw [h2]; simp [by8]⟩
def lenN (x : Nat) : Nat := if x = 0 then 0 else x.log2 + 1
theorem lenN_lt (x k : Nat) : lenN x ≤ k ↔ x < 2 ^ k := by
  unfold lenN
  split
  · rename_i h; subst h; simp; exact Nat.two_pow_pos k
  · rename_i h
    rw [← Nat.log2_lt h]; omega
theorem lenN_shift (x s : Nat) (h : 2 ^ s ≤ x) : lenN x = lenN (x / 2 ^ s) + s := by
  have h1 : ∀ k, lenN x ≤ k ↔ lenN (x / 2 ^ s) + s ≤ k := fun k => by
    rw [lenN_lt]
    by_cases hk : s ≤ k
    · rw [show (lenN (x / 2 ^ s) + s ≤ k) ↔ (lenN (x / 2 ^ s) ≤ k - s) by omega, lenN_lt, Nat.div_lt_iff_lt_mul (Nat.two_pow_pos s), ← Nat.pow_add, show k - s + s = k by omega]
    · constructor
      · intro q
        have : 2 ^ k ≤ 2 ^ s := Nat.pow_le_pow_right (by decide) (by omega)
        omega
      · omega
  have := (h1 (lenN x)).1 (Nat.le_refl _)
  have := (h1 (lenN (x / 2 ^ s) + s)).2 (Nat.le_refl _)
  omega
def tab8 : List Nat := [0, 1, 2, 2, 3, 3, 3, 3, 4, 4, 4, 4, 4, 4, 4, 4, 5, 5, 5, 5, 5, 5, 5, 5, 5, 5, 5, 5, 5, 5, 5, 5, 6, 6, 6, 6, 6, 6, 6, 6, 6, 6, 6, 6, 6, 6, 6, 6, 6, 6, 6, 6, 6, 6, 6, 6, 6, 6, 6, 6, 6, 6, 6, 6, 7, 7, 7, 7, 7, 7, 7, 7, 7, 7, 7, 7, 7, 7, 7, 7, 7, 7, 7, 7, 7, 7, 7, 7, 7, 7, 7, 7, 7, 7, 7, 7, 7, 7, 7, 7, 7, 7, 7, 7, 7, 7, 7, 7, 7, 7, 7, 7, 7, 7, 7, 7, 7, 7, 7, 7, 7, 7, 7, 7, 7, 7, 7, 7, 8, 8, 8, 8, 8, 8, 8, 8, 8, 8, 8, 8, 8, 8, 8, 8, 8, 8, 8, 8, 8, 8, 8, 8, 8, 8, 8, 8, 8, 8, 8, 8, 8, 8, 8, 8, 8, 8, 8, 8, 8, 8, 8, 8, 8, 8, 8, 8, 8, 8, 8, 8, 8, 8, 8, 8, 8, 8, 8, 8, 8, 8, 8, 8, 8, 8, 8, 8, 8, 8, 8, 8, 8, 8, 8, 8, 8, 8, 8, 8, 8, 8, 8, 8, 8, 8, 8, 8, 8, 8, 8, 8, 8, 8, 8, 8, 8, 8, 8, 8, 8, 8, 8, 8, 8, 8, 8, 8, 8, 8, 8, 8, 8, 8, 8, 8, 8, 8, 8, 8, 8, 8, 8, 8, 8, 8, 8, 8]
theorem tab8_at : ∀ x < 256, nthL tab8 x = some (lenN x) := by decide +kernel
theorem tab8_ix {x : Nat} (h : x < 256) : sixF tab8 (.ofNat x) = some (lenN x) := tab8_at x h
theorem shrF_nat (x s : Nat) : shrF (.ofNat x) s = .ofNat (x / 2 ^ s) := congrArg Int.ofNat (Nat.shiftRight_eq_div_pow x s)
theorem wrapN {k : IntKind} {x : Nat} (h : x < top k) : wrapF k (.ofNat x) = .ofNat x := by
  simp only [wrapF, bltT h]
theorem lenN_le (x : Nat) (k : Nat) (h : x < 2 ^ k) : lenN x ≤ k := (lenN_lt x k).2 h
theorem not_ltI {a b : Nat} : (!(ltI (.ofNat a) (.ofNat b))) = decide (b ≤ a) := by
  rw [ltI_eq, Bool.eq_iff_iff]; simp
theorem ltI_nat {a b : Nat} : ltI (.ofNat a) (.ofNat b) = decide (a < b) := by
  rw [ltI_eq, Bool.eq_iff_iff]; simp
theorem len64_ok {x : Nat} (hx : x < 18446744073709551616) {Q : AV → Hp → Prop} (h : Q (.int .i64 (.ofNat (lenN x))) H) : Cal env 106 [.int .u64 (.ofNat x)] H Q := by
  refine s106 ?_
  unfold S106
  refine ⟨fun n m H1 => H1 = H ∧ ∃ a b : Nat, n = .ofNat a ∧ m = .ofNat b ∧ lenN x = lenN a + b ∧ a < 4294967296 ∧ b ≤ 32, IfB.intro (fun h1 => ?_) (fun h1 => ?_), ?_⟩
  · rw [show (4294967296 : Int) = .ofNat 4294967296 from rfl, not_ltI, decide_eq_true_eq] at h1
    exact ⟨rfl, x / 2 ^ 32, 32, shrF_nat _ _, rfl, lenN_shift x 32 h1, by omega, Nat.le_refl _⟩
  · rw [show (4294967296 : Int) = .ofNat 4294967296 from rfl, not_ltI, decide_eq_false_iff_not] at h1
    exact ⟨rfl, x, 0, rfl, rfl, rfl, by omega, by omega⟩
  rintro H1 J1 _ _ ⟨rfl, a, b, rfl, rfl, e1, l1, l2⟩
  refine ⟨fun n m H1' => H1' = H1 ∧ ∃ a b : Nat, n = .ofNat a ∧ m = .ofNat b ∧ lenN x = lenN a + b ∧ a < 65536 ∧ b ≤ 48, IfB.intro (fun h1 => ?_) (fun h1 => ?_), ?_⟩
  · rw [show (65536 : Int) = .ofNat 65536 from rfl, not_ltI, decide_eq_true_eq] at h1
    have := lenN_shift a 16 h1
    exact ⟨rfl, a / 2 ^ 16, b + 16, shrF_nat _ _, wrapN (x := b + 16) (by simp only [top]; omega), by omega, by omega, by omega⟩
  · rw [show (65536 : Int) = .ofNat 65536 from rfl, not_ltI, decide_eq_false_iff_not] at h1
    exact ⟨rfl, a, b, rfl, rfl, e1, by omega, by omega⟩
  rintro H2 J2 _ _ ⟨rfl, a, b, rfl, rfl, e1, l1, l2⟩
  refine ⟨fun n m H1' => H1' = H2 ∧ ∃ a b : Nat, n = .ofNat a ∧ m = .ofNat b ∧ lenN x = lenN a + b ∧ a < 256 ∧ b ≤ 56, IfB.intro (fun h1 => ?_) (fun h1 => ?_), ?_⟩
  · rw [show (256 : Int) = .ofNat 256 from rfl, not_ltI, decide_eq_true_eq] at h1
    have := lenN_shift a 8 h1
    exact ⟨rfl, a / 2 ^ 8, b + 8, shrF_nat _ _, wrapN (x := b + 8) (by simp only [top]; omega), by omega, by omega, by omega⟩
  · rw [show (256 : Int) = .ofNat 256 from rfl, not_ltI, decide_eq_false_iff_not] at h1
    exact ⟨rfl, a, b, rfl, rfl, e1, by omega, by omega⟩
  rintro H3 J3 _ _ ⟨rfl, a, b, rfl, rfl, e1, l1, l2⟩
  have h8 := lenN_le a 8 l1
  refine ⟨lenN a, ?_, ?_⟩
  · rw [wrapN (by simp only [top]; omega)]; exact tab8_ix l1
  · rw [wrapN (x := lenN a) (by simp only [top]; omega), show (Int.ofNat b + Int.ofNat (lenN a)) = Int.ofNat (lenN x) by rw [e1]; simp; omega, wrapN (by simp only [top]; omega)]
    exact h
end
/-! ### contracts: weights, how hits stand -/
section
variable {H : Hp} {N : Nat}
def wgtN (n d : Int) : Int := if d < 1 ∨ n < d then 0 else .ofNat (lenN (n.toNat / d.toNat))
theorem tdivN (x y : Nat) : Int.tdiv (.ofNat x) (.ofNat y) = .ofNat (x / y) := rfl
theorem natOf {n : Int} (h : 0 ≤ n) : ∃ x : Nat, n = .ofNat x := Int.eq_ofNat_of_zero_le h
theorem weight_ok {n d : Int} (hn : n < 9223372036854775808) {Q : AV → Hp → Prop} (h : Q (.int .i64 (wgtN n d)) H) : Cal env 21 [.int .i64 n, .int .i64 d] H Q := by
  refine s21 ?_
  unfold S21
  refine ⟨fun c H1 => c = decide (d < 1 ∨ n < d) ∧ H = H1, IfB.intro (fun q => ⟨?_, rfl⟩) (fun q => ⟨?_, rfl⟩), ?_⟩
  · rw [ltI_eq] at q ⊢
    have q : ¬ d < 1 := by simpa using q
    rw [Bool.eq_iff_iff]
    simp [q]
  · rw [ltI_eq] at q
    have q : d < 1 := by simpa using q
    simp [q]
  rintro _ J _ ⟨rfl, rfl⟩
  unfold wgtN at h
  refine IfB.intro (fun q => ?_) (fun q => ?_)
  · rw [if_pos (of_decide_eq_true q)] at h
    exact h
  · have q := of_decide_eq_false q
    rw [if_neg q] at h
    obtain ⟨x, rfl⟩ := natOf (n := n) (by omega)
    obtain ⟨y, rfl⟩ := natOf (n := d) (by omega)
    simp only [Int.ofNat_eq_natCast, not_or] at q
    have hx : x < 9223372036854775808 := by simp only [Int.ofNat_eq_natCast] at hn; omega
    have hd : x / y ≤ x := Nat.div_le_self _ _
    refine Chk.intro (by rw [eqI_eq]; simp; omega) ?_
    rw [tdivN, wrapN (k := .i64) (show x / y < top .i64 by simp only [top]; omega), wrapN (k := .u64) (show x / y < top .u64 by simp only [top]; omega)]
    refine s57 ?_
    unfold S57
    exact len64_ok (by omega) ⟨_, rfl, _, rfl, h⟩
theorem lenN_half {z : Nat} (h : 0 < z) : lenN z = lenN (z / 2) + 1 := by
  by_cases h1 : z = 1
  · subst h1; decide
  · have := lenN_shift z 1 (by omega)
    simpa using this
theorem rweight_ok {n d : Int} (hn : n < 9223372036854775808) {Q : AV → Hp → Prop} (h : Q (.int .i64 (wgtN n d)) H) : Cal env 22 [.int .i64 n, .int .i64 d] H Q := by
  refine s22 ?_
  unfold S22
  refine ⟨fun c H1 => c = decide (d < 1 ∨ n < d) ∧ H = H1, IfB.intro (fun q => ⟨?_, rfl⟩) (fun q => ⟨?_, rfl⟩), ?_⟩
  · rw [ltI_eq] at q ⊢
    have q : ¬ d < 1 := by simpa using q
    rw [Bool.eq_iff_iff]
    simp [q]
  · rw [ltI_eq] at q
    have q : d < 1 := by simpa using q
    simp [q]
  rintro _ J _ ⟨rfl, rfl⟩
  unfold wgtN at h
  refine IfB.intro (fun q => ?_) (fun q => ?_)
  · rw [if_pos (of_decide_eq_true q)] at h
    exact h
  · have q := of_decide_eq_false q
    rw [if_neg q] at h
    obtain ⟨x, rfl⟩ := natOf (n := n) (by omega)
    obtain ⟨y, rfl⟩ := natOf (n := d) (by omega)
    simp only [Int.ofNat_eq_natCast, not_or] at q
    have hx : x < 9223372036854775808 := by simp only [Int.ofNat_eq_natCast] at hn; omega
    have hd : x / y ≤ x := Nat.div_le_self _ _
    refine Chk.intro (by rw [eqI_eq]; simp; omega) ?_
    rw [tdivN, wrapN (k := .i64) (show x / y < top .i64 by simp only [top]; omega)]
    simp only [Int.ofNat_eq_natCast, Int.toNat_natCast] at h
    generalize hz : x / y = z0 at h hd ⊢
    refine ⟨fun m w z i H5 => H = H5 ∧ ∃ (wn zn jn : Nat), w = .ofNat wn ∧ z = .ofNat zn ∧ i = .ofNat jn ∧ jn ≤ 64 ∧ m = 64 - jn ∧ lenN z0 = wn + lenN zn ∧ wn ≤ jn ∧ zn < 2 ^ (64 - jn), ⟨64, rfl, 0, z0, 0, rfl, rfl, rfl, by omega, rfl, by omega, by omega, by show z0 < 2 ^ 64; omega⟩, ?_⟩
    rintro m _ J2 _ _ _ ⟨rfl, wn, zn, jn, rfl, rfl, rfl, hj, rfl, hl, hw, hzn⟩
    refine IfB.intro (fun q1 => ?_) (fun q1 => ?_)
    · rw [ltI_eq] at q1
      have q1 : (Int.ofNat jn) < 64 := of_decide_eq_true q1
      have q1 : jn < 64 := by simp only [Int.ofNat_eq_natCast] at q1; omega
      have hz64 : zn < 18446744073709551616 := Nat.lt_of_lt_of_le hzn (by rw [show (18446744073709551616 : Nat) = 2 ^ 64 from rfl]; exact Nat.pow_le_pow_right (by decide) (by omega))
      have hp : 2 ^ (64 - jn) = 2 * 2 ^ (64 - (jn + 1)) := by rw [show 64 - jn = (64 - (jn + 1)) + 1 by omega, Nat.pow_succ, Nat.mul_comm]
      have e1 : wrapF .i64 ((Int.ofNat jn) + 1) = .ofNat (jn + 1) := wrapN (k := .i64) (x := jn + 1) (show jn + 1 < top .i64 by simp only [top]; omega)
      have e2 : wrapF .i64 (Int.tdiv (Int.ofNat zn) 2) = .ofNat (zn / 2) := wrapN (k := .i64) (x := zn / 2) (show zn / 2 < top .i64 by simp only [top]; omega)
      have e3 : wrapF .i64 ((Int.ofNat wn) + 1) = .ofNat (wn + 1) := wrapN (k := .i64) (x := wn + 1) (show wn + 1 < top .i64 by simp only [top]; omega)
      rw [e1, e2, e3]
      refine IfB.intro (fun q2 => ?_) (fun q2 => ?_)
      · rw [ltI_eq] at q2
        have q2 : (0 : Int) < .ofNat zn := of_decide_eq_true q2
        have q2 : 0 < zn := by simp only [Int.ofNat_eq_natCast] at q2; omega
        have := lenN_half q2
        exact ⟨64 - (jn + 1), by omega, rfl, wn + 1, zn / 2, jn + 1, rfl, rfl, rfl, by omega, rfl, by omega, by omega, by omega⟩
      · rw [ltI_eq] at q2
        have q2 : ¬ (0 : Int) < .ofNat zn := of_decide_eq_false q2
        have q2 : zn = 0 := by simp only [Int.ofNat_eq_natCast] at q2; omega
        subst q2
        exact ⟨64 - (jn + 1), by omega, rfl, wn, 0, jn + 1, rfl, rfl, rfl, by omega, rfl, hl, by omega, Nat.two_pow_pos _⟩
    · rw [ltI_eq] at q1
      have q1 : ¬ (Int.ofNat jn) < 64 := of_decide_eq_false q1
      have q1 : jn = 64 := by simp only [Int.ofNat_eq_natCast] at q1; omega
      subst q1
      have : zn = 0 := by simpa using hzn
      subst this
      rw [hl] at h
      exact h
/-! how two numbers, two texts stand -/
def cmpI (a b : Int) : Int := if a < b then -1 else if b < a then 1 else 0
theorem cmpI_ok {a b : Int} {Q : AV → Hp → Prop} (h : Q (.int .i64 (cmpI a b)) H) : Cal env 59 [.int .i64 a, .int .i64 b] H Q := by
  have nn : ∀ {x : Int} {Q : AV → Hp → Prop}, Q (.bool false) H → Cal env 107 [.int .i64 x] H Q := fun {x Q} h => by
    refine s107 ?_
    unfold S107
    rw [eqI_eq]
    simpa using h
  refine s59 ?_
  unfold S59
  refine nn ⟨_, rfl, nn ⟨_, rfl, ?_⟩⟩
  unfold cmpI at h
  refine IfB.intro (fun q => by cases q) (fun _ => IfB.intro (fun q => by cases q) (fun _ => ?_))
  refine IfB.intro (fun q => ?_) (fun q => ?_)
  · rw [ltI_eq] at q
    rw [if_pos (of_decide_eq_true q)] at h
    exact h
  · rw [ltI_eq] at q
    rw [if_neg (of_decide_eq_false q)] at h
    refine IfB.intro (fun q => ?_) (fun q => ?_)
    · rw [ltI_eq] at q
      rw [if_pos (of_decide_eq_true q)] at h
      exact h
    · rw [ltI_eq] at q
      rw [if_neg (of_decide_eq_false q)] at h
      exact h
theorem cmpS_ok {a b : List Nat} {Q : AV → Hp → Prop} (h : Q (.int .i64 (cmpN a b)) H) : Cal env 60 [.str a, .str b] H Q := by
  refine s60 ?_
  unfold S60
  refine s108 ?_
  unfold S108
  exact cal_given (f := 154) rfl (fun A hA => ⟨A, rfl, hA⟩) (fun hO => ⟨hO, Mo.refl _⟩) ⟨_, rfl, _, rfl, h⟩
def orI : List Int → Int
  | [] => 0
  | x :: l => if x = 0 then orI l else x
theorem orI_drop {l : List Int} {j : Nat} (hj : j < l.length) : orI (l.drop j) = if l[j] = 0 then orI (l.drop (j + 1)) else l[j] := by
  rw [List.drop_eq_getElem_cons hj, orI]
theorem or_ok {v : AV} {l : List Int} {fz : Bool} (hs : Sl H 1 v (l.map fun x => [.int .i64 x]) fz) (hl : l.length < 9223372036854775807) {Q : AV → Hp → Prop} (h : Q (.int .i64 (orI l)) H) : Cal env 58 [v] H Q := by
  refine s58 ?_
  unfold S58
  refine ⟨l.length, by rw [hs.len, List.length_map], fun m n5 H5 => H = H5 ∧ ∃ j : Nat, n5 = .ofNat j ∧ j ≤ l.length ∧ m = l.length - j ∧ orI (l.drop j) = orI l, ⟨l.length, rfl, 0, rfl, by omega, by omega, rfl⟩, ?_⟩
  rintro m _ J _ ⟨rfl, j, rfl, hj, rfl, he⟩
  refine IfB.intro (fun q => ?_) (fun q => ?_)
  · rw [ltI_nat] at q
    have q : j < l.length := of_decide_eq_true q
    obtain ⟨b, o, h1, h2, _⟩ := hs.elem (j := j) (by simpa using q)
    rw [orI_drop q] at he
    refine ⟨b, o, h1, l[j], by rw [h2]; simp, IfB.intro (fun q2 => ?_) (fun q2 => ?_)⟩
    · rw [eqI_eq] at q2
      have q2 : l[j] ≠ 0 := by simpa using q2
      rw [if_neg q2] at he
      rw [he]
      exact h
    · rw [eqI_eq] at q2
      have q2 : l[j] = 0 := by simpa using q2
      rw [if_pos q2] at he
      exact ⟨l.length - (j + 1), by omega, rfl, j + 1, wrapN (k := .i64) (x := j + 1) (show j + 1 < top .i64 by simp only [top]; omega), q, rfl, he⟩
  · rw [ltI_nat] at q
    have q : j = l.length := by have := of_decide_eq_false q; omega
    subst q
    rw [List.drop_of_length_le (Nat.le_refl _)] at he
    rw [he.symm] at h
    exact h
/-- One hit stands ahead of another. -/
def ahead (s : List Nat) (n : Int) (t : List Nat) (m : Int) : Bool := decide (m < n) || (decide (n = m) && ltL s t)
theorem less_ok {s t : List Nat} {n m : Int} {Q : AV → Hp → Prop} (k : ∀ H', Stp noB H H' → Q (.bool (ahead s n t m)) H') : Cal env 23 [.agg [.str s, .int .i64 n], .agg [.str t, .int .i64 m]] H Q := by
  refine Cal.start fun hO => s23 ?_
  unfold S23
  refine New.stp hO fun H5 b5 s5 => New.stp s5.ok fun H7 b7 s7 => ?_
  have c5 := b5.step s5.ok s7 (fun q => q.elim)
  have hne : H5.nx ≠ H.nx := by have := s5.ok.lt b5; omega
  rw [letH_eq]
  have t8 : Stp noB H7 ⟨H7.m, H7.nx + 14⟩ := up_stp (Stp.refl s7.ok) _ (by omega)
  have d7 := b7.step s7.ok t8 (fun q => q.elim)
  have d5 := c5.step s7.ok t8 (fun q => q.elim)
  refine ⟨m, d7.ld 1 rfl rfl, n, d5.ld 1 rfl rfl, cmpI_ok ⟨_, rfl, s, d5.ld 0 rfl rfl, d5.ld 0 rfl rfl, t, d7.ld 0 rfl rfl, d7.ld 0 rfl rfl, cmpS_ok ⟨_, rfl, ?_⟩⟩⟩
  rw [letH_eq]
  have t9 : Stp noB H ⟨(Hp.mk H7.m (H7.nx + 14)).m.set (H7.nx + 10) (some ⟨[.int .i64 (cmpI m n), .int .i64 (cmpN s t)], 1, true⟩), H7.nx + 14⟩ :=
    mk_stp ((s5.trans s7).trans t8) _ _ _ _ (by have := s5.nx; have := s7.nx; omega) (by omega) (Nat.le_refl _) (s7.ok _ (by omega))
  refine or_ok (l := [cmpI m n, cmpN s t]) (fz := false) ⟨?_, .inr ⟨_, 0, 2, true, _, rfl, by simp, Tr.get_set_same _ _ _, ⟨[], rfl⟩, fun q => by cases q⟩⟩ (by simp) ⟨_, rfl, ?_⟩
  · intro x hx
    simp only [List.map_cons, List.map_nil, List.mem_cons, List.not_mem_nil, or_false] at hx
    rcases hx with rfl | rfl <;> exact ⟨rfl, rfl⟩
  · have := k _ t9
    have e : ltI (orI [cmpI m n, cmpN s t]) 0 = ahead s n t m := by
      rw [ltI_eq]
      unfold ahead cmpI orI orI orI cmpN
      by_cases h1 : m < n
      · rw [if_pos h1]; simp [h1]
      · rw [if_neg h1]
        by_cases h2 : n < m
        · rw [if_pos h2]
          simp [h1, show ¬ n = m by omega]
        · rw [if_neg h2]
          have : n = m := by omega
          subst this
          cases ltL s t with
          | true => simp
          | false => cases eqL s t <;> simp
    rw [e]
    exact this
theorem rless_ok {s t : List Nat} {n m : Int} {Q : AV → Hp → Prop} (k : ∀ H', Stp noB H H' → Q (.bool (ahead s n t m)) H') : Cal env 24 [.agg [.str s, .int .i64 n], .agg [.str t, .int .i64 m]] H Q := by
  refine Cal.start fun hO => s24 ?_
  unfold S24
  refine New.stp hO fun H5 b5 s5 => New.stp s5.ok fun H7 b7 s7 => ?_
  have c5 := b5.step s5.ok s7 (fun q => q.elim)
  have k := k H7 (s5.trans s7)
  refine ⟨n, c5.ld 1 rfl rfl, m, b7.ld 1 rfl rfl, fun c H1 => c = ahead s n t m ∧ H7 = H1, IfB.intro (fun q => ?_) (fun q => ?_), ?_⟩
  · rw [ltI_eq] at q
    have q : ¬ m < n := by simpa using q
    refine ⟨n, c5.ld 1 rfl rfl, m, b7.ld 1 rfl rfl, fun c H1 => c = ahead s n t m ∧ H7 = H1, IfB.intro (fun q2 => ?_) (fun q2 => ?_), fun _ _ _ h => h⟩
    · rw [eqI_eq] at q2
      have q2 : n = m := by simpa using q2
      exact ⟨s, c5.ld 0 rfl rfl, t, b7.ld 0 rfl rfl, by unfold ahead; simp [q, q2], rfl⟩
    · rw [eqI_eq] at q2
      have q2 : n ≠ m := by simpa using q2
      exact ⟨by unfold ahead; simp [q, q2], rfl⟩
  · rw [ltI_eq] at q
    have q : m < n := by simpa using q
    exact ⟨by unfold ahead; simp [q], rfl⟩
  rintro _ J _ ⟨rfl, rfl⟩
  exact k
theorem rfHit {s : List Nat} {n : Int} {P : Prop} (p : P) : rfW (.agg [.str s, .int .i64 n]) P := by
  have h : same (.agg [.str s, .int .i64 n]) (.agg [.str s, .int .i64 n]) = true := by
    simp [same, same.sameCs, eqL_eq, eqI_eq]
  show (match same (.agg [.str s, .int .i64 n]) (.agg [.str s, .int .i64 n]) with | true => P | false => False)
  rw [h]
  exact p
/-- The law answers true. -/
theorem law_ok {a b : Int} (ha : a < 9223372036854775808) {s t : List Nat} {n m : Int} (hL : LaidZ laidLit H) : Cal env 4 [.int .i64 a, .int .i64 b, .agg [.str s, .int .i64 n], .agg [.str t, .int .i64 m]] H fun v _ => v = .bool true := by
  refine Cal.start fun hO => s4 ?_
  unfold S4
  refine New.stp hO fun H5 b5 s5 => New.stp s5.ok fun H7 b7 s7 => ?_
  have c5 := b5.step s5.ok s7 (fun q => q.elim)
  rw [letH_eq]
  have t8 : Stp noB H7 ⟨H7.m, H7.nx + 20⟩ := up_stp (Stp.refl s7.ok) _ (by omega)
  have d7 := b7.step s7.ok t8 (fun q => q.elim)
  have d5 := c5.step s7.ok t8 (fun q => q.elim)
  have s8 := (s5.trans s7).trans t8
  generalize Hp.mk H7.m (H7.nx + 20) = H8 at d7 d5 s8
  refine weight_ok ha ⟨_, rfl, rweight_ok ha ⟨_, rfl, IfB.intro (fun _ => ?_) (fun q => ?_)⟩⟩
  · have l1 : Hp.load H8 H.nx 0 2 = some [.str s, .int .i64 n] := d5.load 0 2 rfl
    have l2 : Hp.load H8 H5.nx 0 2 = some [.str t, .int .i64 m] := d7.load 0 2 rfl
    refine ⟨s, n, l1, rfHit ⟨t, m, l2, rfHit (less_ok fun H9 s9 => ⟨_, rfl, ?_⟩)⟩⟩
    have e5 := d5.step s8.ok s9 (fun q => q.elim)
    have e7 := d7.step s8.ok s9 (fun q => q.elim)
    refine ⟨s, n, e5.load 0 2 rfl, rfHit ⟨l1, rfHit ⟨t, m, e7.load 0 2 rfl, rfHit ⟨l2, rfHit (rless_ok fun H10 s10 => ⟨_, rfl, IfB.intro (fun _ => ?_) (fun q => ?_)⟩)⟩⟩⟩⟩
    · exact cal_closed (L := laidLit) rfl rfl (hL.mono ((s8.trans s9).trans s10).mo).laid fun _ => ⟨_, rfl, rfl⟩
    · cases h : ahead s n t m <;> rw [h] at q <;> cases q
  · rw [eqI_eq] at q
    simp at q
end

end Go.Proofs.YtdokohdkdoiclaaGreatDoor.Eng
