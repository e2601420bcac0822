/- What the functions answer, part Bc2. -/
import Derived.Test.YtgfcgkbbmcgjmaaGreatDoorABc1
namespace Go.Proofs.YtgfcgkbbmcgjmaaGreatDoor.Eng
set_option linter.unusedVariables false
set_option linter.unusedSimpArgs false
section
variable {H : Hp} {N : Nat}
def ISt.turned (s : ISt) : ISt := if s.in_ = 0 then s.turn else s
def ISt.nextR (s : ISt) : Option Post × ISt :=
  if s.aliveB = false then (none, s) else if s.turned.bad = true then (none, s.turned) else if s.turned.oneBad = true then (none, s.turned.one) else (some (s.turned.oneDoc, s.turned.oneSp.1), s.turned.one)
def postV (x : Option Post) (v : AV) : List AV := match x with | some y => [.int .i64 y.1, v] | none => [.int .i64 0, .nils]
theorem ISt.alive_iff {s : ISt} : s.aliveB = true ↔ s.bad = false ∧ s.re = 0 ∧ 0 < s.left := by
  unfold ISt.aliveB
  rw [Bool.and_eq_true, Bool.and_eq_true, decide_eq_true_eq, decide_eq_true_eq, Bool.not_eq_true']
theorem It3.sub {p r u i : Nat} (h : It3 p r u i) {H : Hp} (h1 : p < H.nx) (h2 : r < H.nx) (h3 : u < H.nx) : i < H.nx := by
  rcases h with h | h | h <;> omega
theorem next_rd {p e r u : Nat} {s : ISt} (h : IterAt H N p e r u s) (hN : N ≤ H.nx) {Q : AV → Hp → Prop}
    (k : ∀ v u' H', IterAt H' N p e r u' s.nextR.2 → (∀ x, s.nextR.1 = some x → SpR H' v x.2) → (u' = u ∨ H.nx ≤ u') → Stp (It3 p r u) H H' → Q (.tup [.agg (postV s.nextR.1 v), .bool s.nextR.1.isSome]) H') : Cal env 146 [.ptr p 0] H Q := by
  refine Cal.start fun hO => s146 ?_
  unfold S146
  have hpn : p < H.nx := hO.lt h.bx
  have hrn := h.ir.lt hO
  have hun := h.iu.lt hO
  refine New.stp hO fun H1 b1 s1 => ?_
  have h1 := h.step hO s1
  have hp0 : H.nx < H1.nx := s1.ok.lt b1
  have none_ : ∀ {u' : Nat} {t : ISt} {H2 : Hp} {es : Nat}, IterAt H2 N p e r u' t → (u' = u ∨ H1.nx ≤ u') → Stp (It3 p r u) H H2 → Bk H2 H.nx [.int .i64 0, .nils] es → s.nextR = (none, t) → ∃ H5, H2.store H.nx 0 [.int .i64 0, .nils] = some H5 ∧ ∃ cs6, H5.load H.nx 0 2 = some cs6 ∧ Q (.tup [.agg cs6, .bool false]) H5 := fun it hu st b hn => by
    rw [hn] at k
    obtain ⟨H5, e5, b5, s5⟩ := b.stp st.ok (o := 0) (vs := [.int .i64 0, .nils]) rfl rfl
    have b5 : Bk H5 H.nx [.int .i64 0, .nils] _ := b5
    refine ⟨H5, e5, _, b5.load 0 2 rfl, ?_⟩
    exact k .nils _ H5 ⟨it.bx.step st.ok s5 (by omega), it.ir.step st.ok s5 (by omega), it.iu.step st.ok s5 (by omega), it.pr, it.pu, it.ru, it.lo, it.le, it.iq, it.la, it.tp⟩ (fun x hx => by cases hx) (by omega) (st.then s5 fun i q => by omega)
  refine alive_ok h1 ⟨_, rfl, IfB.intro (fun q => ?_) (fun q => ?_)⟩
  · have q : s.aliveB = false := by simpa using q
    exact none_ h1 (.inl rfl) s1.of b1 (by unfold ISt.nextR; rw [if_pos q])
  · have q : s.aliveB = true := by simpa using q
    obtain ⟨q1, q2, q3⟩ := ISt.alive_iff.1 q
    refine ⟨fun H' => ∃ u' es, IterAt H' N p e r u' s.turned ∧ (u' = u ∨ H1.nx ≤ u') ∧ Stp (It3 p r u) H H' ∧ Bk H' H.nx [.int .i64 0, .nils] es, ⟨_, h1.bx.ld 3 rfl rfl, ?_⟩, ?_⟩
    · rw [eqI_dec]
      refine IfB.intro (fun z => ?_) (fun z => ?_)
      · refine turn_ok h1 (by omega) q1 fun u' H13 it13 hu13 s13 => ⟨rfl, u', _, ?_, .inr hu13, s1.of.trans s13, b1.step s1.ok s13 fun g => by have := It3.sub g hpn hrn hun; omega⟩
        unfold ISt.turned
        rw [if_pos (of_decide_eq_true z)]
        exact it13
      · refine ⟨u, _, ?_, .inl rfl, s1.of, b1⟩
        unfold ISt.turned
        rw [if_neg (of_decide_eq_false z)]
        exact h1
    rintro H14 J ⟨u', es, it, hu, st, b14⟩
    refine ⟨_, it.bx.ld 6 rfl rfl, IfB.intro (fun z => ?_) (fun z => ?_)⟩
    · exact none_ it hu st b14 (by unfold ISt.nextR; rw [if_neg (by rw [q]; simp), if_pos z])
    · have hl : 0 < s.turned.left ∧ 0 < s.turned.in_ := by
        have h2 := h.iq
        unfold ISt.turned
        split
        · unfold ISt.turn; simp only; omega
        · omega
      have hun' := it.iu.lt st.ok
      refine itone_ok it z hl.1 hl.2 (by have := st.nx; omega) fun v H23 it23 sp23 s23 => ?_
      have b23 := b14.step st.ok s23 fun g => by rcases g with g | g | g <;> omega
      have st23 : Stp (It3 p r u) H H23 := by
        rcases hu with rfl | hu
        · exact st.trans s23
        · refine ⟨s23.ok, st.mo.trans s23.mo, fun i hi hg => (s23.gr i (by have := st.nx; omega) fun g => ?_).trans (st.gr i hi hg)⟩
          rcases g with g | g | g
          · exact hg (.inl g)
          · exact hg (.inr (.inl g))
          · omega
      have fin : ∀ (n : Int) (w : AV) (c : Bool), scAll [.int .i64 n, w] = true → s.nextR.2 = s.turned.one → postV s.nextR.1 v = [.int .i64 n, w] → s.nextR.1.isSome = c → (∀ x, s.nextR.1 = some x → SpR H23 v x.2) → ∃ H27, H23.store H.nx 0 [.int .i64 n, w] = some H27 ∧ ∃ cs28, H27.load H.nx 0 2 = some cs28 ∧ Q (.tup [.agg cs28, .bool c]) H27 := fun n w c hsc e1 e2 e3 hx => by
        obtain ⟨H27, e27, b27, s27⟩ := b23.stp s23.ok (o := 0) (vs := [.int .i64 n, w]) rfl hsc
        have b27 : Bk H27 H.nx [.int .i64 n, w] _ := b27
        refine ⟨H27, e27, _, b27.load 0 2 (by have := takeC_of [.int .i64 n, w] [] hsc; rw [List.append_nil] at this; exact this), ?_⟩
        have k := k v u' H27 (e1 ▸ ⟨it23.bx.step st23.ok s27 (by omega), it23.ir.step st23.ok s27 (by omega), it23.iu.step st23.ok s27 (by omega), it23.pr, it23.pu, it23.ru, it23.lo, it23.le, it23.iq, it23.la, it23.tp⟩) (fun x h => (hx x h).mono s27.mo) (by omega) (st23.then s27 fun i q => by omega)
        rw [e2, e3] at k
        exact k
      have hne1 : ¬ s.aliveB = false := by rw [q]; simp
      have hne2 : ¬ s.turned.bad = true := by rw [z]; simp
      by_cases w : s.turned.oneBad = true
      · have hn : s.nextR = (none, s.turned.one) := by unfold ISt.nextR; rw [if_neg hne1, if_neg hne2, if_pos w]
        rw [if_pos w, w]
        exact ⟨_, _, _, rfl, fin 0 .nils false rfl (by rw [hn]) (by rw [hn]; rfl) (by rw [hn]; rfl) (fun x hx => by rw [hn] at hx; cases hx)⟩
      · have hn : s.nextR = (some (s.turned.oneDoc, s.turned.oneSp.1), s.turned.one) := by unfold ISt.nextR; rw [if_neg hne1, if_neg hne2, if_neg w]
        have w' : s.turned.oneBad = false := by simpa using w
        rw [if_neg w, w']
        exact ⟨_, _, _, rfl, fin s.turned.oneDoc v true (scPc (sp23 w').sc) (by rw [hn]) (by rw [hn]; rfl) (by rw [hn]; rfl) (fun x hx => by rw [hn] at hx; cases hx; exact sp23 w')⟩
def ISt.badB (s : ISt) : Bool := s.bad || (!decide (s.re = 0) || (decide (s.left = 0) && decide ((if s.re = 0 ∧ s.rl ≠ [] then 3 else s.re) ≠ 0)))
theorem bad_rd {p e r u : Nat} {s : ISt} (h : IterAt H N p e r u s) {Q : AV → Hp → Prop} (k : Q (.bool s.badB) H) : Cal env 147 [.ptr p 0] H Q := by
  refine s147 ?_
  unfold S147
  rw [eqM_pn]
  refine ⟨fun c H' => c = false ∧ H = H', ⟨_, h.bx.ld 0 rfl rfl, by rw [eqM_pn]; exact ⟨rfl, rfl⟩⟩, ?_⟩
  rintro _ J _ ⟨rfl, rfl⟩
  refine ⟨fun c H' => c = s.bad ∧ H = H', ⟨_, h.bx.ld 6 rfl rfl, rfl, rfl⟩, ?_⟩
  rintro _ J _ ⟨rfl, rfl⟩
  refine ⟨fun c H' => c = (s.bad || !decide (s.re = 0)) ∧ H = H', IfB.intro (fun q => ?_) (fun q => ?_), ?_⟩
  · refine ⟨_, h.bx.ld 0 rfl rfl, err_rd h.ir ⟨_, rfl, ?_, rfl⟩⟩
    have q : s.bad = false := by simpa using q
    rw [q, eqI_dec, Bool.false_or]
  · have q : s.bad = true := by simpa using q
    exact ⟨by rw [q, Bool.true_or], rfl⟩
  rintro _ J _ ⟨rfl, rfl⟩
  refine ⟨fun c H' => c = s.badB ∧ H = H', IfB.intro (fun q => ?_) (fun q => ?_), ?_⟩
  · have q : (s.bad || !decide (s.re = 0)) = false := by rwa [Bool.not_eq_true'] at q
    refine ⟨_, h.bx.ld 2 rfl rfl, fun c H' => c = (decide (s.left = 0) && decide ((if s.re = 0 ∧ s.rl ≠ [] then 3 else s.re) ≠ 0)) ∧ H = H', ?_, ?_⟩
    · rw [eqI_dec]
      refine IfB.intro (fun z => ?_) (fun z => ?_)
      · refine ⟨_, h.bx.ld 0 rfl rfl, end_rd h.ir ⟨_, rfl, ?_, rfl⟩⟩
        rw [z, eqI_dec, Bool.true_and, decide_not]
      · exact ⟨by rw [z, Bool.false_and], rfl⟩
    rintro _ J2 _ ⟨rfl, rfl⟩
    refine ⟨?_, rfl⟩
    unfold ISt.badB
    rw [← Bool.or_assoc, q, Bool.false_or]
  · have q : (s.bad || !decide (s.re = 0)) = true := by rwa [Bool.not_eq_false'] at q
    refine ⟨?_, rfl⟩
    unfold ISt.badB
    rw [← Bool.or_assoc, q, Bool.true_or]
  rintro _ J _ ⟨rfl, rfl⟩
  exact k
def openS (b : List Nat) : ISt := { rl := (rdS (numS 65536) 0 b 0).2.1, re := (rdS (numS 65536) 0 b 0).2.2, ul := [], ue := 0, left := (rdS (numS 65536) 0 b 0).1, in_ := 0, last := -1, top := -1, bad := false }
theorem open_rd {v : AV} {b : List Nat} {fz : Bool} (hv : Sl H 1 v (b.map by8) fz) (hb : ∀ x ∈ b, x < 256) (hl : b.length ≤ 35184372088832) {Q : AV → Hp → Prop}
    (k : ∀ p e r u H', IterAt H' H.nx p e r u (openS b) → Stp noB H H' → Q (.ptr p 0) H') : Cal env 85 [v] H Q := by
  refine Cal.start fun hO => s85 ?_
  unfold S85
  refine read_ok hv hb hl fun r H1 ir lor s1 => ⟨_, rfl, read_ok (l := []) (Sl.nil (fz := true)) (fun _ h => by cases h) (by simp) fun u H4 iu lou s4 => ⟨_, rfl, ?_⟩⟩
  have ir4 := ir.step s1.ok s4 (fun q => q)
  have hr1 := ir.lt s1.ok
  have hu4 := iu.lt s4.ok
  refine num_rd ir4 fun H7 ir7 s7 => ⟨_, rfl, Chk.intro rfl (Chk.intro rfl (Chk.intro rfl ?_))⟩
  obtain ⟨A, hA⟩ : ∃ A, rdS (numS 65536) 0 b 0 = A := ⟨_, rfl⟩
  have hAle := rd_le (most := 65536) (l := b) (e := 0) (by omega)
  have hS : openS b = { rl := A.2.1, re := A.2.2, ul := [], ue := 0, left := A.1, in_ := 0, last := -1, top := -1, bad := false } := by unfold openS; rw [hA]
  rw [hA] at ir7 hAle ⊢
  have iu7 := iu.step s4.ok s7 (by omega)
  refine New.stp s7.ok fun H10 b10 s10 => ?_
  rw [hS] at k
  have n7 : H4.nx ≤ H7.nx := s7.nx
  exact k H7.nx _ r u H10 ⟨b10, ir7.step s7.ok s10 (fun q => q), iu7.step s7.ok s10 (fun q => q), by omega, by omega, by omega, by have := s1.nx; omega, by simp only; omega, by simp only; omega, by simp only; omega, by simp only; omega⟩ (((s1.trans s4).then s7 fun i q => by omega).trans s10)
end
section
variable {H : Hp} {N : Nat}
def decGo : Nat → ISt → List Post × ISt
  | 0, s => ([], s)
  | n + 1, s => match s.nextR.1 with
    | none => ([], s.nextR.2)
    | some x => (x :: (decGo n s.nextR.2).1, (decGo n s.nextR.2).2)
def decR (b : List Nat) : List Post × ISt := decGo ((openS b).left.toNat + 1) (openS b)
def decS (b : List Nat) : Option (List Post) := if (decR b).2.badB = true then none else some (decR b).1
theorem next_some {s : ISt} {x : Post} (h : s.nextR.1 = some x) : 0 < s.left ∧ s.nextR.2.left = s.left - 1 ∧ fitsB x.1 x.2 = true := by
  unfold ISt.nextR at h ⊢
  split at h
  · cases h
  · rename_i h1
    split at h
    · cases h
    · rename_i h2
      split at h
      · cases h
      · rename_i h3
        rw [if_neg h1, if_neg h2, if_neg h3]
        have h1 : s.aliveB = true := by simpa using h1
        refine ⟨(ISt.alive_iff.1 h1).2.2, ?_, ?_⟩
        · have : s.turned.left = s.left := by unfold ISt.turned; split <;> rfl
          unfold ISt.one
          simp only
          rw [this]
        · cases h
          unfold ISt.oneBad at h3
          split at h3
          · split at h3
            · exact absurd rfl h3
            · split at h3
              · assumption
              · exact absurd rfl h3
          · exact absurd rfl h3
theorem decGo_len : ∀ (n : Nat) (s : ISt), (decGo n s).1.length ≤ s.left.toNat
  | 0, s => by simp [decGo]
  | n + 1, s => by
    rw [decGo]
    split
    · simp
    · rename_i x hx
      obtain ⟨h1, h2, _⟩ := next_some hx
      have := decGo_len n s.nextR.2
      simp only [List.length_cons]
      omega
theorem decode_ok {v : AV} {b : List Nat} {fz : Bool} (hv : Sl H 1 v (b.map by8) fz) (hb : ∀ x ∈ b, x < 256) (hl : b.length ≤ 35184372088832) {Q : AV → Hp → Prop}
    (k0 : decS b = none → ∀ H', Stp noB H H' → Q (.tup [.nils, .int .i64 3]) H')
    (k1 : ∀ l, decS b = some l → ∀ v' cs H', Ow H' H.nx 2 v' (cs.map pc) → all2 (spR H') cs l → Stp noB H H' → Q (.tup [v', .int .i64 0]) H') : Cal env 87 [v] H Q := by
  refine Cal.start fun hO => s87 ?_
  unfold S87
  refine open_rd hv hb hl fun p e r u H1 it1 s1 => ⟨_, rfl, ?_⟩
  obtain ⟨T, hT⟩ : ∃ T, decR b = T := ⟨_, rfl⟩
  have hle1 := it1.le
  have pn : p < H1.nx := s1.ok.lt it1.bx
  have rn := it1.ir.lt s1.ok
  refine ⟨fun m v H' => ∃ s u' cs l, IterAt H' H.nx p e r u' s ∧ m = s.left.toNat ∧ Ow H' H.nx 2 v (cs.map pc) ∧ all2 (spR H') cs l ∧ (l ++ (decGo (s.left.toNat + 1) s).1, (decGo (s.left.toNat + 1) s).2) = T ∧ l.length + s.left.toNat ≤ 65536 ∧ (∀ i, blkOf v = some i → ¬ It3 p r u' i) ∧ H1.nx ≤ H'.nx ∧ Stp noB H H',
    ⟨_, openS b, u, [], [], it1, rfl, Ow.nil, trivial, hT, by simp only [List.length_nil]; omega, fun i hi => (by cases hi), Nat.le_refl _, s1⟩, ?_⟩
  rintro m H5 J v ⟨s, u', cs, l, it, rfl, ow, a2, he, hln, hne, hnx, st⟩
  have hcl := all2_len a2
  have n1 := s1.nx
  have plt := st.ok.lt it.bx
  have rlt := it.ir.lt st.ok
  have ult := it.iu.lt st.ok
  have hlo := it.lo
  refine next_rd it (by omega) fun v12 u2 H10 it10 sp10 hu2 s10 => ?_
  have t10 : Stp noB H H10 := st.then s10 fun i hi => by rcases hi with hi | hi | hi <;> omega
  have ow10 := ow.step s10 hne
  have u2lt := it10.iu.lt t10.ok
  have n10 := s10.nx
  cases hx : s.nextR.1 with
  | none =>
    have hd : decGo (s.left.toNat + 1) s = ([], s.nextR.2) := by rw [decGo, hx]
    rw [hd, List.append_nil] at he
    refine ⟨0, .nils, false, rfl, New.stp t10.ok fun H15 b15 s15 => ?_⟩
    obtain ⟨H16, e16, b16, s16⟩ := b15.stp s15.ok (o := 0) (vs := [.int .i64 0, .nils]) rfl rfl
    refine ⟨H16, e16, IfB.intro (fun _ => ?_) (fun q => by cases q)⟩
    have t16 : Stp noB H10 H16 := s15.then s16 fun i hi => by rw [hi]; exact Nat.le_refl _
    have it16 := it10.step t10.ok t16
    have hl : T.1 = l := by rw [← he]
    have ht : T.2 = s.nextR.2 := by rw [← he]
    refine bad_rd it16 ⟨_, rfl, IfB.intro (fun q => ?_) (fun q => ?_)⟩
    · exact k0 (by unfold decS; rw [hT, ht, if_pos q]) H16 (t10.trans t16)
    · exact k1 l (by unfold decS; rw [hT, ht, hl, if_neg (by rw [q]; simp)]) v cs H16 (ow10.quiet t16) (all2_mono (fun a b z => z.mono (s10.mo.trans t16.mo)) a2) (t10.trans t16)
  | some x =>
    obtain ⟨h1, h2, _⟩ := next_some hx
    have hd : decGo (s.left.toNat + 1) s = (x :: (decGo s.left.toNat s.nextR.2).1, (decGo s.left.toNat s.nextR.2).2) := by
      rw [decGo, hx]
    have hlt : s.left.toNat = s.nextR.2.left.toNat + 1 := by omega
    rw [hd, hlt] at he
    have sp := sp10 x hx
    refine ⟨x.1, v12, true, rfl, New.stp t10.ok fun H15 b15 s15 => ?_⟩
    obtain ⟨H16, e16, b16, s16⟩ := b15.stp s15.ok (o := 0) (vs := [.int .i64 x.1, v12]) rfl (scPc sp.sc)
    have b16 : Bk H16 H10.nx [.int .i64 x.1, v12] _ := b16
    refine ⟨H16, e16, IfB.intro (fun q => by cases q) (fun _ => ⟨_, _, b16.load 0 2 (by simp only [dropN, takeC, sp.sc]; rfl), Chk.intro (scPc sp.sc) ?_⟩)⟩
    have t16 : Stp noB H10 H16 := s15.then s16 fun i hi => by rw [hi]; exact Nat.le_refl _
    have it16 := it10.step t10.ok t16
    have ow16 := ow10.quiet t16
    have n16 := t16.nx
    refine ow16.appE t16.ok (by omega) rfl (scPc sp.sc) (by simp [room]; omega) (by decide) fun v24 H25 o25 s25 f25 => ?_
    have vlt : ∀ i, blkOf v = some i → i < H5.nx := ow.lt
    have hq : ∀ i, blkOf v = some i → ¬ It3 p r u2 i := fun i hi g => by
      rcases g with g | g | g
      · exact hne i hi (.inl g)
      · exact hne i hi (.inr (.inl g))
      · rcases hu2 with rfl | hu2
        · exact hne i hi (.inr (.inr g))
        · have := vlt i hi; omega
    have it25 : IterAt H25 H.nx p e r u2 s.nextR.2 := ⟨it16.bx.step t16.ok s25 (fun g => hq p g (.inl rfl)), it16.ir.step t16.ok s25 (fun g => hq r g (.inr (.inl rfl))), it16.iu.step t16.ok s25 (fun g => hq u2 g (.inr (.inr rfl))), it16.pr, it16.pu, it16.ru, it16.lo, it16.le, it16.iq, it16.la, it16.tp⟩
    have n25 := s25.nx
    refine ⟨s.nextR.2.left.toNat, by omega, s.nextR.2, u2, cs ++ [(x.1, v12)], l ++ [x], it25, rfl, ?_, ?_, ?_, ?_, fun i hi g => ?_, by omega, (t10.trans t16).then s25 fun i hi => ow16.isB_low i hi⟩
    · rw [List.map_append]; exact o25
    · exact all2_snoc ⟨rfl, sp.mono (t16.mo.trans s25.mo)⟩ (all2_mono (fun a b z => z.mono (s10.mo.trans (t16.mo.trans s25.mo))) a2)
    · rw [← he, List.append_assoc]; rfl
    · rw [List.length_append, List.length_singleton]; omega
    · rcases f25 i hi with f | f
      · exact hq i f g
      · rcases g with g | g | g <;> omega
theorem good_ok {b : List Nat} (hb : ∀ x ∈ b, x < 256) (hl : b.length ≤ 35184372088832) {n : Int} {Q : AV → Hp → Prop}
    (k : ∀ c H', (decS b = none → c = false) → (∀ l, decS b = some l → c = match l.getLast? with | some x => decide (x.1 < n) | none => false) → Stp noB H H' → Q (.bool c) H') : Cal env 99 [.str b, .int .i64 n] H Q := by
  refine Cal.start fun hO => s99 ?_
  unfold S99
  refine New.stp hO fun H1 b1 s1 => ?_
  refine decode_ok (bk_bytes b1) hb hl (fun hd H3 s3 => ⟨_, _, rfl, ?_⟩) (fun l hd v cs H3 ow a2 s3 => ⟨_, _, rfl, ?_⟩)
  · refine ⟨fun c H' => c = false ∧ H3 = H', IfB.intro (fun q => by cases q) (fun _ => ⟨rfl, rfl⟩), ?_⟩
    rintro _ J _ ⟨rfl, rfl⟩
    refine ⟨fun c H' => c = false ∧ H3 = H', IfB.intro (fun q => by cases q) (fun _ => ⟨rfl, rfl⟩), ?_⟩
    rintro _ J _ ⟨rfl, rfl⟩
    exact k false H3 (fun _ => rfl) (fun l h => by rw [hd] at h; cases h) (s1.trans s3)
  · have hcl := all2_len a2
    have hlen : lenS v = some l.length := by rw [ow.sl.len, List.length_map, hcl]
    refine ⟨fun c H' => c = decide (0 < l.length) ∧ H3 = H', IfB.intro (fun _ => ⟨_, hlen, ?_, rfl⟩) (fun q => by cases q), ?_⟩
    · rw [show (0 : Int) = .ofNat 0 from rfl, ltI_nat]
    rintro _ J _ ⟨rfl, rfl⟩
    refine ⟨fun c H' => c = (match l.getLast? with | some x => decide (x.1 < n) | none => false) ∧ H3 = H', IfB.intro (fun q => ?_) (fun q => ?_), ?_⟩
    · have q := of_decide_eq_true q
      have hm : l.length ≤ 65536 := by
        have : (decR b).1 = l := by
          unfold decS at hd
          split at hd
          · cases hd
          · exact Option.some.inj hd
        have h2 := decGo_len ((openS b).left.toNat + 1) (openS b)
        have h3 := rd_le (most := 65536) (l := b) (e := 0) (by omega)
        have h4 : (openS b).left = ((rdS (numS 65536) 0 b 0).1 : Nat) := rfl
        unfold decR at this
        rw [this] at h2
        omega
      have ej : wrapF .i64 (Int.ofNat l.length - 1) = .ofNat (l.length - 1) := by
        rw [show (1 : Int) = .ofNat 1 from rfl]
        exact subN (a := l.length) (b := 1) q (by omega)
      obtain ⟨p13, o14, g1, _, g3⟩ := ow.sl.elem (j := l.length - 1) (by rw [List.length_map, hcl]; omega)
      have hel := all2_at a2 (l.length - 1) (by omega) (by omega)
      refine ⟨_, hlen, p13, o14, by rw [ej]; exact g1, cs[l.length - 1].1, ?_, ?_, rfl⟩
      · have := g3 0 1 (by omega)
        rw [this, List.getElem_map]
        rfl
      · have hx : l.getLast? = some l[l.length - 1] := by rw [List.getLast?_eq_getElem?, List.getElem?_eq_getElem (by omega)]
        rw [hx, ltI_eq, hel.1]
    · have q := of_decide_eq_false q
      have : l = [] := List.length_eq_zero_iff.1 (by omega)
      subst this
      exact ⟨rfl, rfl⟩
    rintro _ J _ ⟨rfl, rfl⟩
    exact k _ H3 (fun h => by rw [hd] at h; cases h) (fun l' h => by rw [hd] at h; cases h; rfl) (s1.trans s3)
end
section
variable {H : Hp} {N : Nat}
def bsA (l : List Nat) (e : Int) : Nat × List Nat × Int := rdS (numS 65536) 0 l e
def bsB (l : List Nat) (e : Int) : List Int × List Nat × Int := rdS (risS (bsA l e).1 ((bsA l e).1 - 1 : Int)) [] (bsA l e).2.1 (bsA l e).2.2
def bsN (l : List Nat) (e : Int) : Nat := if (bsB l e).2.2 = 0 then (bsA l e).1 else 0
def bsX (l : List Nat) (e : Int) : List Int := if (bsB l e).2.2 = 0 then (bsB l e).1 else []
def memI (xs : List Int) : Nat → Bool := fun i => decide ((i : Int) ∈ xs)
theorem InAt.bt {b : Nat} {l : List Nat} {e : Int} (h : InAt H b l e) : ∀ x ∈ l, x < 256 := by
  obtain ⟨_, _, _, h⟩ := h
  exact h.lt
theorem risP_mem {top : Int} : ∀ {xs : List Int} {last : Int}, risP top last xs → ∀ x ∈ xs, last < x ∧ x ≤ top
  | y :: xs, last, h, x, hx => by
    obtain ⟨h1, h2, h3⟩ := h
    rcases List.mem_cons.1 hx with rfl | hx
    · exact ⟨h1, h2⟩
    · have := risP_mem h3 x hx; omega
theorem bsread_ok {b : Nat} {l : List Nat} {e : Int} (h : InAt H b l e) {Q : AV → Hp → Prop}
    (k : ∀ q c ws H', InAt H' b (bsB l e).2.1 (bsB l e).2.2 → SetAt H' q c (bsN l e) (memI (bsX l e)) ws → H.nx ≤ q → H.nx ≤ c → Stp (fun i => i = b) H H' → Q (.ptr q 0) H') : Cal env 96 [.ptr b 0] H Q := by
  refine Cal.start fun hO => s96 ?_
  unfold S96
  have hbl := h.lt hO
  have hbt := h.bt
  refine num_rd h fun H1 i1 s1 => ⟨_, rfl, ?_⟩
  obtain ⟨A, hA⟩ : ∃ A, bsA l e = A := ⟨_, rfl⟩
  have hA' : rdS (numS 65536) 0 l e = A := hA
  have hAle := rd_le (most := 65536) (l := l) (e := e) (by omega)
  have hN : bsN l e = if (bsB l e).2.2 = 0 then A.1 else 0 := by unfold bsN; rw [hA]
  have hBdef : bsB l e = rdS (risS A.1 (A.1 - 1 : Int)) [] A.2.1 A.2.2 := by unfold bsB; rw [hA]
  rw [hA'] at i1 hAle ⊢
  have hcl : clipN (Int.ofNat A.1) = A.1 := by unfold clipN; simp only [Int.ofNat_eq_natCast]; omega
  refine new_ok fun q c ws H4 set4 loq loc s4 => ⟨_, rfl, ?_⟩
  rw [hcl] at set4
  have n1 := s1.nx
  refine letUp s4.ok (by omega) fun H6 s6 _ _ => ?_
  have set6 := set4.step s4.ok s6 (fun q => q) (fun q => q)
  have i6 := (i1.step s1.ok s4 (fun q => q)).step s4.ok s6 (fun q => q)
  obtain ⟨es, hd6⟩ := set6.hd
  have t6 : Stp (fun i => i = b) H H6 := (s1.trans s4.of).trans s6.of
  refine ⟨_, hd6.ld 0 rfl rfl, _, hd6.ld 0 rfl rfl, ?_⟩
  have ew : wrapF .i64 (Int.ofNat A.1 - 1) = (A.1 : Int) - 1 := wid (by simp only [Int.ofNat_eq_natCast]; omega) (by simp only [Int.ofNat_eq_natCast]; omega)
  rw [ew]
  refine rising_rd (by simp only [Int.ofNat_eq_natCast]; omega) (by omega) i6 fun v17 H16 i16 sl16 s16 => ⟨_, rfl, ?_⟩
  obtain ⟨B, hB⟩ : ∃ B, bsB l e = B := ⟨_, rfl⟩
  have hB' : rdS (risS (Int.ofNat A.1) ((A.1 : Int) - 1)) [] A.2.1 A.2.2 = B := by rw [← hB, hBdef]; rfl
  rw [hB'] at i16 sl16
  rw [hB] at k hN
  have hX : bsX l e = if B.2.2 = 0 then B.1 else [] := by unfold bsX; rw [hB]
  have cb : ¬ c = b := by omega
  have qb : ¬ q = b := by omega
  have set16 := set6.step t6.ok s16 qb cb
  have t16 := t6.trans s16
  have i6bt := i6.bt
  have hBok : B.1 = [] ∨ risP (max ((A.1 : Int) - 1) (-1)) (-1) B.1 := by
    rw [← hB']
    unfold rdS
    split
    · exact .inl rfl
    · split
      · rename_i x r hx
        exact .inr (ris_risS hx i6bt).2.1
      · exact .inl rfl
  have hBm : ∀ x ∈ B.1, ∃ j : Nat, x = .ofNat j ∧ j < A.1 := fun x hx => by
    rcases hBok with h0 | h0
    · rw [h0] at hx; cases hx
    · obtain ⟨h1, h2⟩ := risP_mem h0 x hx
      refine ⟨x.toNat, ?_, ?_⟩
      · simp only [Int.ofNat_eq_natCast]; omega
      · omega
  have hBl : B.1.length ≤ 65536 := by
    rw [← hB']
    unfold rdS
    split
    · simp
    · split
      · rename_i x r hx
        have := (ris_risS hx i6bt).2.2
        simp only [Int.ofNat_eq_natCast] at this ⊢
        omega
      · simp
  refine ⟨B.1.length, by rw [sl16.len, List.length_map], ?_⟩
  refine ⟨fun m n H' => ∃ j ws, n = .ofNat j ∧ j ≤ B.1.length ∧ m = B.1.length - j ∧ SetAt H' q c A.1 (memI (B.1.take j)) ws ∧ Stp (fun i => i = c) H16 H',
    ⟨B.1.length, 0, ws, rfl, by omega, by omega, set16, Stp.refl t16.ok⟩, ?_⟩
  rintro m H21 J n ⟨j, ws, rfl, hj, rfl, set, st⟩
  have i21 := i16.step t16.ok st (fun q => cb q.symm)
  refine IfB.intro (fun z => ?_) (fun z => ?_)
  · rw [ltI_nat] at z
    have z : j < B.1.length := of_decide_eq_true z
    obtain ⟨p25, o26, g1, g2⟩ := Is.elem (sl16.stay st) z
    refine ⟨p25, o26, g1, _, g2, ?_⟩
    obtain ⟨y, hy, hyl⟩ := hBm _ (List.getElem_mem z)
    refine put_ok set (fun j' ws' H29 hj' hl set' s' => ⟨_, rfl, B.1.length - (j + 1), by omega, j + 1, ws', wrap_i64 (x := j + 1) (by omega), z, rfl, ?_, st.trans s'⟩) (fun hn _ => ?_)
    · have : (fun q => decide (q = j') || memI (B.1.take j) q) = memI (B.1.take (j + 1)) := by
        funext i
        unfold memI
        rw [take_snoc z, Bool.eq_iff_iff]
        simp only [Bool.or_eq_true, decide_eq_true_eq, List.mem_append, List.mem_singleton]
        rw [hj']
        simp only [Int.ofNat_eq_natCast]
        constructor
        · rintro (w | w)
          · exact .inr (by omega)
          · exact .inl w
        · rintro (w | w)
          · exact .inr w
          · exact .inl (by omega)
      rw [this] at set'
      exact set'
    · rw [hy] at hn
      simp only [Int.ofNat_eq_natCast] at hn
      omega
  · rw [ltI_nat] at z
    have z : j = B.1.length := by have := of_decide_eq_false z; omega
    subst z
    rw [List.take_length] at set
    have t21 : Stp (fun i => i = b) H H21 := t16.then st fun i hi => by rw [hi]; omega
    refine err_rd i21 ⟨_, rfl, ?_⟩
    rw [eqI_dec]
    refine IfB.intro (fun z => ?_) (fun z => ?_)
    · have z : ¬ B.2.2 = 0 := by simpa using z
      rw [if_neg z] at hN hX
      refine new_ok fun q2 c2 ws2 H35 set35 loq2 loc2 s35 => ⟨_, rfl, ?_⟩
      have n21 := t21.nx
      have e0 : clipN (Int.ofNat 0) = 0 := by decide
      refine k q2 c2 ws2 H35 (i21.step t21.ok s35 (fun q => q)) ?_ (by omega) (by omega) (t21.trans s35.of)
      rw [hN, hX]
      exact set35
    · have z : B.2.2 = 0 := by simpa using z
      rw [if_pos z] at hN hX
      refine k q c ws H21 i21 ?_ (by omega) (by omega) t21
      rw [hN, hX]
      exact set
end
section
variable {H : Hp} {N : Nat}
def dicGo : Nat → List Nat → List Nat → Except Int (List (List Nat) × List Nat)
  | 0, _, l => .ok ([], l)
  | n + 1, last, l => match numS (last.length : Nat) l with
    | .error f => .error f
    | .ok (k, r) => match txtS 64 r with
      | .error f => .error f
      | .ok (s, r2) => if ¬ (last < last.take k ++ s) ∨ 64 < (last.take k ++ s).length ∨ k ≠ likeN (last.take k ++ s) last then .error 3 else match dicGo n (last.take k ++ s) r2 with
        | .error f => .error f
        | .ok (ws, r3) => .ok ((last.take k ++ s) :: ws, r3)
def dicS (l : List Nat) : Except Int (List (List Nat) × List Nat) := match numS 16384 l with
  | .error f => .error f
  | .ok (n, r) => dicGo n [] r
theorem dicGo_ne : ∀ {n : Nat} {last l : List Nat} {f : Int}, dicGo n last l = .error f → f ≠ 0
  | 0, _, _, f, h => by cases h
  | n + 1, last, l, f, h => by
    rw [dicGo] at h
    split at h
    · rename_i g hg; cases h; exact numS_ne hg
    · split at h
      · rename_i g hg; cases h; exact txtS_ne hg
      · split at h
        · cases h; decide
        · split at h
          · rename_i g hg; cases h; exact dicGo_ne hg
          · cases h
theorem dicS_ne {l : List Nat} {f : Int} (h : dicS l = .error f) : f ≠ 0 := by
  unfold dicS at h
  split at h
  · rename_i g hg; cases h; exact numS_ne hg
  · exact dicGo_ne h
theorem dic_dicGo : ∀ {n : Nat} {last l r : List Nat} {ws : List (List Nat)}, dicGo n last l = .ok (ws, r) → (∀ b ∈ l, b < 256) → (∀ b ∈ last, b < 256) → l = blkB last ws ++ r ∧ gdW last ws ∧ ws.length = n
  | 0, _, l, r, ws, h, _, _ => by
    simp only [dicGo, Except.ok.injEq, Prod.mk.injEq] at h
    obtain ⟨rfl, rfl⟩ := h
    exact ⟨rfl, trivial, rfl⟩
  | n + 1, last, l, r, ws, h, hl, hla => by
    rw [dicGo] at h
    split at h
    · cases h
    · rename_i k q hk
      split at h
      · cases h
      · rename_i s q2 hs
        have e1 := num_numS hk hl
        have hq : ∀ b ∈ q, b < 256 := app_lt (e1 ▸ hl)
        obtain ⟨e2, _⟩ := txt_txtS hs hq
        have hq2 : ∀ b ∈ q2, b < 256 := app_lt (e2 ▸ hq)
        have hs2 : ∀ b ∈ s, b < 256 := fun b hb => hq b (by rw [e2]; unfold txtB; simp [hb])
        split at h
        · cases h
        · rename_i hc
          split at h
          · cases h
          · rename_i xs r3 hx
            simp only [Except.ok.injEq, Prod.mk.injEq] at h
            obtain ⟨rfl, rfl⟩ := h
            obtain ⟨w, hw⟩ : ∃ w, last.take k ++ s = w := ⟨_, rfl⟩
            rw [hw] at hc hx ⊢
            have c1 : last < w := Classical.byContradiction fun h => hc (.inl h)
            have c2 : w.length ≤ 64 := by rcases Nat.lt_or_ge 64 w.length with h | h; exact absurd (.inr (.inl h)) hc; exact h
            have c3 : k = likeN w last := Classical.byContradiction fun h => hc (.inr (.inr h))
            have hwb : ∀ b ∈ w, b < 256 := fun b hb => by
              rw [← hw] at hb
              rcases List.mem_append.1 hb with h | h
              · exact hla b (List.mem_of_mem_take h)
              · exact hs2 b h
            obtain ⟨g1, g2, g3⟩ := dic_dicGo hx hq2 hwb
            have hkl := (numS_lt hk).1
            have hd : w.drop k = s := by rw [← hw, List.drop_left' (by rw [List.length_take]; omega)]
            refine ⟨?_, ⟨c1, c2, hwb, g2⟩, by simp [g3]⟩
            rw [blkB, wrdB, ← c3, hd, List.append_assoc, List.append_assoc, ← g1, ← e2]
            exact e1
theorem dic_dicS {l r : List Nat} {ws : List (List Nat)} (h : dicS l = .ok (ws, r)) (hl : ∀ b ∈ l, b < 256) : l = dicB ws ++ r ∧ gdW [] ws ∧ ws.length ≤ 16384 := by
  unfold dicS at h
  split at h
  · cases h
  · rename_i n q hn
    have e1 := num_numS hn hl
    obtain ⟨g1, g2, g3⟩ := dic_dicGo h (app_lt (e1 ▸ hl)) (fun _ h => by cases h)
    have := (numS_lt hn).1
    refine ⟨?_, g2, by omega⟩
    unfold dicB
    rw [g3, List.append_assoc, ← g1]
    exact e1
theorem gdW_snoc : ∀ {ws : List (List Nat)} {last w : List Nat}, gdW last ws → ws.getLastD last < w → w.length ≤ 64 → (∀ b ∈ w, b < 256) → gdW last (ws ++ [w])
  | [], _, _, _, h1, h2, h3 => ⟨h1, h2, h3, trivial⟩
  | x :: ws, last, w, h, h1, h2, h3 => ⟨h.1, h.2.1, h.2.2.1, gdW_snoc h.2.2.2 (by rwa [List.getLastD_cons] at h1) h2 h3⟩
theorem lt_tri : ∀ s w : List Nat, s < w ∨ s = w ∨ w < s
  | [], [] => .inr (.inl rfl)
  | [], _ :: _ => .inl (List.nil_lt_cons _ _)
  | _ :: _, [] => .inr (.inr (List.nil_lt_cons _ _))
  | a :: l, b :: r => by
    rw [List.cons_lt_cons_iff, List.cons_lt_cons_iff, List.cons.injEq]
    rcases Nat.lt_trichotomy a b with h | h | h
    · exact .inl (.inl h)
    · rcases lt_tri l r with g | g | g
      · exact .inl (.inr ⟨h, g⟩)
      · exact .inr (.inl ⟨h, g⟩)
      · exact .inr (.inr (.inr ⟨h.symm, g⟩))
    · exact .inr (.inr (.inl h))
theorem ltL_le {s w : List Nat} : (!(ltL w s || eqL w s)) = decide (s < w) := by
  rw [ltL_eq, eqL_eq, Bool.eq_iff_iff]
  simp only [Bool.not_eq_true', Bool.or_eq_false_iff, decide_eq_false_iff_not, beq_eq_false_iff_ne, ne_eq, decide_eq_true_eq]
  constructor
  · rintro ⟨h1, h2⟩
    rcases lt_tri s w with h | h | h
    · exact h
    · exact absurd h.symm h2
    · exact absurd h h1
  · intro h
    exact ⟨List.lt_asymm h, fun e => by rw [e] at h; exact List.lt_irrefl _ h⟩
theorem dcr_nil {p : Nat} (h : Fk H p [.int .i64 0, .nils, .nils]) : DcR H p [] := ⟨.nils, .nils, h, Sl.nil, Sl.nil⟩
theorem dread_ok {b : Nat} {l : List Nat} {e : Int} (h : InAt H b l e) {Q : AV → Hp → Prop}
    (k : ∀ p H', InAt H' b (rdS dicS [] l e).2.1 (rdS dicS [] l e).2.2 → DcR H' p (rdS dicS [] l e).1 → H.nx ≤ p → Stp (fun i => i = b) H H' → Q (.ptr p 0) H') : Cal env 97 [.ptr b 0] H Q := by
  refine Cal.start fun hO => Cal.behind (s97 ?_)
  unfold S97
  have hbl := h.lt hO
  have hbt := h.bt
  refine num_rd h fun H1 i1 s1 => ⟨_, rfl, ?_⟩
  obtain ⟨A, hA⟩ : ∃ A, rdS (numS 16384) 0 l e = A := ⟨_, rfl⟩
  have hAle := rd_le (most := 16384) (l := l) (e := e) (by omega)
  rw [hA] at i1 hAle ⊢
  obtain ⟨R, hR⟩ : ∃ R, rdS dicS [] l e = R := ⟨_, rfl⟩
  rw [hR] at k
  -- what is still to be read
  have start : (A.2.2 = 0 ∧ (∀ x r, dicGo A.1 [] A.2.1 = .ok (x, r) → R = (x, r, 0)) ∧ (∀ f, dicGo A.1 [] A.2.1 = .error f → R = ([], [], f))) ∨ (A.2.2 ≠ 0 ∧ R = ([], A.2.1, A.2.2)) := by
    by_cases he : e = 0
    · subst he
      cases hn : numS 16384 l with
      | ok y =>
        obtain ⟨n, r⟩ := y
        have hA0 : A = (n, r, 0) := by rw [← hA, rdS_ok hn]
        have hd : dicS l = dicGo n [] r := by unfold dicS; rw [hn]
        rw [hA0]
        refine .inl ⟨rfl, fun x r' hx => ?_, fun f hf => ?_⟩
        · rw [← hR]; exact rdS_ok (by rw [hd]; exact hx)
        · rw [← hR]; exact rdS_no (by rw [hd]; exact hf)
      | error f =>
        have hA0 : A = (0, [], f) := by rw [← hA, rdS_no hn]
        have hd : dicS l = .error f := by unfold dicS; rw [hn]
        rw [hA0]
        exact .inr ⟨numS_ne hn, by rw [← hR, rdS_no hd]⟩
    · have hA0 : A = (0, l, e) := by rw [← hA, rdS_err he]
      rw [hA0]
      exact .inr ⟨he, by rw [← hR, rdS_err he]⟩
  refine ⟨fun m v s n H' => ∃ (q : Nat) (ws : List (List Nat)) (l' : List Nat) (e' : Int), n = .ofNat q ∧ m = q ∧ Ow H' H.nx 1 v (ws.map sc1) ∧ InAt H' b l' e' ∧ s = ws.getLastD [] ∧ (∀ x ∈ s, x < 256) ∧ s.length ≤ 128 ∧ ws.length + q ≤ 16384 ∧ Stp (fun i => i = b) H H' ∧
      ((e' = 0 ∧ s.length ≤ 64 ∧ gdW [] ws ∧ (∀ x r, dicGo q s l' = .ok (x, r) → R = (ws ++ x, r, 0)) ∧ (∀ f, dicGo q s l' = .error f → R = ([], [], f))) ∨ (e' ≠ 0 ∧ R = ([], l', e'))),
    ⟨A.1, A.1, [], A.2.1, A.2.2, rfl, rfl, Ow.nil, i1, rfl, (fun _ h => by cases h), by simp, by simp; omega, s1, start.imp (fun h => ⟨h.1, by simp, trivial, h.2.1, h.2.2⟩) id⟩, ?_⟩
  rintro q H5 J v s _ ⟨_, ws, l', e', rfl, rfl, ow, i5, hs0, hsb, hsl, hq, st, hst⟩
  have hvb : ¬ isB v b := fun g => by have := ow.isB_low b g; omega
  refine ⟨fun c H' => c = (decide (0 < q) && decide (e' = 0)) ∧ H5 = H', IfB.intro (fun g => ?_) (fun g => ?_), ?_⟩
  · rw [show (0 : Int) = .ofNat 0 from rfl, ltI_nat] at g
    refine err_rd i5 ⟨_, rfl, ?_, rfl⟩
    rw [g, eqI_dec, Bool.true_and]
  · rw [show (0 : Int) = .ofNat 0 from rfl, ltI_nat] at g
    exact ⟨by rw [g, Bool.false_and], rfl⟩
  rintro _ J2 _ ⟨rfl, rfl⟩
  refine IfB.intro (fun g => ?_) (fun g => ?_)
  · rw [Bool.and_eq_true, decide_eq_true_eq, decide_eq_true_eq] at g
    obtain ⟨g1, rfl⟩ := g
    rcases hst with ⟨_, h64, hgd, hok, hno⟩ | ⟨h0, _⟩
    rotate_left
    · exact absurd rfl h0
    obtain ⟨q, rfl⟩ : ∃ q', q = q' + 1 := ⟨q - 1, by omega⟩
    rw [dicGo] at hok hno
    refine num_rd i5 fun H19 i19 s19 => ⟨_, rfl, ?_⟩
    obtain ⟨C, hC⟩ : ∃ C, rdS (numS (Int.ofNat s.length)) 0 l' 0 = C := ⟨_, rfl⟩
    have hCle := rd_le (most := Int.ofNat s.length) (l := l') (e := 0) (by simp only [Int.ofNat_eq_natCast]; omega)
    rw [hC] at i19 hCle ⊢
    simp only [Int.ofNat_eq_natCast] at hCle
    refine letUp s19.ok (by omega) fun H21 s21 _ _ => ?_
    refine text_rd (i19.step s19.ok s21 (fun q => q)) fun H23 i23 s23 => ⟨_, rfl, s.take C.1, ?_, ?_⟩
    · rw [subF_ok (lo := 0) (hi := C.1) (.inr ⟨rfl, rfl⟩) (.inl ⟨_, rfl⟩) (by omega) (by omega)]
      rfl
    obtain ⟨D, hD⟩ : ∃ D, rdS (txtS 64) [] C.2.1 C.2.2 = D := ⟨_, rfl⟩
    have i19bt := i19.bt
    have hDb : (∀ x ∈ D.1, x < 256) ∧ D.1.length ≤ 64 := by
      rw [← hD]
      unfold rdS
      split
      · exact ⟨fun x hx => (by cases hx), by simp⟩
      · split
        · rename_i hx
          obtain ⟨e1, e2⟩ := txt_txtS hx i19bt
          exact ⟨fun x hx => i19bt x (by rw [e1]; unfold txtB; simp [hx]), by simp only; omega⟩
        · exact ⟨fun x hx => (by cases hx), by simp⟩
    rw [hD] at i23 ⊢
    obtain ⟨w, hw⟩ : ∃ w, s.take C.1 ++ D.1 = w := ⟨_, rfl⟩
    have hwl : w.length ≤ 128 := by rw [← hw, List.length_append, List.length_take]; omega
    have hwb : ∀ x ∈ w, x < 256 := fun x hx => by
      rw [← hw] at hx
      rcases List.mem_append.1 hx with h | h
      · exact hsb x (List.mem_of_mem_take h)
      · exact hDb.1 x h
    refine Chk.intro (bleT (by rw [List.length_take]; omega)) ?_
    rw [hw]
    have t23 : Stp (fun i => i = b) H5 H23 := (s19.trans s21.of).trans s23
    obtain ⟨bad, hbad⟩ : ∃ bad : Bool, (!(decide (s < w)) || (decide (64 < w.length) || !decide (C.1 = likeN w s))) = bad := ⟨_, rfl⟩
    obtain ⟨E, hE⟩ : ∃ E : List Nat × Int, (if (decide (D.2.2 = 0) && bad) = true then failS 3 D.2.1 D.2.2 else (D.2.1, D.2.2)) = E := ⟨_, rfl⟩
    refine ⟨fun H' => InAt H' b E.1 E.2 ∧ Stp (fun i => i = b) H23 H', ?_, ?_⟩
    · refine err_rd i23 ⟨_, rfl, ?_⟩
      rw [eqI_dec]
      refine ⟨fun c H' => c = (decide (D.2.2 = 0) && bad) ∧ Stp noB H23 H', IfB.intro (fun z => ?_) (fun z => ⟨by rw [z, Bool.false_and], Stp.refl s23.ok⟩), ?_⟩
      · rw [z, Bool.true_and]
        refine ⟨fun c H' => c = (!(decide (s < w)) || decide (64 < w.length)) ∧ H23 = H', IfB.intro (fun y => ⟨?_, rfl⟩) (fun y => ⟨?_, rfl⟩), ?_⟩
        · rw [ltL_le] at y
          rw [y, Bool.not_true, Bool.false_or, show (64 : Int) = .ofNat 64 from rfl, ltI_nat]
        · rw [ltL_le] at y
          rw [y]
          rfl
        rintro _ J3 _ ⟨rfl, rfl⟩
        refine ⟨fun c H' => c = bad ∧ Stp noB H23 H', IfB.intro (fun y => ?_) (fun y => ?_), ?_⟩
        · refine like_ok (by omega) (by omega) fun H37 s37 => ⟨_, rfl, ?_, s37⟩
          have y : (!(decide (s < w)) || decide (64 < w.length)) = false := by rwa [Bool.not_eq_true'] at y
          rw [← hbad, ← Bool.or_assoc, y, Bool.false_or, eqI_nat]
        · have y : (!(decide (s < w)) || decide (64 < w.length)) = true := by rwa [Bool.not_eq_false'] at y
          exact ⟨by rw [← hbad, ← Bool.or_assoc, y, Bool.true_or], Stp.refl s23.ok⟩
        rintro _ J4 H39 ⟨rfl, s39⟩
        exact ⟨rfl, s39⟩
      rintro _ J3 H42 ⟨rfl, s42⟩
      refine IfB.intro (fun z => ?_) (fun z => ?_)
      · refine fail_ok (i23.step s23.ok s42 (fun q => q)) fun H46 i46 s46 => ⟨rfl, ?_, s42.of.trans s46⟩
        rw [← hE, if_pos z]
        exact i46
      · refine ⟨?_, s42.of⟩
        rw [← hE, if_neg (by rw [z]; simp)]
        exact i23.step s23.ok s42 (fun q => q)
    rintro H47 J3 ⟨i47, s47⟩
    have t47 := t23.trans s47
    have ow47 := ow.step t47 fun i hi hg => hvb (by rw [← hg]; exact hi)
    refine ow47.appE t47.ok (by have := st.nx; have := t47.nx; omega) rfl rfl (by simp [room]; omega) (by decide) fun v51 H52 o52 s52 f52 => ?_
    have i52 := i47.step t47.ok s52 hvb
    refine ⟨q, by omega, q, ws ++ [w], E.1, E.2, ?_, rfl, ?_, i52, ?_, hwb, hwl, ?_, (st.trans t47).then s52 fun i hi => ow47.isB_low i hi, ?_⟩
    · rw [show (1 : Int) = .ofNat 1 from rfl]
      have := subN (a := q + 1) (b := 1) (by omega) (by omega)
      rw [this]; rfl
    · rw [List.map_append]; exact o52
    · rw [List.getLastD_eq_getLast?, List.getLast?_append]; rfl
    · rw [List.length_append, List.length_singleton]; omega
    · cases hn : numS (Int.ofNat s.length) l' with
      | error f =>
        have hf := numS_ne hn
        rw [rdS_no hn] at hC
        subst hC
        rw [rdS_err hf] at hD
        subst hD
        simp only [show decide (f = 0) = false from decide_eq_false hf, Bool.false_and, Bool.false_eq_true, if_false] at hE
        subst hE
        have hn' : numS ((s.length : Nat) : Int) l' = .error f := hn
        exact .inr ⟨hf, hno f (by rw [hn'])⟩
      | ok y =>
        obtain ⟨kk, r⟩ := y
        have hn' : numS ((s.length : Nat) : Int) l' = .ok (kk, r) := hn
        rw [rdS_ok hn] at hC
        subst hC
        rw [hn'] at hok hno
        simp only at hok hno hD hw hbad
        cases ht : txtS 64 r with
        | error f =>
          have hf := txtS_ne ht
          rw [rdS_no ht] at hD
          subst hD
          simp only [show decide (f = 0) = false from decide_eq_false hf, Bool.false_and, Bool.false_eq_true, if_false] at hE
          subst hE
          exact .inr ⟨hf, hno f (by rw [ht])⟩
        | ok z =>
          obtain ⟨tx, r2⟩ := z
          rw [rdS_ok ht] at hD
          subst hD
          simp only at hw
          simp only [decide_true, Bool.true_and] at hE
          rw [ht] at hok hno
          simp only [hw] at hok hno
          cases bad with
          | true =>
            rw [if_pos rfl] at hE
            have hE2 : E = ([], 3) := by rw [← hE]; rfl
            have hb2 : ¬ (s < w) ∨ 64 < w.length ∨ kk ≠ likeN w s := by
              simp only [Bool.or_eq_true, Bool.not_eq_true', decide_eq_false_iff_not, decide_eq_true_eq] at hbad
              exact hbad
            rw [hE2]
            exact .inr ⟨by decide, hno 3 (by rw [if_pos hb2])⟩
          | false =>
            rw [if_neg (by simp)] at hE
            subst hE
            have hb2 : ¬ (¬ (s < w) ∨ 64 < w.length ∨ kk ≠ likeN w s) := by
              rintro (h | h | h)
              · rw [decide_eq_false h] at hbad; cases hbad
              · rw [decide_eq_true h] at hbad; simp at hbad
              · rw [decide_eq_false h] at hbad; simp at hbad
            rw [if_neg hb2] at hok hno
            have c1 : s < w := Classical.byContradiction fun h => hb2 (.inl h)
            have c2 : w.length ≤ 64 := by rcases Nat.lt_or_ge 64 w.length with h | h; exact absurd (.inr (.inl h)) hb2; exact h
            refine .inl ⟨rfl, c2, gdW_snoc hgd (hs0 ▸ c1) c2 hwb, fun x rr hx => ?_, fun f hf => ?_⟩
            · simp only at hx
              rw [hx] at hok
              rw [List.append_assoc]
              exact hok _ _ rfl
            · simp only at hf
              rw [hf] at hno
              exact hno _ rfl
  · rw [Bool.and_eq_false_iff] at g
    refine err_rd i5 ⟨_, rfl, ?_⟩
    rw [eqI_dec]
    refine IfB.intro (fun z => ?_) (fun z => ?_)
    · have z : ¬ e' = 0 := by simpa using z
      rcases hst with ⟨h0, _⟩ | ⟨_, hR'⟩
      · exact absurd h0 z
      rw [hR'] at k
      refine New.stp st.ok fun H57 b57 s57 => ⟨[H5.nx], ?_⟩
      have n5 := st.nx
      refine k H5.nx _ ((i5.step st.ok s57 (fun q => q)).frz fun hm => ?_) (dcr_nil (b57.fk List.mem_cons_self)) n5 ((st.trans s57.of).frz fun i hi => ?_)
      · rw [List.mem_singleton] at hm; omega
      · rw [List.mem_singleton] at hi; omega
    · have z : e' = 0 := by simpa using z
      subst z
      rcases hst with ⟨_, h64, hgd, hok, hno⟩ | ⟨h0, _⟩
      rotate_left
      · exact absurd rfl h0
      have hq0 : q = 0 := by
        rcases g with g | g
        · have := of_decide_eq_false g; omega
        · exact absurd rfl (of_decide_eq_false g)
      subst hq0
      have hR' := hok [] l' rfl
      rw [List.append_nil] at hR'
      rw [hR'] at k
      have n5 := st.nx
      refine dbuild_ok ow.sl hgd (by omega) fun p H59 dc59 lo59 s59 => ⟨_, _, rfl, [], ?_⟩
      exact k p H59 (i5.step st.ok s59 (fun q => q)) dc59 (by omega) (st.trans s59.of)
end
section
variable {H : Hp} {N : Nat}
structure Seg where
  ids : List (List Nat)
  n : Nat
  xs : List Int
  words : List (List Nat)
  lists : List (List Nat)
def txsGo (most : Int) : Nat → List Nat → Except Int (List (List Nat) × List Nat)
  | 0, l => .ok ([], l)
  | n + 1, l => match txtS most l with
    | .error f => .error f
    | .ok (s, r) => match txsGo most n r with
      | .error f => .error f
      | .ok (xs, r2) => .ok (s :: xs, r2)
def goodB (s : List Nat) (n : Nat) : Bool := match decS s with
  | none => false
  | some l => match l.getLast? with
    | some x => decide (x.1 < (n : Int))
    | none => false
def lstGo (cnt : Nat) : Nat → List Nat → Except Int (List (List Nat) × List Nat)
  | 0, l => .ok ([], l)
  | n + 1, l => match txtS 65536 l with
    | .error f => .error f
    | .ok (s, r) => if goodB s cnt = true then match lstGo cnt n r with
        | .error f => .error f
        | .ok (xs, r2) => .ok (s :: xs, r2)
      else .error 3
def bsS (l : List Nat) : Except Int ((Nat × List Int) × List Nat) := match numS 65536 l with
  | .error f => .error f
  | .ok (n, r) => match risS n ((n : Int) - 1) r with
    | .error f => .error f
    | .ok (xs, r2) => .ok ((n, xs), r2)
theorem risGo_ne {top : Int} : ∀ {n : Nat} {last : Int} {l : List Nat} {f : Int}, risGo top n last l = .error f → f ≠ 0
  | 0, _, _, f, h => by cases h
  | n + 1, last, l, f, h => by
    rw [risGo] at h
    split at h
    · rename_i g hg; cases h; exact numS_ne hg
    · split at h
      · rename_i g hg; cases h; exact risGo_ne hg
      · cases h
theorem risS_ne {many top : Int} {l : List Nat} {f : Int} (h : risS many top l = .error f) : f ≠ 0 := by
  unfold risS at h
  split at h
  · rename_i g hg; cases h; exact numS_ne hg
  · exact risGo_ne h
theorem bs_ok {l r : List Nat} {n : Nat} {xs : List Int} (h : bsS l = .ok ((n, xs), r)) : bsB l 0 = (xs, r, 0) ∧ bsN l 0 = n ∧ bsX l 0 = xs := by
  unfold bsS at h
  split at h
  · cases h
  · rename_i k q hk
    split at h
    · cases h
    · rename_i ys r2 hy
      simp only [Except.ok.injEq, Prod.mk.injEq] at h
      obtain ⟨⟨rfl, rfl⟩, rfl⟩ := h
      have hA : bsA l 0 = (k, q, 0) := rdS_ok hk
      have hB : bsB l 0 = (ys, r2, 0) := by unfold bsB; rw [hA]; exact rdS_ok hy
      exact ⟨hB, by unfold bsN; rw [hB, if_pos rfl, hA], by unfold bsX; rw [hB, if_pos rfl]⟩
theorem bs_no {l : List Nat} {f : Int} (h : bsS l = .error f) : f ≠ 0 ∧ bsB l 0 = ([], [], f) := by
  unfold bsS at h
  split at h
  · rename_i g hg
    cases h
    have hA : bsA l 0 = (0, [], f) := rdS_no hg
    exact ⟨numS_ne hg, by unfold bsB; rw [hA]; exact rdS_err (numS_ne hg)⟩
  · rename_i k q hk
    split at h
    · rename_i g hg
      cases h
      have hA : bsA l 0 = (k, q, 0) := rdS_ok hk
      exact ⟨risS_ne hg, by unfold bsB; rw [hA]; exact rdS_no hg⟩
    · cases h
def segT4 (ids : List (List Nat)) (n : Nat) (xs : List Int) (words lists : List (List Nat)) (r : List Nat) : Except Int (Seg × List Nat) := if risesB ids = true ∧ n = ids.length then .ok (⟨ids, n, xs, words, lists⟩, r) else .error 3
def segT3 (ids : List (List Nat)) (n : Nat) (xs : List Int) (words : List (List Nat)) (r : List Nat) : Except Int (Seg × List Nat) := match lstGo ids.length words.length r with
  | .error f => .error f
  | .ok (ls, r2) => segT4 ids n xs words ls r2
def segT2 (ids : List (List Nat)) (n : Nat) (xs : List Int) (r : List Nat) : Except Int (Seg × List Nat) := match dicS r with
  | .error f => .error f
  | .ok (ws, r2) => segT3 ids n xs ws r2
def segT1 (ids : List (List Nat)) (r : List Nat) : Except Int (Seg × List Nat) := match bsS r with
  | .error f => .error f
  | .ok (x, r2) => segT2 ids x.1 x.2 r2
def segS (l : List Nat) : Except Int (Seg × List Nat) := match numS 4096 l with
  | .error f => .error f
  | .ok (n, r) => match txsGo 12 n r with
    | .error f => .error f
    | .ok (ids, r2) => segT1 ids r2
structure SegR (H : Hp) (p q c : Nat) (s : Seg) (m : Nat → Bool) : Prop where
  at_ : ∃ vi w vl ws, Fk H p [vi, .ptr w 0, vl, .ptr q 0] ∧ StR H vi s.ids ∧ DcR H w s.words ∧ StR H vl s.lists ∧ SetAt H q c s.n m ws
def rdst {α : Type} (R : Except Int α) (e : Int) (T : Except Int α) : Prop := (e = 0 ∧ R = T) ∨ (e ≠ 0 ∧ R = .error e)
theorem rdst_text {α : Type} {R : Except Int α} {most : Int} {l : List Nat} {T : List Nat → List Nat → Except Int α} (h : R = match txtS most l with | .error f => .error f | .ok (s, r) => T s r) :
    rdst R (rdS (txtS most) [] l 0).2.2 (T (rdS (txtS most) [] l 0).1 (rdS (txtS most) [] l 0).2.1) := by
  cases ht : txtS most l with
  | error f =>
    rw [ht] at h
    rw [rdS_no ht]
    exact .inr ⟨txtS_ne ht, h⟩
  | ok y =>
    obtain ⟨s, r⟩ := y
    rw [ht] at h
    rw [rdS_ok ht]
    exact .inl ⟨rfl, h⟩
theorem text_len {most : Int} {l : List Nat} {e : Int} (h0 : 0 ≤ most) (hl : ∀ x ∈ l, x < 256) : ((rdS (txtS most) [] l e).1.length : Int) ≤ most ∧ ∀ x ∈ (rdS (txtS most) [] l e).1, x < 256 := by
  unfold rdS
  split
  · exact ⟨by simpa using h0, fun x hx => (by cases hx)⟩
  · split
    · rename_i hx
      obtain ⟨e1, e2⟩ := txt_txtS hx hl
      exact ⟨e2, fun x hx => hl x (by rw [e1]; unfold txtB; simp [hx])⟩
    · exact ⟨by simpa using h0, fun x hx => (by cases hx)⟩
end
section
variable {H : Hp} {N : Nat}
def Kx (X : Nat → Prop) (H H' : Hp) : Prop := H.nx ≤ H'.nx ∧ ∀ j bl, H.m.get j = some bl → (bl.rw = false ∨ ¬ X j) → H'.m.get j = some bl
section
variable {H1 : Hp} {X : Nat → Prop} {b : Nat} {cells : List AV} {es : Nat} {v : AV} {cs : List (List AV)}
theorem Bk.kx (h : Bk H b cells es) (g : Kx X H H1) (hb : ¬ X b) : Bk H1 b cells es := g.2 _ _ h (.inr hb)
theorem Sl.kx (h : Sl H es v cs true) (g : Kx X H H1) : Sl H1 es v cs true := ⟨h.rw, h.at_.imp id fun ⟨b, o, c, e, bl, h1, h2, h3, h4, h5⟩ => ⟨b, o, c, e, bl, h1, h2, g.2 _ _ h3 (.inl (h5 rfl)), h4, h5⟩⟩
theorem Ow.kx (h : Ow H N es v cs) (g : Kx X H H1) (hx : ∀ i, blkOf v = some i → ¬ X i) : Ow H1 N es v cs := ⟨h.rw, h.at_.imp id fun ⟨b, c, e, bl, h1, h2, h3, h4, h5, h6⟩ => ⟨b, c, e, bl, h1, h2, Nat.lt_of_lt_of_le h3 g.1, h4, g.2 _ _ h5 (.inr (hx b (by rw [h1]; rfl))), h6⟩⟩
theorem InAt.kx {l : List Nat} {e : Int} (h : InAt H b l e) (g : Kx X H H1) (hb : ¬ X b) : InAt H1 b l e := by
  obtain ⟨v, es, h1, h2⟩ := h
  exact ⟨v, es, h1.kx g hb, h2.sl.kx g, h2.lt⟩
theorem Fk.kx (h : Fk H b cells) (g : Kx X H H1) : Fk H1 b cells := by
  obtain ⟨es, h⟩ := h
  exact ⟨es, g.2 _ _ h (.inl rfl)⟩
theorem DcR.kx {l : List (List Nat)} (h : DcR H b l) (g : Kx X H H1) : DcR H1 b l := by
  obtain ⟨vh, vb, h1, h2, h3⟩ := h
  exact ⟨vh, vb, h1.kx g, Sl.kx h2 g, Sl.kx h3 g⟩
theorem Stp.kx (hO : Ok H) (s : Stp X H H1) : Kx X H H1 := ⟨s.nx, fun j bl h q => by
  rcases q with q | q
  · exact s.mo.fz _ _ h q
  · exact (s.gr j (hO.lt h) q).trans h⟩
theorem Kx.trans {H2 : Hp} {Y : Nat → Prop} (g : Kx X H H1) (k : Kx Y H1 H2) : Kx (fun i => X i ∨ Y i) H H2 := ⟨Nat.le_trans g.1 k.1, fun j bl h q => by
  rcases q with q | q
  · exact k.2 _ _ (g.2 _ _ h (.inl q)) (.inl q)
  · exact k.2 _ _ (g.2 _ _ h (.inr fun x => q (.inl x))) (.inr fun x => q (.inr x))⟩
theorem Kp.kx (g : Kp H H1) : Kx X H H1 := ⟨g.1, fun j bl h _ => g.2 _ _ h⟩
end
theorem fldapp {H15 H20 : Hp} {G : Nat → Prop} {p0 e o i : Nat} {cells : List AV} {vi : AV} {cs : List (List AV)} {s : List Nat} {e1 : Nat} {K : Hp → Prop} (st : Stp G H15 H20) (hi0 : H15.nx ≤ i) (hi : i < H20.nx) (hf : H20.m.get i = none) (b : Bk H20 p0 cells e) (he : esU < e) (hp : p0 < H15.nx) (ow : Ow H20 N 1 vi cs) (hv : ∀ j, blkOf vi = some j → j < H15.nx) (hN : N ≤ H15.nx) (hb : (cs.length + 1) * 16 ≤ room)
    (k : ∀ v' cells' H', over cells o [v'] = some cells' → Bk H' p0 cells' e → Ow H' N 1 v' (cs ++ [[.str s]]) → Kx (fun j => j = p0 ∨ isB vi j) H20 H' → Stp (fun j => G j ∨ (j = p0 ∨ isB vi j)) H15 H' → (∀ j, blkOf v' = some j → blkOf vi = some j ∨ H20.nx ≤ j) → K H') (ho : ∀ v, ∃ cells', over cells o [v] = some cells') :
    letH ⟨H20.m.set i (some ⟨[.str s], e1, true⟩), H20.nx⟩ fun H23 => ∃ v24 H25, appF 1 16 H23 vi (.slice i 0 1 1 true) = some (v24, H25) ∧ Chk (AV.sc v24) (∃ H26, Hp.store H25 p0 o [v24] = some H26 ∧ K H26) := by
  refine letMk st hi0 hi (Nat.le_refl _) hf fun H23 s23 b23 n23 kp23 g23 => ?_
  have ow23 := ow.kp kp23
  have bx23 := b.kp kp23
  have n20 := st.nx
  refine ow23.appS s23.ok (by omega) (lit_sl b23 rfl rfl) (by simpa using hb) (by decide) fun v24 H25 o25 s25 f25 => ?_
  have nv : ∀ j, blkOf vi = some j → ¬ j = p0 := ow23.ne_bk bx23 he
  have bx25 := bx23.step s23.ok s25 (fun q => nv p0 q rfl)
  refine Chk.intro o25.sl.sc ?_
  obtain ⟨cells', hc⟩ := ho v24
  obtain ⟨H26, e26, b26, s26⟩ := bx25.stp s25.ok (o := o) (vs := [v24]) hc (by simp only [scAll, o25.sl.sc])
  have nv24 : ∀ j, blkOf v24 = some j → ¬ j = p0 := o25.ne_bk bx25 he
  refine ⟨H26, e26, k v24 cells' H26 hc b26 (o25.step s26 nv24) ?_ ?_ fun j hj => (f25 j hj).imp id fun q => by omega⟩
  · refine ⟨by have := kp23.1; have := s25.nx; have := s26.nx; omega, fun j bl hj q => ?_⟩
    have h23 := kp23.2 _ _ hj
    rcases q with q | q
    · exact s26.mo.fz _ _ (s25.mo.fz _ _ h23 q) q
    · have h25 := (s25.gr j (s23.ok.lt h23) fun x => q (.inr x)).trans h23
      exact (s26.gr j (s25.ok.lt h25) fun x => q (.inl x)).trans h25
  · exact (s23.wide fun j _ x => .inl x).trans ((s25.wide fun j _ x => .inr (.inr x)).trans (s26.wide fun j _ x => .inr (.inl x)))
end
section
variable {H : Hp} {N : Nat}
theorem rdst_num {α : Type} {R : Except Int α} {most : Int} {l : List Nat} {T : Nat → List Nat → Except Int α} (h : R = match numS most l with | .error f => .error f | .ok (s, r) => T s r) :
    rdst R (rdS (numS most) 0 l 0).2.2 (T (rdS (numS most) 0 l 0).1 (rdS (numS most) 0 l 0).2.1) := by
  cases ht : numS most l with
  | error f =>
    rw [ht] at h
    rw [rdS_no ht]
    exact .inr ⟨numS_ne ht, h⟩
  | ok y =>
    obtain ⟨s, r⟩ := y
    rw [ht] at h
    rw [rdS_ok ht]
    exact .inl ⟨rfl, h⟩
def idsT (q : Nat) (ids : List (List Nat)) (l : List Nat) : Except Int (Seg × List Nat) := match txsGo 12 q l with
  | .error f => .error f
  | .ok (xs, r) => segT1 (ids ++ xs) r
theorem idsT_succ (q : Nat) (ids : List (List Nat)) (l : List Nat) : idsT (q + 1) ids l = match txtS 12 l with | .error f => .error f | .ok (s, r) => idsT q (ids ++ [s]) r := by
  unfold idsT
  rw [txsGo]
  cases txtS 12 l with
  | error f => rfl
  | ok y =>
    obtain ⟨s, r⟩ := y
    simp only
    cases txsGo 12 q r with
    | error f => rfl
    | ok z =>
      obtain ⟨xs, r2⟩ := z
      simp only [List.append_assoc, List.singleton_append]
def lstT (ids : List (List Nat)) (n : Nat) (xs : List Int) (words : List (List Nat)) (q : Nat) (lists : List (List Nat)) (l : List Nat) : Except Int (Seg × List Nat) := match lstGo ids.length q l with
  | .error f => .error f
  | .ok (ls, r) => segT4 ids n xs words (lists ++ ls) r
theorem lstT_succ (ids : List (List Nat)) (n : Nat) (xs : List Int) (words : List (List Nat)) (q : Nat) (lists : List (List Nat)) (l : List Nat) : lstT ids n xs words (q + 1) lists l = match txtS 65536 l with | .error f => .error f | .ok (s, r) => if goodB s ids.length = true then lstT ids n xs words q (lists ++ [s]) r else .error 3 := by
  unfold lstT
  rw [lstGo]
  cases txtS 65536 l with
  | error f => rfl
  | ok y =>
    obtain ⟨s, r⟩ := y
    simp only
    by_cases hg : goodB s ids.length = true
    · rw [if_pos hg, if_pos hg]
      cases lstGo ids.length q r with
      | error f => rfl
      | ok z =>
        obtain ⟨xs, r2⟩ := z
        simp only [List.append_assoc, List.singleton_append]
    · rw [if_neg hg, if_neg hg]
theorem blks_mem {v : AV} {i : Nat} (h : i ∈ blks v) : blkOf v = some i := by
  unfold blks at h
  split at h
  · rename_i b hb; rw [List.mem_singleton] at h; subst h; exact hb
  · cases h
theorem Ow.frzk {es : Nat} {v : AV} {cs : List (List AV)} (h : Ow H N es v cs) {l : List Nat} (hl : ∀ i, blkOf v = some i → i ∉ l) : Ow (Eng.frz H l) N es v cs :=
  ⟨h.rw, h.at_.imp id fun ⟨b, c, e, bl, h1, h2, h3, h4, h5, h6⟩ => ⟨b, c, e, bl, h1, h2, by rw [frz_nx]; exact h3, h4, (frz_keep (hl b (by rw [h1]; rfl))).trans h5, h6⟩⟩
theorem SetAt.frzk {b c n : Nat} {m : Nat → Bool} {ws : List Nat} (h : SetAt H b c n m ws) {l : List Nat} (hb : b ∉ l) (hc : c ∉ l) : SetAt (Eng.frz H l) b c n m ws := by
  obtain ⟨es, hd⟩ := h.hd
  exact ⟨⟨es, hd.frz hb⟩, h.ow.frzk (fun i hi => by cases hi; exact hc), h.ne, h.len, h.le, h.lt, h.mem, h.out⟩
theorem sread_ok {b : Nat} {l : List Nat} (h : InAt H b l 0) {Q : AV → Hp → Prop}
    (k0 : ∀ f, segS l = .error f → f ≠ 0 → ∀ l' H', InAt H' b l' f → Stp (fun i => i = b) H H' → Q .nilp H')
    (k1 : ∀ s r, segS l = .ok (s, r) → ∀ p q c H', InAt H' b r 0 → SegR H' p q c s (memI s.xs) → H.nx ≤ p → H.nx ≤ q → H.nx ≤ c → Stp (fun i => i = b) H H' → Q (.ptr p 0) H') : Cal env 43 [.ptr b 0] H Q := by
  refine Cal.start fun hO => Cal.behind (s43 ?_)
  unfold S43
  have hbl := h.lt hO
  obtain ⟨R, hR⟩ : ∃ R, segS l = R := ⟨_, rfl⟩
  rw [hR] at k0 k1
  refine New.stp hO fun H1 b1 s1 => ?_
  have n1 : H.nx < H1.nx := s1.ok.lt b1
  refine num_rd (h.step hO s1 (fun q => q)) fun H3 i3 s3 => ⟨_, rfl, ?_⟩
  have r3 : rdst R (rdS (numS 4096) 0 l 0).2.2 (idsT (rdS (numS 4096) 0 l 0).1 [] (rdS (numS 4096) 0 l 0).2.1) := by
    refine rdst_num (T := fun n r => idsT n [] r) ?_
    rw [← hR]
    unfold segS idsT
    rfl
  obtain ⟨A, hA⟩ : ∃ A, rdS (numS 4096) 0 l 0 = A := ⟨_, rfl⟩
  have hAle := rd_le (most := 4096) (l := l) (e := 0) (by omega)
  rw [hA] at i3 hAle r3 ⊢
  have b3 := b1.step s1.ok s3 (by omega)
  obtain ⟨e0, he0, hesU⟩ : ∃ e0, Bk H3 H.nx [.nils, .nilp, .nils, .nilp] e0 ∧ esU < e0 := ⟨_, b3, by simp only [esU, tagN]; omega⟩
  have t3 : Stp (fun i => i = b) H H3 := s1.of.trans s3
  refine ⟨fun m n H' => ∃ (q : Nat) (vi : AV) (ids : List (List Nat)) (l' : List Nat) (e' : Int), n = .ofNat q ∧ m = q ∧ Bk H' H.nx [vi, .nilp, .nils, .nilp] e0 ∧ Ow H' H.nx 1 vi (ids.map sc1) ∧ InAt H' b l' e' ∧ ids.length + q ≤ 4096 ∧ Stp (fun i => i = b) H H' ∧ rdst R e' (idsT q ids l') ∧ H3.nx ≤ H'.nx,
    ⟨A.1, A.1, .nils, [], A.2.1, A.2.2, rfl, rfl, he0, Ow.nil, i3, by simp only [List.length_nil]; omega, t3, r3, Nat.le_refl _⟩, ?_⟩
  rintro q H7 J n ⟨_, vi, ids, l', e', rfl, rfl, bx, ow, i7, hq, st, hst, n7⟩
  have nvb : ∀ j, blkOf vi = some j → ¬ j = b := fun j hj g => by have := ow.isB_low j hj; omega
  have n3 := s3.nx
  refine ⟨fun c H' => c = (decide (0 < q) && decide (e' = 0)) ∧ H7 = H', IfB.intro (fun g => ?_) (fun g => ?_), ?_⟩
  · rw [show (0 : Int) = .ofNat 0 from rfl, ltI_nat] at g
    refine err_rd i7 ⟨_, rfl, ?_, rfl⟩
    rw [g, eqI_dec, Bool.true_and]
  · rw [show (0 : Int) = .ofNat 0 from rfl, ltI_nat] at g
    exact ⟨by rw [g, Bool.false_and], rfl⟩
  rintro _ J2 _ ⟨rfl, rfl⟩
  refine IfB.intro (fun g => ?_) (fun g => ?_)
  · rw [Bool.and_eq_true, decide_eq_true_eq, decide_eq_true_eq] at g
    obtain ⟨g1, rfl⟩ := g
    rcases hst with ⟨_, hst⟩ | ⟨h0, _⟩
    rotate_left
    · exact absurd rfl h0
    obtain ⟨q, rfl⟩ : ∃ q', q = q' + 1 := ⟨q - 1, by omega⟩
    rw [idsT_succ] at hst
    refine letUp st.ok (by omega) fun H18 s18 n18 g18 => ?_
    have i18 := i7.step st.ok s18 (fun q => q)
    have bx18 := bx.step st.ok s18 (fun q => q)
    refine text_rd i18 fun H20 i20 s20 => ⟨_, rfl, ?_⟩
    have bx20 := bx18.step s18.ok s20 (by omega)
    have ow20 := (ow.quiet s18).step s20 nvb
    refine ⟨vi, bx20.ld 0 rfl ow20.sl.sc, ow20.sl.rf ⟨bx18.ld 0 rfl ow20.sl.sc, ow20.sl.rf ?_⟩⟩
    have r20 := rdst_text (most := 12) (T := fun s r => idsT q (ids ++ [s]) r) hst
    obtain ⟨B, hB⟩ : ∃ B, rdS (txtS 12) [] l' 0 = B := ⟨_, rfl⟩
    rw [hB] at i20 r20 ⊢
    have n20 := s20.nx
    have f20 : H20.m.get (H7.nx + 7) = none := s20.mo.no _ (by omega) ((g18 _).trans (st.ok _ (by omega)))
    refine fldapp (s18.of.trans s20) (by omega) (by omega) f20 bx20 hesU (by omega) ow20 ow.lt (by omega) (by simp [room]; omega) (fun v' cells' H26 hc b26 o26 kx26 st26 f26 => ?_) (fun v => ⟨_, rfl⟩)
    cases hc
    have i26 := i20.kx kx26 (by rintro (g | g); omega; exact nvb b g rfl)
    refine ⟨q, by omega, q, v', ids ++ [B.1], B.2.1, B.2.2, ?_, rfl, b26, ?_, i26, ?_, ?_, r20, by have := st26.nx; omega⟩
    · rw [show (1 : Int) = .ofNat 1 from rfl]
      have := subN (a := q + 1) (b := 1) (by omega) (by omega)
      rw [this]; rfl
    · rw [List.map_append]; exact o26
    · rw [List.length_append, List.length_singleton]; omega
    · refine ⟨st26.ok, st.mo.trans st26.mo, fun i hi hg => (st26.gr i (by omega) ?_).trans (st.gr i hi hg)⟩
      rintro (g | g | g)
      · exact hg g
      · omega
      · have := ow.isB_low i g; omega
  · rw [Bool.and_eq_false_iff] at g
    -- the set
    have hq0 : e' = 0 → q = 0 := fun he => by
      rcases g with g | g
      · have := of_decide_eq_false g; omega
      · exact absurd he (of_decide_eq_false g)
    have r8 : rdst R e' (segT1 ids l') := by
      rcases hst with ⟨h1, h2⟩ | h2
      · refine .inl ⟨h1, ?_⟩
        rw [h2, hq0 h1]
        unfold idsT
        simp only [txsGo, List.append_nil]
      · exact .inr h2
    have hvb : ¬ H.nx = b := by omega
    refine bsread_ok i7 fun sp sc ws H28 i28 set28 losp losc s28 => ⟨_, rfl, Chk.intro rfl ?_⟩
    have n28 := s28.nx
    have nst := st.nx
    have bx28 := bx.step st.ok s28 hvb
    have ow28 := ow.step s28 nvb
    have spl := set28.b_lt s28.ok
    have scl := set28.c_lt
    obtain ⟨H30, e30, bx30, s30⟩ := bx28.stp s28.ok (o := 3) (vs := [.ptr sp 0]) rfl rfl
    refine ⟨H30, e30, ?_⟩
    have i30 := i28.step s28.ok s30 (by omega)
    have set30 := set28.step s28.ok s30 (by omega) (by omega)
    have nvp : ∀ j, blkOf vi = some j → ¬ j = H.nx := ow28.ne_bk bx28 hesU
    have ow30 := ow28.step s30 nvp
    have r30 : rdst R (bsB l' e').2.2 (segT2 ids (bsN l' e') (bsX l' e') (bsB l' e').2.1) := by
      rcases r8 with ⟨rfl, h2⟩ | ⟨h1, h2⟩
      · unfold segT1 at h2
        cases hb : bsS l' with
        | error f =>
          obtain ⟨f1, f2⟩ := bs_no hb
          rw [hb] at h2
          rw [f2]
          exact .inr ⟨f1, h2⟩
        | ok y =>
          obtain ⟨⟨nn, xx⟩, rr⟩ := y
          obtain ⟨f1, f2, f3⟩ := bs_ok hb
          rw [hb] at h2
          rw [f1, f2, f3]
          exact .inl ⟨rfl, h2⟩
      · have : bsB l' e' = ([], l', e') := by
          have hA' : bsA l' e' = (0, l', e') := rdS_err h1
          unfold bsB
          rw [hA']
          exact rdS_err h1
        rw [this]
        exact .inr ⟨h1, h2⟩
    obtain ⟨B, hB⟩ : ∃ B, bsB l' e' = B := ⟨_, rfl⟩
    obtain ⟨nn, hnn⟩ : ∃ nn, bsN l' e' = nn := ⟨_, rfl⟩
    obtain ⟨xx, hxx⟩ : ∃ xx, bsX l' e' = xx := ⟨_, rfl⟩
    rw [hB, hnn, hxx] at r30
    rw [hB] at i30
    rw [hnn, hxx] at set30
    -- the dictionary
    refine dread_ok i30 fun dp H32 i32 dc32 lodp s32 => ⟨_, rfl, Chk.intro rfl ?_⟩
    have n30 := s30.nx
    have n32 := s32.nx
    have bx32 := bx30.step s30.ok s32 hvb
    have set32 := set30.step s30.ok s32 (by omega) (by omega)
    have ow32 := ow30.step s32 nvb
    obtain ⟨H34, e34, bx34, s34⟩ := bx32.stp s32.ok (o := 1) (vs := [.ptr dp 0]) rfl rfl
    refine ⟨H34, e34, ?_⟩
    have bx34 : Bk H34 H.nx [vi, .ptr dp 0, .nils, .ptr sp 0] e0 := bx34
    have i34 := i32.step s32.ok s34 (by omega)
    have set34 := set32.step s32.ok s34 (by omega) (by omega)
    have ow34 := ow32.step s34 nvp
    have dc34 := dc32.mono s34.mo
    have n34 := s34.nx
    have t34 : Stp (fun i => i = b) H H34 := (((st.trans s28).then s30 fun i hi => by omega).trans s32).then s34 fun i hi => by omega
    obtain ⟨D, hD⟩ : ∃ D, rdS dicS [] B.2.1 B.2.2 = D := ⟨_, rfl⟩
    have r34 : rdst R D.2.2 (segT3 ids nn xx D.1 D.2.1) := by
      rw [← hD]
      rcases r30 with ⟨h1, h2⟩ | ⟨h1, h2⟩
      · rw [h1]
        unfold segT2 at h2
        cases hd : dicS B.2.1 with
        | error f =>
          rw [hd] at h2
          rw [rdS_no hd]
          exact .inr ⟨dicS_ne hd, h2⟩
        | ok y =>
          obtain ⟨ww, rr⟩ := y
          rw [hd] at h2
          rw [rdS_ok hd]
          exact .inl ⟨rfl, h2⟩
      · rw [rdS_err h1]
        exact .inr ⟨h1, h2⟩
    rw [hD] at i34 dc34
    have hDl : D.1.length ≤ 16384 := by
      rw [← hD]
      unfold rdS
      split
      · simp
      · split
        · rename_i hx
          exact (dic_dicS hx i30.bt).2.2
        · simp
    refine ⟨fun m n H' => ∃ (j : Nat) (vl : AV) (ls : List (List Nat)) (l2 : List Nat) (e2 : Int), n = .ofNat j ∧ j ≤ D.1.length ∧ m = D.1.length - j ∧ Bk H' H.nx [vi, .ptr dp 0, vl, .ptr sp 0] e0 ∧ Ow H' H.nx 1 vi (ids.map sc1) ∧ Ow H' H.nx 1 vl (ls.map sc1) ∧ (∀ i, blkOf vi = some i → blkOf vl ≠ some i) ∧ (∀ i, blkOf vl = some i → ¬ i = b ∧ ¬ i = sp ∧ ¬ i = sc) ∧ InAt H' b l2 e2 ∧ ls.length = j ∧ SetAt H' sp sc nn (memI xx) ws ∧ DcR H' dp D.1 ∧ Stp (fun i => i = b) H H' ∧ H34.nx ≤ H'.nx ∧ rdst R e2 (lstT ids nn xx D.1 (D.1.length - j) ls l2),
      ⟨D.1.length, 0, .nils, [], D.2.1, D.2.2, rfl, by omega, by omega, bx34, ow34, Ow.nil, fun i _ hi => (by cases hi), fun i hi => (by cases hi), i34, rfl, set34, dc34, t34, Nat.le_refl _, r34⟩, ?_⟩
    rintro m H37 J5 n ⟨j, vl, ls, l2, e2, rfl, hj, rfl, bx37, ow37, ol37, hne, hnl, i37, hlsj, set37, dc37, t37, n37, r37⟩
    have vil : ∀ i, blkOf vi = some i → i < H7.nx := ow.lt
    have nvb37 : ∀ i, blkOf vl = some i → ¬ i = b := fun i hi => (hnl i hi).1
    have nvp37 : ∀ i, blkOf vl = some i → ¬ i = H.nx := ol37.ne_bk bx37 hesU
    refine ⟨_, bx37.ld 1 rfl rfl, dlen_ok dc37 ⟨_, rfl, ?_⟩⟩
    refine ⟨fun c H' => c = (decide (j < D.1.length) && decide (e2 = 0)) ∧ H37 = H', IfB.intro (fun g => ?_) (fun g => ?_), ?_⟩
    · rw [ltI_nat] at g
      refine err_rd i37 ⟨_, rfl, ?_, rfl⟩
      rw [g, eqI_dec, Bool.true_and]
    · rw [ltI_nat] at g
      exact ⟨by rw [g, Bool.false_and], rfl⟩
    rintro _ J6 _ ⟨rfl, rfl⟩
    refine IfB.intro (fun g => ?_) (fun g => ?_)
    · rw [Bool.and_eq_true, decide_eq_true_eq, decide_eq_true_eq] at g
      obtain ⟨g1, rfl⟩ := g
      rcases r37 with ⟨_, r37⟩ | ⟨h0, _⟩
      rotate_left
      · exact absurd rfl h0
      obtain ⟨q2, hq2⟩ : ∃ q2, D.1.length - j = q2 + 1 := ⟨D.1.length - j - 1, by omega⟩
      rw [hq2, lstT_succ] at r37
      refine letUp t37.ok (by omega) fun H52 s52 n52 g52 => ?_
      have i52 := i37.step t37.ok s52 (fun q => q)
      have bx52 := bx37.step t37.ok s52 (fun q => q)
      refine text_rd i52 fun H54 i54 s54 => ⟨_, rfl, ?_⟩
      have bx54 := bx52.step s52.ok s54 hvb
      have ol54 := (ol37.quiet s52).step s54 nvb37
      have ow54 := (ow37.quiet s52).step s54 nvb
      have set54 := (set37.step t37.ok s52 (fun q => q) (fun q => q)).step s52.ok s54 (by omega) (by omega)
      have dc54 := dc37.mono (s52.mo.trans s54.mo)
      refine ⟨vl, bx54.ld 2 rfl ol54.sl.sc, ol54.sl.rf ⟨bx52.ld 2 rfl ol54.sl.sc, ol54.sl.rf ?_⟩⟩
      have r54 := rdst_text (most := 65536) (T := fun s r => if goodB s ids.length = true then lstT ids nn xx D.1 q2 (ls ++ [s]) r else .error 3) r37
      have bl54 := text_len (most := 65536) (l := l2) (e := 0) (by omega) i37.bt
      obtain ⟨B2, hB2⟩ : ∃ B2, rdS (txtS 65536) [] l2 0 = B2 := ⟨_, rfl⟩
      rw [hB2] at i54 r54 bl54 ⊢
      have n54 := s54.nx
      have f54 : H54.m.get (H37.nx + 7) = none := s54.mo.no _ (by omega) ((g52 _).trans (t37.ok _ (by omega)))
      refine fldapp (s52.of.trans s54) (by omega) (by omega) f54 bx54 hesU (by omega) ol54 ol37.lt (by omega) (by simp [room]; omega) (fun v' cells' H60 hc b60 o60 kx60 st60 f60 => ?_) (fun v => ⟨_, rfl⟩)
      cases hc
      have hx : ∀ i, (i = b ∨ i = sp ∨ i = sc) → ¬ (i = H.nx ∨ isB vl i) := by
        rintro i hi (g | g)
        · omega
        · obtain ⟨h1, h2, h3⟩ := hnl i g; omega
      have i60 := i54.kx kx60 (hx b (.inl rfl))
      have ow60 := ow54.kx kx60 (by rintro i hi (g | g); exact nvp i hi g; exact hne i hi g)
      have set60 : SetAt H60 sp sc nn (memI xx) ws := by
        obtain ⟨es, hd⟩ := set54.hd
        exact ⟨⟨es, hd.kx kx60 (hx sp (.inr (.inl rfl)))⟩, set54.ow.kx kx60 (fun i hi => by cases hi; exact hx sc (.inr (.inr rfl))), set54.ne, set54.len, set54.le, set54.lt, set54.mem, set54.out⟩
      have dc60 := dc54.kx kx60
      have o60 : Ow H60 H.nx 1 v' ((ls ++ [B2.1]).map sc1) := by rw [List.map_append]; exact o60
      have hl60 : (ls ++ [B2.1]).length = j + 1 := by rw [List.length_append, List.length_singleton, hlsj]
      have t60 : Stp (fun i => i = b) H H60 := by
        refine ⟨st60.ok, t37.mo.trans st60.mo, fun i hi hg => (st60.gr i (by have := t37.nx; omega) ?_).trans (t37.gr i hi hg)⟩
        rintro (g | g | g)
        · exact hg g
        · omega
        · have := ol37.isB_low i g; omega
      have hne' : ∀ i, blkOf vi = some i → blkOf v' ≠ some i := fun i hi hg => by
        rcases f60 i hg with f | f
        · exact hne i hi f
        · have := vil i hi; omega
      have hnl' : ∀ i, blkOf v' = some i → ¬ i = b ∧ ¬ i = sp ∧ ¬ i = sc := fun i hi => by
        rcases f60 i hi with f | f
        · exact hnl i f
        · omega
      have n60 := st60.nx
      have ewj : wrapF .i64 (Int.ofNat j + 1) = .ofNat (j + 1) := wrap_i64 (x := j + 1) (by omega)
      have fin : ∀ {l3 : List Nat} {e3 : Int} {H' : Hp}, InAt H' b l3 e3 → Stp (fun i => i = b) H60 H' → rdst R e3 (lstT ids nn xx D.1 (D.1.length - (j + 1)) (ls ++ [B2.1]) l3) → ∃ m40, m40 < D.1.length - j ∧ ∃ (j' : Nat) (vl : AV) (ls : List (List Nat)) (l2 : List Nat) (e2 : Int), wrapF .i64 (Int.ofNat j + 1) = .ofNat j' ∧ j' ≤ D.1.length ∧ m40 = D.1.length - j' ∧ Bk H' H.nx [vi, .ptr dp 0, vl, .ptr sp 0] e0 ∧ Ow H' H.nx 1 vi (ids.map sc1) ∧ Ow H' H.nx 1 vl (ls.map sc1) ∧ (∀ i, blkOf vi = some i → blkOf vl ≠ some i) ∧ (∀ i, blkOf vl = some i → ¬ i = b ∧ ¬ i = sp ∧ ¬ i = sc) ∧ InAt H' b l2 e2 ∧ ls.length = j' ∧ SetAt H' sp sc nn (memI xx) ws ∧ DcR H' dp D.1 ∧ Stp (fun i => i = b) H H' ∧ H34.nx ≤ H'.nx ∧ rdst R e2 (lstT ids nn xx D.1 (D.1.length - j') ls l2) := fun {l3 e3 H'} hi s hr =>
        ⟨D.1.length - (j + 1), by omega, j + 1, v', ls ++ [B2.1], l3, e3, ewj, g1, rfl, b60.step t60.ok s hvb, ow60.step s nvb, o60.step s (fun i hi => (hnl' i hi).1), hne', hnl', hi, hl60, set60.step t60.ok s (by omega) (by omega), dc60.mono s.mo, t60.trans s, by have := s.nx; omega, hr⟩
      refine letUp t60.ok (by omega) fun H61 s61 n61 _ => ?_
      refine err_rd (i60.step t60.ok s61 (fun q => q)) ⟨_, rfl, ?_⟩
      have hq2' : D.1.length - (j + 1) = q2 := by omega
      rw [eqI_dec]
      refine IfB.intro (fun z => ?_) (fun z => ?_)
      · have z := of_decide_eq_true z
        have o61 := o60.quiet s61
        have ow61 := ow60.quiet s61
        have bx61 := b60.step t60.ok s61 (fun q => q)
        obtain ⟨p66, o67, f1, f2⟩ := sc_elem o61.sl (j := j) (by omega)
        have hlj : (ls ++ [B2.1])[j]'(by omega) = B2.1 := by
          rw [List.getElem_append_right (by omega)]
          simp
        rw [hlj] at f2
        refine ⟨v', bx61.ld 2 rfl o61.sl.sc, o61.sl.rf ⟨p66, o67, f1, B2.1, f2, vi, bx61.ld 0 rfl ow61.sl.sc, ow61.sl.rf ⟨ids.length, by rw [ow61.sl.len, List.length_map], ?_⟩⟩⟩
        refine good_ok bl54.2 (by have := bl54.1; omega) fun c H72 hc0 hc1 s72 => ⟨_, rfl, ?_⟩
        have hcg : c = goodB B2.1 ids.length := by
          unfold goodB
          cases hd : decS B2.1 with
          | none => exact hc0 hd
          | some l => exact hc1 l hd
        have t72 : Stp (fun i => i = b) H60 H72 := (s61.trans s72).of
        have i72 := i60.step t60.ok (s61.trans s72) (fun q => q)
        rcases r54 with ⟨_, r54⟩ | ⟨h0, _⟩
        rotate_left
        · exact absurd z h0
        refine IfB.intro (fun y => ?_) (fun y => ?_)
        · have y : c = false := by simpa using y
          rw [← hcg, y] at r54
          refine fail_ok i72 fun H75 i75 s75 => ⟨rfl, fin i75 (t72.trans s75) ?_⟩
          rw [z]
          exact .inr ⟨by show (3 : Int) ≠ 0; decide, r54⟩
        · have y : c = true := by simpa using y
          rw [← hcg, y, if_pos rfl] at r54
          exact fin i72 t72 (.inl ⟨z, by rw [hq2']; exact r54⟩)
      · have z := of_decide_eq_false z
        rcases r54 with ⟨h0, _⟩ | r54
        · exact absurd h0 z
        exact fin (i60.step t60.ok s61 (fun q => q)) s61.of (.inr r54)
    · rw [Bool.and_eq_false_iff] at g
      have hj0 : e2 = 0 → j = D.1.length := fun he => by
        rcases g with g | g
        · have := of_decide_eq_false g; omega
        · exact absurd he (of_decide_eq_false g)
      have r38 : rdst R e2 (segT4 ids nn xx D.1 ls l2) := by
        rcases r37 with ⟨h1, h2⟩ | h2
        · refine .inl ⟨h1, ?_⟩
          rw [h2, hj0 h1, Nat.sub_self]
          unfold lstT
          simp only [lstGo, List.append_nil]
        · exact .inr h2
      have fr : ∀ {H' : Hp} {l3 : List Nat} {e3 : Int}, InAt H' b l3 e3 → Stp (fun i => i = b) H37 H' → Bk H' H.nx [vi, .ptr dp 0, vl, .ptr sp 0] e0 ∧ Ow H' H.nx 1 vi (ids.map sc1) ∧ Ow H' H.nx 1 vl (ls.map sc1) ∧ SetAt H' sp sc nn (memI xx) ws ∧ DcR H' dp D.1 ∧ Stp (fun i => i = b) H H' := fun hi s =>
        ⟨bx37.step t37.ok s hvb, ow37.step s nvb, ol37.step s nvb37, set37.step t37.ok s (by omega) (by omega), dc37.mono s.mo, t37.trans s⟩
      refine ⟨fun H' => ∃ l3 e3, InAt H' b l3 e3 ∧ Stp (fun i => i = b) H37 H' ∧ ((e3 = 0 ∧ R = .ok (⟨ids, nn, xx, D.1, ls⟩, l3)) ∨ (e3 ≠ 0 ∧ R = .error e3)), ?_, ?_⟩
      · refine letUp t37.ok (by omega) fun H77 s77 _ _ => ?_
        have i77 := i37.step t37.ok s77 (fun q => q)
        refine err_rd i77 ⟨_, rfl, ?_⟩
        rw [eqI_dec]
        refine IfB.intro (fun z => ?_) (fun z => ?_)
        · have z := of_decide_eq_true z
          subst z
          rcases r38 with ⟨_, r38⟩ | ⟨h0, _⟩
          rotate_left
          · exact absurd rfl h0
          unfold segT4 at r38
          have ow77 := ow37.quiet s77
          have bx77 := bx37.step t37.ok s77 (fun q => q)
          have set77 := set37.step t37.ok s77 (fun q => q) (fun q => q)
          have bad : ∀ {H' : Hp}, InAt H' b l2 0 → Stp (fun i => i = b) H37 H' → ¬ (risesB ids = true ∧ nn = ids.length) → Cal env 100 [.ptr b 0, .int .i64 3] H' fun v H2 => v = .tup [] ∧ ∃ l3 e3, InAt H2 b l3 e3 ∧ Stp (fun i => i = b) H37 H2 ∧ ((e3 = 0 ∧ R = .ok (⟨ids, nn, xx, D.1, ls⟩, l3)) ∨ (e3 ≠ 0 ∧ R = .error e3)) := fun hi s hn => by
            rw [if_neg hn] at r38
            exact fail_ok hi fun H2 i2 s2 => ⟨rfl, _, _, i2, s.trans s2, .inr ⟨by show (3 : Int) ≠ 0; decide, r38⟩⟩
          refine ⟨vi, bx77.ld 0 rfl ow77.sl.sc, ow77.sl.rf ?_⟩
          refine rises_ok (v := vi) (l := ids) (fz := false) ow77.sl (by omega) ⟨_, rfl, ?_⟩
          rw [Bool.not_not]
          refine IfB.intro (fun y => ?_) (fun y => ?_)
          · refine ⟨_, bx77.ld 3 rfl rfl, size_ok set77 ⟨_, rfl, vi, bx77.ld 0 rfl ow77.sl.sc, ow77.sl.rf ⟨bx77.ld 0 rfl ow77.sl.sc, ow77.sl.rf ⟨ids.length, by rw [ow77.sl.len, List.length_map], ?_⟩⟩⟩⟩
            rw [eqI_nat]
            refine IfB.intro (fun x => ?_) (fun x => ?_)
            · have x : ¬ nn = ids.length := by simpa using x
              exact bad i77 s77.of fun q => x q.2
            · have x : nn = ids.length := by simpa using x
              rw [if_pos ⟨y, x⟩] at r38
              exact ⟨l2, 0, i77, s77.of, .inl ⟨rfl, r38⟩⟩
          · exact bad i77 s77.of fun q => by rw [y] at q; cases q.1
        · have z := of_decide_eq_false z
          rcases r38 with ⟨h0, _⟩ | r38
          · exact absurd h0 z
          exact ⟨l2, e2, i77, s77.of, .inr r38⟩
      rintro H95 J7 ⟨l3, e3, i95, s95, r95⟩
      obtain ⟨bx95, ow95, ol95, set95, dc95, t95⟩ := fr i95 s95
      refine err_rd i95 ⟨_, rfl, ?_⟩
      rw [eqI_dec]
      refine IfB.intro (fun z => ?_) (fun z => ?_)
      · have z : ¬ e3 = 0 := by simpa using z
        rcases r95 with ⟨h0, _⟩ | ⟨_, hR'⟩
        · exact absurd h0 z
        exact ⟨[], k0 e3 hR' z l3 H95 i95 t95⟩
      · have z : e3 = 0 := by simpa using z
        subst z
        rcases r95 with ⟨_, hR'⟩ | ⟨h0, _⟩
        rotate_left
        · exact absurd rfl h0
        refine ⟨H.nx :: (blks vi ++ blks vl), k1 _ _ hR' H.nx sp sc _ (i95.frz ?_) ⟨vi, dp, vl, ws, bx95.fk List.mem_cons_self, ow95.sl.frz_any fun i hi => List.mem_cons_of_mem _ (List.mem_append_left _ (mem_blks hi)), dc95.mono (frz_mo _ _), ol95.sl.frz_any fun i hi => List.mem_cons_of_mem _ (List.mem_append_right _ (mem_blks hi)), ?_⟩ (Nat.le_refl _) (by omega) (by omega) (t95.frz ?_)⟩
        · intro hm
          rcases List.mem_cons.1 hm with hm | hm
          · omega
          · rcases List.mem_append.1 hm with hm | hm
            · exact nvb b (blks_mem hm) rfl
            · exact nvb37 b (blks_mem hm) rfl
        · refine set95.frzk (fun hm => ?_) (fun hm => ?_)
          · rcases List.mem_cons.1 hm with hm | hm
            · omega
            · rcases List.mem_append.1 hm with hm | hm
              · have := vil sp (blks_mem hm); omega
              · exact (hnl sp (blks_mem hm)).2.1 rfl
          · rcases List.mem_cons.1 hm with hm | hm
            · omega
            · rcases List.mem_append.1 hm with hm | hm
              · have := vil sc (blks_mem hm); omega
              · exact (hnl sc (blks_mem hm)).2.2 rfl
        · intro i hi
          rcases List.mem_cons.1 hi with hi | hi
          · omega
          · rcases List.mem_append.1 hi with hi | hi
            · exact ow95.blks_low i hi
            · exact ol95.blks_low i hi
end
section
variable {H : Hp} {N : Nat}
theorem SegR.step {p q c : Nat} {s : Seg} {m : Nat → Bool} {H1 : Hp} (h : SegR H p q c s m) (hO : Ok H) (st : Stp noB H H1) : SegR H1 p q c s m := by
  obtain ⟨vi, w, vl, ws, h1, h2, h3, h4, h5⟩ := h
  exact ⟨vi, w, vl, ws, h1.mono st.mo, h2.mono st.mo, h3.mono st.mo, h4.mono st.mo, h5.step hO st (fun q => q) (fun q => q)⟩
theorem smade_ok {p q c : Nat} {s : Seg} {m : Nat → Bool} (h : SegR H p q c s m) {Q : AV → Hp → Prop} (k : Q (.bool true) H) : Cal env 63 [.ptr p 0] H Q := by
  refine s63 ?_
  unfold S63
  obtain ⟨vi, w, vl, ws, h1, h2, h3, h4, h5⟩ := h
  rw [eqM_pn]
  refine ⟨fun c H' => c = true ∧ H = H', ⟨_, h1.ld 1 rfl rfl, by rw [eqM_pn]; exact ⟨rfl, rfl⟩⟩, ?_⟩
  rintro _ J _ ⟨rfl, rfl⟩
  exact k
theorem ssize_ok {p q c : Nat} {s : Seg} {m : Nat → Bool} (h : SegR H p q c s m) {Q : AV → Hp → Prop} (k : Q (.int .i64 (.ofNat s.ids.length)) H) : Cal env 18 [.ptr p 0] H Q := by
  refine s18 ?_
  unfold S18
  refine smade_ok h ⟨_, rfl, IfB.intro (fun q => by cases q) (fun _ => ?_)⟩
  obtain ⟨vi, w, vl, ws, h1, h2, h3, h4, h5⟩ := h
  exact ⟨vi, h1.ld 0 rfl h2.sc, _, h2.len, k⟩
theorem slive_ok {p q c : Nat} {s : Seg} {m : Nat → Bool} (h : SegR H p q c s m) {Q : AV → Hp → Prop} (k : ∀ H', Stp noB H H' → Q (.int .i64 (.ofNat (cntM m s.n))) H') : Cal env 19 [.ptr p 0] H Q := by
  refine s19 ?_
  unfold S19
  refine smade_ok h ⟨_, rfl, IfB.intro (fun q => by cases q) (fun _ => ?_)⟩
  obtain ⟨vi, w, vl, ws, h1, h2, h3, h4, h5⟩ := h
  exact ⟨_, h1.ld 3 rfl rfl, count_ok h5 fun H' st => ⟨_, rfl, k H' st⟩⟩
theorem sset_ok {p q c : Nat} {s : Seg} {m : Nat → Bool} (h : SegR H p q c s m) {Q : AV → Hp → Prop} (k : ∀ b' c' ws' H', SetAt H' b' c' s.n m ws' → H.nx ≤ b' → H.nx ≤ c' → Stp noB H H' → Q (.ptr b' 0) H') : Cal env 22 [.ptr p 0] H Q := by
  refine s22 ?_
  unfold S22
  refine smade_ok h ⟨_, rfl, IfB.intro (fun q => by cases q) (fun _ => ?_)⟩
  obtain ⟨vi, w, vl, ws, h1, h2, h3, h4, h5⟩ := h
  exact ⟨_, h1.ld 3 rfl rfl, clone_ok h5 fun b' c' ws' H' a1 a2 a3 a4 => ⟨_, rfl, k b' c' ws' H' a1 a2 a3 a4⟩⟩
def txtsB : List (List Nat) → List Nat
  | [] => []
  | s :: l => txtB s ++ txtsB l
theorem txtsB_snoc : ∀ (l : List (List Nat)) (s : List Nat), txtsB (l ++ [s]) = txtsB l ++ txtB s
  | [], s => by simp [txtsB]
  | x :: l, s => by rw [List.cons_append, txtsB, txtsB, txtsB_snoc l s, List.append_assoc]
theorem txtsB_len {k : Nat} (hk : k < 9223372036854775808) : ∀ (l : List (List Nat)), (∀ s ∈ l, s.length ≤ k) → (txtsB l).length ≤ (k + 9) * l.length
  | [], _ => by simp [txtsB]
  | x :: l, h => by
    have h1 := txtsB_len hk l fun s hs => h s (List.mem_cons_of_mem _ hs)
    have h2 := h x List.mem_cons_self
    have h3 := numB_len9 x.length (by omega)
    rw [txtsB, List.length_append, List.length_cons, Nat.mul_add, Nat.mul_one]
    unfold txtB
    rw [List.length_append]
    omega
structure SegOk (s : Seg) : Prop where
  ids : s.ids.length ≤ 4096 ∧ ∀ w ∈ s.ids, w.length ≤ 12 ∧ ∀ b ∈ w, b < 256
  wd : gdW [] s.words ∧ s.words.length ≤ 16384
  ls : s.lists.length ≤ 16384 ∧ ∀ w ∈ s.lists, w.length ≤ 65536 ∧ ∀ b ∈ w, b < 256
def segB (s : Seg) (m : Nat → Bool) : List Nat := numB s.ids.length ++ (txtsB s.ids ++ (setB m s.n ++ (dicB s.words ++ txtsB s.lists)))
theorem setB_len (m : Nat → Bool) {n : Nat} (hn : n ≤ 65536) : (setB m n).length ≤ 700000 := by
  unfold setB
  rw [List.length_append]
  have h1 := numB_len9 n (by omega)
  have h2 := memL_len m n
  have h3 := risB_len (l := (memL m n).map fun (j : Nat) => (j : Int)) (fun x hx => by
    obtain ⟨j, hj, rfl⟩ := List.mem_map.1 hx
    have : j < n := by unfold memL at hj; exact List.mem_range.1 (List.mem_filter.1 hj).1
    omega) (by rw [List.length_map]; omega)
  rw [List.length_map] at h3
  omega
theorem sbytes_ok (hG : GlOk H) {p q c : Nat} {s : Seg} {m : Nat → Bool} (h : SegR H p q c s m) (hs : SegOk s) {Q : AV → Hp → Prop} (k : ∀ v H', Ob H' H.nx v (segB s m) → Stp noB H H' → Q v H') : Cal env 28 [.ptr p 0] H Q := by
  refine Cal.start fun hO => s28 ?_
  unfold S28
  obtain ⟨hi1, hi2⟩ := hs.ids
  obtain ⟨hw1, hw2⟩ := hs.wd
  obtain ⟨hl1, hl2⟩ := hs.ls
  refine ssize_ok h ⟨_, rfl, num_ok (l := []) (Sl.nil (fz := true)) (fun _ h => by cases h) (by simp) (by simp only [Int.ofNat_eq_natCast]; omega) fun v5 H4 o5 s4 => ⟨_, rfl, ?_⟩⟩
  have e0 : [] ++ numB (Int.ofNat s.ids.length).toNat = numB s.ids.length := rfl
  rw [e0] at o5
  have h4 := h.step hO s4
  have hn9 := numB_len9 s.ids.length (by omega)
  refine ssize_ok h4 ⟨_, rfl, ?_⟩
  refine ⟨fun m v n H' => ∃ i, n = .ofNat i ∧ i ≤ s.ids.length ∧ m = s.ids.length - i ∧ Ob H' H.nx v (numB s.ids.length ++ txtsB (s.ids.take i)) ∧ Stp noB H H',
    ⟨s.ids.length, 0, rfl, by omega, by omega, by rw [List.take_zero, txtsB, List.append_nil]; exact o5, s4⟩, ?_⟩
  rintro mm H11 J v13 _ ⟨i, rfl, hi, rfl, ob, st⟩
  have tl : (txtsB (s.ids.take i)).length ≤ 21 * i := by
    have := txtsB_len (k := 12) (by omega) (s.ids.take i) fun w hw => (hi2 w (List.mem_of_mem_take hw)).1
    rw [List.length_take] at this
    omega
  have h11 := h.step hO st
  refine IfB.intro (fun z => ?_) (fun z => ?_)
  · rw [ltI_nat] at z
    have z : i < s.ids.length := of_decide_eq_true z
    obtain ⟨vi, w, vl, ws, a1, a2, a3, a4, a5⟩ := h11
    obtain ⟨p20, o21, g1, g2⟩ := sc_elem a2.sl z
    obtain ⟨b1, b2⟩ := hi2 s.ids[i] (List.getElem_mem z)
    refine ⟨vi, a1.ld 0 rfl a2.sc, p20, o21, g1, s.ids[i], g2, text_ok ob.ow.sl ob.lt b2 (by rw [List.length_append]; omega) fun v25 H24 o25 s24 => ⟨_, rfl, s.ids.length - (i + 1), by omega, i + 1, wrap_i64 (x := i + 1) (by omega), z, rfl, ?_, st.trans s24⟩⟩
    rw [take_snoc z, txtsB_snoc, ← List.append_assoc]
    exact ⟨o25.ow.low st.nx, o25.lt⟩
  · rw [ltI_nat] at z
    have z : i = s.ids.length := by have := of_decide_eq_false z; omega
    subst z
    rw [List.take_length] at ob tl
    refine sset_ok h11 fun b' c' ws' H27 set27 _ _ s27 => ⟨_, rfl, setbytes_ok (hG.mono (st.mo.trans s27.mo)) set27 fun v31 H30 o31 s30 => ⟨_, rfl, ?_⟩⟩
    have set5 := set27.le
    have sl5 := setB_len m set5
    have t30 := s27.trans s30
    have ob30 := ob.ow.quiet t30
    have nst := st.nx
    have n30 := t30.nx
    refine ob30.appS t30.ok (by omega) o31.ow.sl (by simp [room]; omega) (by decide) fun v32 H33 o33 s33 f33 => ?_
    have st33 : Stp noB H H33 := (st.trans t30).then s33 fun i hi => ob30.isB_low i hi
    have h33 := h.step hO st33
    refine smade_ok h33 ⟨_, rfl, IfB.intro (fun q => by cases q) (fun _ => ?_)⟩
    obtain ⟨vi, w, vl, ws, a1, a2, a3, a4, a5⟩ := h33
    refine ⟨_, a1.ld 1 rfl rfl, dbytes_ok a3 hw1 hw2 fun v46 H45 o46 s45 => ⟨_, rfl, ?_⟩⟩
    have dl : (dicB s.words).length ≤ 9 + 100 * 16384 := by
      unfold dicB
      rw [List.length_append]
      have d1 := numB_len9 s.words.length (by omega)
      have d2 := blkB_len s.words [] (gdW_all hw1)
      omega
    have ob45 := o33.quiet s45
    have n33 := s33.nx
    have n45 := s45.nx
    refine ob45.appS s45.ok (by omega) o46.ow.sl (by simp [room]; omega) (by decide) fun v47 H48 o48 s48 f48 => ?_
    have t48 : Stp noB H H48 := (st33.trans s45).then s48 fun i hi => ob45.isB_low i hi
    have a1' := (a1.mono s45.mo).mono s48.mo
    have a4' := (a4.mono s45.mo).mono s48.mo
    have ob48 : Ob H48 H.nx v47 (numB s.ids.length ++ (txtsB s.ids ++ (setB m s.n ++ dicB s.words))) := by
      refine ⟨?_, fun b hb => ?_⟩
      · have := o48
        rw [← List.map_append, ← List.map_append] at this
        simp only [List.append_assoc] at this
        exact this
      · rcases List.mem_append.1 hb with hb | hb
        · exact ob.lt b (List.mem_append_left _ hb)
        · rcases List.mem_append.1 hb with hb | hb
          · exact ob.lt b (List.mem_append_right _ hb)
          · rcases List.mem_append.1 hb with hb | hb
            · exact o31.lt b hb
            · exact o46.lt b hb
    refine ⟨vl, a1'.ld 2 rfl a4.sc, _, a4'.len, ?_⟩
    refine ⟨fun mm v n H' => ∃ i, n = .ofNat i ∧ i ≤ s.lists.length ∧ mm = s.lists.length - i ∧ Ob H' H.nx v ((numB s.ids.length ++ (txtsB s.ids ++ (setB m s.n ++ dicB s.words))) ++ txtsB (s.lists.take i)) ∧ Stp noB H H' ∧ Stp noB H48 H',
      ⟨s.lists.length, 0, rfl, by omega, by omega, by rw [List.take_zero, txtsB, List.append_nil]; exact ob48, t48, Stp.refl t48.ok⟩, ?_⟩
    rintro mm H56 J2 v58 _ ⟨i, rfl, hi, rfl, ob56, st56, s56⟩
    have tl2 : (txtsB (s.lists.take i)).length ≤ 65545 * i := by
      have := txtsB_len (k := 65536) (by omega) (s.lists.take i) fun w hw => (hl2 w (List.mem_of_mem_take hw)).1
      rw [List.length_take] at this
      omega
    refine IfB.intro (fun z => ?_) (fun z => ?_)
    · rw [ltI_nat] at z
      have z : i < s.lists.length := of_decide_eq_true z
      obtain ⟨p20, o21, g1, g2⟩ := sc_elem (a4'.mono s56.mo).sl z
      obtain ⟨b1, b2⟩ := hl2 s.lists[i] (List.getElem_mem z)
      refine ⟨p20, o21, g1, s.lists[i], g2, text_ok ob56.ow.sl ob56.lt b2 (by simp only [List.length_append]; omega) fun v25 H24 o25 s24 => ⟨_, rfl, s.lists.length - (i + 1), by omega, i + 1, wrap_i64 (x := i + 1) (by omega), z, rfl, ?_, st56.trans s24, s56.trans s24⟩⟩
      rw [take_snoc z, txtsB_snoc, ← List.append_assoc]
      exact ⟨o25.ow.low st56.nx, o25.lt⟩
    · rw [ltI_nat] at z
      have z : i = s.lists.length := by have := of_decide_eq_false z; omega
      subst z
      rw [List.take_length] at ob56
      refine k v58 H56 ?_ st56
      unfold segB
      simp only [List.append_assoc] at ob56
      exact ob56
end
section
variable {H : Hp} {N : Nat}
theorem risP_up {top : Int} : ∀ {xs : List Int} {last : Int}, risP top last xs → ∀ x ∈ xs, last < x := fun h x hx => (risP_mem h x hx).1
theorem sorted_ext {top : Int} : ∀ {xs ys : List Int} {a b : Int}, risP top a xs → risP top b ys → (∀ x, x ∈ xs ↔ x ∈ ys) → xs = ys
  | [], [], _, _, _, _, _ => rfl
  | [], y :: ys, _, _, _, _, h => by have := (h y).2 List.mem_cons_self; cases this
  | x :: xs, [], _, _, _, _, h => by have := (h x).1 List.mem_cons_self; cases this
  | x :: xs, y :: ys, a, b, hx, hy, h => by
    have h1 := risP_up hx.2.2
    have h2 := risP_up hy.2.2
    have e : x = y := by
      rcases List.mem_cons.1 ((h x).1 List.mem_cons_self) with g | g
      · exact g
      · rcases List.mem_cons.1 ((h y).2 List.mem_cons_self) with k | k
        · exact k.symm
        · have := h1 y k; have := h2 x g; omega
    subst e
    congr 1
    refine sorted_ext hx.2.2 hy.2.2 fun z => ⟨fun hz => ?_, fun hz => ?_⟩
    · rcases List.mem_cons.1 ((h z).1 (List.mem_cons_of_mem _ hz)) with g | g
      · have := h1 z hz; omega
      · exact g
    · rcases List.mem_cons.1 ((h z).2 (List.mem_cons_of_mem _ hz)) with g | g
      · have := h2 z hz; omega
      · exact g
theorem risP_snoc {top : Int} : ∀ {xs : List Int} {last x : Int}, risP top last xs → (∀ y ∈ xs, y < x) → last < x → x ≤ top → risP top last (xs ++ [x])
  | [], _, _, _, _, h1, h2 => ⟨h1, h2, trivial⟩
  | y :: xs, last, x, h, hx, h1, h2 => ⟨h.1, h.2.1, risP_snoc h.2.2 (fun z hz => hx z (List.mem_cons_of_mem _ hz)) (hx y List.mem_cons_self) h2⟩
theorem memL_succ (m : Nat → Bool) (n : Nat) : memL m (n + 1) = if m n = true then memL m n ++ [n] else memL m n := by
  unfold memL
  rw [List.range_succ, List.filter_append]
  split
  · rename_i h; simp [h]
  · rename_i h; simp [h]
theorem memL_ris (m : Nat → Bool) : ∀ (n : Nat), risP ((n : Int) - 1) (-1) ((memL m n).map fun (j : Nat) => (j : Int)) := fun n => by
  have key : ∀ (n : Nat) (top : Int), (n : Int) - 1 ≤ top → risP top (-1) ((memL m n).map fun (j : Nat) => (j : Int)) := fun n => by
    induction n with
    | zero => intro top _; exact trivial
    | succ n ih =>
      intro top h
      rw [memL_succ]
      split
      · rw [List.map_append]
        show risP top (-1) (_ ++ [((n : Nat) : Int)])
        refine risP_snoc (ih top (by omega)) (fun y hy => ?_) (by omega) (by omega)
        obtain ⟨j, hj, rfl⟩ := List.mem_map.1 hy
        unfold memL at hj
        have := List.mem_range.1 (List.mem_filter.1 hj).1
        show ((j : Nat) : Int) < ((n : Nat) : Int)
        omega
      · exact ih top (by omega)
  exact key n _ (Int.le_refl _)
theorem risP_top {a b : Int} : ∀ {xs : List Int} {last : Int}, risP a last xs → a ≤ b → risP b last xs
  | [], _, _, _ => trivial
  | _ :: _, _, h, q => ⟨h.1, Int.le_trans h.2.1 q, risP_top h.2.2 q⟩
theorem memL_memI {n : Nat} {xs : List Int} (h : risP (max ((n : Int) - 1) (-1)) (-1) xs) : (memL (memI xs) n).map (fun (j : Nat) => (j : Int)) = xs := by
  refine sorted_ext (risP_top (memL_ris _ n) (Int.le_max_left _ _)) h fun x => ⟨fun hx => ?_, fun hx => ?_⟩
  · obtain ⟨j, hj, rfl⟩ := List.mem_map.1 hx
    unfold memL at hj
    exact of_decide_eq_true (List.mem_filter.1 hj).2
  · obtain ⟨h1, h2⟩ := risP_mem h x hx
    refine List.mem_map.2 ⟨x.toNat, ?_, by omega⟩
    unfold memL
    refine List.mem_filter.2 ⟨List.mem_range.2 (by omega), ?_⟩
    unfold memI
    rw [show ((x.toNat : Nat) : Int) = x by omega]
    exact decide_eq_true hx
theorem set_bsS {l r : List Nat} {n : Nat} {xs : List Int} (h : bsS l = .ok ((n, xs), r)) (hl : ∀ b ∈ l, b < 256) : l = setB (memI xs) n ++ r ∧ n ≤ 65536 ∧ risP (max ((n : Int) - 1) (-1)) (-1) xs := by
  unfold bsS at h
  split at h
  · cases h
  · rename_i k q hk
    split at h
    · cases h
    · rename_i ys r2 hy
      simp only [Except.ok.injEq, Prod.mk.injEq] at h
      obtain ⟨⟨rfl, rfl⟩, rfl⟩ := h
      have e1 := num_numS hk hl
      obtain ⟨g1, g2, g3⟩ := ris_risS hy (app_lt (e1 ▸ hl))
      refine ⟨?_, by have := (numS_lt hk).1; omega, g2⟩
      unfold setB
      rw [memL_memI g2, List.append_assoc, ← g1]
      exact e1
theorem txt_txsGo {most : Int} : ∀ {n : Nat} {l r : List Nat} {xs : List (List Nat)}, txsGo most n l = .ok (xs, r) → (∀ b ∈ l, b < 256) → l = txtsB xs ++ r ∧ xs.length = n ∧ ∀ w ∈ xs, (w.length : Int) ≤ most ∧ ∀ b ∈ w, b < 256
  | 0, l, r, xs, h, _ => by
    simp only [txsGo, Except.ok.injEq, Prod.mk.injEq] at h
    obtain ⟨rfl, rfl⟩ := h
    exact ⟨rfl, rfl, fun _ h => by cases h⟩
  | n + 1, l, r, xs, h, hl => by
    rw [txsGo] at h
    split at h
    · cases h
    · rename_i s q hs
      split at h
      · cases h
      · rename_i ys r2 hy
        simp only [Except.ok.injEq, Prod.mk.injEq] at h
        obtain ⟨rfl, rfl⟩ := h
        obtain ⟨e1, e2⟩ := txt_txtS hs hl
        have hq : ∀ b ∈ q, b < 256 := app_lt (e1 ▸ hl)
        obtain ⟨g1, g2, g3⟩ := txt_txsGo hy hq
        refine ⟨by rw [txtsB, List.append_assoc, ← g1]; exact e1, by simp [g2], fun w hw => ?_⟩
        rcases List.mem_cons.1 hw with rfl | hw
        · exact ⟨e2, fun b hb => hl b (by rw [e1]; unfold txtB; simp [hb])⟩
        · exact g3 w hw
theorem txt_lstGo {cnt : Nat} : ∀ {n : Nat} {l r : List Nat} {xs : List (List Nat)}, lstGo cnt n l = .ok (xs, r) → (∀ b ∈ l, b < 256) → l = txtsB xs ++ r ∧ xs.length = n ∧ ∀ w ∈ xs, (w.length ≤ 65536 ∧ ∀ b ∈ w, b < 256) ∧ goodB w cnt = true
  | 0, l, r, xs, h, _ => by
    simp only [lstGo, Except.ok.injEq, Prod.mk.injEq] at h
    obtain ⟨rfl, rfl⟩ := h
    exact ⟨rfl, rfl, fun _ h => by cases h⟩
  | n + 1, l, r, xs, h, hl => by
    rw [lstGo] at h
    split at h
    · cases h
    · rename_i s q hs
      split at h
      · rename_i hg
        split at h
        · cases h
        · rename_i ys r2 hy
          simp only [Except.ok.injEq, Prod.mk.injEq] at h
          obtain ⟨rfl, rfl⟩ := h
          obtain ⟨e1, e2⟩ := txt_txtS hs hl
          have hq : ∀ b ∈ q, b < 256 := app_lt (e1 ▸ hl)
          obtain ⟨g1, g2, g3⟩ := txt_lstGo hy hq
          refine ⟨by rw [txtsB, List.append_assoc, ← g1]; exact e1, by simp [g2], fun w hw => ?_⟩
          rcases List.mem_cons.1 hw with rfl | hw
          · exact ⟨⟨by omega, fun b hb => hl b (by rw [e1]; unfold txtB; simp [hb])⟩, hg⟩
          · exact g3 w hw
      · cases h
theorem seg_segS {l r : List Nat} {s : Seg} (h : segS l = .ok (s, r)) (hl : ∀ b ∈ l, b < 256) : l = segB s (memI s.xs) ++ r ∧ SegOk s ∧ s.n = s.ids.length := by
  unfold segS at h
  split at h
  · cases h
  · rename_i n q0 hn
    split at h
    · cases h
    · rename_i ids q1 hi
      unfold segT1 at h
      split at h
      · cases h
      · rename_i x q2 hb
        unfold segT2 at h
        split at h
        · cases h
        · rename_i wd q3 hd
          unfold segT3 at h
          split at h
          · cases h
          · rename_i ls q4 hls
            unfold segT4 at h
            split at h
            · rename_i hc
              simp only [Except.ok.injEq, Prod.mk.injEq] at h
              obtain ⟨rfl, rfl⟩ := h
              obtain ⟨nn, xs⟩ := x
              have e0 := num_numS hn hl
              have l0 : ∀ b ∈ q0, b < 256 := app_lt (e0 ▸ hl)
              obtain ⟨e1, f1, g1⟩ := txt_txsGo hi l0
              have l1 : ∀ b ∈ q1, b < 256 := app_lt (e1 ▸ l0)
              obtain ⟨e2, f2, _⟩ := set_bsS hb l1
              have l2 : ∀ b ∈ q2, b < 256 := app_lt (e2 ▸ l1)
              obtain ⟨e3, f3, g3⟩ := dic_dicS hd l2
              have l3 : ∀ b ∈ q3, b < 256 := app_lt (e3 ▸ l2)
              obtain ⟨e4, f4, g4⟩ := txt_lstGo hls l3
              have hn4 := (numS_lt hn).1
              refine ⟨?_, ⟨⟨by simp only; omega, fun w hw => ⟨by have := (g1 w hw).1; omega, (g1 w hw).2⟩⟩, ⟨f3, g3⟩, ⟨by simp only; omega, fun w hw => (g4 w hw).1⟩⟩, hc.2⟩
              unfold segB
              simp only [List.append_assoc]
              rw [← e4, ← e3, ← e2, ← e1, f1]
              exact e0
            · cases h
end
section
variable {H : Hp} {N : Nat}
theorem bequal_ok {u v : AV} {a b : List Nat} {fa fb : Bool} (hu : Sl H 1 u (a.map by8) fa) (ha : ∀ x ∈ a, x < 256) (hv : Sl H 1 v (b.map by8) fb) (hb : ∀ x ∈ b, x < 256) {Q : AV → Hp → Prop} (k : Q (.bool (eqL a b)) H) : Cal env 27 [u, v] H Q := by
  refine s27 ?_
  unfold S27
  exact ⟨a, toStr_bt hu ha, b, toStr_bt hv hb, k⟩
theorem eqL_refl (a : List Nat) : eqL a a = true := by rw [eqL_eq]; simp
theorem segAny_ok (hG : GlOk H) (haw : ∀ H', Mo H H' → ∀ Q : AV → Hp → Prop, (Ok H' → Q (.bool true) H') → Cal env 13 [] H' Q) {a : AV} {b : List Nat} {fz : Bool} (hv : Sl H 1 a (b.map by8) fz) (hb : ∀ x ∈ b, x < 256) : Cal env 6 [a] H fun v _ => v = .bool true := by
  refine Cal.start fun hO => s6 ?_
  unfold S6
  have hlen : lenS a = some b.length := by rw [hv.len, List.length_map]
  refine ⟨b.length, hlen, ?_⟩
  rw [show (4096 : Int) = .ofNat 4096 from rfl, ltI_nat]
  refine IfB.intro (fun _ => haw H (Mo.refl _) _ fun _ => ⟨_, rfl, rfl⟩) (fun z => ?_)
  have z : b.length ≤ 4096 := by have := of_decide_eq_false z; omega
  refine read_ok hv hb (by omega) fun r H5 i5 lo5 s5 => ⟨_, rfl, sread_ok i5 (fun f hf hf0 l' H8 i8 s8 => ⟨_, rfl, ?_⟩) (fun s rr hs p q c H8 i8 sg8 lop loq loc s8 => ⟨_, rfl, ?_⟩)⟩
  · rw [eqM_nn]
    refine err_rd i8 ⟨_, rfl, ?_⟩
    rw [eqI_dec, decide_eq_false hf0]
    refine ⟨fun c H' => c = true, haw H8 (s5.mo.trans s8.mo) _ fun _ => ⟨_, rfl, rfl⟩, ?_⟩
    rintro H18 J _ rfl
    rfl
  · rw [eqM_pn]
    obtain ⟨hseg, hok, hnn⟩ := seg_segS hs hb
    have hr5 := i5.lt s5.ok
    have hv8 : Sl H8 1 a (b.map by8) fz := (hv.quiet hO s5).step s5.ok s8 fun i hi g => by
      rcases hv.at_ with ⟨rfl, _⟩ | ⟨b', o, c', e', bl, rfl, _, h3, _⟩
      · cases hi
      · cases hi
        have := hO.lt h3
        omega
    refine err_rd i8 ⟨_, rfl, ?_⟩
    rw [eqI_dec]
    have g8 := hG.mono (s5.mo.trans s8.mo)
    refine ⟨fun c H' => c = true ∧ Stp noB H8 H', ?_, ?_⟩
    · refine sbytes_ok g8 sg8 hok fun v27 H26 o27 s26 => ⟨_, rfl, b.length, hlen, left_rd (i8.step s8.ok s26 (fun q => q)) ⟨_, rfl, ?_⟩⟩
      have hle : rr.length ≤ b.length := by rw [hseg, List.length_append]; omega
      have ew : wrapF .i64 (Int.ofNat b.length - Int.ofNat rr.length) = .ofNat (b.length - rr.length) := subN hle (by omega)
      rw [ew]
      have hv26 := hv8.quiet s8.ok s26
      obtain ⟨v32, e32, sl32, _⟩ := hv26.cut (lo := 0) (hi := b.length - rr.length) (olo := none) (ohi := some (.int .i64 (.ofNat (b.length - rr.length)))) (omx := none) (.inl rfl) (.inl ⟨_, rfl⟩) (.inr ⟨rfl, rfl⟩) (by omega) (by rw [List.length_map]; omega)
      refine ⟨v32, e32, ?_⟩
      have et : ((b.map by8).drop 0).take (b.length - rr.length - 0) = (segB s (memI s.xs)).map by8 := by
        rw [List.drop_zero, Nat.sub_zero, ← List.map_take]
        congr 1
        conv => lhs; rw [hseg]
        rw [List.length_append, Nat.add_sub_cancel, List.take_left' rfl]
      rw [et] at sl32
      refine bequal_ok o27.ow.sl o27.lt sl32 o27.lt ⟨_, rfl, eqL_refl _, s26⟩
    rintro H36 J _ ⟨rfl, s36⟩
    have sg36 := sg8.step s8.ok s36
    refine ⟨fun c H' => c = true ∧ Mo H8 H', ?_, ?_⟩
    · refine slive_ok sg36 fun H41 s41 => ⟨_, rfl, ssize_ok (sg36.step s36.ok s41) ⟨_, rfl, ?_, s36.mo.trans s41.mo⟩⟩
      rw [ltI_nat]
      have := cnt_le (memI s.xs) s.n
      rw [decide_eq_false (by omega)]
      rfl
    rintro H46 J2 _ ⟨rfl, m46⟩
    refine ⟨fun c H' => c = true, haw H46 ((s5.mo.trans s8.mo).trans m46) _ fun _ => ⟨_, rfl, rfl⟩, ?_⟩
    rintro H53 J3 _ rfl
    rfl
end
section
variable {H : Hp}
theorem law_ok {a : AV} {b : List Nat} {fz : Bool} (hL : LaidZ laidLit H) (hv : Sl H 1 a (b.map by8) fz) (hb : ∀ x ∈ b, x < 256) : Cal env 6 [a] H fun v _ => v = .bool true :=
  segAny_ok hL (fun H' m Q k => cal_closed (L := laidLit) rfl rfl (hL.mono m).laid k) hv hb
end
end Go.Proofs.YtgfcgkbbmcgjmaaGreatDoor.Eng
