/- The engine, part Ev: what is said of code, and that it comes true. -/
import Derived.Test.YtdokohdkdoiclaaGreatDoorEe
import Derived.Lib.Bytealg
namespace Go.Proofs.YtdokohdkdoiclaaGreatDoor.Eng
set_option linter.unusedVariables false
set_option linter.unusedSimpArgs false
/-! ### the engine: a closed run that is known is given -/
section
variable {P : Program}
def flatV : AV → Bool
  | .bool _ => true
  | .int _ _ => true
  | .str _ => true
  | _ => false
theorem VR.flat {σ σ' : Sg} {a : AV} {v : Value} (h : VR σ a v) (hf : flatV a = true) : VR σ' a v := by
  cases h <;> first | (constructor; done) | cases hf
theorem start_rel2 {w : World} {G : Nat} {L : List (Nat × List AV)} (h : ∀ x ∈ L, x.1 < G ∧ ∃ cs t fr, w.heap[x.1]? = some (Obj.cells cs t fr) ∧ x.2.length ≤ cs.size ∧ ∀ (j : Nat) (a : AV), x.2[j]? = some a → ∃ v, cs[j]? = some v ∧ VR (startS G) a v) : Rel G (startS G) (startH G L) w := by
  refine ⟨fun i l e => ?_, Nat.le_refl _, fun g hg => ⟨0, if_pos hg⟩, fun i bl e => ?_, fun i j bi bj li lj hi hj h1 h2 h3 h4 => ?_⟩
  · unfold startS at e
    split at e
    · assumption
    · cases e
  · obtain ⟨l, hm, rfl⟩ := start_get L i bl e
    obtain ⟨hg, cs, t, fr, hw, hl, hv⟩ := h _ hm
    refine ⟨⟨i, 0, 0⟩, cs, t, fr, if_pos hg, hw, ?_, fun j a ha _ => ?_, fun q => (by cases q), fun q => (by cases q), fun t ht => (by simp only [tagN] at ht; omega)⟩
    · simp only at hl ⊢
      omega
    · obtain ⟨v, g1, g2⟩ := hv j a ha
      exact ⟨v, by simpa using g1, g2⟩
  · obtain ⟨l, _, rfl⟩ := start_get L i bi hi
    cases h4
theorem closed_ok {L : List (Nat × List AV)} {f : Nat} {call : Ans} {H1 : Hp} (hflat : (L.all fun p => p.2.all flatV && Nat.blt p.1 P.globals.size) = true) (hcall : CallOK P call) (hrun : call f [] (startH P.globals.size L) = some (.bool true, H1))
    (args : List AV) (H : Hp) (v : AV) (H' : Hp) (h : closedA L args H = some (v, H')) (σ : Sg) (w : World) (vs : Array Value) (hR : Rel P.globals.size σ H w) (hv : VRs σ args vs.toList) : CallR P f vs w (End P σ H w v H') := by
  unfold closedA at h
  match args, h, hv with
  | [], h, hv =>
    simp only at h
    split at h
    · rename_i hL
      cases h
      have hvs : vs = #[] := Array.ext' (by cases hq : vs.toList with | nil => rfl | cons a l => rw [hq] at hv; cases hv)
      subst hvs
      have hrel : Rel P.globals.size (startS P.globals.size) (startH P.globals.size L) w := by
        refine start_rel2 fun x hx => ?_
        have hf := List.all_eq_true.1 hflat x hx
        rw [Bool.and_eq_true] at hf
        have hg : x.1 < P.globals.size := by have := hf.2; rwa [Nat.blt_eq] at this
        obtain ⟨es, rw_, he⟩ := hL x hx
        obtain ⟨r, hr⟩ := hR.gl x.1 hg
        obtain ⟨l, cs, ty, fr, g1, g2, g3, g4, _⟩ := hR.blk x.1 _ he
        rw [hr] at g1
        cases g1
        refine ⟨hg, cs, ty, fr, g2, by simp only at g3; omega, fun j a ha => ?_⟩
        have hfa := List.all_eq_true.1 hf.1 a (List.mem_of_getElem? ha)
        have hsc : a.sc = true := by cases a <;> first | rfl | cases hfa
        obtain ⟨v, e1, e2⟩ := g4 j a ha hsc
        exact ⟨v, by simpa using e1, e2.flat hfa⟩
      have fin : ∀ e w', End P (startS P.globals.size) (startH P.globals.size L) w (.bool true) H1 e w' → End P σ H w (.bool true) H e w' := by
        rintro e w' ⟨σ', v', rfl, hv', _, hf⟩
        cases hv'
        obtain ⟨k1, k2, k3, k4, k5⟩ := start_keeps hf
        refine ⟨σ, _, rfl, .bool true, ⟨hR.lt, hR.nx, hR.gl, fun i bl e => ?_, hR.inj⟩, ⟨Ext.refl _, k1, k2, k3, k4, fun k hk _ => k5 k hk, fun k h => .inr h, Nat.le_refl _, fun _ _ => rfl, fun _ _ h _ => h⟩⟩
        obtain ⟨l, cs, ty, fr, g1, g2, rest⟩ := hR.blk i bl e
        exact ⟨l, cs, ty, fr, g1, (k5 l.blk (Array.getElem?_eq_some_iff.1 g2).1).trans g2, rest⟩
      rcases hcall f [] _ _ _ hrun (startS P.globals.size) w #[] hrel .nil with ⟨he, hc⟩ | ⟨v, w', h1, h2⟩
      · exact .inl ⟨he, hc.mono (fun e w' hE => fin e w' hE)⟩
      · exact .inr ⟨v, w', h1, fin _ _ h2⟩
    · cases h
  | _ :: _, h, hv => cases h
/-! what the library's own functions answer -/
theorem cmp_eqN : ∀ (a b : List UInt8), Lib.compareBytes a b = cmpN (a.map (·.toNat)) (b.map (·.toNat))
  | [], [] => rfl
  | [], _ :: _ => rfl
  | _ :: _, [] => rfl
  | x :: a, y :: b => by
    have ih := cmp_eqN a b
    unfold Lib.compareBytes cmpN
    simp only [List.map_cons, ltL, eqL]
    unfold cmpN at ih
    by_cases h1 : x < y
    · have h2 : x.toNat < y.toNat := h1
      rw [if_pos h1, show Nat.blt x.toNat y.toNat = true by rw [Nat.blt_eq]; exact h2]
    · have h2 : ¬ x.toNat < y.toNat := h1
      have hb : Nat.blt x.toNat y.toNat = false := by
        cases hq : Nat.blt x.toNat y.toNat with
        | true => rw [Nat.blt_eq] at hq; exact absurd hq h2
        | false => rfl
      rw [if_neg h1, hb]
      by_cases h3 : y < x
      · have h4 : y.toNat < x.toNat := h3
        have he : Nat.beq x.toNat y.toNat = false := by
          cases hq : Nat.beq x.toNat y.toNat with
          | true => have := Nat.eq_of_beq_eq_true hq; omega
          | false => rfl
        rw [if_pos h3, he]
      · have h4 : ¬ y.toNat < x.toNat := h3
        have he : Nat.beq x.toNat y.toNat = true := by rw [show x.toNat = y.toNat by omega]; exact Nat.beq_refl _
        rw [if_neg h3, he]
        exact ih
theorem ix_eqN : ∀ (l : List UInt8) (c : Nat), c < 256 → Lib.indexByte l c.toUInt8 = ixN (l.map (·.toNat)) c
  | [], _, _ => rfl
  | b :: l, c, hc => by
    have ih := ix_eqN l c hc
    have hge := Lib.indexByte_ge l c.toUInt8
    unfold Lib.indexByte
    simp only [List.map_cons, ixN]
    have hcn : c.toUInt8.toNat = c := by simp [Nat.mod_eq_of_lt hc]
    by_cases h : b = c.toUInt8
    · have h2 : b.toNat = c := by rw [h, hcn]
      rw [show (b == c.toUInt8) = true by simp [h], h2, Nat.beq_refl]
      rfl
    · have h2 : b.toNat ≠ c := fun e => h (UInt8.toNat_inj.1 (by rw [e, hcn]))
      have he : Nat.beq b.toNat c = false := by
        cases hq : Nat.beq b.toNat c with
        | true => exact absurd (Nat.eq_of_beq_eq_true hq) h2
        | false => rfl
      rw [show (b == c.toUInt8) = false by simp [h], he]
      simp only [Bool.false_eq_true, if_false]
      rw [← ih]
      generalize Lib.indexByte l c.toUInt8 = r at hge
      cases r with
      | ofNat n => rw [if_neg (by simp)]; rfl
      | negSucc n =>
        have : n = 0 := by omega
        subst this
        rfl
theorem VRs.two_inv {σ : Sg} {a b : AV} {l : List Value} (h : VRs σ [a, b] l) : ∃ x y, l = [x, y] ∧ VR σ a x ∧ VR σ b y := by
  cases h with
  | cons h t => cases t with
    | cons h2 t2 => cases t2; exact ⟨_, _, rfl, h, h2⟩
theorem cmp_ok {f : Nat} (hx : ∀ (a b : ByteArray) (w : World), (callFunc f #[.string a, .string b]).run P w = .ok (.value (.int .i64 (Lib.compareBytes a.data.toList b.data.toList))) w)
    (args : List AV) (H : Hp) (v : AV) (H' : Hp) (h : cmpA args H = some (v, H')) (σ : Sg) (w : World) (vs : Array Value) (hR : Rel P.globals.size σ H w) (hv : VRs σ args vs.toList) : CallR P f vs w (End P σ H w v H') := by
  unfold cmpA at h
  split at h
  · cases h
    obtain ⟨x, y, e, h1, h2⟩ := hv.two_inv
    have hvs : vs = #[x, y] := Array.ext' e
    subst hvs
    generalize hx1 : AV.str _ = a1 at h1
    cases h1 <;> cases hx1
    generalize hx2 : AV.str _ = a2 at h2
    cases h2 <;> cases hx2
    rename_i s1 s2
    refine .inr ⟨_, w, hx s1 s2 w, σ, _, rfl, ?_, hR, Fr.refl _ _ _⟩
    rw [cmp_eqN]
    exact .int _ _
  · cases h
theorem ixb_ok {f : Nat} (hx : ∀ (a : ByteArray) (c : Int) (w : World), (callFunc f #[.string a, .int .u8 c]).run P w = .ok (.value (.int .i64 (Lib.indexByte a.data.toList c.toNat.toUInt8))) w)
    (args : List AV) (H : Hp) (v : AV) (H' : Hp) (h : ixbA args H = some (v, H')) (σ : Sg) (w : World) (vs : Array Value) (hR : Rel P.globals.size σ H w) (hv : VRs σ args vs.toList) : CallR P f vs w (End P σ H w v H') := by
  unfold ixbA at h
  split at h
  · rename_i s c
    split at h
    · rename_i hc
      rw [Nat.blt_eq] at hc
      cases h
      obtain ⟨x, y, e, h1, h2⟩ := hv.two_inv
      have hvs : vs = #[x, y] := Array.ext' e
      subst hvs
      generalize hx1 : AV.str _ = a1 at h1
      cases h1 <;> cases hx1
      generalize hx2 : AV.int _ _ = a2 at h2
      cases h2 <;> cases hx2
      rename_i s1
      refine .inr ⟨_, w, hx s1 (.ofNat c) w, σ, _, rfl, ?_, hR, Fr.refl _ _ _⟩
      rw [show (Int.ofNat c).toNat = c from rfl, ix_eqN _ c hc]
      exact .int _ _
    · cases h
  · cases h
end

end Go.Proofs.YtdokohdkdoiclaaGreatDoor.Eng
