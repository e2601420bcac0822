import Derived.Test.YtcgkmomhjincgaaGreatDoorELibX0
import Derived.Test.YtcgkmomhjincgaaGreatDoorELibX8
namespace Go.Proofs.YtcgkmomhjincgaaGreatDoor.LibX
open Go.RowKit Go.Proofs.YtcgkmomhjincgaaGreatDoorW.PrintWords Go.Proofs.YtcgkmomhjincgaaGreatDoorW.PrintLast Go.Proofs.YtcgkmomhjincgaaGreatDoorW.PrintMore
attribute [local go_sem] max2_int min2_int max_two min_two max_three min_three max_four min_four   -- for this text's walks alone
set_option linter.unusedVariables false
set_option linter.unusedSimpArgs false
def sufB (s t : ByteArray) : Bool := decide (t.size ≤ s.size) && ((s.extract (s.size - t.size) s.size).toList == t.toList)
theorem hasSuffix_f (s t : ByteArray) (hs : s.size ≤ 140737488351232) (ht : t.size ≤ 140737488351232) : strings_HasSuffix.f s t = some (sufB s t) := by
 unfold strings_HasSuffix.f stringslite_HasSuffix.f sufB
 by_cases h : t.size ≤ s.size
 ·have e : wrap64 ((s.size : Int) - (t.size : Int)) = ((s.size - t.size : Nat) : Int) := by unfold wrap64; omega
  rw [if_pos (by omega), e, if_pos (by omega), if_pos (by omega)]
  simp [h]
 ·rw [if_neg (by omega)]
  simp [h]
def stem_plural.f (a0 : ByteArray) : Option ByteArray :=
 if a0.size ≤ 140737488351232 then
  some (if sufB a0 (⟨#[115, 115, 101, 115]⟩ : ByteArray) then a0.extract 0 (a0.size - 2)
   else if sufB a0 (⟨#[105, 101, 115]⟩ : ByteArray) && decide (4 < a0.size) then a0.extract 0 (a0.size - 3) ++ (⟨#[121]⟩ : ByteArray)
   else if sufB a0 (⟨#[115, 115]⟩ : ByteArray) || sufB a0 (⟨#[117, 115]⟩ : ByteArray) || sufB a0 (⟨#[105, 115]⟩ : ByteArray) then a0
   else if sufB a0 (⟨#[115]⟩ : ByteArray) then a0.extract 0 (a0.size - 1) else a0)
 else none
theorem calls_suf (s t : ByteArray) (b : Bool) (w : World) (hs : s.size ≤ 140737488351232) (ht : t.size ≤ 140737488351232) (h : sufB s t = b) :
  Calls Tryz.prog 89 #[.string s, .string t] w fun e w' => e = .returned (.bool b) ∧ Drawn0 w w' :=
 strings_HasSuffix.calls s t b w (by
  have := hasSuffix_f s t hs ht
  rw [h] at this
  exact this)
theorem trimSuffix_f (s t : ByteArray) (hs : s.size ≤ 140737488351232) (ht : t.size ≤ 140737488351232) : strings_TrimSuffix.f s t = some (if sufB s t then s.extract 0 (s.size - t.size) else s) := by
 unfold strings_TrimSuffix.f stringslite_TrimSuffix.f
 have h0 := hasSuffix_f s t hs ht
 unfold strings_HasSuffix.f at h0
 have h1 : stringslite_HasSuffix.f s t = some (sufB s t) := by
  cases hh : stringslite_HasSuffix.f s t with
  | none => rw [hh] at h0; cases h0
  | some b => rw [hh] at h0; exact h0
 rw [h1]
 simp only [Option.bind_some]
 cases hb : sufB s t with
 | false => rfl
 | true =>
  have hl : t.size ≤ s.size := by unfold sufB at hb; simp at hb; exact hb.1
  have e : wrap64 ((s.size : Int) - (t.size : Int)) = ((s.size - t.size : Nat) : Int) := by unfold wrap64; omega
  simp only [if_true]
  rw [e, if_pos (by omega), if_pos (by omega)]
  simp
theorem calls_trim (s t r : ByteArray) (w : World) (hs : s.size ≤ 140737488351232) (ht : t.size ≤ 140737488351232) (hr : (if sufB s t then s.extract 0 (s.size - t.size) else s) = r) :
  Calls Tryz.prog 90 #[.string s, .string t] w fun e w' => e = .returned (.string r) ∧ Drawn0 w w' :=
 strings_TrimSuffix.calls s t _ w (by rw [trimSuffix_f s t hs ht, hr])
theorem sufB_le {s t : ByteArray} (h : sufB s t = true) : t.size ≤ s.size := by
 unfold sufB at h
 simp at h
 exact h.1
set_option maxHeartbeats 4000000 in
set_option maxRecDepth 100000 in
theorem stem_plural.calls (a0 r : ByteArray) (w : World) (h : stem_plural.f a0 = some r) :
  Calls Tryz.prog 68 #[.string a0] w fun e w' => e = .returned (.string r) ∧ Drawn0 w w' := by
 unfold stem_plural.f at h
 by_cases hs : a0.size ≤ 140737488351232
 ·rw [if_pos hs] at h
  have h := Option.some.inj h
  cases h1 : sufB a0 (⟨#[115, 115, 101, 115]⟩ : ByteArray) with
  | true =>
   have hl := sufB_le h1
   have hl2 : 4 ≤ a0.size := hl
   clear hl
   rw [if_pos h1] at h
   have H := Aside0.mk h
   have H1 := Aside0.mk h1
   clear h h1
   go_enter Tryz.func68, Tryz.ntmps68
   go_wp2_with fail
   refine (calls_suf _ _ true _ hs (by decide) H1.out).mono ?_; rintro e w' ⟨rfl, ⟨n, rfl⟩⟩
   go_wp2_with fail
   go_ret
   exact ⟨ret_str H.out, by repeat (first | exact Drawn0.refl _ | apply Drawn0.step)⟩
  | false =>
   rw [if_neg (by rw [h1]; simp)] at h
   have H1 := Aside0.mk h1
   clear h1
   cases h2 : sufB a0 (⟨#[105, 101, 115]⟩ : ByteArray) with
   | true =>
    have hl := sufB_le h2
    have hl2 : 3 ≤ a0.size := hl
    clear hl
    have H2 := Aside0.mk h2
    by_cases c : 4 < a0.size
    ·rw [if_pos (by rw [h2]; simpa using c)] at h
     have H := Aside0.mk h
     have hx : (a0.extract 0 (a0.size - 3)).size + 1 ≤ 9223372036854775807 := by simp; omega
     clear h h2
     go_enter Tryz.func68, Tryz.ntmps68
     go_wp2_with fail
     refine (calls_suf _ _ false _ hs (by decide) H1.out).mono ?_; rintro e w' ⟨rfl, ⟨n, rfl⟩⟩
     go_wp2_with fail
     refine (calls_suf _ _ true _ hs (by decide) H2.out).mono ?_; rintro e w' ⟨rfl, ⟨n, rfl⟩⟩
     go_wp2_with fail
     go_ret
     exact ⟨ret_str H.out, by repeat (first | exact Drawn0.refl _ | apply Drawn0.step)⟩
    ·rw [if_neg (by rw [h2]; simpa using c)] at h
     clear h2
     cases h3 : sufB a0 (⟨#[115, 115]⟩ : ByteArray) with
     | true =>
      rw [if_pos (by rw [h3]; rfl)] at h
      have H := Aside0.mk h
      have H3 := Aside0.mk h3
      clear h h3
      go_enter Tryz.func68, Tryz.ntmps68
      go_wp2_with fail
      refine (calls_suf _ _ false _ hs (by decide) H1.out).mono ?_; rintro e w' ⟨rfl, ⟨n, rfl⟩⟩
      go_wp2_with fail
      refine (calls_suf _ _ true _ hs (by decide) H2.out).mono ?_; rintro e w' ⟨rfl, ⟨n, rfl⟩⟩
      go_wp2_with fail
      refine (calls_suf _ _ true _ hs (by decide) H3.out).mono ?_; rintro e w' ⟨rfl, ⟨n, rfl⟩⟩
      go_wp2_with fail
      go_ret
      exact ⟨ret_str H.out, by repeat (first | exact Drawn0.refl _ | apply Drawn0.step)⟩
     | false =>
      have H3 := Aside0.mk h3
      cases h4 : sufB a0 (⟨#[117, 115]⟩ : ByteArray) with
      | true =>
       rw [if_pos (by rw [h3, h4]; rfl)] at h
       have H := Aside0.mk h
       have H4 := Aside0.mk h4
       clear h h3 h4
       go_enter Tryz.func68, Tryz.ntmps68
       go_wp2_with fail
       refine (calls_suf _ _ false _ hs (by decide) H1.out).mono ?_; rintro e w' ⟨rfl, ⟨n, rfl⟩⟩
       go_wp2_with fail
       refine (calls_suf _ _ true _ hs (by decide) H2.out).mono ?_; rintro e w' ⟨rfl, ⟨n, rfl⟩⟩
       go_wp2_with fail
       refine (calls_suf _ _ false _ hs (by decide) H3.out).mono ?_; rintro e w' ⟨rfl, ⟨n, rfl⟩⟩
       go_wp2_with fail
       refine (calls_suf _ _ true _ hs (by decide) H4.out).mono ?_; rintro e w' ⟨rfl, ⟨n, rfl⟩⟩
       go_wp2_with fail
       go_ret
       exact ⟨ret_str H.out, by repeat (first | exact Drawn0.refl _ | apply Drawn0.step)⟩
      | false =>
       have H4 := Aside0.mk h4
       cases h5 : sufB a0 (⟨#[105, 115]⟩ : ByteArray) with
       | true =>
        rw [if_pos (by rw [h3, h4, h5]; rfl)] at h
        have H := Aside0.mk h
        have H5 := Aside0.mk h5
        clear h h3 h4 h5
        go_enter Tryz.func68, Tryz.ntmps68
        go_wp2_with fail
        refine (calls_suf _ _ false _ hs (by decide) H1.out).mono ?_; rintro e w' ⟨rfl, ⟨n, rfl⟩⟩
        go_wp2_with fail
        refine (calls_suf _ _ true _ hs (by decide) H2.out).mono ?_; rintro e w' ⟨rfl, ⟨n, rfl⟩⟩
        go_wp2_with fail
        refine (calls_suf _ _ false _ hs (by decide) H3.out).mono ?_; rintro e w' ⟨rfl, ⟨n, rfl⟩⟩
        go_wp2_with fail
        refine (calls_suf _ _ false _ hs (by decide) H4.out).mono ?_; rintro e w' ⟨rfl, ⟨n, rfl⟩⟩
        go_wp2_with fail
        refine (calls_suf _ _ true _ hs (by decide) H5.out).mono ?_; rintro e w' ⟨rfl, ⟨n, rfl⟩⟩
        go_wp2_with fail
        go_ret
        exact ⟨ret_str H.out, by repeat (first | exact Drawn0.refl _ | apply Drawn0.step)⟩
       | false =>
        rw [if_neg (by rw [h3, h4, h5]; simp)] at h
        have H := Aside0.mk h
        have H5 := Aside0.mk h5
        clear h h3 h4 h5
        go_enter Tryz.func68, Tryz.ntmps68
        go_wp2_with fail
        refine (calls_suf _ _ false _ hs (by decide) H1.out).mono ?_; rintro e w' ⟨rfl, ⟨n, rfl⟩⟩
        go_wp2_with fail
        refine (calls_suf _ _ true _ hs (by decide) H2.out).mono ?_; rintro e w' ⟨rfl, ⟨n, rfl⟩⟩
        go_wp2_with fail
        refine (calls_suf _ _ false _ hs (by decide) H3.out).mono ?_; rintro e w' ⟨rfl, ⟨n, rfl⟩⟩
        go_wp2_with fail
        refine (calls_suf _ _ false _ hs (by decide) H4.out).mono ?_; rintro e w' ⟨rfl, ⟨n, rfl⟩⟩
        go_wp2_with fail
        refine (calls_suf _ _ false _ hs (by decide) H5.out).mono ?_; rintro e w' ⟨rfl, ⟨n, rfl⟩⟩
        go_wp2_with fail
        refine (calls_trim _ (⟨#[115]⟩ : ByteArray) r _ hs (by decide) H.out).mono ?_; rintro e w' ⟨rfl, ⟨n, rfl⟩⟩
        go_wp2_with fail
        go_ret
        exact ⟨rfl, by repeat (first | exact Drawn0.refl _ | apply Drawn0.step)⟩
   | false =>
    have H2 := Aside0.mk h2
    rw [if_neg (by rw [h2]; simp)] at h
    clear h2
    cases h3 : sufB a0 (⟨#[115, 115]⟩ : ByteArray) with
    | true =>
     rw [if_pos (by rw [h3]; rfl)] at h
     have H := Aside0.mk h
     have H3 := Aside0.mk h3
     clear h h3
     go_enter Tryz.func68, Tryz.ntmps68
     go_wp2_with fail
     refine (calls_suf _ _ false _ hs (by decide) H1.out).mono ?_; rintro e w' ⟨rfl, ⟨n, rfl⟩⟩
     go_wp2_with fail
     refine (calls_suf _ _ false _ hs (by decide) H2.out).mono ?_; rintro e w' ⟨rfl, ⟨n, rfl⟩⟩
     go_wp2_with fail
     refine (calls_suf _ _ true _ hs (by decide) H3.out).mono ?_; rintro e w' ⟨rfl, ⟨n, rfl⟩⟩
     go_wp2_with fail
     go_ret
     exact ⟨ret_str H.out, by repeat (first | exact Drawn0.refl _ | apply Drawn0.step)⟩
    | false =>
     have H3 := Aside0.mk h3
     cases h4 : sufB a0 (⟨#[117, 115]⟩ : ByteArray) with
     | true =>
      rw [if_pos (by rw [h3, h4]; rfl)] at h
      have H := Aside0.mk h
      have H4 := Aside0.mk h4
      clear h h3 h4
      go_enter Tryz.func68, Tryz.ntmps68
      go_wp2_with fail
      refine (calls_suf _ _ false _ hs (by decide) H1.out).mono ?_; rintro e w' ⟨rfl, ⟨n, rfl⟩⟩
      go_wp2_with fail
      refine (calls_suf _ _ false _ hs (by decide) H2.out).mono ?_; rintro e w' ⟨rfl, ⟨n, rfl⟩⟩
      go_wp2_with fail
      refine (calls_suf _ _ false _ hs (by decide) H3.out).mono ?_; rintro e w' ⟨rfl, ⟨n, rfl⟩⟩
      go_wp2_with fail
      refine (calls_suf _ _ true _ hs (by decide) H4.out).mono ?_; rintro e w' ⟨rfl, ⟨n, rfl⟩⟩
      go_wp2_with fail
      go_ret
      exact ⟨ret_str H.out, by repeat (first | exact Drawn0.refl _ | apply Drawn0.step)⟩
     | false =>
      have H4 := Aside0.mk h4
      cases h5 : sufB a0 (⟨#[105, 115]⟩ : ByteArray) with
      | true =>
       rw [if_pos (by rw [h3, h4, h5]; rfl)] at h
       have H := Aside0.mk h
       have H5 := Aside0.mk h5
       clear h h3 h4 h5
       go_enter Tryz.func68, Tryz.ntmps68
       go_wp2_with fail
       refine (calls_suf _ _ false _ hs (by decide) H1.out).mono ?_; rintro e w' ⟨rfl, ⟨n, rfl⟩⟩
       go_wp2_with fail
       refine (calls_suf _ _ false _ hs (by decide) H2.out).mono ?_; rintro e w' ⟨rfl, ⟨n, rfl⟩⟩
       go_wp2_with fail
       refine (calls_suf _ _ false _ hs (by decide) H3.out).mono ?_; rintro e w' ⟨rfl, ⟨n, rfl⟩⟩
       go_wp2_with fail
       refine (calls_suf _ _ false _ hs (by decide) H4.out).mono ?_; rintro e w' ⟨rfl, ⟨n, rfl⟩⟩
       go_wp2_with fail
       refine (calls_suf _ _ true _ hs (by decide) H5.out).mono ?_; rintro e w' ⟨rfl, ⟨n, rfl⟩⟩
       go_wp2_with fail
       go_ret
       exact ⟨ret_str H.out, by repeat (first | exact Drawn0.refl _ | apply Drawn0.step)⟩
      | false =>
       rw [if_neg (by rw [h3, h4, h5]; simp)] at h
       have H := Aside0.mk h
       have H5 := Aside0.mk h5
       clear h h3 h4 h5
       go_enter Tryz.func68, Tryz.ntmps68
       go_wp2_with fail
       refine (calls_suf _ _ false _ hs (by decide) H1.out).mono ?_; rintro e w' ⟨rfl, ⟨n, rfl⟩⟩
       go_wp2_with fail
       refine (calls_suf _ _ false _ hs (by decide) H2.out).mono ?_; rintro e w' ⟨rfl, ⟨n, rfl⟩⟩
       go_wp2_with fail
       refine (calls_suf _ _ false _ hs (by decide) H3.out).mono ?_; rintro e w' ⟨rfl, ⟨n, rfl⟩⟩
       go_wp2_with fail
       refine (calls_suf _ _ false _ hs (by decide) H4.out).mono ?_; rintro e w' ⟨rfl, ⟨n, rfl⟩⟩
       go_wp2_with fail
       refine (calls_suf _ _ false _ hs (by decide) H5.out).mono ?_; rintro e w' ⟨rfl, ⟨n, rfl⟩⟩
       go_wp2_with fail
       refine (calls_trim _ (⟨#[115]⟩ : ByteArray) r _ hs (by decide) H.out).mono ?_; rintro e w' ⟨rfl, ⟨n, rfl⟩⟩
       go_wp2_with fail
       go_ret
       exact ⟨rfl, by repeat (first | exact Drawn0.refl _ | apply Drawn0.step)⟩
 ·rw [if_neg hs] at h
  cases h
def stringslite_CutSuffix.f (a0 : ByteArray) (a1 : ByteArray) : Option (ByteArray × Bool) := (stringslite_HasSuffix.f a0 a1).bind fun t215 => (if t215 = true then (if 0 ≤ (wrap64 ((a0.size : Int) - (a1.size : Int))) then (if (wrap64 ((a0.size : Int) - (a1.size : Int))) ≤ (a0.size : Int) then (some (a0.extract 0 ((wrap64 ((a0.size : Int) - (a1.size : Int))) : Int).toNat, true)) else (none)) else (none)) else (some (a0, false)))
set_option maxHeartbeats 8000000 in
set_option maxRecDepth 100000 in
theorem stringslite_CutSuffix.calls (a0 : ByteArray) (a1 : ByteArray) (r1 : ByteArray) (r2 : Bool) (w : World) (h : stringslite_CutSuffix.f a0 a1 = some (r1, r2)) :
  Calls Tryz.prog 103 #[.string a0, .string a1] w fun e w' => e = .returned (.tuple #[.string r1, .bool r2]) ∧ Drawn0 w w' := by
 have H : ((stringslite_HasSuffix.f a0 a1).bind fun t215 => (if t215 = true then (if 0 ≤ (wrap64 ((a0.size : Int) - (a1.size : Int))) then (if (wrap64 ((a0.size : Int) - (a1.size : Int))) ≤ (a0.size : Int) then (some (a0.extract 0 ((wrap64 ((a0.size : Int) - (a1.size : Int))) : Int).toNat, true)) else (none)) else (none)) else (some (a0, false)))) = some (r1, r2) := h
 clear h
 replace H := Option.bind_eq_some_iff.mp H
 obtain ⟨t215, A30, H⟩ := H
 replace H : (if t215 = true then (if 0 ≤ (wrap64 ((a0.size : Int) - (a1.size : Int))) then (if (wrap64 ((a0.size : Int) - (a1.size : Int))) ≤ (a0.size : Int) then (some (a0.extract 0 ((wrap64 ((a0.size : Int) - (a1.size : Int))) : Int).toNat, true)) else (none)) else (none)) else (some (a0, false))) = some (r1, r2) := H
 have A3 := Aside0.mk A30
 clear A30
 by_cases c4 : t215 = true
 ·subst c4
  have H1 : (if 0 ≤ (wrap64 ((a0.size : Int) - (a1.size : Int))) then (if (wrap64 ((a0.size : Int) - (a1.size : Int))) ≤ (a0.size : Int) then (some (a0.extract 0 ((wrap64 ((a0.size : Int) - (a1.size : Int))) : Int).toNat, true)) else (none)) else (none)) = some (r1, r2) := by rw [if_pos rfl] at H; exact H
  clear H
  have H := H1
  clear H1
  obtain ⟨ji5, hji5⟩ : ∃ j_ : Int, (wrap64 ((a0.size : Int) - (a1.size : Int))) = j_ := ⟨_, rfl⟩
  replace H : (if 0 ≤ (ji5) then (if (ji5) ≤ (a0.size : Int) then (some (a0.extract 0 ((ji5) : Int).toNat, true)) else (none)) else (none)) = some (r1, r2) := by first | (rw [hji5] at H; exact H) | (simp only [hji5] at H ⊢; exact H)
  (try rw [hji5] at A3)
  have hji5w : (IntKind.i64.wrap ((a0.size : Int) - (a1.size : Int))) = ji5 := (i64_w _).trans hji5
  by_cases c6 : 0 ≤ (ji5)
  ·rw [if_pos c6] at H
   have c6b0 := eq_true c6
   have c6b1 : decide (0 ≤ (ji5)) = true := decide_eq_true c6
   clear c6
   by_cases c7 : (ji5) ≤ (a0.size : Int)
   ·rw [if_pos c7] at H
    have c7b0 := eq_true c7
    have c7b1 : decide ((ji5) ≤ (a0.size : Int)) = true := decide_eq_true c7
    clear c7
    simp only [Option.some.injEq, Prod.mk.injEq] at H
    obtain ⟨rfl, rfl⟩ := H
    go_enter Tryz.func103, Tryz.ntmps103
    go_wp2_with (first | ((with_reducible refine gate_callee (f := 101) rfl ?_); refine goesL_ (some 8) rfl rfl Tryz.func101 (by kernel_rfl) rfl #[.string a0, .string a1] rfl ar_ ?_; (with_reducible refine (stringslite_HasSuffix.calls a0 a1 true _ A3.out).mono ?_); rintro e w' ⟨rfl, ⟨nd, rfl⟩⟩; refine ⟨_, rfl, ?_⟩))
    go_ret2
    exact ⟨by first | rfl | (simp; done) | (simp only [← hji5] <;> (first | rfl | simp)) | (simp [*]; done), by repeat (first | exact Drawn0.refl _ | apply Drawn0.step)⟩
   ·rw [if_neg c7] at H
    exact absurd H (by simp)
  ·rw [if_neg c6] at H
   exact absurd H (by simp)
 ·replace c4 := Bool.eq_false_iff.mpr c4
  subst c4
  have H1 : (some (a0, false)) = some (r1, r2) := by rw [if_neg (show ¬ (false = true) by decide)] at H; exact H
  clear H
  have H := H1
  clear H1
  simp only [Option.some.injEq, Prod.mk.injEq] at H
  obtain ⟨rfl, rfl⟩ := H
  go_enter Tryz.func103, Tryz.ntmps103
  go_wp2_with (first | ((with_reducible refine gate_callee (f := 101) rfl ?_); refine goesL_ (some 8) rfl rfl Tryz.func101 (by kernel_rfl) rfl #[.string a0, .string a1] rfl ar_ ?_; (with_reducible refine (stringslite_HasSuffix.calls a0 a1 false _ A3.out).mono ?_); rintro e w' ⟨rfl, ⟨nd, rfl⟩⟩; refine ⟨_, rfl, ?_⟩))
  go_ret2
  exact ⟨by first | rfl | (simp; done) | (simp [*]; done), by repeat (first | exact Drawn0.refl _ | apply Drawn0.step)⟩
def strings_CutSuffix.f (a0 : ByteArray) (a1 : ByteArray) : Option (ByteArray × Bool) := (stringslite_CutSuffix.f a0 a1).bind fun bt216 => (some (bt216.1, bt216.2))
set_option maxHeartbeats 8000000 in
set_option maxRecDepth 100000 in
theorem strings_CutSuffix.calls (a0 : ByteArray) (a1 : ByteArray) (r1 : ByteArray) (r2 : Bool) (w : World) (h : strings_CutSuffix.f a0 a1 = some (r1, r2)) :
  Calls Tryz.prog 91 #[.string a0, .string a1] w fun e w' => e = .returned (.tuple #[.string r1, .bool r2]) ∧ Drawn0 w w' := by
 have H : ((stringslite_CutSuffix.f a0 a1).bind fun bt216 => (some (bt216.1, bt216.2))) = some (r1, r2) := h
 clear h
 replace H := Option.bind_eq_some_iff.mp H
 obtain ⟨⟨t216, t217⟩, A30, H⟩ := H
 replace H : (some (t216, t217)) = some (r1, r2) := H
 have A3 := Aside0.mk A30
 clear A30
 simp only [Option.some.injEq, Prod.mk.injEq] at H
 obtain ⟨rfl, rfl⟩ := H
 go_enter Tryz.func91, Tryz.ntmps91
 go_wp2_with (first | ((with_reducible refine gate_callee (f := 103) rfl ?_); refine goesL_ (some 8) rfl rfl Tryz.func103 (by kernel_rfl) rfl #[.string a0, .string a1] rfl ar_ ?_; (with_reducible refine (stringslite_CutSuffix.calls a0 a1 t216 t217 _ A3.out).mono ?_); rintro e w' ⟨rfl, ⟨nd, rfl⟩⟩; refine ⟨_, rfl, ?_⟩))
 go_ret2
 exact ⟨by first | rfl | (simp; done) | (simp [*]; done), by repeat (first | exact Drawn0.refl _ | apply Drawn0.step)⟩
def strings_IndexByte.f (a0 : ByteArray) (a1 : Int) : Option Int := some (Lib.indexByte a0.data.toList a1.toNat.toUInt8)
theorem strings_IndexByte.calls (a0 : ByteArray) (a1 : Int) (r : Int) (w : World) (h : strings_IndexByte.f a0 a1 = some r) :
  Calls Tryz.prog 105 #[.string a0, .int .u8 a1] w fun e w' => e = .returned (.int .i64 r) ∧ Drawn0 w w' := by
 have e := Option.some.inj h
 subst e
 exact (Tryz.strings_IndexByte a0 a1 w).mono fun e w' h => ⟨h.1, h.2 ▸ Drawn0.refl _⟩
def stem_vowel.f (a0 : Int) : Option (Bool) := (strings_IndexByte.f (⟨#[97, 101, 105, 111, 117, 121]⟩ : ByteArray) a0).bind fun t218 => (some (decide (t218 ≥ 0)))
set_option maxHeartbeats 8000000 in
set_option maxRecDepth 100000 in
theorem stem_vowel.calls (a0 : Int) (r : Bool) (w : World) (h : stem_vowel.f a0 = some r) :
  Calls Tryz.prog 104 #[.int .u8 a0] w fun e w' => e = .returned (.bool r) ∧ Drawn0 w w' := by
 have H : ((strings_IndexByte.f (⟨#[97, 101, 105, 111, 117, 121]⟩ : ByteArray) a0).bind fun t218 => (some (decide (t218 ≥ 0)))) = some r := h
 clear h
 replace H := Option.bind_eq_some_iff.mp H
 obtain ⟨t218, A20, H⟩ := H
 replace H : (some (decide (t218 ≥ 0))) = some r := H
 have A2 := Aside0.mk A20
 clear A20
 obtain rfl := Option.some.inj H
 go_enter Tryz.func104, Tryz.ntmps104
 go_wp2_with (first | ((with_reducible refine gate_callee (f := 105) rfl ?_); refine goesL_ (some 4) rfl rfl Tryz.func105 (by kernel_rfl) rfl #[.string (⟨#[97, 101, 105, 111, 117, 121]⟩ : ByteArray), .int .u8 a0] rfl ar_ ?_; (with_reducible refine (strings_IndexByte.calls (⟨#[97, 101, 105, 111, 117, 121]⟩ : ByteArray) a0 t218 _ A2.out).mono ?_); rintro e w' ⟨rfl, ⟨nd, rfl⟩⟩; refine ⟨_, rfl, ?_⟩))
 go_ret
 exact ⟨by first | rfl | (simp; done) | (simp [*]; done), by repeat (first | exact Drawn0.refl _ | apply Drawn0.step)⟩
def vowelB (c : Int) : Bool := decide (Lib.indexByte (⟨#[97, 101, 105, 111, 117, 121]⟩ : ByteArray).data.toList c.toNat.toUInt8 ≥ 0)
theorem vowel_f (c : Int) : stem_vowel.f c = some (vowelB c) := rfl
def stem_vowels.f (a0 : ByteArray) : Option Bool := if a0.size ≤ 140737488351232 then some ((bytesOf a0).any vowelB) else none
set_option maxHeartbeats 4000000 in
set_option maxRecDepth 100000 in
theorem stem_vowels.calls (a0 : ByteArray) (r : Bool) (w : World) (h : stem_vowels.f a0 = some r) :
  Calls Tryz.prog 92 #[.string a0] w fun e w' => e = .returned (.bool r) ∧ Below w.heap.size w w' := by
 unfold stem_vowels.f at h
 split at h
 ·rename_i hs
  have hr0 := Option.some.inj h
  have hr := Aside0.mk hr0
  have HSZ := Aside0.mk (show a0.size ≤ 9223372036854775807 by omega)
  clear hr0 h
  go_enter Tryz.func92, Tryz.ntmps92
  go_wp2_with (refine wpList_bytes rfl 9 53 5 _ rfl Tryz.underlying9 Tryz.underlying53 Tryz.underlying5 a0 rfl HSZ.out ?_; intro W1 A1 c1 hb0 hrd0 hc0)
  have hb := Aside0.mk hb0
  have hrd := Aside0.mk hrd0
  clear hb0 hrd0 hc0
  go_loopg [8] a0.size (fun n v wr => ∃ k : Nat, v = .int .i64 k ∧ Aside0 (n + k = a0.size) ∧ Aside0 (((bytesOf a0).drop k).any vowelB = r) ∧ Drawn0 W1 wr)
  case atStart => exact ⟨0, rfl, ⟨rfl⟩, ⟨hr.out⟩, Drawn0.refl _⟩
  case round =>
   obtain ⟨k, rfl, HN, HR, ⟨m, rfl⟩⟩ := hrel
   have HR2 := HR.out
   clear HR hr
   by_cases hk : k < a0.size
   ·obtain ⟨ad, e, hc⟩ := bytes_at hrd.out k hk
    cases e
    rw [plain_step a0 k hk] at HR2
    have hk' : decide (k < a0.size) = true := by simpa using hk
    cases c1 : vowelB (rd (bytesOf a0) (k : Int)) with
    | true =>
     have e : r = true := by rw [← HR2]; simp [c1]
     subst e
     clear HR2
     have C1 := Aside0.mk c1
     clear c1
     go_wp2_with (go_at_call 104; refine (stem_vowel.calls _ true _ (by rw [vowel_f, C1.out])).mono ?_; rintro e w' ⟨rfl, ⟨nd, rfl⟩⟩)
     go_ret
     exact ⟨rfl, by repeat (first | exact hb.out | apply pw_below_drewN)⟩
    | false =>
     have HR := Aside0.mk (show ((bytesOf a0).drop (k + 1)).any vowelB = r by rw [← HR2]; simp [c1])
     have C1 := Aside0.mk c1
     clear HR2 c1
     go_wp2_with (go_at_call 104; refine (stem_vowel.calls _ false _ (by rw [vowel_f, C1.out])).mono ?_; rintro e w' ⟨rfl, ⟨nd, rfl⟩⟩)
     go_roundg (gk - 1)
     case measure => have := HN.out; omega
     case rel => exact ⟨k + 1, by go_num, ⟨by have := HN.out; omega⟩, HR, by repeat (first | exact Drawn0.refl _ | apply Drawn0.step)⟩
   ·have e : k = a0.size := by have := HN.out; omega
    rw [e, List.drop_eq_nil_of_le (by rw [bytesOf_length]; exact Nat.le_refl _)] at HR2
    have e2 : r = false := by rw [← HR2]; rfl
    subst e2
    clear HR2
    have hk' : decide (k < a0.size) = false := by simpa using hk
    clear hk e
    go_wp2
    go_ret
    exact ⟨rfl, by repeat (first | exact hb.out | apply pw_below_drewN)⟩
 ·cases h
def stem_twin.f (a0 : ByteArray) : Option (ByteArray) := if (a0.size : Int) < 2 then (some a0) else (if 0 ≤ (wrap64 ((a0.size : Int) - 1)) then (if (wrap64 ((a0.size : Int) - 1)) < (a0.size : Int) then (if 0 ≤ (wrap64 ((a0.size : Int) - 2)) then (if (wrap64 ((a0.size : Int) - 2)) < (a0.size : Int) then (if (bt a0 (wrap64 ((a0.size : Int) - 1))) = (bt a0 (wrap64 ((a0.size : Int) - 2))) then ((stem_vowel.f (bt a0 (wrap64 ((a0.size : Int) - 1)))).bind fun t219 => (if t219 = true then (some a0) else ((strings_IndexByte.f (⟨#[108, 115, 122]⟩ : ByteArray) (bt a0 (wrap64 ((a0.size : Int) - 1)))).bind fun t220 => (if t220 ≥ 0 then (some a0) else (if (wrap64 ((a0.size : Int) - 1)) ≤ (a0.size : Int) then (some (a0.extract 0 ((wrap64 ((a0.size : Int) - 1)) : Int).toNat)) else (none)))))) else (some a0)) else (none)) else (none)) else (none)) else (none))
set_option maxHeartbeats 8000000 in
set_option maxRecDepth 100000 in
theorem stem_twin.calls (a0 : ByteArray) (r : ByteArray) (w : World) (h : stem_twin.f a0 = some r) :
  Calls Tryz.prog 93 #[.string a0] w fun e w' => e = .returned (.string r) ∧ Drawn0 w w' := by
 have H : (if (a0.size : Int) < 2 then (some a0) else (if 0 ≤ (wrap64 ((a0.size : Int) - 1)) then (if (wrap64 ((a0.size : Int) - 1)) < (a0.size : Int) then (if 0 ≤ (wrap64 ((a0.size : Int) - 2)) then (if (wrap64 ((a0.size : Int) - 2)) < (a0.size : Int) then (if (bt a0 (wrap64 ((a0.size : Int) - 1))) = (bt a0 (wrap64 ((a0.size : Int) - 2))) then ((stem_vowel.f (bt a0 (wrap64 ((a0.size : Int) - 1)))).bind fun t219 => (if t219 = true then (some a0) else ((strings_IndexByte.f (⟨#[108, 115, 122]⟩ : ByteArray) (bt a0 (wrap64 ((a0.size : Int) - 1)))).bind fun t220 => (if t220 ≥ 0 then (some a0) else (if (wrap64 ((a0.size : Int) - 1)) ≤ (a0.size : Int) then (some (a0.extract 0 ((wrap64 ((a0.size : Int) - 1)) : Int).toNat)) else (none)))))) else (some a0)) else (none)) else (none)) else (none)) else (none))) = some r := h
 clear h
 by_cases c2 : (a0.size : Int) < 2
 ·rw [if_pos c2] at H
  have c2b0 : decide ((a0.size : Int) < 2) = true := decide_eq_true c2
  have c2b1 : decide (a0.size < 2) = true := decide_eq_true (by omega)
  clear c2
  obtain rfl := Option.some.inj H
  go_enter Tryz.func93, Tryz.ntmps93
  go_wp2
  repeat (go_quiet (fail); try go_wp2)
  go_ret
  exact ⟨by first | rfl | (simp; done) | (simp [*]; done), by repeat (first | exact Drawn0.refl _ | apply Drawn0.step)⟩
 ·rw [if_neg c2] at H
  have c2b0 : decide ((a0.size : Int) < 2) = false := decide_eq_false c2
  have c2b1 : decide (a0.size < 2) = false := decide_eq_false (by omega)
  clear c2
  obtain ⟨ji3, hji3⟩ : ∃ j_ : Int, (wrap64 ((a0.size : Int) - 1)) = j_ := ⟨_, rfl⟩
  replace H : (if 0 ≤ (ji3) then (if (ji3) < (a0.size : Int) then (if 0 ≤ (wrap64 ((a0.size : Int) - 2)) then (if (wrap64 ((a0.size : Int) - 2)) < (a0.size : Int) then (if (bt a0 (ji3)) = (bt a0 (wrap64 ((a0.size : Int) - 2))) then ((stem_vowel.f (bt a0 (ji3))).bind fun t219 => (if t219 = true then (some a0) else ((strings_IndexByte.f (⟨#[108, 115, 122]⟩ : ByteArray) (bt a0 (ji3))).bind fun t220 => (if t220 ≥ 0 then (some a0) else (if (ji3) ≤ (a0.size : Int) then (some (a0.extract 0 ((ji3) : Int).toNat)) else (none)))))) else (some a0)) else (none)) else (none)) else (none)) else (none)) = some r := by first | (rw [hji3] at H; exact H) | (simp only [hji3] at H ⊢; exact H)
  have hji3w : (IntKind.i64.wrap ((a0.size : Int) - 1)) = ji3 := (i64_w _).trans hji3
  by_cases c4 : 0 ≤ (ji3)
  ·rw [if_pos c4] at H
   have c4b0 : decide (0 ≤ (ji3)) = true := decide_eq_true c4
   clear c4
   by_cases c5 : (ji3) < (a0.size : Int)
   ·rw [if_pos c5] at H
    have c5b0 : decide ((ji3) < (a0.size : Int)) = true := decide_eq_true c5
    clear c5
    obtain ⟨ji7, hji7⟩ : ∃ j_ : Int, (wrap64 ((a0.size : Int) - 2)) = j_ := ⟨_, rfl⟩
    replace H : (if 0 ≤ (ji7) then (if (ji7) < (a0.size : Int) then (if (bt a0 (ji3)) = (bt a0 (ji7)) then ((stem_vowel.f (bt a0 (ji3))).bind fun t219 => (if t219 = true then (some a0) else ((strings_IndexByte.f (⟨#[108, 115, 122]⟩ : ByteArray) (bt a0 (ji3))).bind fun t220 => (if t220 ≥ 0 then (some a0) else (if (ji3) ≤ (a0.size : Int) then (some (a0.extract 0 ((ji3) : Int).toNat)) else (none)))))) else (some a0)) else (none)) else (none)) = some r := by first | (rw [hji7] at H; exact H) | (simp only [hji7] at H ⊢; exact H)
    have hji7w : (IntKind.i64.wrap ((a0.size : Int) - 2)) = ji7 := (i64_w _).trans hji7
    by_cases c8 : 0 ≤ (ji7)
    ·rw [if_pos c8] at H
     have c8b0 : decide (0 ≤ (ji7)) = true := decide_eq_true c8
     clear c8
     by_cases c9 : (ji7) < (a0.size : Int)
     ·rw [if_pos c9] at H
      have c9b0 : decide ((ji7) < (a0.size : Int)) = true := decide_eq_true c9
      clear c9
      by_cases c11 : (bt a0 (ji3)) = (bt a0 (ji7))
      ·rw [if_pos c11] at H
       have c11b0 : ((bt a0 (ji3)) == (bt a0 (ji7))) = true := beq_iff_eq.mpr c11
       have c11b1 : ((bt a0 (ji3)) != (bt a0 (ji7))) = false := bne_eq_false_iff_eq.mpr c11
       clear c11
       replace H := Option.bind_eq_some_iff.mp H
       obtain ⟨t219, A130, H⟩ := H
       replace H : (if t219 = true then (some a0) else ((strings_IndexByte.f (⟨#[108, 115, 122]⟩ : ByteArray) (bt a0 (ji3))).bind fun t220 => (if t220 ≥ 0 then (some a0) else (if (ji3) ≤ (a0.size : Int) then (some (a0.extract 0 ((ji3) : Int).toNat)) else (none))))) = some r := H
       have A13 := Aside0.mk A130
       clear A130
       by_cases c14 : t219 = true
       ·subst c14
        have H1 : (some a0) = some r := by rw [if_pos rfl] at H; exact H
        clear H
        have H := H1
        clear H1
        obtain rfl := Option.some.inj H
        have p6 : 0 ≤ ((ji3) : Int) := of_decide_eq_true as_
        have q6 : (ji3) < (a0.size : Int) := of_decide_eq_true as_
        have hx6 := bt_at a0 (ji3)
        replace p6 := eq_true p6
        replace q6 := eq_true q6
        have p10 : 0 ≤ ((ji7) : Int) := of_decide_eq_true as_
        have q10 : (ji7) < (a0.size : Int) := of_decide_eq_true as_
        have hx10 := bt_at a0 (ji7)
        replace p10 := eq_true p10
        replace q10 := eq_true q10
        have p12 : 0 ≤ ((ji3) : Int) := of_decide_eq_true as_
        have q12 : (ji3) < (a0.size : Int) := of_decide_eq_true as_
        have hx12 := bt_at a0 (ji3)
        replace p12 := eq_true p12
        replace q12 := eq_true q12
        go_enter Tryz.func93, Tryz.ntmps93
        go_wp2_with (first | (go_at_call 104; (with_reducible refine (stem_vowel.calls (bt a0 (ji3)) true _ A13.out).mono ?_); rintro e w' ⟨rfl, ⟨nd, rfl⟩⟩; (try first | exact ⟨rfl, _, World.drewN_drewN _ _ _⟩ | exact ⟨rfl, _, Eq.trans (World.drewN_drewN _ _ _) (congrArg (World.drewN _) (Nat.add_assoc _ _ _))⟩)))
        repeat (go_quiet (first | (go_at_call 104; (with_reducible refine (stem_vowel.calls (bt a0 (ji3)) true _ A13.out).mono ?_); rintro e w' ⟨rfl, ⟨nd, rfl⟩⟩; (try first | exact ⟨rfl, _, World.drewN_drewN _ _ _⟩ | exact ⟨rfl, _, Eq.trans (World.drewN_drewN _ _ _) (congrArg (World.drewN _) (Nat.add_assoc _ _ _))⟩))); try go_wp2_with (first | (go_at_call 104; (with_reducible refine (stem_vowel.calls (bt a0 (ji3)) true _ A13.out).mono ?_); rintro e w' ⟨rfl, ⟨nd, rfl⟩⟩; (try first | exact ⟨rfl, _, World.drewN_drewN _ _ _⟩ | exact ⟨rfl, _, Eq.trans (World.drewN_drewN _ _ _) (congrArg (World.drewN _) (Nat.add_assoc _ _ _))⟩))))
        go_ret
        exact ⟨by first | rfl | (simp; done) | (simp only [← hji3, ← hji7] <;> (first | rfl | simp)) | (simp [*]; done), by repeat (first | exact Drawn0.refl _ | apply Drawn0.step)⟩
       ·replace c14 := Bool.eq_false_iff.mpr c14
        subst c14
        have H1 : ((strings_IndexByte.f (⟨#[108, 115, 122]⟩ : ByteArray) (bt a0 (ji3))).bind fun t220 => (if t220 ≥ 0 then (some a0) else (if (ji3) ≤ (a0.size : Int) then (some (a0.extract 0 ((ji3) : Int).toNat)) else (none)))) = some r := by rw [if_neg (show ¬ (false = true) by decide)] at H; exact H
        clear H
        have H := H1
        clear H1
        replace H := Option.bind_eq_some_iff.mp H
        obtain ⟨t220, A160, H⟩ := H
        replace H : (if t220 ≥ 0 then (some a0) else (if (ji3) ≤ (a0.size : Int) then (some (a0.extract 0 ((ji3) : Int).toNat)) else (none))) = some r := H
        have A16 := Aside0.mk A160
        clear A160
        by_cases c17 : t220 ≥ 0
        ·rw [if_pos c17] at H
         have c17b0 : decide (0 ≤ t220) = true := decide_eq_true c17
         clear c17
         obtain rfl := Option.some.inj H
         have p6 : 0 ≤ ((ji3) : Int) := of_decide_eq_true as_
         have q6 : (ji3) < (a0.size : Int) := of_decide_eq_true as_
         have hx6 := bt_at a0 (ji3)
         replace p6 := eq_true p6
         replace q6 := eq_true q6
         have p10 : 0 ≤ ((ji7) : Int) := of_decide_eq_true as_
         have q10 : (ji7) < (a0.size : Int) := of_decide_eq_true as_
         have hx10 := bt_at a0 (ji7)
         replace p10 := eq_true p10
         replace q10 := eq_true q10
         have p12 : 0 ≤ ((ji3) : Int) := of_decide_eq_true as_
         have q12 : (ji3) < (a0.size : Int) := of_decide_eq_true as_
         have hx12 := bt_at a0 (ji3)
         replace p12 := eq_true p12
         replace q12 := eq_true q12
         go_enter Tryz.func93, Tryz.ntmps93
         go_wp2_with (first | (go_at_call 104; (with_reducible refine (stem_vowel.calls (bt a0 (ji3)) false _ A13.out).mono ?_); rintro e w' ⟨rfl, ⟨nd, rfl⟩⟩; (try first | exact ⟨rfl, _, World.drewN_drewN _ _ _⟩ | exact ⟨rfl, _, Eq.trans (World.drewN_drewN _ _ _) (congrArg (World.drewN _) (Nat.add_assoc _ _ _))⟩); have p15 : 0 ≤ ((ji3) : Int) := of_decide_eq_true as_; have q15 : (ji3) < (a0.size : Int) := of_decide_eq_true as_; have hx15 := bt_at a0 (ji3); replace p15 := eq_true p15; replace q15 := eq_true q15) | (go_at_call 105; (with_reducible refine (strings_IndexByte.calls (⟨#[108, 115, 122]⟩ : ByteArray) (bt a0 (ji3)) t220 _ A16.out).mono ?_); rintro e w' ⟨rfl, ⟨nd, rfl⟩⟩; (try first | exact ⟨rfl, _, World.drewN_drewN _ _ _⟩ | exact ⟨rfl, _, Eq.trans (World.drewN_drewN _ _ _) (congrArg (World.drewN _) (Nat.add_assoc _ _ _))⟩)))
         repeat (go_quiet (first | (go_at_call 104; (with_reducible refine (stem_vowel.calls (bt a0 (ji3)) false _ A13.out).mono ?_); rintro e w' ⟨rfl, ⟨nd, rfl⟩⟩; (try first | exact ⟨rfl, _, World.drewN_drewN _ _ _⟩ | exact ⟨rfl, _, Eq.trans (World.drewN_drewN _ _ _) (congrArg (World.drewN _) (Nat.add_assoc _ _ _))⟩); have p15 : 0 ≤ ((ji3) : Int) := of_decide_eq_true as_; have q15 : (ji3) < (a0.size : Int) := of_decide_eq_true as_; have hx15 := bt_at a0 (ji3); replace p15 := eq_true p15; replace q15 := eq_true q15) | (go_at_call 105; (with_reducible refine (strings_IndexByte.calls (⟨#[108, 115, 122]⟩ : ByteArray) (bt a0 (ji3)) t220 _ A16.out).mono ?_); rintro e w' ⟨rfl, ⟨nd, rfl⟩⟩; (try first | exact ⟨rfl, _, World.drewN_drewN _ _ _⟩ | exact ⟨rfl, _, Eq.trans (World.drewN_drewN _ _ _) (congrArg (World.drewN _) (Nat.add_assoc _ _ _))⟩))); try go_wp2_with (first | (go_at_call 104; (with_reducible refine (stem_vowel.calls (bt a0 (ji3)) false _ A13.out).mono ?_); rintro e w' ⟨rfl, ⟨nd, rfl⟩⟩; (try first | exact ⟨rfl, _, World.drewN_drewN _ _ _⟩ | exact ⟨rfl, _, Eq.trans (World.drewN_drewN _ _ _) (congrArg (World.drewN _) (Nat.add_assoc _ _ _))⟩); have p15 : 0 ≤ ((ji3) : Int) := of_decide_eq_true as_; have q15 : (ji3) < (a0.size : Int) := of_decide_eq_true as_; have hx15 := bt_at a0 (ji3); replace p15 := eq_true p15; replace q15 := eq_true q15) | (go_at_call 105; (with_reducible refine (strings_IndexByte.calls (⟨#[108, 115, 122]⟩ : ByteArray) (bt a0 (ji3)) t220 _ A16.out).mono ?_); rintro e w' ⟨rfl, ⟨nd, rfl⟩⟩; (try first | exact ⟨rfl, _, World.drewN_drewN _ _ _⟩ | exact ⟨rfl, _, Eq.trans (World.drewN_drewN _ _ _) (congrArg (World.drewN _) (Nat.add_assoc _ _ _))⟩))))
         go_ret
         exact ⟨by first | rfl | (simp; done) | (simp only [← hji3, ← hji7] <;> (first | rfl | simp)) | (simp [*]; done), by repeat (first | exact Drawn0.refl _ | apply Drawn0.step)⟩
        ·rw [if_neg c17] at H
         have c17b0 : decide (0 ≤ t220) = false := decide_eq_false c17
         clear c17
         have c18b0 := eq_true (of_decide_eq_true as_ : 0 ≤ (ji3))
         by_cases c19 : (ji3) ≤ (a0.size : Int)
         ·rw [if_pos c19] at H
          have c19b0 := eq_true c19
          have c19b1 : decide ((ji3) ≤ (a0.size : Int)) = true := decide_eq_true c19
          clear c19
          obtain rfl := Option.some.inj H
          have p6 : 0 ≤ ((ji3) : Int) := of_decide_eq_true as_
          have q6 : (ji3) < (a0.size : Int) := of_decide_eq_true as_
          have hx6 := bt_at a0 (ji3)
          replace p6 := eq_true p6
          replace q6 := eq_true q6
          have p10 : 0 ≤ ((ji7) : Int) := of_decide_eq_true as_
          have q10 : (ji7) < (a0.size : Int) := of_decide_eq_true as_
          have hx10 := bt_at a0 (ji7)
          replace p10 := eq_true p10
          replace q10 := eq_true q10
          have p12 : 0 ≤ ((ji3) : Int) := of_decide_eq_true as_
          have q12 : (ji3) < (a0.size : Int) := of_decide_eq_true as_
          have hx12 := bt_at a0 (ji3)
          replace p12 := eq_true p12
          replace q12 := eq_true q12
          go_enter Tryz.func93, Tryz.ntmps93
          go_wp2_with (first | (go_at_call 104; (with_reducible refine (stem_vowel.calls (bt a0 (ji3)) false _ A13.out).mono ?_); rintro e w' ⟨rfl, ⟨nd, rfl⟩⟩; (try first | exact ⟨rfl, _, World.drewN_drewN _ _ _⟩ | exact ⟨rfl, _, Eq.trans (World.drewN_drewN _ _ _) (congrArg (World.drewN _) (Nat.add_assoc _ _ _))⟩); have p15 : 0 ≤ ((ji3) : Int) := of_decide_eq_true as_; have q15 : (ji3) < (a0.size : Int) := of_decide_eq_true as_; have hx15 := bt_at a0 (ji3); replace p15 := eq_true p15; replace q15 := eq_true q15) | (go_at_call 105; (with_reducible refine (strings_IndexByte.calls (⟨#[108, 115, 122]⟩ : ByteArray) (bt a0 (ji3)) t220 _ A16.out).mono ?_); rintro e w' ⟨rfl, ⟨nd, rfl⟩⟩; (try first | exact ⟨rfl, _, World.drewN_drewN _ _ _⟩ | exact ⟨rfl, _, Eq.trans (World.drewN_drewN _ _ _) (congrArg (World.drewN _) (Nat.add_assoc _ _ _))⟩)))
          repeat (go_quiet (first | (go_at_call 104; (with_reducible refine (stem_vowel.calls (bt a0 (ji3)) false _ A13.out).mono ?_); rintro e w' ⟨rfl, ⟨nd, rfl⟩⟩; (try first | exact ⟨rfl, _, World.drewN_drewN _ _ _⟩ | exact ⟨rfl, _, Eq.trans (World.drewN_drewN _ _ _) (congrArg (World.drewN _) (Nat.add_assoc _ _ _))⟩); have p15 : 0 ≤ ((ji3) : Int) := of_decide_eq_true as_; have q15 : (ji3) < (a0.size : Int) := of_decide_eq_true as_; have hx15 := bt_at a0 (ji3); replace p15 := eq_true p15; replace q15 := eq_true q15) | (go_at_call 105; (with_reducible refine (strings_IndexByte.calls (⟨#[108, 115, 122]⟩ : ByteArray) (bt a0 (ji3)) t220 _ A16.out).mono ?_); rintro e w' ⟨rfl, ⟨nd, rfl⟩⟩; (try first | exact ⟨rfl, _, World.drewN_drewN _ _ _⟩ | exact ⟨rfl, _, Eq.trans (World.drewN_drewN _ _ _) (congrArg (World.drewN _) (Nat.add_assoc _ _ _))⟩))); try go_wp2_with (first | (go_at_call 104; (with_reducible refine (stem_vowel.calls (bt a0 (ji3)) false _ A13.out).mono ?_); rintro e w' ⟨rfl, ⟨nd, rfl⟩⟩; (try first | exact ⟨rfl, _, World.drewN_drewN _ _ _⟩ | exact ⟨rfl, _, Eq.trans (World.drewN_drewN _ _ _) (congrArg (World.drewN _) (Nat.add_assoc _ _ _))⟩); have p15 : 0 ≤ ((ji3) : Int) := of_decide_eq_true as_; have q15 : (ji3) < (a0.size : Int) := of_decide_eq_true as_; have hx15 := bt_at a0 (ji3); replace p15 := eq_true p15; replace q15 := eq_true q15) | (go_at_call 105; (with_reducible refine (strings_IndexByte.calls (⟨#[108, 115, 122]⟩ : ByteArray) (bt a0 (ji3)) t220 _ A16.out).mono ?_); rintro e w' ⟨rfl, ⟨nd, rfl⟩⟩; (try first | exact ⟨rfl, _, World.drewN_drewN _ _ _⟩ | exact ⟨rfl, _, Eq.trans (World.drewN_drewN _ _ _) (congrArg (World.drewN _) (Nat.add_assoc _ _ _))⟩))))
          go_ret
          exact ⟨by first | rfl | (simp; done) | (simp only [← hji3, ← hji7] <;> (first | rfl | simp)) | (simp [*]; done), by repeat (first | exact Drawn0.refl _ | apply Drawn0.step)⟩
         ·rw [if_neg c19] at H
          exact absurd H (by simp)
      ·rw [if_neg c11] at H
       have c11b0 : ((bt a0 (ji3)) == (bt a0 (ji7))) = false := beq_eq_false_iff_ne.mpr c11
       have c11b1 : ((bt a0 (ji3)) != (bt a0 (ji7))) = true := bne_iff_ne.mpr c11
       obtain rfl := Option.some.inj H
       have p6 : 0 ≤ ((ji3) : Int) := of_decide_eq_true as_
       have q6 : (ji3) < (a0.size : Int) := of_decide_eq_true as_
       have hx6 := bt_at a0 (ji3)
       replace p6 := eq_true p6
       replace q6 := eq_true q6
       have p10 : 0 ≤ ((ji7) : Int) := of_decide_eq_true as_
       have q10 : (ji7) < (a0.size : Int) := of_decide_eq_true as_
       have hx10 := bt_at a0 (ji7)
       replace p10 := eq_true p10
       replace q10 := eq_true q10
       go_enter Tryz.func93, Tryz.ntmps93
       go_wp2
       repeat (go_quiet (fail); try go_wp2)
       go_ret
       exact ⟨by first | rfl | (simp; done) | (simp only [← hji3, ← hji7] <;> (first | rfl | simp)) | (simp [*]; done), by repeat (first | exact Drawn0.refl _ | apply Drawn0.step)⟩
     ·rw [if_neg c9] at H
      exact absurd H (by simp)
    ·rw [if_neg c8] at H
     exact absurd H (by simp)
   ·rw [if_neg c5] at H
    exact absurd H (by simp)
  ·rw [if_neg c4] at H
   exact absurd H (by simp)
def stem_past.l0 : Nat → ByteArray → List ByteArray → Int → Int → Option (ByteArray)
 | 0, _, _, _, _ => none
 | k + 1, x0, x7, x8, x9 => if x9 < x8 then (if 0 ≤ x9 then (if x9 < (x7.length : Int) then ((strings_CutSuffix.f x0 (rdOf ByteArray.empty x7 x9)).bind fun bt225 => (if bt225.2 = true then (if (bt225.1.size : Int) ≥ 3 then ((stem_vowels.f bt225.1).bind fun t227 => (if t227 = true then ((stem_twin.f bt225.1).bind fun t228 => (some t228)) else (stem_past.l0 k x0 x7 x8 (wrap64 (x9 + 1))))) else (stem_past.l0 k x0 x7 x8 (wrap64 (x9 + 1)))) else (stem_past.l0 k x0 x7 x8 (wrap64 (x9 + 1))))) else (none)) else (none)) else (some x0)
def stem_past.f (k : Nat) (a0 : ByteArray) : Option (ByteArray) := (some (([(⟨#[105, 110, 103]⟩ : ByteArray), (⟨#[101, 100]⟩ : ByteArray)] : List ByteArray) : List ByteArray)).bind fun y221 => (stem_past.l0 k a0 y221 (y221.length : Int) 0)
theorem stem_past.mono_l : ∀ k, (∀ y0 y1 y2 y3, LeO (stem_past.l0 k y0 y1 y2 y3) (stem_past.l0 (k + 1) y0 y1 y2 y3))
 | 0 => fun _ _ _ _ r h => by simp [stem_past.l0] at h
 | k + 1 => by
  have ih0 := stem_past.mono_l k
  ·intro y0 y1 y2 y3
   unfold stem_past.l0
   repeat' first
   | (with_reducible exact ih0 _ _ _ _)
   | (with_reducible exact LeO.refl _)
   | (with_reducible exact LeO.none _)
   | (with_reducible refine LeO.ite ?_ ?_)
   | (with_reducible refine LeO.bind ?_ (fun _ => ?_))
   | exact ih0 _ _ _ _
   | exact LeO.none _
   | refine LeO.ite ?_ ?_
   | refine LeO.bind ?_ (fun _ => ?_)
theorem stem_past.mono : ∀ a0 k, LeO (stem_past.f k a0) (stem_past.f (k + 1) a0) := by
 intro a0 k
 have ih0 := stem_past.mono_l k
 unfold stem_past.f
 repeat' first
   | (with_reducible exact ih0 _ _ _ _)
   | (with_reducible exact LeO.refl _)
   | (with_reducible exact LeO.none _)
   | (with_reducible refine LeO.ite ?_ ?_)
   | (with_reducible refine LeO.bind ?_ (fun _ => ?_))
   | exact ih0 _ _ _ _
   | exact LeO.none _
   | refine LeO.ite ?_ ?_
   | refine LeO.bind ?_ (fun _ => ?_)
set_option maxHeartbeats 8000000 in
set_option maxRecDepth 100000 in
theorem stem_past.calls (k : Nat) (a0 : ByteArray) (r : ByteArray) (w : World) (h : stem_past.f k a0 = some r) :
  Calls Tryz.prog 69 #[.string a0] w fun e w' => e = .returned (.string r) ∧ Below w.heap.size w w' := by
 have HB := Aside0.mk (Below.refl w.heap.size w)
 have H : ((some (([(⟨#[105, 110, 103]⟩ : ByteArray), (⟨#[101, 100]⟩ : ByteArray)] : List ByteArray) : List ByteArray)).bind fun y221 => (stem_past.l0 k a0 y221 (y221.length : Int) 0)) = some r := h
 clear h
 obtain ⟨y221, hy221⟩ : ∃ y_ : List ByteArray, y_ = (([(⟨#[105, 110, 103]⟩ : ByteArray), (⟨#[101, 100]⟩ : ByteArray)] : List ByteArray)) := ⟨_, rfl⟩
 replace H : (stem_past.l0 k a0 y221 (y221.length : Int) 0) = some r := by first | (rw [hy221]; with_reducible exact H) | (have H2_ := (Option.bind_some _ _).symm.trans H; rw [hy221]; with_reducible exact H2_) | (have H2_ := (Option.bind_some _ _).symm.trans H; with_reducible exact H2_) | with_reducible exact H | (rw [hy221]; exact H) | exact H
 have Ny221 := Aside0.mk hy221
 clear hy221
 have H' := Aside0.mk H
 clear H
 go_enter Tryz.func69, Tryz.ntmps69
 go_wp2_with (first | ((with_reducible refine gate_dst (N := 7) rfl ?_); (try (refine gate_guard (by rfl) ?_; dsimp only)); refine Kd.R_lit Kd.string _ 9 ?hg (N := 7) ?hd (xs := ([(⟨#[105, 110, 103]⟩ : ByteArray), (⟨#[101, 100]⟩ : ByteArray)] : List ByteArray)) (inner := [.string (⟨#[105, 110, 103]⟩ : ByteArray), .string (⟨#[101, 100]⟩ : ByteArray)]) (ok := fun _ => True) (okp := fun _ => True) ?hr ?hp (fun _ hk => hk) trivial (Below.refl _ _) (Nat.le_refl _) (by simp) ?_; (case hd => rfl); (case hg => rfl); (case hr => first | (go_simp; done) | (go_simp; rfl)); (case hp => exact (Reps.one (show Kd.M Kd.string _ _ _ (⟨#[105, 110, 103]⟩ : ByteArray) [.string (⟨#[105, 110, 103]⟩ : ByteArray)] from rfl) (Reps.one (show Kd.M Kd.string _ _ _ (⟨#[101, 100]⟩ : ByteArray) [.string (⟨#[101, 100]⟩ : ByteArray)] from rfl) (Reps.none _ _)))); intro v222 w2 ho3 hb hg_ hnew_; clear hg_ hnew_; (first | rw [← Ny221.out] at ho3 | (simp only [Int.reduceToNat] at ho3; rw [← Ny221.out] at ho3)); have n0_ := Aside0.mk (Kd.R_lower ho3 (below_size (bb_ HB.out))); have n1_ := Aside0.mk (below_step (bb_ HB.out) hb); clear HB; have HO223 := n0_; have HB := n1_; clear n0_ n1_; clear hb ho3; obtain ⟨Ao4, co4, eo4⟩ := Kd.R_slice HO223.out; subst eo4))
 go_loopg [9] k (fun kq v9 w' => ∃ (x9_1 : Int), v9 = .int .i64 x9_1 ∧ Aside0 (stem_past.l0 kq a0 y221 (y221.length : Int) x9_1 = some r) ∧ Aside0 (kq ≤ k) ∧ Aside0 (Kd.R Kd.string 9 w' w.heap.size (fun _ => True) (.slice Ao4 y221.length co4) y221) ∧ Aside0 (Below w.heap.size w w'))
 case atStart => exact ⟨(0), rs_, H', ⟨Nat.le_refl _⟩, ⟨kr_ HO223.out⟩, ⟨bb_ HB.out⟩⟩
 case round =>
  clear H'
  try clear p2
  obtain ⟨x9_1, rfl, HA, HK1, HO_7, HB⟩ := hrel
  cases gk with
  | zero => exact absurd HA.out (by simp [stem_past.l0])
  | succ k1 =>
   have H := HA.out
   clear HA
   simp only [stem_past.l0] at H
   by_cases c5 : x9_1 < (y221.length : Int)
   ·rw [if_pos c5] at H
    have c5b0 : decide (x9_1 < (y221.length : Int)) = true := decide_eq_true c5
    clear c5
    by_cases c6 : 0 ≤ x9_1
    ·rw [if_pos c6] at H
     have c6b0 : decide (0 ≤ x9_1) = true := decide_eq_true c6
     clear c6
     by_cases c7 : x9_1 < (y221.length : Int)
     ·rw [if_pos c7] at H
      have c7b0 : decide (x9_1 < (y221.length : Int)) = true := decide_eq_true c7
      clear c7
      replace H := Option.bind_eq_some_iff.mp H
      obtain ⟨⟨t225, t226⟩, A80, H⟩ := H
      replace H : (if t226 = true then (if (t225.size : Int) ≥ 3 then ((stem_vowels.f t225).bind fun t227 => (if t227 = true then ((stem_twin.f t225).bind fun t228 => (some t228)) else (stem_past.l0 k1 a0 y221 (y221.length : Int) (wrap64 (x9_1 + 1))))) else (stem_past.l0 k1 a0 y221 (y221.length : Int) (wrap64 (x9_1 + 1)))) else (stem_past.l0 k1 a0 y221 (y221.length : Int) (wrap64 (x9_1 + 1)))) = some r := H
      have A8 := Aside0.mk A80
      clear A80
      by_cases c9 : t226 = true
      ·subst c9
       have H1 : (if (t225.size : Int) ≥ 3 then ((stem_vowels.f t225).bind fun t227 => (if t227 = true then ((stem_twin.f t225).bind fun t228 => (some t228)) else (stem_past.l0 k1 a0 y221 (y221.length : Int) (wrap64 (x9_1 + 1))))) else (stem_past.l0 k1 a0 y221 (y221.length : Int) (wrap64 (x9_1 + 1)))) = some r := by rw [if_pos rfl] at H; exact H
       clear H
       have H := H1
       clear H1
       by_cases c10 : (t225.size : Int) ≥ 3
       ·rw [if_pos c10] at H
        have c10b0 : decide (3 ≤ (t225.size : Int)) = true := decide_eq_true c10
        have c10b1 : decide (3 ≤ t225.size) = true := decide_eq_true (by omega)
        clear c10
        replace H := Option.bind_eq_some_iff.mp H
        obtain ⟨t227, A110, H⟩ := H
        replace H : (if t227 = true then ((stem_twin.f t225).bind fun t228 => (some t228)) else (stem_past.l0 k1 a0 y221 (y221.length : Int) (wrap64 (x9_1 + 1)))) = some r := H
        have A11 := Aside0.mk A110
        clear A110
        by_cases c12 : t227 = true
        ·subst c12
         have H1 : ((stem_twin.f t225).bind fun t228 => (some t228)) = some r := by rw [if_pos rfl] at H; exact H
         clear H
         have H := H1
         clear H1
         replace H := Option.bind_eq_some_iff.mp H
         obtain ⟨t228, A130, H⟩ := H
         replace H : (some t228) = some r := H
         have A13 := Aside0.mk A130
         clear A130
         obtain rfl := Option.some.inj H
         have p224 : 0 ≤ (x9_1 : Int) := of_decide_eq_true as_
         have q224 : x9_1 < (y221.length : Int) := of_decide_eq_true as_
         obtain ⟨ad224, e224, hx224_0⟩ := Kd.at_string (Kd.R_reads' HO_7.out).2.2 x9_1 p224 q224
         cases e224
         replace p224 := eq_true p224
         replace q224 := eq_true q224
         go_wp2_with (first | ((with_reducible refine gate_callee (f := 91) rfl ?_); refine goesL_ (some 16) rfl rfl Tryz.func91 (by kernel_rfl) rfl #[.string a0, .string (rdOf ByteArray.empty y221 x9_1)] rfl ar_ ?_; (with_reducible refine (strings_CutSuffix.calls a0 (rdOf ByteArray.empty y221 x9_1) t225 true _ A8.out).mono ?_); rintro e w' ⟨rfl, ⟨nd, rfl⟩⟩; refine ⟨_, rfl, ?_⟩) | (go_at_call 92; (with_reducible refine (stem_vowels.calls t225 true _ A11.out).mono ?_); rintro e w14 ⟨rfl, hb⟩; have n0_ := Aside0.mk (Kd.R_below (kr_ HO_7.out) hb); have n1_ := Aside0.mk (below_step (bb_ HB.out) hb); clear HO_7; clear HB; have HO_7 := n0_; have HB := n1_; clear n0_ n1_; (try clear hb); (try clear hb2); (try clear hk); (try clear hi)) | ((with_reducible refine gate_callee (f := 93) rfl ?_); refine goesL_ (some 30) rfl rfl Tryz.func93 (by kernel_rfl) rfl #[.string t225] rfl ar_ ?_; (with_reducible refine (stem_twin.calls t225 t228 _ A13.out).mono ?_); rintro e w' ⟨rfl, ⟨nd, rfl⟩⟩; refine ⟨_, rfl, ?_⟩))
         go_ret
         exact ⟨by first | rfl | (simp [errW_none, errW_some] <;> rfl) | (simp [*, errW_none, errW_some] <;> rfl), bb_ HB.out⟩
        ·replace c12 := Bool.eq_false_iff.mpr c12
         subst c12
         have H1 : (stem_past.l0 k1 a0 y221 (y221.length : Int) (wrap64 (x9_1 + 1))) = some r := by rw [if_neg (show ¬ (false = true) by decide)] at H; exact H
         clear H
         have H := H1
         clear H1
         have H' := Aside0.mk H
         clear H
         have p224 : 0 ≤ (x9_1 : Int) := of_decide_eq_true as_
         have q224 : x9_1 < (y221.length : Int) := of_decide_eq_true as_
         obtain ⟨ad224, e224, hx224_0⟩ := Kd.at_string (Kd.R_reads' HO_7.out).2.2 x9_1 p224 q224
         cases e224
         replace p224 := eq_true p224
         replace q224 := eq_true q224
         go_wp2_with (first | ((with_reducible refine gate_callee (f := 91) rfl ?_); refine goesL_ (some 16) rfl rfl Tryz.func91 (by kernel_rfl) rfl #[.string a0, .string (rdOf ByteArray.empty y221 x9_1)] rfl ar_ ?_; (with_reducible refine (strings_CutSuffix.calls a0 (rdOf ByteArray.empty y221 x9_1) t225 true _ A8.out).mono ?_); rintro e w' ⟨rfl, ⟨nd, rfl⟩⟩; refine ⟨_, rfl, ?_⟩) | (go_at_call 92; (with_reducible refine (stem_vowels.calls t225 false _ A11.out).mono ?_); rintro e w15 ⟨rfl, hb⟩; have n0_ := Aside0.mk (Kd.R_below (kr_ HO_7.out) hb); have n1_ := Aside0.mk (below_step (bb_ HB.out) hb); clear HO_7; clear HB; have HO_7 := n0_; have HB := n1_; clear n0_ n1_; (try clear hb); (try clear hb2); (try clear hk); (try clear hi)))
         go_roundg k1
         case measure => have := HK1.out; omega
         case rel => exact ⟨(wrap64 (x9_1 + 1)), rs_, H', ⟨by have := HK1.out; omega⟩, ⟨kr_ HO_7.out⟩, ⟨bb_ HB.out⟩⟩
       ·rw [if_neg c10] at H
        have c10b0 : decide (3 ≤ (t225.size : Int)) = false := decide_eq_false c10
        have c10b1 : decide (3 ≤ t225.size) = false := decide_eq_false (by omega)
        clear c10
        have H' := Aside0.mk H
        clear H
        have p224 : 0 ≤ (x9_1 : Int) := of_decide_eq_true as_
        have q224 : x9_1 < (y221.length : Int) := of_decide_eq_true as_
        obtain ⟨ad224, e224, hx224_0⟩ := Kd.at_string (Kd.R_reads' HO_7.out).2.2 x9_1 p224 q224
        cases e224
        replace p224 := eq_true p224
        replace q224 := eq_true q224
        go_wp2_with (first | ((with_reducible refine gate_callee (f := 91) rfl ?_); refine goesL_ (some 16) rfl rfl Tryz.func91 (by kernel_rfl) rfl #[.string a0, .string (rdOf ByteArray.empty y221 x9_1)] rfl ar_ ?_; (with_reducible refine (strings_CutSuffix.calls a0 (rdOf ByteArray.empty y221 x9_1) t225 true _ A8.out).mono ?_); rintro e w' ⟨rfl, ⟨nd, rfl⟩⟩; refine ⟨_, rfl, ?_⟩))
        go_roundg k1
        case measure => have := HK1.out; omega
        case rel => exact ⟨(wrap64 (x9_1 + 1)), rs_, H', ⟨by have := HK1.out; omega⟩, ⟨kr_ HO_7.out⟩, ⟨bb_ HB.out⟩⟩
      ·replace c9 := Bool.eq_false_iff.mpr c9
       subst c9
       have H1 : (stem_past.l0 k1 a0 y221 (y221.length : Int) (wrap64 (x9_1 + 1))) = some r := by rw [if_neg (show ¬ (false = true) by decide)] at H; exact H
       clear H
       have H := H1
       clear H1
       have H' := Aside0.mk H
       clear H
       have p224 : 0 ≤ (x9_1 : Int) := of_decide_eq_true as_
       have q224 : x9_1 < (y221.length : Int) := of_decide_eq_true as_
       obtain ⟨ad224, e224, hx224_0⟩ := Kd.at_string (Kd.R_reads' HO_7.out).2.2 x9_1 p224 q224
       cases e224
       replace p224 := eq_true p224
       replace q224 := eq_true q224
       go_wp2_with (first | ((with_reducible refine gate_callee (f := 91) rfl ?_); refine goesL_ (some 16) rfl rfl Tryz.func91 (by kernel_rfl) rfl #[.string a0, .string (rdOf ByteArray.empty y221 x9_1)] rfl ar_ ?_; (with_reducible refine (strings_CutSuffix.calls a0 (rdOf ByteArray.empty y221 x9_1) t225 false _ A8.out).mono ?_); rintro e w' ⟨rfl, ⟨nd, rfl⟩⟩; refine ⟨_, rfl, ?_⟩))
       go_roundg k1
       case measure => have := HK1.out; omega
       case rel => exact ⟨(wrap64 (x9_1 + 1)), rs_, H', ⟨by have := HK1.out; omega⟩, ⟨kr_ HO_7.out⟩, ⟨bb_ HB.out⟩⟩
     ·rw [if_neg c7] at H
      exact absurd H (by simp)
    ·rw [if_neg c6] at H
     exact absurd H (by simp)
   ·rw [if_neg c5] at H
    have c5b0 : decide (x9_1 < (y221.length : Int)) = false := decide_eq_false c5
    clear c5
    obtain rfl := Option.some.inj H
    go_wp2
    go_ret
    exact ⟨by first | rfl | (simp [errW_none, errW_some] <;> rfl) | (simp [*, errW_none, errW_some] <;> rfl), bb_ HB.out⟩
theorem cutSuffix_f (s t : ByteArray) (hs : s.size ≤ 140737488351232) (ht : t.size ≤ 140737488351232) : strings_CutSuffix.f s t = some (if sufB s t then (s.extract 0 (s.size - t.size), true) else (s, false)) := by
 unfold strings_CutSuffix.f stringslite_CutSuffix.f
 have h0 := hasSuffix_f s t hs ht
 unfold strings_HasSuffix.f at h0
 have h1 : stringslite_HasSuffix.f s t = some (sufB s t) := by
  cases hh : stringslite_HasSuffix.f s t with
  | none => rw [hh] at h0; cases h0
  | some b => rw [hh] at h0; exact h0
 rw [h1]
 simp only [Option.bind_some]
 cases hb : sufB s t with
 | false => rfl
 | true =>
  have hl : t.size ≤ s.size := by unfold sufB at hb; simp at hb; exact hb.1
  have e : wrap64 ((s.size : Int) - (t.size : Int)) = ((s.size - t.size : Nat) : Int) := by unfold wrap64; omega
  simp only [if_true]
  rw [e, if_pos (by omega), if_pos (by omega)]
  simp
theorem calls_cut (s t r1 : ByteArray) (r2 : Bool) (w : World) (hs : s.size ≤ 140737488351232) (ht : t.size ≤ 140737488351232) (hr : (if sufB s t then (s.extract 0 (s.size - t.size), true) else (s, false)) = (r1, r2)) :
  Calls Tryz.prog 91 #[.string s, .string t] w fun e w' => e = .returned (.tuple #[.string r1, .bool r2]) ∧ Drawn0 w w' :=
 strings_CutSuffix.calls s t r1 r2 w (by rw [cutSuffix_f s t hs ht, hr])
def otherGo : List (ByteArray × ByteArray) → ByteArray → ByteArray
 | [], w => w
 | (o, p) :: t, w => if sufB w o && decide (3 ≤ w.size - o.size) then w.extract 0 (w.size - o.size) ++ p else otherGo t w
def stem_other.f (a0 : ByteArray) : Option ByteArray := if a0.size ≤ 140737488351232 then some (otherGo endsTab a0) else none
def oldAt (k : Nat) : ByteArray := (endsTab.getD k (ByteArray.empty, ByteArray.empty)).1
def putAt (k : Nat) : ByteArray := (endsTab.getD k (ByteArray.empty, ByteArray.empty)).2
theorem ends_cases (k : Nat) (hk : k < 7) : k = 0 ∨ k = 1 ∨ k = 2 ∨ k = 3 ∨ k = 4 ∨ k = 5 ∨ k = 6 := by omega
theorem ends_step (k : Nat) (hk : k < 7) : endsTab.drop k = (oldAt k, putAt k) :: endsTab.drop (k + 1) := by
 rcases ends_cases k hk with rfl | rfl | rfl | rfl | rfl | rfl | rfl <;> rfl
theorem ends_size (k : Nat) (hk : k < 7) : (oldAt k).size ≤ 7 ∧ (putAt k).size ≤ 3 := by
 rcases ends_cases k hk with rfl | rfl | rfl | rfl | rfl | rfl | rfl <;> decide
theorem ends_index (k : Nat) (hk : k < 7) (w : World) : (Instr.index 125 (.agg endsCells) (.int .i64 (k : Int))).run Tryz.prog w = .ok (.agg #[.string (oldAt k), .string (putAt k)]) w := by
 rcases ends_cases k hk with rfl | rfl | rfl | rfl | rfl | rfl | rfl <;> kernel_rfl
set_option maxHeartbeats 4000000 in
set_option maxRecDepth 100000 in
theorem stem_other.calls (a0 r : ByteArray) (w : World) (hG : GL w) (h : stem_other.f a0 = some r) :
  Calls Tryz.prog 70 #[.string a0] w fun e w' => e = .returned (.string r) ∧ Below w.heap.size w w' := by
 unfold stem_other.f at h
 by_cases hs : a0.size ≤ 140737488351232
 ·rw [if_pos hs] at h
  obtain ⟨t, fr, hg⟩ := hG.ends
  have hr0 := Option.some.inj h
  have hr := Aside0.mk hr0
  clear hr0 h hG
  go_enter Tryz.func70, Tryz.ntmps70
  go_wp2_with (refine wpList_load_row rfl 125 _ rfl 4 rfl _ _ _ _ hg Tryz.underlying125 rfl (by kernel_rfl) ?_)
  clear hg
  go_loopg [8] 7 (fun n v wr => ∃ k : Nat, v = .int .i64 k ∧ Aside0 (n + k = 7) ∧ Aside0 (otherGo (endsTab.drop k) a0 = r) ∧ Below w.heap.size w wr)
  case atStart => exact ⟨0, rfl, ⟨rfl⟩, ⟨hr.out⟩, Below.refl _ _⟩
  case round =>
   obtain ⟨k, rfl, HN, HR, HB0⟩ := hrel
   have HB := Aside0.mk HB0
   clear HB0 hr
   have HR2 := HR.out
   clear HR
   by_cases hk : k < 7
   ·have hidx := ends_index k hk
    obtain ⟨hz1, hz2⟩ := ends_size k hk
    rw [ends_step k hk] at HR2
    have hu := Tryz.underlying124
    have hk' : decide ((k : Int) < 7) = true := by simp; omega
    cases hsuf : sufB a0 (oldAt k) with
    | true =>
     obtain ⟨rest, hrest⟩ : ∃ x, x = a0.extract 0 (a0.size - (oldAt k).size) := ⟨_, rfl⟩
     have hle := sufB_le hsuf
     have hrs : rest.size = a0.size - (oldAt k).size := by rw [hrest]; simp
     have hrb : rest.size ≤ 140737488351232 := by omega
     have HC := Aside0.mk (show (if sufB a0 (oldAt k) then (a0.extract 0 (a0.size - (oldAt k).size), true) else (a0, false)) = (rest, true) by rw [hsuf, hrest]; rfl)
     by_cases c3 : 3 ≤ rest.size
     ·have e : rest ++ putAt k = r := by rw [← HR2]; simp only [otherGo]; rw [hsuf, ← hrest, ← hrs]; simp [c3]
      have HE := Aside0.mk e
      clear e HR2 hrs hrest hsuf hle
      have b3 : decide ((3 : Int) ≤ (rest.size : Int)) = true := by simp; omega
      have hsz : rest.size + (putAt k).size ≤ 9223372036854775807 := by omega
      go_wp2_with (go_at_call 91; refine (calls_cut _ _ rest true _ hs (by omega) HC.out).mono ?_; rintro e w' ⟨rfl, ⟨n, rfl⟩⟩)
      go_ret
      exact ⟨ret_str HE.out, by repeat (first | exact HB.out | apply below_alloc | apply pw_below_drewN)⟩
     ·have e : otherGo (endsTab.drop (k + 1)) a0 = r := by rw [← HR2]; simp only [otherGo]; rw [hsuf, ← hrs]; simp [c3]
      have HE := Aside0.mk e
      clear e HR2 hrs hrest hsuf hle
      have b3 : decide ((3 : Int) ≤ (rest.size : Int)) = false := by simp; omega
      go_wp2_with (go_at_call 91; refine (calls_cut _ _ rest true _ hs (by omega) HC.out).mono ?_; rintro e w' ⟨rfl, ⟨n, rfl⟩⟩)
      go_roundg (gk - 1)
      case measure => have := HN.out; omega
      case rel => exact ⟨k + 1, by go_num, ⟨by have := HN.out; omega⟩, HE, by repeat (first | exact HB.out | apply below_alloc | apply pw_below_drewN)⟩
    | false =>
     have HC := Aside0.mk (show (if sufB a0 (oldAt k) then (a0.extract 0 (a0.size - (oldAt k).size), true) else (a0, false)) = (a0, false) by rw [hsuf]; rfl)
     have e : otherGo (endsTab.drop (k + 1)) a0 = r := by rw [← HR2]; simp only [otherGo]; rw [hsuf]; simp
     have HE := Aside0.mk e
     clear e HR2 hsuf
     go_wp2_with (go_at_call 91; refine (calls_cut _ _ a0 false _ hs (by omega) HC.out).mono ?_; rintro e w' ⟨rfl, ⟨n, rfl⟩⟩)
     go_roundg (gk - 1)
     case measure => have := HN.out; omega
     case rel => exact ⟨k + 1, by go_num, ⟨by have := HN.out; omega⟩, HE, by repeat (first | exact HB.out | apply below_alloc | apply pw_below_drewN)⟩
   ·have e : k = 7 := by have := HN.out; omega
    subst e
    have HE := Aside0.mk (show a0 = r from HR2)
    have hk' : decide (((7 : Nat) : Int) < 7) = false := by decide
    clear hk HR2
    go_wp2
    go_ret
    exact ⟨ret_str HE.out, by repeat (first | exact HB.out | apply below_alloc | apply pw_below_drewN)⟩
 ·rw [if_neg hs] at h
  cases h
end Go.Proofs.YtcgkmomhjincgaaGreatDoor.LibX
