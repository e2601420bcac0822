import Derived.Test.YtcgkmomhjincgaaGreatDoorELibX0
import Derived.Test.YtcgkmomhjincgaaGreatDoorELibX6
namespace Go.Proofs.YtcgkmomhjincgaaGreatDoor.LibX
open Go.RowKit Go.Proofs.YtcgkmomhjincgaaGreatDoorW.PrintWords Go.Proofs.YtcgkmomhjincgaaGreatDoorW.PrintLast Go.Proofs.YtcgkmomhjincgaaGreatDoorW.PrintMore
attribute [local go_sem] max2_int min2_int max_two min_two max_three min_three max_four min_four   -- for this text's walks alone
set_option linter.unusedVariables false
set_option linter.unusedSimpArgs false
def nextGo : List Int → Int → Option Int
 | [], r => some r
 | c :: t, r => if Go.bits .and .u8 c 192 = 128 then nextGo t (Go.bits .or .i64 (wrap64 (r * 64)) (wrap64 (Go.bits .and .u8 c 63))) else none
def nextEnd (o : Option Int) (sz least : Int) : Option (Int × Int) :=
 match o with
 | none => some (-1, 1)
 | some r => if r < least then some (-1, 1) else (utf_Sign.f r).bind fun b => if b = true then some (r, sz) else some (-1, 1)
def utf_Next.f (a0 : ByteArray) (a1 : Int) : Option (Int × Int) :=
 if a0.size ≤ 140737488351232 then
  (if a1 < 0 then some (-1, 0) else if a1 ≥ (a0.size : Int) then some (-1, 0) else
   (utf_first.f (bt a0 a1)).bind fun t => if t.1 = 0 then some (-1, 1) else if t.1 > (a0.size : Int) - a1 then some (-1, 1) else
    if 1 ≤ t.1 then nextEnd (nextGo (bytesOf (a0.extract (a1 + 1).toNat (a1 + t.1).toNat)) t.2.1) t.1 t.2.2 else none)
 else none
theorem next_ret {a b c d : Int} (h : some (a, b) = some (c, d)) : Ending.returned (.tuple #[.int .i64 a, .int .i64 b]) = .returned (.tuple #[.int .i64 c, .int .i64 d]) := by
 have := Option.some.inj h
 simp only [Prod.mk.injEq] at this
 rw [this.1, this.2]
set_option maxHeartbeats 4000000 in
set_option maxRecDepth 100000 in
theorem utf_Next.calls (a0 : ByteArray) (a1 : Int) (r1 r2 : Int) (w : World) (h : utf_Next.f a0 a1 = some (r1, r2)) :
  Calls Tryz.prog 44 #[.string a0, .int .i64 a1] w fun e w' => e = .returned (.tuple #[.int .i64 r1, .int .i64 r2]) ∧ Below w.heap.size w w' := by
 unfold utf_Next.f at h
 by_cases hs : a0.size ≤ 140737488351232
 ·rw [if_pos hs] at h
  by_cases c1 : a1 < 0
  ·rw [if_pos c1] at h
   have H := Aside0.mk (next_ret h)
   clear h
   have b1 : decide (a1 < 0) = true := by simpa using c1
   clear c1
   go_enter Tryz.func44, Tryz.ntmps44
   go_wp2
   go_ret2
   exact ⟨H.out, Below.refl _ _⟩
  ·rw [if_neg c1] at h
   have b1 : decide (a1 < 0) = false := by simpa using c1
   by_cases c2 : a1 ≥ (a0.size : Int)
   ·rw [if_pos c2] at h
    have H := Aside0.mk (next_ret h)
    clear h
    have b2 : decide ((a0.size : Int) ≤ a1) = true := by simpa using c2
    clear c2 c1
    go_enter Tryz.func44, Tryz.ntmps44
    go_wp2
    go_ret2
    exact ⟨H.out, Below.refl _ _⟩
   ·rw [if_neg c2] at h
    have b2 : decide ((a0.size : Int) ≤ a1) = false := by simpa using c2
    obtain ⟨⟨sz, bb, least⟩, hf, h⟩ := Option.bind_eq_some_iff.1 h
    simp only at h
    obtain ⟨n, rfl⟩ := Int.eq_ofNat_of_zero_le (show 0 ≤ a1 by omega)
    have hlt : n < a0.size := by omega
    have hbt : ((a0[n]'hlt).toNat : Int) = bt a0 (n : Int) := bt_at a0 (n : Int) (by simpa using hlt)
    have HF := Aside0.mk hf
    clear hf c1 c2
    have hu := Tryz.underlying95
    have hn' : decide ((n : Int) < 0) = false := by simp
    by_cases c3 : sz = 0
    ·rw [if_pos c3] at h
     have H := Aside0.mk (next_ret h)
     clear h
     have b3 : (sz == 0) = true := by simpa using c3
     clear c3
     go_enter Tryz.func44, Tryz.ntmps44
     go_wp2_with fail
     refine (utf_first.calls _ sz bb least _ HF.out).mono ?_; rintro e w1 ⟨rfl, hb1⟩; have HB := Aside0.mk hb1; clear hb1
     go_wp2
     go_ret2
     exact ⟨H.out, by repeat (first | exact HB.out | apply below_alloc | apply pw_below_drewN | apply below_drew1)⟩
    ·rw [if_neg c3] at h
     have b3 : (sz == 0) = false := by simpa using c3
     clear c3
     by_cases c4 : sz > (a0.size : Int) - n
     ·rw [if_pos c4] at h
      have H := Aside0.mk (next_ret h)
      clear h
      have b4 : decide ((a0.size : Int) - n < sz) = true := by simpa using c4
      clear c4
      go_enter Tryz.func44, Tryz.ntmps44
      go_wp2_with fail
      refine (utf_first.calls _ sz bb least _ HF.out).mono ?_; rintro e w1 ⟨rfl, hb1⟩; have HB := Aside0.mk hb1; clear hb1
      go_wp2
      go_ret2
      exact ⟨H.out, by repeat (first | exact HB.out | apply below_alloc | apply pw_below_drewN | apply below_drew1)⟩
     ·rw [if_neg c4] at h
      have b4 : decide ((a0.size : Int) - n < sz) = false := by simpa using c4
      by_cases c5 : 1 ≤ sz
      ·rw [if_pos c5] at h
       obtain ⟨z, rfl⟩ := Int.eq_ofNat_of_zero_le (show 0 ≤ sz by omega)
       have e1 : ((n : Int) + 1).toNat = n + 1 := by omega
       have e2 : ((n : Int) + (z : Int)).toNat = n + z := by omega
       rw [e1, e2] at h
       obtain ⟨s2, hs2⟩ : ∃ s2, s2 = a0.extract (n + 1) (n + z) := ⟨_, rfl⟩
       rw [← hs2] at h
       have hz2 : s2.size = z - 1 := by rw [hs2]; simp; omega
       have hz3 : s2.size ≤ 140737488351232 := by omega
       have HS := Aside0.mk hs2
       have hle : n + z ≤ a0.size := by omega
       have HSZ := Aside0.mk (show (a0.extract (n + 1) (n + z)).size ≤ 9223372036854775807 by rw [← hs2]; omega)
       clear c4 e1 e2 hs2
       go_enter Tryz.func44, Tryz.ntmps44
       go_wp2_with fail
       refine (utf_first.calls _ (z : Int) bb least _ HF.out).mono ?_; rintro e w1 ⟨rfl, hb1⟩; have HB := Aside0.mk hb1; clear hb1
       go_wp2_with (refine wpList_bytes rfl 9 53 5 _ rfl Tryz.underlying9 Tryz.underlying53 Tryz.underlying5 (a0.extract (n + 1) (n + z)) rfl HSZ.out ?_; intro W1 A1 c1 hb0 hrd0 hc0)
       rw [← HS.out] at hrd0
       have HRD := Aside0.mk hrd0
       have hcell0 : W1.cell? ⟨w1.heap.size, 0, none⟩ = some (.int .i64 (z : Int)) := (hb0.cell (by simp)).trans (by simp)
       have hcell : W1.cell? ⟨w1.heap.size, 2, none⟩ = some (.int .i64 least) := (hb0.cell (by simp)).trans (by simp)
       have HB2 : Aside0 (Below w.heap.size w W1) := ⟨(below_then (below_alloc HB.out _) (by simp; have := HB.out.size; omega) hb0)⟩
       clear hb0 hrd0 hc0
       have HH := Aside0.mk h
       clear h
       have hL : n + z - (n + 1) = s2.size := by omega
       have HL := Aside0.mk hL
       clear hL
       go_loopg [7, 46] s2.size (fun g v7 v wr => ∃ (k : Nat) (r : Int), v = .int .i64 k ∧ v7 = .int .i64 r ∧ Aside0 (g + k = s2.size) ∧ Aside0 (nextEnd (nextGo ((bytesOf s2).drop k) r) z least = some (r1, r2)) ∧ Drawn0 W1 wr)
       case atStart => exact ⟨0, bb, rfl, rfl, ⟨rfl⟩, ⟨HH.out⟩, Drawn0.refl _⟩
       case round =>
        obtain ⟨k, r, rfl, rfl, HN, HR, ⟨m, rfl⟩⟩ := hrel
        have HR2 := HR.out
        clear HR HH
        by_cases hk : k < s2.size
        ·obtain ⟨ad, e, hc⟩ := bytes_at HRD.out k hk
         cases e
         rw [plain_step s2 k hk] at HR2
         have hk' : decide (k < n + z - (n + 1)) = true := by have := HL.out; simp; omega
         have hk2 : k < n + z - (n + 1) := by have := HL.out; omega
         clear hk
         simp only [nextGo] at HR2
         by_cases c1 : Go.bits .and .u8 (rd (bytesOf s2) (k : Int)) 192 = 128
         ·rw [if_pos c1] at HR2
          have HR := Aside0.mk HR2
          clear HR2
          have b1 : (Go.bits .and .u8 (rd (bytesOf s2) (k : Int)) 192 != 128) = false := by simpa using c1
          clear c1
          go_wp2
          go_roundg (gk - 1)
          case measure => have := HN.out; have := HL.out; omega
          case rel => exact ⟨k + 1, _, by go_num, rfl, ⟨by have := HN.out; have := HL.out; omega⟩, HR, by repeat (first | exact Drawn0.refl _ | apply Drawn0.step)⟩
         ·rw [if_neg c1] at HR2
          have H := Aside0.mk (next_ret HR2)
          clear HR2
          have b1 : (Go.bits .and .u8 (rd (bytesOf s2) (k : Int)) 192 != 128) = true := by simpa using c1
          clear c1
          go_wp2
          go_ret2
          exact ⟨H.out, by repeat (first | exact HB2.out | apply below_alloc | apply pw_below_drewN | apply below_drew1)⟩
        ·have e : k = s2.size := by have := HN.out; omega
         rw [e, List.drop_eq_nil_of_le (by rw [bytesOf_length]; exact Nat.le_refl _)] at HR2
         have hk' : decide (k < n + z - (n + 1)) = false := by have := HL.out; simp; omega
         clear hk e
         simp only [nextGo, nextEnd] at HR2
         by_cases c1 : r < least
         ·rw [if_pos c1] at HR2
          have H := Aside0.mk (next_ret HR2)
          clear HR2
          have b1 : decide (r < least) = true := by simpa using c1
          go_wp2
          go_ret2
          exact ⟨H.out, by repeat (first | exact HB2.out | apply below_alloc | apply pw_below_drewN | apply below_drew1)⟩
         ·rw [if_neg c1] at HR2
          obtain ⟨b, hb, HR2⟩ := Option.bind_eq_some_iff.1 HR2
          have HSG := Aside0.mk hb
          have b1 : decide (r < least) = false := by simpa using c1
          clear c1 hb
          cases b with
          | true =>
           have H := Aside0.mk (next_ret HR2)
           clear HR2
           go_wp2_with (go_at_call 63; refine (utf_Sign.calls _ true _ HSG.out).mono ?_; rintro e w' ⟨rfl, ⟨nd, rfl⟩⟩)
           go_quiet (fail)
           go_wp2
           go_ret2
           exact ⟨H.out, by repeat (first | exact HB2.out | apply below_alloc | apply pw_below_drewN | apply below_drew1)⟩
          | false =>
           have H := Aside0.mk (next_ret HR2)
           clear HR2
           go_wp2_with (go_at_call 63; refine (utf_Sign.calls _ false _ HSG.out).mono ?_; rintro e w' ⟨rfl, ⟨nd, rfl⟩⟩)
           go_ret2
           exact ⟨H.out, by repeat (first | exact HB2.out | apply below_alloc | apply pw_below_drewN | apply below_drew1)⟩
      ·rw [if_neg c5] at h
       cases h
 ·rw [if_neg hs] at h
  cases h
def fold_Letter.j0 : Nat → Int → Bool → Option (Bool)
 | 0, _, _ => none
 | k + 1, x0, x19 => if x19 = true then (some false) else (if x0 < 592 then (some true) else (if x0 < 880 then (some false) else (if x0 ≤ 1327 then (if x0 = 894 then (some false) else (some (x0 != 903))) else (some false))))
def fold_Letter.f (k : Nat) (a0 : Int) : Option (Bool) := if a0 < 192 then (if (Go.bits .or .i64 a0 32) ≥ 97 then (if (Go.bits .or .i64 a0 32) ≤ 122 then (some (decide (a0 > 0))) else (some false)) else (some false)) else (if a0 = 215 then (fold_Letter.j0 k a0 (a0 == 215)) else (fold_Letter.j0 k a0 (a0 == 247)))
theorem fold_Letter.mono_l : ∀ k, (∀ y0 y1, LeO (fold_Letter.j0 k y0 y1) (fold_Letter.j0 (k + 1) y0 y1))
 | 0 => fun _ _ r h => by simp [fold_Letter.j0] at h
 | k + 1 => by
  have ih0 := fold_Letter.mono_l k
  ·intro y0 y1
   unfold fold_Letter.j0
   repeat' first
   | (with_reducible exact ih0 _ _)
   | (with_reducible exact LeO.refl _)
   | (with_reducible exact LeO.none _)
   | (with_reducible refine LeO.ite ?_ ?_)
   | (with_reducible refine LeO.bind ?_ (fun _ => ?_))
   | exact ih0 _ _
   | exact LeO.none _
   | refine LeO.ite ?_ ?_
   | refine LeO.bind ?_ (fun _ => ?_)
theorem fold_Letter.mono : ∀ a0 k, LeO (fold_Letter.f k a0) (fold_Letter.f (k + 1) a0) := by
 intro a0 k
 have ih0 := fold_Letter.mono_l k
 unfold fold_Letter.f
 repeat' first
   | (with_reducible exact ih0 _ _)
   | (with_reducible exact LeO.refl _)
   | (with_reducible exact LeO.none _)
   | (with_reducible refine LeO.ite ?_ ?_)
   | (with_reducible refine LeO.bind ?_ (fun _ => ?_))
   | exact ih0 _ _
   | exact LeO.none _
   | refine LeO.ite ?_ ?_
   | refine LeO.bind ?_ (fun _ => ?_)
set_option maxHeartbeats 8000000 in
set_option maxRecDepth 100000 in
theorem fold_Letter.calls (k : Nat) (a0 : Int) (r : Bool) (w : World) (h : fold_Letter.f k a0 = some r) :
  Calls Tryz.prog 64 #[.int .i64 a0] w fun e w' => e = .returned (.bool r) ∧ Drawn0 w w' := by
 have H : (if a0 < 192 then (if (Go.bits .or .i64 a0 32) ≥ 97 then (if (Go.bits .or .i64 a0 32) ≤ 122 then (some (decide (a0 > 0))) else (some false)) else (some false)) else (if a0 = 215 then (fold_Letter.j0 k a0 (a0 == 215)) else (fold_Letter.j0 k a0 (a0 == 247)))) = some r := h
 clear h
 by_cases c2 : a0 < 192
 ·rw [if_pos c2] at H
  have c2b0 : decide (a0 < 192) = true := decide_eq_true c2
  clear c2
  by_cases c3 : (Go.bits .or .i64 a0 32) ≥ 97
  ·rw [if_pos c3] at H
   have c3b0 : decide (97 ≤ (Go.bits .or .i64 a0 32)) = true := decide_eq_true c3
   clear c3
   by_cases c4 : (Go.bits .or .i64 a0 32) ≤ 122
   ·rw [if_pos c4] at H
    have c4b0 : decide ((Go.bits .or .i64 a0 32) ≤ 122) = true := decide_eq_true c4
    clear c4
    obtain rfl := Option.some.inj H
    go_enter Tryz.func64, Tryz.ntmps64
    go_wp2
    go_ret
    exact ⟨by first | rfl | (simp; done) | (simp [*]; done), by repeat (first | exact Drawn0.refl _ | apply Drawn0.step)⟩
   ·rw [if_neg c4] at H
    have c4b0 : decide ((Go.bits .or .i64 a0 32) ≤ 122) = false := decide_eq_false c4
    clear c4
    obtain rfl := Option.some.inj H
    go_enter Tryz.func64, Tryz.ntmps64
    go_wp2
    go_ret
    exact ⟨by first | rfl | (simp; done) | (simp [*]; done), by repeat (first | exact Drawn0.refl _ | apply Drawn0.step)⟩
  ·rw [if_neg c3] at H
   have c3b0 : decide (97 ≤ (Go.bits .or .i64 a0 32)) = false := decide_eq_false c3
   clear c3
   obtain rfl := Option.some.inj H
   go_enter Tryz.func64, Tryz.ntmps64
   go_wp2
   go_ret
   exact ⟨by first | rfl | (simp; done) | (simp [*]; done), by repeat (first | exact Drawn0.refl _ | apply Drawn0.step)⟩
 ·rw [if_neg c2] at H
  have c2b0 : decide (a0 < 192) = false := decide_eq_false c2
  clear c2
  have HC5 := Aside0.mk H
  clear H
  go_enter Tryz.func64, Tryz.ntmps64
  go_upto_if 19 with (fail)
  go_cut [19] (fun v19 wc => ∃ (kq : Nat) (x19_4 : Bool), v19 = .bool x19_4 ∧ Aside0 (fold_Letter.j0 kq a0 x19_4 = some r) ∧ Aside0 (kq ≤ k) ∧ Drawn0 w wc)
  case first =>
   have H := HC5.out
   clear HC5
   by_cases c6 : a0 = 215
   ·rw [if_pos c6] at H
    have c6b0 : (a0 == 215) = true := beq_iff_eq.mpr c6
    have c6b1 : (a0 != 215) = false := bne_eq_false_iff_eq.mpr c6
    clear c6
    (first | rw [c6b0] | (simp only [i64_w, i32_w]; rw [c6b0]) | skip)
    have H' := Aside0.mk H
    clear H
    go_wp2
    go_meet
    case rel => exact ⟨_, ((a0 == 215)), rs_, H', ⟨by first | omega | exact Nat.le_refl _⟩, by repeat (first | exact Drawn0.refl _ | apply Drawn0.step)⟩
   ·rw [if_neg c6] at H
    have c6b0 : (a0 == 215) = false := beq_eq_false_iff_ne.mpr c6
    have c6b1 : (a0 != 215) = true := bne_iff_ne.mpr c6
    (first | rw [c6b0] | (simp only [i64_w, i32_w]; rw [c6b0]) | skip)
    have H' := Aside0.mk H
    clear H
    go_wp2
    go_meet
    case rel => exact ⟨_, ((a0 == 247)), rs_, H', ⟨by first | omega | exact Nat.le_refl _⟩, by repeat (first | exact Drawn0.refl _ | apply Drawn0.step)⟩
  case rest =>
   clear HC5
   try clear c2
   try clear c2b0
   try clear p2
   try clear c3
   try clear c3b0
   try clear c4
   try clear c4b0
   try clear c6
   try clear c6b0
   try clear c6b1
   obtain ⟨kq, x19_4, rfl, HA, HJ4, ⟨mc4, rfl⟩⟩ := hcut
   cases kq with
   | zero => exact absurd HA.out (by simp [fold_Letter.j0])
   | succ kj4 =>
    have H := HA.out
    clear HA
    simp only [fold_Letter.j0] at H
    by_cases c7 : x19_4 = true
    ·subst c7
     have H1 : (some false) = some r := by rw [if_pos rfl] at H; exact H
     clear H
     have H := H1
     clear H1
     obtain rfl := Option.some.inj H
     go_wp2
     go_ret
     exact ⟨by first | rfl | (simp; done) | (simp [*]; done), by repeat (first | exact Drawn0.refl _ | apply Drawn0.step)⟩
    ·replace c7 := Bool.eq_false_iff.mpr c7
     subst c7
     have H1 : (if a0 < 592 then (some true) else (if a0 < 880 then (some false) else (if a0 ≤ 1327 then (if a0 = 894 then (some false) else (some (a0 != 903))) else (some false)))) = some r := by rw [if_neg (show ¬ (false = true) by decide)] at H; exact H
     clear H
     have H := H1
     clear H1
     by_cases c8 : a0 < 592
     ·rw [if_pos c8] at H
      have c8b0 : decide (a0 < 592) = true := decide_eq_true c8
      clear c8
      obtain rfl := Option.some.inj H
      go_wp2
      go_ret
      exact ⟨by first | rfl | (simp; done) | (simp [*]; done), by repeat (first | exact Drawn0.refl _ | apply Drawn0.step)⟩
     ·rw [if_neg c8] at H
      have c8b0 : decide (a0 < 592) = false := decide_eq_false c8
      clear c8
      by_cases c9 : a0 < 880
      ·rw [if_pos c9] at H
       have c9b0 : decide (a0 < 880) = true := decide_eq_true c9
       clear c9
       obtain rfl := Option.some.inj H
       go_wp2
       go_ret
       exact ⟨by first | rfl | (simp; done) | (simp [*]; done), by repeat (first | exact Drawn0.refl _ | apply Drawn0.step)⟩
      ·rw [if_neg c9] at H
       have c9b0 : decide (a0 < 880) = false := decide_eq_false c9
       clear c9
       by_cases c10 : a0 ≤ 1327
       ·rw [if_pos c10] at H
        have c10b0 : decide (a0 ≤ 1327) = true := decide_eq_true c10
        clear c10
        by_cases c11 : a0 = 894
        ·rw [if_pos c11] at H
         have c11b0 : (a0 == 894) = true := beq_iff_eq.mpr c11
         have c11b1 : (a0 != 894) = false := bne_eq_false_iff_eq.mpr c11
         clear c11
         obtain rfl := Option.some.inj H
         go_wp2
         go_ret
         exact ⟨by first | rfl | (simp; done) | (simp [*]; done), by repeat (first | exact Drawn0.refl _ | apply Drawn0.step)⟩
        ·rw [if_neg c11] at H
         have c11b0 : (a0 == 894) = false := beq_eq_false_iff_ne.mpr c11
         have c11b1 : (a0 != 894) = true := bne_iff_ne.mpr c11
         obtain rfl := Option.some.inj H
         go_wp2
         go_ret
         exact ⟨by first | rfl | (simp; done) | (simp [*]; done), by repeat (first | exact Drawn0.refl _ | apply Drawn0.step)⟩
       ·rw [if_neg c10] at H
        have c10b0 : decide (a0 ≤ 1327) = false := decide_eq_false c10
        clear c10
        obtain rfl := Option.some.inj H
        go_wp2
        go_ret
        exact ⟨by first | rfl | (simp; done) | (simp [*]; done), by repeat (first | exact Drawn0.refl _ | apply Drawn0.step)⟩
def fold_Digit.f (a0 : Int) : Option (Bool) := if a0 ≥ 48 then (some (decide (a0 ≤ 57))) else (some false)
set_option maxHeartbeats 8000000 in
set_option maxRecDepth 100000 in
theorem fold_Digit.calls (a0 : Int) (r : Bool) (w : World) (h : fold_Digit.f a0 = some r) :
  Calls Tryz.prog 65 #[.int .i64 a0] w fun e w' => e = .returned (.bool r) ∧ Drawn0 w w' := by
 have H : (if a0 ≥ 48 then (some (decide (a0 ≤ 57))) else (some false)) = some r := h
 clear h
 by_cases c2 : a0 ≥ 48
 ·rw [if_pos c2] at H
  have c2b0 : decide (48 ≤ a0) = true := decide_eq_true c2
  clear c2
  obtain rfl := Option.some.inj H
  go_enter Tryz.func65, Tryz.ntmps65
  go_wp2
  go_ret
  exact ⟨by first | rfl | (simp; done) | (simp [*]; done), by repeat (first | exact Drawn0.refl _ | apply Drawn0.step)⟩
 ·rw [if_neg c2] at H
  have c2b0 : decide (48 ≤ a0) = false := decide_eq_false c2
  clear c2
  obtain rfl := Option.some.inj H
  go_enter Tryz.func65, Tryz.ntmps65
  go_wp2
  go_ret
  exact ⟨by first | rfl | (simp; done) | (simp [*]; done), by repeat (first | exact Drawn0.refl _ | apply Drawn0.step)⟩
def fold_Word.f (k : Nat) (a0 : Int) : Option (Bool) := (fold_Letter.f k a0).bind fun t177 => (if t177 = true then (some true) else ((fold_Digit.f a0).bind fun t178 => (some t178)))
theorem fold_Word.mono : ∀ a0 k, LeO (fold_Word.f k a0) (fold_Word.f (k + 1) a0) := by
 intro a0 k
 unfold fold_Word.f
 repeat' first
   | (with_reducible exact fold_Letter.mono _ _)
   | (with_reducible exact LeO.refl _)
   | (with_reducible exact LeO.none _)
   | (with_reducible refine LeO.ite ?_ ?_)
   | (with_reducible refine LeO.bind ?_ (fun _ => ?_))
   | exact fold_Letter.mono _ _
   | exact LeO.none _
   | refine LeO.ite ?_ ?_
   | refine LeO.bind ?_ (fun _ => ?_)
set_option maxHeartbeats 8000000 in
set_option maxRecDepth 100000 in
theorem fold_Word.calls (k : Nat) (a0 : Int) (r : Bool) (w : World) (h : fold_Word.f k a0 = some r) :
  Calls Tryz.prog 45 #[.int .i64 a0] w fun e w' => e = .returned (.bool r) ∧ Drawn0 w w' := by
 have H : ((fold_Letter.f k a0).bind fun t177 => (if t177 = true then (some true) else ((fold_Digit.f a0).bind fun t178 => (some t178)))) = some r := h
 clear h
 replace H := Option.bind_eq_some_iff.mp H
 obtain ⟨t177, A20, H⟩ := H
 replace H : (if t177 = true then (some true) else ((fold_Digit.f a0).bind fun t178 => (some t178))) = some r := H
 have A2 := Aside0.mk A20
 clear A20
 by_cases c3 : t177 = true
 ·subst c3
  have H1 : (some true) = some r := by rw [if_pos rfl] at H; exact H
  clear H
  have H := H1
  clear H1
  obtain rfl := Option.some.inj H
  go_enter Tryz.func45, Tryz.ntmps45
  go_wp2_with (first | ((with_reducible refine gate_callee (f := 64) rfl ?_); refine goesL_ (some 4) rfl rfl Tryz.func64 (by kernel_rfl) rfl #[.int .i64 a0] rfl ar_ ?_; (with_reducible refine (fold_Letter.calls k a0 true _ A2.out).mono ?_); rintro e w' ⟨rfl, ⟨nd, rfl⟩⟩; refine ⟨_, rfl, ?_⟩))
  go_ret
  exact ⟨by first | rfl | (simp; done) | (simp [*]; done), by repeat (first | exact Drawn0.refl _ | apply Drawn0.step)⟩
 ·replace c3 := Bool.eq_false_iff.mpr c3
  subst c3
  have H1 : ((fold_Digit.f a0).bind fun t178 => (some t178)) = some r := by rw [if_neg (show ¬ (false = true) by decide)] at H; exact H
  clear H
  have H := H1
  clear H1
  replace H := Option.bind_eq_some_iff.mp H
  obtain ⟨t178, A40, H⟩ := H
  replace H : (some t178) = some r := H
  have A4 := Aside0.mk A40
  clear A40
  obtain rfl := Option.some.inj H
  go_enter Tryz.func45, Tryz.ntmps45
  go_wp2_with (first | ((with_reducible refine gate_callee (f := 64) rfl ?_); refine goesL_ (some 4) rfl rfl Tryz.func64 (by kernel_rfl) rfl #[.int .i64 a0] rfl ar_ ?_; (with_reducible refine (fold_Letter.calls k a0 false _ A2.out).mono ?_); rintro e w' ⟨rfl, ⟨nd, rfl⟩⟩; refine ⟨_, rfl, ?_⟩) | (go_at_call 65; (with_reducible refine (fold_Digit.calls a0 t178 _ A4.out).mono ?_); rintro e w' ⟨rfl, ⟨nd, rfl⟩⟩))
  go_ret
  exact ⟨by first | rfl | (simp; done) | (simp [*]; done), by repeat (first | exact Drawn0.refl _ | apply Drawn0.step)⟩
mutual
def token_spans.l0 : Nat → ByteArray → List (S58) → Bool → Int → Option ((List (S58)))
 | 0, _, _, _, _ => none
 | k + 1, x0, x3, x4, x5 => if x5 < (x0.size : Int) then ((utf_Next.f x0 x5).bind fun bt179 => (if bt179.1 ≥ 0 then ((fold_Word.f k bt179.1).bind fun t181 => (token_spans.j1 k x0 x3 x4 x5 bt179.2 t181)) else (token_spans.j1 k x0 x3 x4 x5 bt179.2 false))) else (some x3)
def token_spans.j1 : Nat → ByteArray → List (S58) → Bool → Int → Int → Bool → Option ((List (S58)))
 | 0, _, _, _, _, _, _ => none
 | k + 1, x0, x3, x4, x5, x7, x8 => if x8 = true then (token_spans.j2 k x0 x3 x5 x7 x8 (!x4)) else (token_spans.j2 k x0 x3 x5 x7 x8 false)
def token_spans.j2 : Nat → ByteArray → List (S58) → Int → Int → Bool → Bool → Option ((List (S58)))
 | 0, _, _, _, _, _, _ => none
 | k + 1, x0, x3, x5, x7, x8, x25 => if x25 = true then (if x3.length < 8796093022208 then (token_spans.l0 k x0 (x3 ++ [(⟨x5, wrap64 (x5 + x7)⟩ : S58)]) x8 (wrap64 (x5 + x7))) else (none)) else (if x8 = true then (if 0 ≤ (wrap64 ((x3.length : Int) - 1)) then (if (wrap64 ((x3.length : Int) - 1)) < (x3.length : Int) then (token_spans.l0 k x0 (x3.set ((wrap64 ((x3.length : Int) - 1)) : Int).toNat (⟨(rd_T58 x3 (wrap64 ((x3.length : Int) - 1))).f0, wrap64 (x5 + x7)⟩ : S58)) x8 (wrap64 (x5 + x7))) else (none)) else (none)) else (token_spans.l0 k x0 x3 x8 (wrap64 (x5 + x7))))
end
def token_spans.f (k : Nat) (a0 : ByteArray) : Option ((List (S58))) := token_spans.l0 k a0 ([] : List (S58)) false 0
theorem token_spans.mono_l : ∀ k, (∀ y0 y1 y2 y3, LeO (token_spans.l0 k y0 y1 y2 y3) (token_spans.l0 (k + 1) y0 y1 y2 y3)) ∧ (∀ y0 y1 y2 y3 y4 y5, LeO (token_spans.j1 k y0 y1 y2 y3 y4 y5) (token_spans.j1 (k + 1) y0 y1 y2 y3 y4 y5)) ∧ (∀ y0 y1 y2 y3 y4 y5, LeO (token_spans.j2 k y0 y1 y2 y3 y4 y5) (token_spans.j2 (k + 1) y0 y1 y2 y3 y4 y5))
 | 0 => ⟨fun _ _ _ _ r h => by simp [token_spans.l0] at h, fun _ _ _ _ _ _ r h => by simp [token_spans.j1] at h, fun _ _ _ _ _ _ r h => by simp [token_spans.j2] at h⟩
 | k + 1 => by
  obtain ⟨ih0, ih1, ih2⟩ := token_spans.mono_l k
  refine ⟨?_, ?_, ?_⟩
  ·intro y0 y1 y2 y3
   unfold token_spans.l0
   repeat' first
   | (with_reducible exact ih0 _ _ _ _)
   | (with_reducible exact ih1 _ _ _ _ _ _)
   | (with_reducible exact ih2 _ _ _ _ _ _)
   | (with_reducible exact fold_Word.mono _ _)
   | (with_reducible exact LeO.refl _)
   | (with_reducible exact LeO.none _)
   | (with_reducible refine LeO.ite ?_ ?_)
   | (with_reducible refine LeO.bind ?_ (fun _ => ?_))
   | exact ih0 _ _ _ _
   | exact ih1 _ _ _ _ _ _
   | exact ih2 _ _ _ _ _ _
   | exact fold_Word.mono _ _
   | exact LeO.none _
   | refine LeO.ite ?_ ?_
   | refine LeO.bind ?_ (fun _ => ?_)
  ·intro y0 y1 y2 y3 y4 y5
   unfold token_spans.j1
   repeat' first
   | (with_reducible exact ih0 _ _ _ _)
   | (with_reducible exact ih1 _ _ _ _ _ _)
   | (with_reducible exact ih2 _ _ _ _ _ _)
   | (with_reducible exact fold_Word.mono _ _)
   | (with_reducible exact LeO.refl _)
   | (with_reducible exact LeO.none _)
   | (with_reducible refine LeO.ite ?_ ?_)
   | (with_reducible refine LeO.bind ?_ (fun _ => ?_))
   | exact ih0 _ _ _ _
   | exact ih1 _ _ _ _ _ _
   | exact ih2 _ _ _ _ _ _
   | exact fold_Word.mono _ _
   | exact LeO.none _
   | refine LeO.ite ?_ ?_
   | refine LeO.bind ?_ (fun _ => ?_)
  ·intro y0 y1 y2 y3 y4 y5
   unfold token_spans.j2
   repeat' first
   | (with_reducible exact ih0 _ _ _ _)
   | (with_reducible exact ih1 _ _ _ _ _ _)
   | (with_reducible exact ih2 _ _ _ _ _ _)
   | (with_reducible exact fold_Word.mono _ _)
   | (with_reducible exact LeO.refl _)
   | (with_reducible exact LeO.none _)
   | (with_reducible refine LeO.ite ?_ ?_)
   | (with_reducible refine LeO.bind ?_ (fun _ => ?_))
   | exact ih0 _ _ _ _
   | exact ih1 _ _ _ _ _ _
   | exact ih2 _ _ _ _ _ _
   | exact fold_Word.mono _ _
   | exact LeO.none _
   | refine LeO.ite ?_ ?_
   | refine LeO.bind ?_ (fun _ => ?_)
theorem token_spans.mono : ∀ a0 k, LeO (token_spans.f k a0) (token_spans.f (k + 1) a0) := by
 intro a0 k
 obtain ⟨ih0, ih1, ih2⟩ := token_spans.mono_l k
 unfold token_spans.f
 repeat' first
   | (with_reducible exact ih0 _ _ _ _)
   | (with_reducible exact ih1 _ _ _ _ _ _)
   | (with_reducible exact ih2 _ _ _ _ _ _)
   | (with_reducible exact fold_Word.mono _ _)
   | (with_reducible exact LeO.refl _)
   | (with_reducible exact LeO.none _)
   | (with_reducible refine LeO.ite ?_ ?_)
   | (with_reducible refine LeO.bind ?_ (fun _ => ?_))
   | exact ih0 _ _ _ _
   | exact ih1 _ _ _ _ _ _
   | exact ih2 _ _ _ _ _ _
   | exact fold_Word.mono _ _
   | exact LeO.none _
   | refine LeO.ite ?_ ?_
   | refine LeO.bind ?_ (fun _ => ?_)
set_option maxHeartbeats 8000000 in
set_option maxRecDepth 100000 in
theorem token_spans.calls (k : Nat) (a0 : ByteArray) (r : List (S58)) (w : World) (h : token_spans.f k a0 = some r) :
  Calls Tryz.prog 26 #[.string a0] w fun e w' => ∃ v0_ : Value, e = .returned (v0_) ∧ Kd.R k58 58 w' w.heap.size (fun _ => True) v0_ r ∧ Below w.heap.size w w' := by
 have hu58 := Tryz.underlying58
 have HB := Aside0.mk (Below.refl w.heap.size w)
 have H : (token_spans.l0 k a0 ([] : List (S58)) false 0) = some r := h
 clear h
 have H' := Aside0.mk H
 clear H
 go_enter Tryz.func26, Tryz.ntmps26
 go_wp2
 go_loopg [3, 4, 5] k (fun kq v3 v4 v5 w' => ∃ (x3_1 : List (S58)) (x4_1 : Bool) (x5_1 : Int), v4 = .bool x4_1 ∧ v5 = .int .i64 x5_1 ∧ Aside0 (token_spans.l0 kq a0 x3_1 x4_1 x5_1 = some r) ∧ Aside0 (kq ≤ k) ∧ Aside0 (Kd.R k58 58 w' w.heap.size (fun _ => True) v3 x3_1) ∧ Aside0 (Below w.heap.size w w'))
 case atStart => exact ⟨(([] : List (S58))), (false), (0), rs_, rs_, H', ⟨Nat.le_refl _⟩, ⟨by first | exact Kd.R_nil _ _ _ _ _ | exact Kd.N_nil _ _ _ _ _ | exact Kd.V_nil _ _ _ _ _ | exact Kd.Q_nil _ _ _ _ _ | exact Kd.S_nil _ _ _ _ _⟩, ⟨bb_ HB.out⟩⟩
 case round =>
  clear H'
  obtain ⟨x3_1, x4_1, x5_1, rfl, rfl, HA, HK1, HO_3, HB⟩ := hrel
  cases gk with
  | zero => exact absurd HA.out (by simp [token_spans.l0])
  | succ k1 =>
   have H := HA.out
   clear HA
   simp only [token_spans.l0] at H
   by_cases c2 : x5_1 < (a0.size : Int)
   ·rw [if_pos c2] at H
    have c2b0 : decide (x5_1 < (a0.size : Int)) = true := decide_eq_true c2
    clear c2
    replace H := Option.bind_eq_some_iff.mp H
    obtain ⟨⟨t179, t180⟩, A30, H⟩ := H
    replace H : (if t179 ≥ 0 then ((fold_Word.f k1 t179).bind fun t181 => (token_spans.j1 k1 a0 x3_1 x4_1 x5_1 t180 t181)) else (token_spans.j1 k1 a0 x3_1 x4_1 x5_1 t180 false)) = some r := H
    have A3 := Aside0.mk A30
    clear A30
    have HC4 := Aside0.mk H
    clear H
    go_upto_region 6 with (first | ((with_reducible refine gate_callee (f := 44) rfl ?_); refine goesL_ (some 16) rfl rfl Tryz.func44 (by kernel_rfl) rfl #[.string a0, .int .i64 x5_1] rfl ar_ ?_; (with_reducible refine (utf_Next.calls a0 x5_1 t179 t180 _ A3.out).mono ?_); rintro e w5 ⟨rfl, hb⟩; refine ⟨_, rfl, ?_⟩; have n0_ := Aside0.mk (Kd.R_below (kr_ HO_3.out) hb); have n1_ := Aside0.mk (below_step (bb_ HB.out) hb); clear HO_3; clear HB; have HO_3 := n0_; have HB := n1_; clear n0_ n1_; (try clear hb); (try clear hb2); (try clear hk); (try clear hi)))
    (try simp only [Act.put, List.setIfInBounds_toArray, List.set_cons_zero, List.set_cons_succ])
    go_cut [8] (fun v8 wc => ∃ (kq : Nat) (x8_3 : Bool), v8 = .bool x8_3 ∧ Aside0 (token_spans.j1 kq a0 x3_1 x4_1 x5_1 t180 x8_3 = some r) ∧ Aside0 (kq ≤ k1) ∧ Aside0 (Kd.R k58 58 wc w.heap.size (fun _ => True) u3 x3_1) ∧ Aside0 (Below w.heap.size w wc))
    case first =>
     have H := HC4.out
     clear HC4
     by_cases c6 : t179 ≥ 0
     ·rw [if_pos c6] at H
      have c6b0 : decide (0 ≤ t179) = true := decide_eq_true c6
      clear c6
      (first | rw [c6b0] | (simp only [i64_w, i32_w]; rw [c6b0]) | skip)
      replace H := Option.bind_eq_some_iff.mp H
      obtain ⟨t181, A70, H⟩ := H
      replace H : (token_spans.j1 k1 a0 x3_1 x4_1 x5_1 t180 t181) = some r := H
      have A7 := Aside0.mk A70
      clear A70
      have H' := Aside0.mk H
      clear H
      go_wp2_with (first | (go_at_call 45; (with_reducible refine (fold_Word.calls k1 t179 t181 _ A7.out).mono ?_); rintro e w' ⟨rfl, ⟨nd, rfl⟩⟩))
      go_meet
      case rel => exact ⟨_, (t181), rs_, H', ⟨by have := HK1.out; first | omega | exact Nat.le_refl _⟩, ⟨kr_ HO_3.out⟩, ⟨bb_ HB.out⟩⟩
     ·rw [if_neg c6] at H
      have c6b0 : decide (0 ≤ t179) = false := decide_eq_false c6
      clear c6
      (first | rw [c6b0] | (simp only [i64_w, i32_w]; rw [c6b0]) | skip)
      have H' := Aside0.mk H
      clear H
      go_wp2
      go_meet
      case rel => exact ⟨_, (false), rs_, H', ⟨by have := HK1.out; first | omega | exact Nat.le_refl _⟩, ⟨kr_ HO_3.out⟩, ⟨bb_ HB.out⟩⟩
    case rest =>
     clear HC4
     try clear c2
     try clear c2b0
     try clear p2
     try clear c4
     try clear c6
     try clear c6b0
     obtain ⟨kq, x8_3, rfl, HA, HJ3, HO_3, HB⟩ := hcut
     cases kq with
     | zero => exact absurd HA.out (by simp [token_spans.j1])
     | succ kj3 =>
      have H := HA.out
      clear HA
      simp only [token_spans.j1] at H
      have HC8 := Aside0.mk H
      clear H
      go_upto_region 7 with (fail)
      go_cut [25] (fun v25 wc => ∃ (kq : Nat) (x25_7 : Bool), v25 = .bool x25_7 ∧ Aside0 (token_spans.j2 kq a0 x3_1 x5_1 t180 x8_3 x25_7 = some r) ∧ Aside0 (kq ≤ kj3) ∧ Aside0 (Kd.R k58 58 wc w.heap.size (fun _ => True) u3 x3_1) ∧ Aside0 (Below w.heap.size w wc))
      case first =>
       have H := HC8.out
       clear HC8
       by_cases c9 : x8_3 = true
       ·subst c9
        have H1 : (token_spans.j2 kj3 a0 x3_1 x5_1 t180 true (!x4_1)) = some r := by rw [if_pos rfl] at H; exact H
        clear H
        have H := H1
        clear H1
        have H' := Aside0.mk H
        clear H
        go_wp2
        go_meet
        case rel => exact ⟨_, (!x4_1), rs_, H', ⟨by have := HK1.out; have := HJ3.out; first | omega | exact Nat.le_refl _⟩, ⟨kr_ HO_3.out⟩, ⟨bb_ HB.out⟩⟩
       ·replace c9 := Bool.eq_false_iff.mpr c9
        subst c9
        have H1 : (token_spans.j2 kj3 a0 x3_1 x5_1 t180 false false) = some r := by rw [if_neg (show ¬ (false = true) by decide)] at H; exact H
        clear H
        have H := H1
        clear H1
        have H' := Aside0.mk H
        clear H
        go_wp2
        go_meet
        case rel => exact ⟨_, (false), rs_, H', ⟨by have := HK1.out; have := HJ3.out; first | omega | exact Nat.le_refl _⟩, ⟨kr_ HO_3.out⟩, ⟨bb_ HB.out⟩⟩
      case rest =>
       clear HC8
       try clear c2
       try clear c2b0
       try clear p2
       try clear c4
       try clear c6
       try clear c6b0
       try clear c9
       try clear p2
       obtain ⟨kq, x25_7, rfl, HA, HJ7, HO_3, HB⟩ := hcut
       cases kq with
       | zero => exact absurd HA.out (by simp [token_spans.j2])
       | succ kj7 =>
        have H := HA.out
        clear HA
        simp only [token_spans.j2] at H
        by_cases c10 : x25_7 = true
        ·subst c10
         have H1 : (if x3_1.length < 8796093022208 then (token_spans.l0 kj7 a0 (x3_1 ++ [(⟨x5_1, wrap64 (x5_1 + t180)⟩ : S58)]) x8_3 (wrap64 (x5_1 + t180))) else (none)) = some r := by rw [if_pos rfl] at H; exact H
         clear H
         have H := H1
         clear H1
         by_cases c11 : x3_1.length < 8796093022208
         ·rw [if_pos c11] at H
          have LMc11 := Aside0.mk c11
          clear c11
          obtain ⟨y182, hy182⟩ : ∃ y_ : List (S58), y_ = (x3_1 ++ [(⟨x5_1, wrap64 (x5_1 + t180)⟩ : S58)]) := ⟨_, rfl⟩
          replace H : (token_spans.l0 kj7 a0 y182 x8_3 (wrap64 (x5_1 + t180))) = some r := by first | (rw [hy182]; with_reducible exact H) | (have H2_ := (Option.bind_some _ _).symm.trans H; rw [hy182]; with_reducible exact H2_) | (have H2_ := (Option.bind_some _ _).symm.trans H; with_reducible exact H2_) | with_reducible exact H | (rw [hy182]; exact H) | exact H
          have Ny182 := Aside0.mk hy182
          clear hy182
          have H' := Aside0.mk H
          clear H
          go_wp2_with (first | ((with_reducible refine gate_builtin (b := .append) (xs := #[.tmp 31, .tmp 37]) rfl ?_); at_builtin; refine Kd.R_append k58 (w0 := w) w.heap.size rfl (.tmp 31) (.tmp 37) 55 58 (.agg #[(.int .i64 0), (.int .i64 0)]) 16 rfl Tryz.underlying55 info58 rfl (by decide) (by omega) u3 x3_1 (⟨x5_1, wrap64 (x5_1 + t180)⟩ : S58) [.int .i64 x5_1, .int .i64 (wrap64 (x5_1 + t180))] (fun _ => True) (fun _ => False) rfl rfl ?aP (fun _ hk => hk.elim) ?aF ?aO ?aB ?aS ?aL ?_; (case aP => exact k58_mkM _ _ _ (⟨x5_1, wrap64 (x5_1 + t180)⟩ : S58)); (case aB => exact (bb_ HB.out)); (case aF => exact (fun _ _ => trivial)); (case aO => exact (kr_ HO_3.out)); (case aS => exact (below_size (bb_ HB.out))); (case aL => have := LMc11.out; omega); intro v183 w12 ho hb hg hat; rw [← Ny182.out] at ho; have n0_ := Aside0.mk (hb); have n1_ := Aside0.mk (ho); clear HB; clear HO_3; have HB := n0_; have HO184 := n1_; clear n0_ n1_; clear ho hb hg hat))
          go_roundg kj7
          case measure => have := HK1.out; have := HJ3.out; have := HJ7.out; omega
          case rel => exact ⟨(y182), (x8_3), (wrap64 (x5_1 + t180)), rs_, rs_, H', ⟨by have := HK1.out; have := HJ3.out; have := HJ7.out; omega⟩, ⟨kr_ HO184.out⟩, ⟨bb_ HB.out⟩⟩
         ·rw [if_neg c11] at H
          exact absurd H (by simp)
        ·replace c10 := Bool.eq_false_iff.mpr c10
         subst c10
         have H1 : (if x8_3 = true then (if 0 ≤ (wrap64 ((x3_1.length : Int) - 1)) then (if (wrap64 ((x3_1.length : Int) - 1)) < (x3_1.length : Int) then (token_spans.l0 kj7 a0 (x3_1.set ((wrap64 ((x3_1.length : Int) - 1)) : Int).toNat (⟨(rd_T58 x3_1 (wrap64 ((x3_1.length : Int) - 1))).f0, wrap64 (x5_1 + t180)⟩ : S58)) x8_3 (wrap64 (x5_1 + t180))) else (none)) else (none)) else (token_spans.l0 kj7 a0 x3_1 x8_3 (wrap64 (x5_1 + t180)))) = some r := by rw [if_neg (show ¬ (false = true) by decide)] at H; exact H
         clear H
         have H := H1
         clear H1
         by_cases c13 : x8_3 = true
         ·subst c13
          have H1 : (if 0 ≤ (wrap64 ((x3_1.length : Int) - 1)) then (if (wrap64 ((x3_1.length : Int) - 1)) < (x3_1.length : Int) then (token_spans.l0 kj7 a0 (x3_1.set ((wrap64 ((x3_1.length : Int) - 1)) : Int).toNat (⟨(rd_T58 x3_1 (wrap64 ((x3_1.length : Int) - 1))).f0, wrap64 (x5_1 + t180)⟩ : S58)) true (wrap64 (x5_1 + t180))) else (none)) else (none)) = some r := by rw [if_pos rfl] at H; exact H
          clear H
          have H := H1
          clear H1
          obtain ⟨ji14, hji14⟩ : ∃ j_ : Int, (wrap64 ((x3_1.length : Int) - 1)) = j_ := ⟨_, rfl⟩
          replace H : (if 0 ≤ (ji14) then (if (ji14) < (x3_1.length : Int) then (token_spans.l0 kj7 a0 (x3_1.set ((ji14) : Int).toNat (⟨(rd_T58 x3_1 (ji14)).f0, wrap64 (x5_1 + t180)⟩ : S58)) true (wrap64 (x5_1 + t180))) else (none)) else (none)) = some r := by first | (rw [hji14] at H; exact H) | (simp only [hji14] at H ⊢; exact H)
          have hji14w : (IntKind.i64.wrap ((x3_1.length : Int) - 1)) = ji14 := (i64_w _).trans hji14
          by_cases c15 : 0 ≤ (ji14)
          ·rw [if_pos c15] at H
           have c15b0 : decide (0 ≤ (ji14)) = true := decide_eq_true c15
           clear c15
           by_cases c16 : (ji14) < (x3_1.length : Int)
           ·rw [if_pos c16] at H
            have c16b0 : decide ((ji14) < (x3_1.length : Int)) = true := decide_eq_true c16
            clear c16
            obtain ⟨y185, hy185⟩ : ∃ y_ : List (S58), y_ = (x3_1.set ((ji14) : Int).toNat (⟨(rd_T58 x3_1 (ji14)).f0, wrap64 (x5_1 + t180)⟩ : S58)) := ⟨_, rfl⟩
            replace H : (token_spans.l0 kj7 a0 y185 true (wrap64 (x5_1 + t180))) = some r := by first | (rw [hy185]; with_reducible exact H) | (have H2_ := (Option.bind_some _ _).symm.trans H; rw [hy185]; with_reducible exact H2_) | (have H2_ := (Option.bind_some _ _).symm.trans H; with_reducible exact H2_) | with_reducible exact H | (rw [hy185]; exact H) | exact H
            have Ny185 := Aside0.mk hy185
            clear hy185
            have H' := Aside0.mk H
            clear H
            obtain ⟨Ao18, co18, eo18⟩ := Kd.R_slice HO_3.out
            subst eo18
            have p17 : 0 ≤ ((ji14) : Int) := of_decide_eq_true as_
            have q17 : ((ji14) : Int) < ((x3_1.length : Int) : Int) := of_decide_eq_true as_
            obtain ⟨go17, co17, eo17, gb17, gl17, cl17, HG17⟩ := Kd.R_form HO_3.out (by omega)
            (first | cases eo17 | (injection eo17 with ea_ en_ ec_; (first | subst ea_ | (injection ea_ with ea_; subst ea_)); subst ec_; clear en_))
            have GB17 := Aside0.mk gb17
            have GG17 := Aside0.mk HG17
            clear gb17 gl17 HG17
            obtain ⟨ce17, hcl17, hM17, hcc17, hfr17⟩ := Kd.R_elem HO_3.out z58 ((ji14) : Int) p17 q17
            obtain rfl := k58_openM hM17
            have hx17_0 : wc.cell? ⟨go17, ((ji14) : Int).toNat * 2, none⟩ = some (.int .i64 ((rd_T58 x3_1 (ji14)).f0)) := hcc17 0 _ rfl
            have hx17_1 : wc.cell? ⟨go17, ((ji14) : Int).toNat * 2 + 1, none⟩ = some (.int .i64 ((rd_T58 x3_1 (ji14)).f1)) := hcc17 1 _ rfl
            have hf17_0 : wc.frozen? ⟨go17, ((ji14) : Int).toNat * 2, none⟩ = false := hfr17 0
            have hf17_1 : wc.frozen? ⟨go17, ((ji14) : Int).toNat * 2 + 1, none⟩ = false := hfr17 1
            clear hcl17 hcc17 hfr17 hM17
            replace p17 := eq_true p17
            replace q17 := eq_true q17
            have HX19 := Aside0.mk (show Kd.R k58 58 wc w.heap.size (fun _ => True) (.slice (some ⟨go17, 0, none⟩) x3_1.length co18) x3_1 from (kr_ HO_3.out))
            obtain ⟨ce19, hcl19, hM19, hcc19, hfr19⟩ := Kd.R_elem HX19.out z58 ((ji14) : Int) (of_decide_eq_true as_) (by have h_ : ((ji14) : Int) < ((x3_1.length : Int) : Int) := of_decide_eq_true as_; first | exact h_ | (have e_ := (Kd.R_reads' HO_3.out).1; omega) | simpa using h_)
            obtain rfl := k58_openM hM19
            have HP19 := Kd.R_seg HX19.out ((ji14) : Int) (of_decide_eq_true as_) (by have h_ : ((ji14) : Int) < ((x3_1.length : Int) : Int) := of_decide_eq_true as_; first | exact h_ | (have e_ := (Kd.R_reads' HO_3.out).1; omega) | simpa using h_) (seg := [.int .i64 (wrap64 (x5_1 + t180))]) (j := 1) hcl19 hcc19 (show 2 ≤ 2 from by decide) (x' := (⟨(rd_T58 x3_1 (ji14)).f0, wrap64 (x5_1 + t180)⟩ : S58)) (k58_mkM _ _ _ (⟨(rd_T58 x3_1 (ji14)).f0, wrap64 (x5_1 + t180)⟩ : S58) ) (fun _ hk => hk)
            have hx19_1 := hcc19 1 _ rfl
            (try simp only [show (k58).sz = 2 from rfl, Nat.mul_one, Nat.add_zero] at hx19_1)
            have hf19_1 := hfr19 1
            (try simp only [show (k58).sz = 2 from rfl, Nat.mul_one, Nat.add_zero] at hf19_1)
            clear hcl19 hcc19 hfr19 hM19
            go_wp2_with (first | ((with_reducible refine gate_store (t := 3) (p := 49) rfl ?_); refine store_event (t := 3) (p := 49) (v := ?vo_w20) (w1 := (wc.setCell ⟨go17, ((ji14) : Int).toNat * 2 + 1, none⟩ (.int .i64 (wrap64 (x5_1 + t180))))) ?hg ?ho ?hn ?hr ?_; (case ho => rfl); (case hg => rfl); (case hn => rfl); (case hr => first | (go_simp; done) | (go_simp; rfl)); intro w20 hw; have hg : wc.grownBy w20 (some go17) := (by rw [hw]; exact HP19.2); have hp_ : Kd.R k58 58 w20 w.heap.size (fun _ => True) (.slice (some ⟨go17, 0, none⟩) x3_1.length co18) y185 := (by rw [hw, Ny185.out]; exact HP19.1); clear HP19; have n0_ := Aside0.mk (hp_); have n1_ := Aside0.mk ((by rw [hw]; exact below_set (HB.out) GB17.out : Below w.heap.size w w20)); clear HO_3; clear HB; have HO_3 := n0_; have HB := n1_; clear n0_ n1_; clear hg hw hp_))
            go_roundg kj7
            case measure => have := HK1.out; have := HJ3.out; have := HJ7.out; omega
            case rel => exact ⟨(y185), (true), (wrap64 (x5_1 + t180)), rs_, rs_, H', ⟨by have := HK1.out; have := HJ3.out; have := HJ7.out; omega⟩, ⟨kr_ HO_3.out⟩, ⟨bb_ HB.out⟩⟩
           ·rw [if_neg c16] at H
            exact absurd H (by simp)
          ·rw [if_neg c15] at H
           exact absurd H (by simp)
         ·replace c13 := Bool.eq_false_iff.mpr c13
          subst c13
          have H1 : (token_spans.l0 kj7 a0 x3_1 false (wrap64 (x5_1 + t180))) = some r := by rw [if_neg (show ¬ (false = true) by decide)] at H; exact H
          clear H
          have H := H1
          clear H1
          have H' := Aside0.mk H
          clear H
          go_wp2
          go_roundg kj7
          case measure => have := HK1.out; have := HJ3.out; have := HJ7.out; omega
          case rel => exact ⟨(x3_1), (false), (wrap64 (x5_1 + t180)), rs_, rs_, H', ⟨by have := HK1.out; have := HJ3.out; have := HJ7.out; omega⟩, ⟨kr_ HO_3.out⟩, ⟨bb_ HB.out⟩⟩
   ·rw [if_neg c2] at H
    have c2b0 : decide (x5_1 < (a0.size : Int)) = false := decide_eq_false c2
    clear c2
    obtain rfl := Option.some.inj H
    go_wp2
    go_ret
    exact ⟨_, by first | rfl | (simp [errW_none, errW_some] <;> rfl) | (simp [*, errW_none, errW_some] <;> rfl), by (with_reducible repeat (first | apply Kd.R_alloc | apply Kd.R_drewN | apply Kd.R_drew)); exact HO_3.out, bb_ HB.out⟩
def token_Spans.l0 : Nat → List (S60) → List (S58) → Int → Int → Option ((List (S60)))
 | 0, _, _, _, _ => none
 | k + 1, x3, x7, x8, x9 => if x9 < x8 then (if 0 ≤ x9 then (if x9 < (x7.length : Int) then (if x3.length < 8796093022208 then (token_Spans.l0 k (x3 ++ [(⟨(rd_T58 x7 x9).f0, (rd_T58 x7 x9).f1⟩ : S60)]) x7 x8 (wrap64 (x9 + 1))) else (none)) else (none)) else (none)) else (some x3)
def token_Spans.f (k : Nat) (a0 : ByteArray) : Option ((List (S60))) := (token_spans.f k a0).bind fun t186 => (token_Spans.l0 k ([] : List (S60)) t186 (t186.length : Int) 0)
theorem token_Spans.mono_l : ∀ k, (∀ y0 y1 y2 y3, LeO (token_Spans.l0 k y0 y1 y2 y3) (token_Spans.l0 (k + 1) y0 y1 y2 y3))
 | 0 => fun _ _ _ _ r h => by simp [token_Spans.l0] at h
 | k + 1 => by
  have ih0 := token_Spans.mono_l k
  ·intro y0 y1 y2 y3
   unfold token_Spans.l0
   repeat' first
   | (with_reducible exact ih0 _ _ _ _)
   | (with_reducible exact token_spans.mono _ _)
   | (with_reducible exact LeO.refl _)
   | (with_reducible exact LeO.none _)
   | (with_reducible refine LeO.ite ?_ ?_)
   | (with_reducible refine LeO.bind ?_ (fun _ => ?_))
   | exact ih0 _ _ _ _
   | exact token_spans.mono _ _
   | exact LeO.none _
   | refine LeO.ite ?_ ?_
   | refine LeO.bind ?_ (fun _ => ?_)
theorem token_Spans.mono : ∀ a0 k, LeO (token_Spans.f k a0) (token_Spans.f (k + 1) a0) := by
 intro a0 k
 have ih0 := token_Spans.mono_l k
 unfold token_Spans.f
 repeat' first
   | (with_reducible exact ih0 _ _ _ _)
   | (with_reducible exact token_spans.mono _ _)
   | (with_reducible exact LeO.refl _)
   | (with_reducible exact LeO.none _)
   | (with_reducible refine LeO.ite ?_ ?_)
   | (with_reducible refine LeO.bind ?_ (fun _ => ?_))
   | exact ih0 _ _ _ _
   | exact token_spans.mono _ _
   | exact LeO.none _
   | refine LeO.ite ?_ ?_
   | refine LeO.bind ?_ (fun _ => ?_)
set_option maxHeartbeats 8000000 in
set_option maxRecDepth 100000 in
theorem token_Spans.calls (k : Nat) (a0 : ByteArray) (r : List (S60)) (w : World) (h : token_Spans.f k a0 = some r) :
  Calls Tryz.prog 16 #[.string a0] w fun e w' => ∃ v0_ : Value, e = .returned (v0_) ∧ Kd.R k60 60 w' w.heap.size (fun _ => True) v0_ r ∧ Below w.heap.size w w' := by
 have hu58 := Tryz.underlying58
 have hu60 := Tryz.underlying60
 have HB := Aside0.mk (Below.refl w.heap.size w)
 have H : ((token_spans.f k a0).bind fun t186 => (token_Spans.l0 k ([] : List (S60)) t186 (t186.length : Int) 0)) = some r := h
 clear h
 replace H := Option.bind_eq_some_iff.mp H
 obtain ⟨t186, A20, H⟩ := H
 replace H : (token_Spans.l0 k ([] : List (S60)) t186 (t186.length : Int) 0) = some r := H
 have A2 := Aside0.mk A20
 clear A20
 have H' := Aside0.mk H
 clear H
 go_enter Tryz.func16, Tryz.ntmps16
 go_wp2_with (first | ((with_reducible refine gate_callee (f := 26) rfl ?_); refine goesL_ (some 7) rfl rfl Tryz.func26 (by kernel_rfl) rfl #[.string a0] rfl ar_ ?_; (with_reducible refine (token_spans.calls k a0 t186 _ A2.out).mono ?_); rintro e w3 ⟨v187, rfl, ho0, hb⟩; refine ⟨_, rfl, ?_⟩; have n0_ := Aside0.mk (Kd.R_lower ho0 (below_size (bb_ HB.out))); have n1_ := Aside0.mk (below_step (bb_ HB.out) hb); clear HB; have HO188 := n0_; have HB := n1_; clear n0_ n1_; (try clear hb); (try clear hb2); (try clear hk); (try clear hi); (try clear ho0); obtain ⟨Ao4, co4, eo4⟩ := Kd.R_slice HO188.out; subst eo4))
 go_loopg [3, 9] k (fun kq v3 v9 w' => ∃ (x3_1 : List (S60)) (x9_1 : Int), v9 = .int .i64 x9_1 ∧ Aside0 (token_Spans.l0 kq x3_1 t186 (t186.length : Int) x9_1 = some r) ∧ Aside0 (kq ≤ k) ∧ Aside0 (Kd.R k60 60 w' w.heap.size (fun _ => True) v3 x3_1) ∧ Aside0 (Kd.R k58 58 w' w.heap.size (fun _ => True) (.slice Ao4 t186.length co4) t186) ∧ Aside0 (Below w.heap.size w w'))
 case atStart => exact ⟨(([] : List (S60))), (0), rs_, H', ⟨Nat.le_refl _⟩, ⟨by first | exact Kd.R_nil _ _ _ _ _ | exact Kd.N_nil _ _ _ _ _ | exact Kd.V_nil _ _ _ _ _ | exact Kd.Q_nil _ _ _ _ _ | exact Kd.S_nil _ _ _ _ _⟩, ⟨kr_ HO188.out⟩, ⟨bb_ HB.out⟩⟩
 case round =>
  clear H'
  try clear c1
  try clear c2
  try clear p2
  obtain ⟨x3_1, x9_1, rfl, HA, HK1, HO_3, HO_7, HB⟩ := hrel
  cases gk with
  | zero => exact absurd HA.out (by simp [token_Spans.l0])
  | succ k1 =>
   have H := HA.out
   clear HA
   simp only [token_Spans.l0] at H
   by_cases c5 : x9_1 < (t186.length : Int)
   ·rw [if_pos c5] at H
    have c5b0 : decide (x9_1 < (t186.length : Int)) = true := decide_eq_true c5
    clear c5
    by_cases c6 : 0 ≤ x9_1
    ·rw [if_pos c6] at H
     have c6b0 : decide (0 ≤ x9_1) = true := decide_eq_true c6
     clear c6
     by_cases c7 : x9_1 < (t186.length : Int)
     ·rw [if_pos c7] at H
      have c7b0 : decide (x9_1 < (t186.length : Int)) = true := decide_eq_true c7
      clear c7
      by_cases c8 : x3_1.length < 8796093022208
      ·rw [if_pos c8] at H
       have LMc8 := Aside0.mk c8
       clear c8
       obtain ⟨y191, hy191⟩ : ∃ y_ : List (S60), y_ = (x3_1 ++ [(⟨(rd_T58 t186 x9_1).f0, (rd_T58 t186 x9_1).f1⟩ : S60)]) := ⟨_, rfl⟩
       replace H : (token_Spans.l0 k1 y191 t186 (t186.length : Int) (wrap64 (x9_1 + 1))) = some r := by first | (rw [hy191]; with_reducible exact H) | (have H2_ := (Option.bind_some _ _).symm.trans H; rw [hy191]; with_reducible exact H2_) | (have H2_ := (Option.bind_some _ _).symm.trans H; with_reducible exact H2_) | with_reducible exact H | (rw [hy191]; exact H) | exact H
       have Ny191 := Aside0.mk hy191
       clear hy191
       have H' := Aside0.mk H
       clear H
       have p189 : 0 ≤ (x9_1 : Int) := of_decide_eq_true as_
       have q189 : x9_1 < (t186.length : Int) := of_decide_eq_true as_
       obtain ⟨ad189, e189, hx189_0, hx189_1⟩ := at_T58 (Kd.R_reads' HO_7.out).2.2 x9_1 p189 q189
       cases e189
       replace p189 := eq_true p189
       replace q189 := eq_true q189
       go_wp2_with (first | ((with_reducible refine gate_dst (N := 5) rfl ?_); refine box_event ?hg (N := 5) ?hd (cs := #[.int .i64 0, .int .i64 0]) (t := 58) ?hr ?_; (case hd => rfl); (case hg => rfl); (case hr => first | (go_simp; done) | (go_simp; rfl)); intro gb190 hg w9 hbox hb; have n0_ := Aside0.mk (Kd.R_below (kr_ HO_3.out) hb); have n1_ := Aside0.mk (Kd.R_below (Kd.R_elderB (kr_ HO_7.out) gb190 (Nat.le_of_eq hg.symm)) hb); have n2_ := Aside0.mk (below_step (bb_ HB.out) hb); have n3_ := Aside0.mk (hbox); have n4_ := Aside0.mk ((by rw [hg]; exact (below_size (bb_ HB.out)) : w.heap.size ≤ gb190)); have n5_ := Aside0.mk ((by rw [hg]; exact (below_size (bb_ HB.out)) : w.heap.size ≤ gb190)); clear HO_3; clear HO_7; clear HB; have HO_3 := n0_; have HO_7 := n1_; have HB := n2_; have BK190 := n3_; have GW190 := n4_; have GE190 := n5_; clear n0_ n1_ n2_ n3_ n4_ n5_; clear hb hbox hg; have hcz10_0 : w9.cell? ⟨gb190, 0, none⟩ = some (.int .i64 0) := (blk_cell BK190.out 0).trans rfl; have hcz10_1 : w9.cell? ⟨gb190, 1, none⟩ = some (.int .i64 0) := (blk_cell BK190.out 1).trans rfl; have hfz10_0 := blk_frozen BK190.out 0; have hfz10_1 := blk_frozen BK190.out 1) | ((with_reducible refine gate_builtin (b := .append) (xs := #[.tmp 13, .tmp 19]) rfl ?_); at_builtin; refine Kd.R_append k60 (w0 := w) w.heap.size rfl (.tmp 13) (.tmp 19) 46 60 (.agg #[(.int .i64 0), (.int .i64 0)]) 16 rfl Tryz.underlying46 info60 rfl (by decide) (by omega) u3 x3_1 (⟨(rd_T58 t186 x9_1).f0, (rd_T58 t186 x9_1).f1⟩ : S60) [.int .i64 ((rd_T58 t186 x9_1).f0), .int .i64 ((rd_T58 t186 x9_1).f1)] (fun _ => True) (fun _ => False) rfl (by first | (go_simp; done) | (go_simp; rfl)) ?aP (fun _ hk => hk.elim) ?aF ?aO ?aB ?aS ?aL ?_; (case aP => exact k60_mkM _ _ _ (⟨(rd_T58 t186 x9_1).f0, (rd_T58 t186 x9_1).f1⟩ : S60)); (case aB => exact (bb1_ HB.out GE190.out)); (case aF => exact (fun _ _ => trivial)); (case aO => exact (by (with_reducible repeat (first | apply Kd.R_alloc | apply Kd.R_drewN | apply Kd.R_drew)); exact Kd.R_mono (Kd.R_far (p := ⟨gb190, 1, none⟩) (Kd.R_far (p := ⟨gb190, 0, none⟩) (Kd.R_types HO_3.out BK190.out (by decide)) (fun _ hk => hk.2) (.int .i64 ((rd_T58 t186 x9_1).f0))) (fun _ hk => hk.2) (.int .i64 ((rd_T58 t186 x9_1).f1))) (fun _ hk => trivial))); (case aS => exact (below_size (bb1_ HB.out GE190.out))); (case aL => have := LMc8.out; omega); intro v192 w11 ho hb hg hat; rw [← Ny191.out] at ho; have n0_ := Aside0.mk (Kd.R_over' (by (with_reducible repeat (first | apply Kd.R_alloc | apply Kd.R_drewN | apply Kd.R_drew)); exact (Kd.R_mono (Kd.R_far (p := ⟨gb190, 1, none⟩) (Kd.R_far (p := ⟨gb190, 0, none⟩) (Kd.R_mono HO_7.out (fun k_ hk => (⟨hk, hk.2⟩ : _ ∧ k_ ≠ gb190))) (fun _ hk => hk.2) (.int .i64 ((rd_T58 t186 x9_1).f0))) (fun _ hk => hk.2) (.int .i64 ((rd_T58 t186 x9_1).f1))) (fun _ h_ => h_.1))) (Kd.R_typed (by (with_reducible repeat (first | apply Kd.R_alloc | apply Kd.R_drewN | apply Kd.R_drew)); exact (Kd.R_mono (Kd.R_far (p := ⟨gb190, 1, none⟩) (Kd.R_far (p := ⟨gb190, 0, none⟩) (Kd.R_types HO_3.out BK190.out (by decide)) (fun _ hk => hk.2) (.int .i64 ((rd_T58 t186 x9_1).f0))) (fun _ hk => hk.2) (.int .i64 ((rd_T58 t186 x9_1).f1))) (fun _ h_ => h_.1)))) (by decide) hg); have n1_ := Aside0.mk (blk_grown (g := gb190) (o := .cells #[.int .i64 ((rd_T58 t186 x9_1).f0), .int .i64 ((rd_T58 t186 x9_1).f1)] 58 (0, 0)) (by (with_reducible repeat (first | refine blk_drewN ?_ _ | refine blk_drew ?_ | refine blk_alloc ?_ _)); refine blk_put (cs := #[.int .i64 ((rd_T58 t186 x9_1).f0), .int .i64 0]) ?_ 1 _ rfl; (with_reducible repeat (first | refine blk_drewN ?_ _ | refine blk_drew ?_ | refine blk_alloc ?_ _)); refine blk_put (cs := #[.int .i64 0, .int .i64 0]) ?_ 0 _ rfl; (with_reducible repeat (first | refine blk_drewN ?_ _ | refine blk_drew ?_ | refine blk_alloc ?_ _)); exact BK190.out) hg (Kd.R_ne HO_3.out BK190.out (by decide))); have n2_ := Aside0.mk (hb); have n3_ := Aside0.mk (ho); clear HO_7; clear BK190; clear HB; clear HO_3; have HO_7 := n0_; have BK190 := n1_; have HB := n2_; have HO193 := n3_; clear n0_ n1_ n2_ n3_; clear ho hb hg hat))
       go_roundg k1
       case measure => have := HK1.out; omega
       case rel => exact ⟨(y191), (wrap64 (x9_1 + 1)), rs_, H', ⟨by have := HK1.out; omega⟩, ⟨kr_ HO193.out⟩, ⟨by (with_reducible repeat (first | apply Kd.R_alloc | apply Kd.R_drewN | apply Kd.R_drew)); exact Kd.R_mono HO_7.out (fun _ hk => trivial)⟩, ⟨bb1_ HB.out GE190.out⟩⟩
      ·rw [if_neg c8] at H
       exact absurd H (by simp)
     ·rw [if_neg c7] at H
      exact absurd H (by simp)
    ·rw [if_neg c6] at H
     exact absurd H (by simp)
   ·rw [if_neg c5] at H
    have c5b0 : decide (x9_1 < (t186.length : Int)) = false := decide_eq_false c5
    clear c5
    obtain rfl := Option.some.inj H
    go_wp2
    go_ret
    exact ⟨_, by first | rfl | (simp [errW_none, errW_some] <;> rfl) | (simp [*, errW_none, errW_some] <;> rfl), by (with_reducible repeat (first | apply Kd.R_alloc | apply Kd.R_drewN | apply Kd.R_drew)); exact HO_3.out, bb_ HB.out⟩
end Go.Proofs.YtcgkmomhjincgaaGreatDoor.LibX
