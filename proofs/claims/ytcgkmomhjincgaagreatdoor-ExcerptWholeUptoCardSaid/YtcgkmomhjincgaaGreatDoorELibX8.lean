import Derived.Test.YtcgkmomhjincgaaGreatDoorELibX0
import Derived.Test.YtcgkmomhjincgaaGreatDoorELibX6
import Derived.Test.YtcgkmomhjincgaaGreatDoorELibX7
namespace Go.Proofs.YtcgkmomhjincgaaGreatDoor.LibX
open Go.RowKit Go.Proofs.YtcgkmomhjincgaaGreatDoorW.PrintWords Go.Proofs.YtcgkmomhjincgaaGreatDoorW.PrintLast Go.Proofs.YtcgkmomhjincgaaGreatDoorW.PrintMore
attribute [local go_sem] max2_int min2_int max_two min_two max_three min_three max_four min_four   -- for this text's walks alone
set_option linter.unusedVariables false
set_option linter.unusedSimpArgs false
def putL (a1 : Int) : List Int :=
 if a1 < 128 then [a1 % 256]
 else if a1 < 2048 then [(Go.bits .or .i64 192 (a1 / 64)) % 256, (Go.bits .or .i64 128 (Go.bits .and .i64 a1 63)) % 256]
 else if a1 < 65536 then [(Go.bits .or .i64 224 (a1 / 4096)) % 256, (Go.bits .or .i64 128 (Go.bits .and .i64 (a1 / 64) 63)) % 256, (Go.bits .or .i64 128 (Go.bits .and .i64 a1 63)) % 256]
 else [(Go.bits .or .i64 240 (a1 / 262144)) % 256, (Go.bits .or .i64 128 (Go.bits .and .i64 (a1 / 4096) 63)) % 256, (Go.bits .or .i64 128 (Go.bits .and .i64 (a1 / 64) 63)) % 256, (Go.bits .or .i64 128 (Go.bits .and .i64 a1 63)) % 256]
def utf_Put.f (l0 : List Int) (a1 : Int) : Option (List Int) :=
 if l0.length ≤ 140737488351232 then (utf_Sign.f a1).bind fun b => some (l0 ++ if b = true then putL a1 else []) else none
theorem new_nums (W : World) (e : TypeId) (k : IntKind) (ys : List Int) : ∀ j u, (nums k ys)[j]? = some u → (W.alloc (.cells (nums k ys).toArray e)).cell? ((⟨W.heap.size, 0, none⟩ : Addr).add j) = some u := by
 intro j u hu
 rw [add_plain]
 refine (cell_of_row _ W.heap.size j _ e (0, 0) (heap_alloc_new W _)).trans ?_
 simpa using hu
theorem put_info : (Tryz.prog.info? 5).map (fun i => (i.zero, i.size, i.bytes)) = some (some (.int .u8 0), 1, 1) := by kernel_rfl
theorem sign_range {a1 : Int} {b : Bool} (h : utf_Sign.f a1 = some b) : b = true → 0 ≤ a1 ∧ a1 ≤ 1114111 := by
 unfold utf_Sign.f at h
 rintro rfl
 by_cases c1 : a1 ≥ 0
 ·by_cases c2 : a1 ≤ 1114111
  ·exact ⟨c1, c2⟩
  ·rw [if_pos c1, if_neg c2] at h; cases h
 ·rw [if_neg c1] at h; cases h
theorem wpList_put {P : Program} {ops : Array Oper} {rest : List Oper} {o : Oper} {a : Act} {W w : World} {Q : Exit → Act → World → Prop} (hgd : o.guard = none) (s x : Operand) (t e : TypeId)
  (ho : o.op = .call { callee := .builtin .append, args := #[s, x], argTypes := #[t, t] }) (ht : P.underlying t = some (.slice e)) (hinfo : (P.info? e).map (fun i => (i.zero, i.size, i.bytes)) = some (some (.int .u8 0), 1, 1))
  (A0 : Option Addr) (l0 : List Int) (HR : ReadsInt w .u8 A0 l0.length l0) (HB : Below w.heap.size w W) (hs : a.eval s = .slice A0 l0.length l0.length)
  (g c : Nat) (ys : List Int) (hx : a.eval x = .slice (some ⟨g, 0, none⟩) ys.length c) (hcells : ∀ j u, (nums .u8 ys)[j]? = some u → W.cell? ((⟨g, 0, none⟩ : Addr).add j) = some u) (hpos : 0 < ys.length) (hl : l0.length + ys.length ≤ 140737488355328)
  (h : ∀ v1 w1, Kd.R (Kd.int .u8) e w1 w.heap.size (fun _ => True) v1 (l0 ++ ys) → Below w.heap.size w w1 → wpList P ops Q rest (a.put o.dst v1) w1) : wpList P ops Q (o :: rest) a W := by
 obtain ⟨i0, hi, hzz⟩ := Option.map_eq_some_iff.1 hinfo
 simp only [Prod.mk.injEq] at hzz
 obtain ⟨hz0, hz1, hz2⟩ := hzz
 refine wpList_append_grows W hgd s x t ho e i0 (.int .u8 0) 1 1 ht hi hz0 hz1 hz2 rfl (by decide) A0 l0.length l0.length (nums .u8 l0) hs ?_ (by rw [nums_length, Nat.mul_one]) ?_ ⟨g, 0, none⟩ ys.length c (nums .u8 ys) hx (by rw [nums_length, Nat.mul_one]) hcells ?_ (by omega) (by simp only [maxLen]; omega) (by omega) ?_
 ·rintro rfl
  rcases Nat.eq_zero_or_pos l0.length with h0 | h0
  ·exact ⟨h0, h0⟩
  ·obtain ⟨ad, h1, _⟩ := HR.2.2 h0
   cases h1
 ·rintro b rfl j u hu
  have hj : j < l0.length := by
   rcases Nat.lt_or_ge j l0.length with h0 | h0
   ·exact h0
   ·rw [List.getElem?_eq_none (by rw [nums_length]; exact h0)] at hu; cases hu
  obtain ⟨ad, h1, h2⟩ := HR.2.2 (by omega)
  cases h1
  have h3 := h2 j hj
  rw [pw_cell_below HB h3]
  simp [nums, List.getElem?_eq_getElem hj] at hu
  rw [← hu]
  simp [List.getD_eq_getElem?_getD, List.getElem?_eq_getElem hj]
 ·intro u hu
  obtain ⟨z, _, rfl⟩ := List.mem_map.1 hu
  rfl
 ·intro v' w' hown hg
  have hown2 : w'.ownsRow w.heap.size e 1 v' (l0 ++ ys).length (encs (Value.int .u8) (l0 ++ ys)) := by
   have h1 := own_weaken hown HB.size
   rw [← nums_append] at h1
   rw [List.length_append]
   exact h1
  exact h v' w' (Kd.R_of_own hown2 (fun _ _ => trivial)) (HB.grown hg HB.size (fun k hk => by cases hk))
set_option maxHeartbeats 4000000 in
set_option maxRecDepth 100000 in
theorem utf_Put.calls (A0 : Option Addr) (c0 : Nat) (l0 : List Int) (a1 : Int) (r : List Int) (w : World) (hr0 : Kd.C (Kd.int .u8) w A0 l0.length l0) (hc0 : l0.length ≤ c0) (h : utf_Put.f l0 a1 = some r) :
  Calls Tryz.prog 87 #[.slice A0 l0.length c0, .int .i64 a1] w fun e w' => ∃ v1_ : Value, e = .returned v1_ ∧ Kd.R (Kd.int .u8) 5 w' w.heap.size (fun _ => True) v1_ r ∧ Below w.heap.size w w' := by
 unfold utf_Put.f at h
 by_cases hl : l0.length ≤ 140737488351232
 ·rw [if_pos hl] at h
  obtain ⟨b, hb, h⟩ := Option.bind_eq_some_iff.1 h
  have HL4 := Aside0.mk (show l0.length + 4 ≤ 140737488355328 by omega)
  have HL5 := Aside0.mk (show (([] : List Int).length + l0.length) * 1 ≤ 140737488355328 by simp; omega)
  have HC := Aside0.mk hr0
  have HRD := Aside0.mk (Kd.reads_of_C (d := (0 : Int)) hr0)
  have hsg := sign_range hb
  have HSG := Aside0.mk hb
  clear hr0 hb
  cases b with
  | true =>
   obtain ⟨hn0, hn1⟩ := hsg rfl
   clear hsg
   have HE := Aside0.mk (show l0 ++ putL a1 = r from Option.some.inj h)
   clear h
   by_cases c1 : a1 < 128
   ·have HP := Aside0.mk (show putL a1 = [a1 % 256] by simp [putL, c1])
    have b1 : decide (a1 < 128) = true := by simpa using c1
    clear c1
    go_enter Tryz.func87, Tryz.ntmps87
    go_wp2_with (first | (go_at_call 63; refine (utf_Sign.calls _ true _ HSG.out).mono ?_; rintro e w' ⟨rfl, ⟨nd, rfl⟩⟩) | (at_builtin; refine wpList_put (w := w) rfl (.tmp 21) (.tmp 24) 53 5 rfl Tryz.underlying53 put_info A0 l0 HRD.out ?hb rfl _ _ [a1 % 256] rfl ?hc ?hp ?hl ?_; (case hb => exact below_alloc (pw_below_drewN (Below.refl w.heap.size w) _) _); (case hc => exact new_nums _ _ .u8 _); (case hp => exact Nat.succ_pos _); (case hl => exact Nat.le_trans (Nat.add_le_add_left (by simp) _) HL4.out); intro v1 w1 hR hb1))
    go_ret
    exact ⟨_, rfl, by rw [← HE.out, HP.out]; exact hR, hb1⟩
   ·by_cases c2 : a1 < 2048
    ·have HP := Aside0.mk (show putL a1 = [(Go.bits .or .i64 192 (a1 / 64)) % 256, (Go.bits .or .i64 128 (Go.bits .and .i64 a1 63)) % 256] by simp [putL, c1, c2])
     have b1 : decide (a1 < 128) = false := by simpa using c1
     have b2 : decide (a1 < 2048) = true := by simpa using c2
     clear c1 c2
     go_enter Tryz.func87, Tryz.ntmps87
     go_wp2_with (first | (go_at_call 63; refine (utf_Sign.calls _ true _ HSG.out).mono ?_; rintro e w' ⟨rfl, ⟨nd, rfl⟩⟩) | (at_builtin; refine wpList_put (w := w) rfl (.tmp 29) (.tmp 38) 53 5 rfl Tryz.underlying53 put_info A0 l0 HRD.out ?hb rfl _ _ [(Go.bits .or .i64 192 (a1 / 64)) % 256, (Go.bits .or .i64 128 (Go.bits .and .i64 a1 63)) % 256] rfl ?hc ?hp ?hl ?_; (case hb => exact below_alloc (pw_below_drewN (Below.refl w.heap.size w) _) _); (case hc => exact new_nums _ _ .u8 _); (case hp => exact Nat.succ_pos _); (case hl => exact Nat.le_trans (Nat.add_le_add_left (by simp) _) HL4.out); intro v1 w1 hR hb1))
     go_ret
     exact ⟨_, rfl, by rw [← HE.out, HP.out]; exact hR, hb1⟩
    ·by_cases c3 : a1 < 65536
     ·have HP := Aside0.mk (show putL a1 = [(Go.bits .or .i64 224 (a1 / 4096)) % 256, (Go.bits .or .i64 128 (Go.bits .and .i64 (a1 / 64) 63)) % 256, (Go.bits .or .i64 128 (Go.bits .and .i64 a1 63)) % 256] by simp [putL, c1, c2, c3])
      have b1 : decide (a1 < 128) = false := by simpa using c1
      have b2 : decide (a1 < 2048) = false := by simpa using c2
      have b3 : decide (a1 < 65536) = true := by simpa using c3
      clear c1 c2 c3
      go_enter Tryz.func87, Tryz.ntmps87
      go_wp2_with (first | (go_at_call 63; refine (utf_Sign.calls _ true _ HSG.out).mono ?_; rintro e w' ⟨rfl, ⟨nd, rfl⟩⟩) | (at_builtin; refine wpList_put (w := w) rfl (.tmp 43) (.tmp 57) 53 5 rfl Tryz.underlying53 put_info A0 l0 HRD.out ?hb rfl _ _ [(Go.bits .or .i64 224 (a1 / 4096)) % 256, (Go.bits .or .i64 128 (Go.bits .and .i64 (a1 / 64) 63)) % 256, (Go.bits .or .i64 128 (Go.bits .and .i64 a1 63)) % 256] rfl ?hc ?hp ?hl ?_; (case hb => exact below_alloc (pw_below_drewN (Below.refl w.heap.size w) _) _); (case hc => exact new_nums _ _ .u8 _); (case hp => exact Nat.succ_pos _); (case hl => exact Nat.le_trans (Nat.add_le_add_left (by simp) _) HL4.out); intro v1 w1 hR hb1))
      go_ret
      exact ⟨_, rfl, by rw [← HE.out, HP.out]; exact hR, hb1⟩
     ·have HP := Aside0.mk (show putL a1 = [(Go.bits .or .i64 240 (a1 / 262144)) % 256, (Go.bits .or .i64 128 (Go.bits .and .i64 (a1 / 4096) 63)) % 256, (Go.bits .or .i64 128 (Go.bits .and .i64 (a1 / 64) 63)) % 256, (Go.bits .or .i64 128 (Go.bits .and .i64 a1 63)) % 256] by simp [putL, c1, c2, c3])
      have b1 : decide (a1 < 128) = false := by simpa using c1
      have b2 : decide (a1 < 2048) = false := by simpa using c2
      have b3 : decide (a1 < 65536) = false := by simpa using c3
      clear c1 c2 c3
      go_enter Tryz.func87, Tryz.ntmps87
      go_wp2_with (first | (go_at_call 63; refine (utf_Sign.calls _ true _ HSG.out).mono ?_; rintro e w' ⟨rfl, ⟨nd, rfl⟩⟩) | (at_builtin; refine wpList_put (w := w) rfl (.tmp 59) (.tmp 78) 53 5 rfl Tryz.underlying53 put_info A0 l0 HRD.out ?hb rfl _ _ [(Go.bits .or .i64 240 (a1 / 262144)) % 256, (Go.bits .or .i64 128 (Go.bits .and .i64 (a1 / 4096) 63)) % 256, (Go.bits .or .i64 128 (Go.bits .and .i64 (a1 / 64) 63)) % 256, (Go.bits .or .i64 128 (Go.bits .and .i64 a1 63)) % 256] rfl ?hc ?hp ?hl ?_; (case hb => exact below_alloc (pw_below_drewN (Below.refl w.heap.size w) _) _); (case hc => exact new_nums _ _ .u8 _); (case hp => exact Nat.succ_pos _); (case hl => exact Nat.le_trans (Nat.add_le_add_left (by simp) _) HL4.out); intro v1 w1 hR hb1))
      go_ret
      exact ⟨_, rfl, by rw [← HE.out, HP.out]; exact hR, hb1⟩
  | false =>
   have HE := Aside0.mk (show l0 = r by have := Option.some.inj h; simpa using this)
   clear h hsg
   go_enter Tryz.func87, Tryz.ntmps87
   go_wp2_with (first | (go_at_call 63; refine (utf_Sign.calls _ false _ HSG.out).mono ?_; rintro e w' ⟨rfl, ⟨nd, rfl⟩⟩) | (at_builtin; refine Kd.R_append_row (Value.int .u8) 0 (h1 := fun _ => rfl) (w0 := w) w.heap.size rfl (.const (.slice none 0 0)) (.tmp 16) 53 5 (.int .u8 0) 1 rfl Tryz.underlying53 put_info rfl (by decide) (.slice none 0 0) [] l0 A0 l0.length c0 (fun _ => True) rfl rfl (fun _ _ => trivial) (Kd.R_nil _ _ _ _ _) ?hc ?hb ?hz ?hl ?_; (case hc => exact Kd.C_below HC.out (pw_below_drewN (Below.refl _ _) _)); (case hb => exact pw_below_drewN (Below.refl w.heap.size w) _); (case hz => exact Nat.le_refl _); (case hl => exact HL5.out); intro v1 w1 hR hb1 hg1 hat1))
   go_ret
   exact ⟨_, rfl, by rw [← HE.out]; exact hR, hb1⟩
 ·rw [if_neg hl] at h
  cases h
def lowGo : List (Int × Int × Int × Int) → Int → Int
 | [], r => r
 | (lo, hi, st, up) :: t, r => if lo ≤ r ∧ r ≤ hi ∧ (r - lo) % st = 0 then r + up else lowGo t r
def rowLo (k : Nat) : Int := (rowsTab.getD k (0, 0, 1, 0)).1
def rowHi (k : Nat) : Int := (rowsTab.getD k (0, 0, 1, 0)).2.1
def rowSt (k : Nat) : Int := (rowsTab.getD k (0, 0, 1, 0)).2.2.1
def rowUp (k : Nat) : Int := (rowsTab.getD k (0, 0, 1, 0)).2.2.2
theorem row_cases (k : Nat) (hk : k < 13) : k = 0 ∨ k = 1 ∨ k = 2 ∨ k = 3 ∨ k = 4 ∨ k = 5 ∨ k = 6 ∨ k = 7 ∨ k = 8 ∨ k = 9 ∨ k = 10 ∨ k = 11 ∨ k = 12 := by omega
theorem row_bounds (k : Nat) (hk : k < 13) : 0 ≤ rowLo k ∧ rowHi k ≤ 2000 ∧ 1 ≤ rowSt k ∧ rowSt k ≤ 2 ∧ 0 ≤ rowUp k ∧ rowUp k ≤ 100 := by
 rcases row_cases k hk with rfl | rfl | rfl | rfl | rfl | rfl | rfl | rfl | rfl | rfl | rfl | rfl | rfl <;> decide
theorem row_step (k : Nat) (hk : k < 13) : rowsTab.drop k = (rowLo k, rowHi k, rowSt k, rowUp k) :: rowsTab.drop (k + 1) := by
 rcases row_cases k hk with rfl | rfl | rfl | rfl | rfl | rfl | rfl | rfl | rfl | rfl | rfl | rfl | rfl <;> rfl
theorem rows_index (k : Nat) (hk : k < 13) (w : World) : (Instr.index 135 (.agg rowsCells) (.int .i64 (k : Int))).run Tryz.prog w = .ok (.agg #[.int .i64 (rowLo k), .int .i64 (rowHi k), .int .i64 (rowSt k), .int .i64 (rowUp k)]) w := by
 rcases row_cases k hk with rfl | rfl | rfl | rfl | rfl | rfl | rfl | rfl | rfl | rfl | rfl | rfl | rfl <;> kernel_rfl
def fold_Lower.f (a0 : Int) : Option Int := some (lowGo rowsTab a0)
set_option maxHeartbeats 4000000 in
set_option maxRecDepth 100000 in
theorem fold_Lower.calls (a0 r : Int) (w : World) (hG : GL w) (h : fold_Lower.f a0 = some r) :
  Calls Tryz.prog 88 #[.int .i64 a0] w fun e w' => e = .returned (.int .i64 r) ∧ Below w.heap.size w w' := by
 obtain ⟨t, fr, hg⟩ := hG.rows
 have hr0 := Option.some.inj h
 have hr := Aside0.mk hr0
 clear hr0 h hG
 go_enter Tryz.func88, Tryz.ntmps88
 go_wp2_with (refine wpList_load_row rfl 135 _ rfl 5 rfl _ _ _ _ hg Tryz.underlying135 rfl (by kernel_rfl) ?_)
 clear hg
 go_loopg [6] 13 (fun n v wr => ∃ k : Nat, v = .int .i64 k ∧ Aside0 (n + k = 13) ∧ Aside0 (lowGo (rowsTab.drop k) a0 = r) ∧ Below w.heap.size w wr)
 case atStart => exact ⟨0, rfl, ⟨rfl⟩, ⟨hr.out⟩, Below.refl _ _⟩
 case round =>
  obtain ⟨k, rfl, HN, HR, HB0⟩ := hrel
  have HB := Aside0.mk HB0
  clear HB0
  by_cases hk : k < 13
  ·have hidx := rows_index k hk
   obtain ⟨h1, h2, h3, h4, h5, h6⟩ := row_bounds k hk
   have hst := row_step k hk
   have HR2 := HR.out
   rw [hst] at HR2
   clear HR hst
   have hu := Tryz.underlying134
   have hk' : decide ((k : Int) < 13) = true := by simp; omega
   by_cases c1 : rowLo k ≤ a0
   ·by_cases c2 : a0 ≤ rowHi k
    ·by_cases c3 : (a0 - rowLo k) % rowSt k = 0
     ·have e : lowGo ((rowLo k, rowHi k, rowSt k, rowUp k) :: rowsTab.drop (k + 1)) a0 = a0 + rowUp k := by simp [lowGo, c1, c2, c3]
      have er : r = a0 + rowUp k := by rw [← HR2, e]
      clear HR2 e hr
      have HE := Aside0.mk er
      clear er
      have b3 : ((a0 - rowLo k) % rowSt k == 0) = true := by simpa using c3
      clear c3
      go_wp2
      go_ret
      exact ⟨ret_int HE.out.symm, by repeat (first | exact HB.out | apply below_alloc)⟩
     ·have e : lowGo ((rowLo k, rowHi k, rowSt k, rowUp k) :: rowsTab.drop (k + 1)) a0 = lowGo (rowsTab.drop (k + 1)) a0 := by simp [lowGo, c3]
      have HR := Aside0.mk (e ▸ HR2)
      clear HR2 e hr
      have b3 : ((a0 - rowLo k) % rowSt k == 0) = false := by simpa using c3
      clear c3
      go_wp2
      go_roundg (gk - 1)
      case measure => have := HN.out; omega
      case rel => exact ⟨k + 1, by go_num, ⟨by have := HN.out; omega⟩, HR, by repeat (first | exact HB.out | apply below_alloc)⟩
    ·have e : lowGo ((rowLo k, rowHi k, rowSt k, rowUp k) :: rowsTab.drop (k + 1)) a0 = lowGo (rowsTab.drop (k + 1)) a0 := by simp [lowGo, c2]
     have HR := Aside0.mk (e ▸ HR2)
     clear HR2 e hr
     have b2 : decide (a0 ≤ rowHi k) = false := by simpa using c2
     clear c2
     go_wp2
     go_roundg (gk - 1)
     case measure => have := HN.out; omega
     case rel => exact ⟨k + 1, by go_num, ⟨by have := HN.out; omega⟩, HR, by repeat (first | exact HB.out | apply below_alloc)⟩
   ·have e : lowGo ((rowLo k, rowHi k, rowSt k, rowUp k) :: rowsTab.drop (k + 1)) a0 = lowGo (rowsTab.drop (k + 1)) a0 := by simp [lowGo, c1]
    have HR := Aside0.mk (e ▸ HR2)
    clear HR2 e hr
    have b1 : decide (rowLo k ≤ a0) = false := by simpa using c1
    clear c1
    go_wp2
    go_roundg (gk - 1)
    case measure => have := HN.out; omega
    case rel => exact ⟨k + 1, by go_num, ⟨by have := HN.out; omega⟩, HR, by repeat (first | exact HB.out | apply below_alloc)⟩
  ·have e : k = 13 := by have := HN.out; omega
   subst e
   have hk' : decide (((13 : Nat) : Int) < 13) = false := by decide
   clear hk
   have HR2 := HR.out
   clear hr HR
   go_wp2
   go_ret
   exact ⟨ret_int HR2, HB.out⟩
def fold_Text.l0 : Nat → ByteArray → List Int → Int → Option (ByteArray)
 | 0, _, _, _ => none
 | k + 1, x0, x3, x4 => if x4 < (x0.size : Int) then ((utf_Next.f x0 x4).bind fun bt194 => (if bt194.1 < 0 then (if 0 ≤ x4 then (if x3.length < 140737488355328 then (fold_Text.l0 k x0 (x3 ++ [bt x0 x4]) (wrap64 (x4 + bt194.2))) else (none)) else (none)) else ((fold_Lower.f bt194.1).bind fun t199 => ((utf_Put.f x3 t199).bind fun t200 => (fold_Text.l0 k x0 t200 (wrap64 (x4 + bt194.2))))))) else (some (strOfNums x3))
def fold_Text.f (k : Nat) (a0 : ByteArray) : Option (ByteArray) := fold_Text.l0 k a0 ([] : List Int) 0
theorem fold_Text.mono_l : ∀ k, (∀ y0 y1 y2, LeO (fold_Text.l0 k y0 y1 y2) (fold_Text.l0 (k + 1) y0 y1 y2))
 | 0 => fun _ _ _ r h => by simp [fold_Text.l0] at h
 | k + 1 => by
  have ih0 := fold_Text.mono_l k
  ·intro y0 y1 y2
   unfold fold_Text.l0
   repeat' first
   | (with_reducible exact ih0 _ _ _)
   | (with_reducible exact LeO.refl _)
   | (with_reducible exact LeO.none _)
   | (with_reducible refine LeO.ite ?_ ?_)
   | (with_reducible refine LeO.bind ?_ (fun _ => ?_))
   | exact ih0 _ _ _
   | exact LeO.none _
   | refine LeO.ite ?_ ?_
   | refine LeO.bind ?_ (fun _ => ?_)
theorem fold_Text.mono : ∀ a0 k, LeO (fold_Text.f k a0) (fold_Text.f (k + 1) a0) := by
 intro a0 k
 have ih0 := fold_Text.mono_l k
 unfold fold_Text.f
 repeat' first
   | (with_reducible exact ih0 _ _ _)
   | (with_reducible exact LeO.refl _)
   | (with_reducible exact LeO.none _)
   | (with_reducible refine LeO.ite ?_ ?_)
   | (with_reducible refine LeO.bind ?_ (fun _ => ?_))
   | exact ih0 _ _ _
   | exact LeO.none _
   | refine LeO.ite ?_ ?_
   | refine LeO.bind ?_ (fun _ => ?_)
set_option maxHeartbeats 8000000 in
set_option maxRecDepth 100000 in
theorem fold_Text.calls (k : Nat) (a0 : ByteArray) (r : ByteArray) (w : World) (hG : GL w) (h : fold_Text.f k a0 = some r) :
  Calls Tryz.prog 66 #[.string a0] w fun e w' => e = .returned (.string r) ∧ Below w.heap.size w w' := by
 have HB := Aside0.mk (Below.refl w.heap.size w)
 have H : (fold_Text.l0 k a0 ([] : List Int) 0) = some r := h
 clear h
 have H' := Aside0.mk H
 clear H
 go_enter Tryz.func66, Tryz.ntmps66
 go_wp2
 go_loopg [3, 4] k (fun kq v3 v4 w' => ∃ (x3_1 : List Int) (x4_1 : Int), v4 = .int .i64 x4_1 ∧ Aside0 (fold_Text.l0 kq a0 x3_1 x4_1 = some r) ∧ Aside0 (kq ≤ k) ∧ Aside0 (Kd.R (Kd.int .u8) 5 w' w.heap.size (fun _ => True) v3 x3_1) ∧ Aside0 (Below w.heap.size w w'))
 case atStart => exact ⟨(([] : List Int)), (0), rs_, H', ⟨Nat.le_refl _⟩, ⟨by first | exact Kd.R_nil _ _ _ _ _ | exact Kd.N_nil _ _ _ _ _ | exact Kd.V_nil _ _ _ _ _ | exact Kd.Q_nil _ _ _ _ _ | exact Kd.S_nil _ _ _ _ _⟩, ⟨bb_ HB.out⟩⟩
 case round =>
  clear H'
  obtain ⟨x3_1, x4_1, rfl, HA, HK1, HO_3, HB⟩ := hrel
  cases gk with
  | zero => exact absurd HA.out (by simp [fold_Text.l0])
  | succ k1 =>
   have H := HA.out
   clear HA
   simp only [fold_Text.l0] at H
   by_cases c2 : x4_1 < (a0.size : Int)
   ·rw [if_pos c2] at H
    have c2b0 : decide (x4_1 < (a0.size : Int)) = true := decide_eq_true c2
    clear c2
    replace H := Option.bind_eq_some_iff.mp H
    obtain ⟨⟨t194, t195⟩, A30, H⟩ := H
    replace H : (if t194 < 0 then (if 0 ≤ x4_1 then (if x3_1.length < 140737488355328 then (fold_Text.l0 k1 a0 (x3_1 ++ [bt a0 x4_1]) (wrap64 (x4_1 + t195))) else (none)) else (none)) else ((fold_Lower.f t194).bind fun t199 => ((utf_Put.f x3_1 t199).bind fun t200 => (fold_Text.l0 k1 a0 t200 (wrap64 (x4_1 + t195)))))) = some r := H
    have A3 := Aside0.mk A30
    clear A30
    by_cases c4 : t194 < 0
    ·rw [if_pos c4] at H
     have c4b0 : decide (t194 < 0) = true := decide_eq_true c4
     clear c4
     by_cases c5 : 0 ≤ x4_1
     ·rw [if_pos c5] at H
      have c5b0 : decide (0 ≤ x4_1) = true := decide_eq_true c5
      clear c5
      by_cases c7 : x3_1.length < 140737488355328
      ·rw [if_pos c7] at H
       have LMc7 := Aside0.mk c7
       clear c7
       obtain ⟨y196, hy196⟩ : ∃ y_ : List Int, y_ = (x3_1 ++ [bt a0 x4_1]) := ⟨_, rfl⟩
       replace H : (fold_Text.l0 k1 a0 y196 (wrap64 (x4_1 + t195))) = some r := by first | (rw [hy196]; with_reducible exact H) | (have H2_ := (Option.bind_some _ _).symm.trans H; rw [hy196]; with_reducible exact H2_) | (have H2_ := (Option.bind_some _ _).symm.trans H; with_reducible exact H2_) | with_reducible exact H | (rw [hy196]; exact H) | exact H
       have Ny196 := Aside0.mk hy196
       clear hy196
       have H' := Aside0.mk H
       clear H
       go_wp2_with (first | ((with_reducible refine gate_callee (f := 44) rfl ?_); refine goesL_ (some 14) rfl rfl Tryz.func44 (by kernel_rfl) rfl #[.string a0, .int .i64 x4_1] rfl ar_ ?_; (with_reducible refine (utf_Next.calls a0 x4_1 t194 t195 _ A3.out).mono ?_); rintro e w8 ⟨rfl, hb⟩; refine ⟨_, rfl, ?_⟩; have n0_ := Aside0.mk (Kd.R_below (kr_ HO_3.out) hb); have n1_ := Aside0.mk (below_step (bb_ HB.out) hb); clear HO_3; clear HB; have HO_3 := n0_; have HB := n1_; clear n0_ n1_; (try clear hb); (try clear hb2); (try clear hk); (try clear hi); have p6 : 0 ≤ (x4_1 : Int) := of_decide_eq_true as_; have q6 : x4_1 < (a0.size : Int) := of_decide_eq_true as_; have hx6 := bt_at a0 x4_1; replace p6 := eq_true p6; replace q6 := eq_true q6) | ((with_reducible refine gate_builtin (b := .append) (xs := #[.tmp 19, .tmp 23]) rfl ?_); at_builtin; refine Kd.R_append (Kd.int .u8) (w0 := w) w.heap.size rfl (.tmp 19) (.tmp 23) 53 5 (.int .u8 0) 1 rfl Tryz.underlying53 info5 rfl (by decide) (by omega) u3 x3_1 (bt a0 x4_1) [.int .u8 (bt a0 x4_1)] (fun _ => True) (fun _ => False) rfl rfl ?aP (fun _ hk => hk.elim) ?aF ?aO ?aB ?aS ?aL ?_; (case aP => exact rfl); (case aB => exact (bb_ HB.out)); (case aF => exact (fun _ _ => trivial)); (case aO => exact (kr_ HO_3.out)); (case aS => exact (below_size (bb_ HB.out))); (case aL => have := LMc7.out; omega); intro v197 w9 ho hb hg hat; rw [← Ny196.out] at ho; have n0_ := Aside0.mk (hb); have n1_ := Aside0.mk (ho); clear HB; clear HO_3; have HB := n0_; have HO198 := n1_; clear n0_ n1_; clear ho hb hg hat))
       go_roundg k1
       case measure => have := HK1.out; omega
       case rel => exact ⟨(y196), (wrap64 (x4_1 + t195)), rs_, H', ⟨by have := HK1.out; omega⟩, ⟨kr_ HO198.out⟩, ⟨bb_ HB.out⟩⟩
      ·rw [if_neg c7] at H
       exact absurd H (by simp)
     ·rw [if_neg c5] at H
      exact absurd H (by simp)
    ·rw [if_neg c4] at H
     have c4b0 : decide (t194 < 0) = false := decide_eq_false c4
     clear c4
     replace H := Option.bind_eq_some_iff.mp H
     obtain ⟨t199, A100, H⟩ := H
     replace H : ((utf_Put.f x3_1 t199).bind fun t200 => (fold_Text.l0 k1 a0 t200 (wrap64 (x4_1 + t195)))) = some r := H
     have A10 := Aside0.mk A100
     clear A100
     replace H := Option.bind_eq_some_iff.mp H
     obtain ⟨t200, A110, H⟩ := H
     replace H : (fold_Text.l0 k1 a0 t200 (wrap64 (x4_1 + t195))) = some r := H
     have A11 := Aside0.mk A110
     clear A110
     have H' := Aside0.mk H
     clear H
     go_wp2_with (first | ((with_reducible refine gate_callee (f := 44) rfl ?_); refine goesL_ (some 14) rfl rfl Tryz.func44 (by kernel_rfl) rfl #[.string a0, .int .i64 x4_1] rfl ar_ ?_; (with_reducible refine (utf_Next.calls a0 x4_1 t194 t195 _ A3.out).mono ?_); rintro e w12 ⟨rfl, hb⟩; refine ⟨_, rfl, ?_⟩; have n0_ := Aside0.mk (Kd.R_below (kr_ HO_3.out) hb); have n1_ := Aside0.mk (below_step (bb_ HB.out) hb); clear HO_3; clear HB; have HO_3 := n0_; have HB := n1_; clear n0_ n1_; (try clear hb); (try clear hb2); (try clear hk); (try clear hi)) | ((with_reducible refine gate_callee (f := 88) rfl ?_); refine goesL_ (some 27) rfl rfl Tryz.func88 (by kernel_rfl) rfl #[.int .i64 t194] rfl ar_ ?_; (with_reducible refine (fold_Lower.calls t194 t199 _ (by first | exact hG | exact GL.drewN hG _ | exact GL.below hG (bb_ HB.out)) A10.out).mono ?_); rintro e w13 ⟨rfl, hb⟩; refine ⟨_, rfl, ?_⟩; have n0_ := Aside0.mk (Kd.R_below (kr_ HO_3.out) hb); have n1_ := Aside0.mk (below_step (bb_ HB.out) hb); clear HO_3; clear HB; have HO_3 := n0_; have HB := n1_; clear n0_ n1_; (try clear hb); (try clear hb2); (try clear hk); (try clear hi); obtain ⟨Ao14, co14, eo14⟩ := Kd.R_slice HO_3.out; subst eo14) | ((with_reducible refine gate_callee (f := 87) rfl ?_); refine goesL_ (some 28) rfl rfl Tryz.func87 (by kernel_rfl) rfl #[.slice Ao14 x3_1.length co14, .int .i64 t199] rfl ar_ ?_; (with_reducible refine (utf_Put.calls _ _ x3_1 t199 t200 _ ?side1 ?side2 A11.out).mono ?_); (case side1 => repeat (first | exact (Kd.R_reads' HO_3.out).2.2 | (with_reducible refine Kd.C_alloc ?_ _) | (with_reducible refine Kd.C_drewN ?_ _) | (with_reducible refine Kd.C_drew ?_))); (case side2 => exact (Kd.R_reads' HO_3.out).2.1); rintro e w15 ⟨v201, rfl, ho0, hb⟩; refine ⟨_, rfl, ?_⟩; have n0_ := Aside0.mk (Kd.R_elder' (kr_ HO_3.out) (Kd.R_base ho0) hb); have n1_ := Aside0.mk (Kd.R_lower (Kd.R_new' ho0 (Kd.R_lt (kr_ HO_3.out))) (below_size (bb_ HB.out))); have n2_ := Aside0.mk (below_step (bb_ HB.out) hb); clear HO_3; clear HB; have HO_3 := n0_; have HO202 := n1_; have HB := n2_; clear n0_ n1_ n2_; (try clear hb); (try clear hb2); (try clear hk); (try clear hi); (try clear ho0)))
     go_roundg k1
     case measure => have := HK1.out; omega
     case rel => exact ⟨(t200), (wrap64 (x4_1 + t195)), rs_, H', ⟨by have := HK1.out; omega⟩, ⟨by (with_reducible repeat (first | apply Kd.R_alloc | apply Kd.R_drewN | apply Kd.R_drew)); exact Kd.R_mono HO202.out (fun _ hk => trivial)⟩, ⟨bb_ HB.out⟩⟩
   ·rw [if_neg c2] at H
    have c2b0 : decide (x4_1 < (a0.size : Int)) = false := decide_eq_false c2
    clear c2
    obtain rfl := Option.some.inj H
    have hcv16 := own_string (P := Tryz.prog) Tryz.underlying53 Tryz.underlying5 Tryz.underlying9 (Kd.own_of_R HO_3.out)
    go_wp2
    go_ret
    exact ⟨by first | rfl | (simp [errW_none, errW_some] <;> rfl) | (simp [*, errW_none, errW_some] <;> rfl), bb_ HB.out⟩
def token_Words.l0 : Nat → ByteArray → List (S40) → List (S58) → Int → Int → Option ((List (S40)))
 | 0, _, _, _, _, _ => none
 | k + 1, x0, x3, x8, x9, x10 => if x10 < x9 then (if 0 ≤ x10 then (if x10 < (x8.length : Int) then (if 0 ≤ ((rd_T58 x8 x10).f0) then (if ((rd_T58 x8 x10).f0) ≤ ((rd_T58 x8 x10).f1) then (if ((rd_T58 x8 x10).f1) ≤ (x0.size : Int) then ((fold_Text.f k (x0.extract (((rd_T58 x8 x10).f0) : Int).toNat (((rd_T58 x8 x10).f1) : Int).toNat)).bind fun t208 => (if x10 < 60 then (if (t208.size : Int) ≤ 20 then (if x3.length < 5864062014805 then (token_Words.l0 k x0 (x3 ++ [(⟨t208, x10⟩ : S40)]) x8 x9 (wrap64 (x10 + 1))) else (none)) else (token_Words.l0 k x0 x3 x8 x9 (wrap64 (x10 + 1)))) else (token_Words.l0 k x0 x3 x8 x9 (wrap64 (x10 + 1))))) else (none)) else (none)) else (none)) else (none)) else (none)) else (some x3)
def token_Words.f (k : Nat) (a0 : ByteArray) : Option ((List (S40))) := (token_spans.f k a0).bind fun t203 => (token_Words.l0 k a0 ([] : List (S40)) t203 (t203.length : Int) 0)
theorem token_Words.mono_l : ∀ k, (∀ y0 y1 y2 y3 y4, LeO (token_Words.l0 k y0 y1 y2 y3 y4) (token_Words.l0 (k + 1) y0 y1 y2 y3 y4))
 | 0 => fun _ _ _ _ _ r h => by simp [token_Words.l0] at h
 | k + 1 => by
  have ih0 := token_Words.mono_l k
  ·intro y0 y1 y2 y3 y4
   unfold token_Words.l0
   repeat' first
   | (with_reducible exact ih0 _ _ _ _ _)
   | (with_reducible exact fold_Text.mono _ _)
   | (with_reducible exact token_spans.mono _ _)
   | (with_reducible exact LeO.refl _)
   | (with_reducible exact LeO.none _)
   | (with_reducible refine LeO.ite ?_ ?_)
   | (with_reducible refine LeO.bind ?_ (fun _ => ?_))
   | exact ih0 _ _ _ _ _
   | exact fold_Text.mono _ _
   | exact token_spans.mono _ _
   | exact LeO.none _
   | refine LeO.ite ?_ ?_
   | refine LeO.bind ?_ (fun _ => ?_)
theorem token_Words.mono : ∀ a0 k, LeO (token_Words.f k a0) (token_Words.f (k + 1) a0) := by
 intro a0 k
 have ih0 := token_Words.mono_l k
 unfold token_Words.f
 repeat' first
   | (with_reducible exact ih0 _ _ _ _ _)
   | (with_reducible exact fold_Text.mono _ _)
   | (with_reducible exact token_spans.mono _ _)
   | (with_reducible exact LeO.refl _)
   | (with_reducible exact LeO.none _)
   | (with_reducible refine LeO.ite ?_ ?_)
   | (with_reducible refine LeO.bind ?_ (fun _ => ?_))
   | exact ih0 _ _ _ _ _
   | exact fold_Text.mono _ _
   | exact token_spans.mono _ _
   | exact LeO.none _
   | refine LeO.ite ?_ ?_
   | refine LeO.bind ?_ (fun _ => ?_)
set_option maxHeartbeats 8000000 in
set_option maxRecDepth 100000 in
theorem token_Words.calls (k : Nat) (a0 : ByteArray) (r : List (S40)) (w : World) (hG : GL w) (h : token_Words.f k a0 = some r) :
  Calls Tryz.prog 46 #[.string a0] w fun e w' => ∃ v0_ : Value, e = .returned (v0_) ∧ Kd.R k40 40 w' w.heap.size (fun _ => True) v0_ r ∧ Below w.heap.size w w' := by
 have hu58 := Tryz.underlying58
 have hu40 := Tryz.underlying40
 have HB := Aside0.mk (Below.refl w.heap.size w)
 have H : ((token_spans.f k a0).bind fun t203 => (token_Words.l0 k a0 ([] : List (S40)) t203 (t203.length : Int) 0)) = some r := h
 clear h
 replace H := Option.bind_eq_some_iff.mp H
 obtain ⟨t203, A20, H⟩ := H
 replace H : (token_Words.l0 k a0 ([] : List (S40)) t203 (t203.length : Int) 0) = some r := H
 have A2 := Aside0.mk A20
 clear A20
 have H' := Aside0.mk H
 clear H
 go_enter Tryz.func46, Tryz.ntmps46
 go_wp2_with (first | ((with_reducible refine gate_callee (f := 26) rfl ?_); refine goesL_ (some 8) rfl rfl Tryz.func26 (by kernel_rfl) rfl #[.string a0] rfl ar_ ?_; (with_reducible refine (token_spans.calls k a0 t203 _ A2.out).mono ?_); rintro e w3 ⟨v204, rfl, ho0, hb⟩; refine ⟨_, rfl, ?_⟩; have n0_ := Aside0.mk (Kd.R_lower ho0 (below_size (bb_ HB.out))); have n1_ := Aside0.mk (below_step (bb_ HB.out) hb); clear HB; have HO205 := n0_; have HB := n1_; clear n0_ n1_; (try clear hb); (try clear hb2); (try clear hk); (try clear hi); (try clear ho0); obtain ⟨Ao4, co4, eo4⟩ := Kd.R_slice HO205.out; subst eo4))
 go_loopg [3, 10] k (fun kq v3 v10 w' => ∃ (x3_1 : List (S40)) (x10_1 : Int), v10 = .int .i64 x10_1 ∧ Aside0 (token_Words.l0 kq a0 x3_1 t203 (t203.length : Int) x10_1 = some r) ∧ Aside0 (kq ≤ k) ∧ Aside0 (Kd.R k40 40 w' w.heap.size (fun _ => True) v3 x3_1) ∧ Aside0 (Kd.R k58 58 w' w.heap.size (fun _ => True) (.slice Ao4 t203.length co4) t203) ∧ Aside0 (Below w.heap.size w w'))
 case atStart => exact ⟨(([] : List (S40))), (0), rs_, H', ⟨Nat.le_refl _⟩, ⟨by first | exact Kd.R_nil _ _ _ _ _ | exact Kd.N_nil _ _ _ _ _ | exact Kd.V_nil _ _ _ _ _ | exact Kd.Q_nil _ _ _ _ _ | exact Kd.S_nil _ _ _ _ _⟩, ⟨kr_ HO205.out⟩, ⟨bb_ HB.out⟩⟩
 case round =>
  clear H'
  try clear c2
  try clear p2
  try clear c4
  obtain ⟨x3_1, x10_1, rfl, HA, HK1, HO_3, HO_8, HB⟩ := hrel
  cases gk with
  | zero => exact absurd HA.out (by simp [token_Words.l0])
  | succ k1 =>
   have H := HA.out
   clear HA
   simp only [token_Words.l0] at H
   by_cases c5 : x10_1 < (t203.length : Int)
   ·rw [if_pos c5] at H
    have c5b0 : decide (x10_1 < (t203.length : Int)) = true := decide_eq_true c5
    clear c5
    by_cases c6 : 0 ≤ x10_1
    ·rw [if_pos c6] at H
     have c6b0 : decide (0 ≤ x10_1) = true := decide_eq_true c6
     clear c6
     by_cases c7 : x10_1 < (t203.length : Int)
     ·rw [if_pos c7] at H
      have c7b0 : decide (x10_1 < (t203.length : Int)) = true := decide_eq_true c7
      clear c7
      by_cases c8 : 0 ≤ ((rd_T58 t203 x10_1).f0)
      ·rw [if_pos c8] at H
       have c8b0 := eq_true c8
       have c8b1 : decide (0 ≤ ((rd_T58 t203 x10_1).f0)) = true := decide_eq_true c8
       clear c8
       by_cases c9 : ((rd_T58 t203 x10_1).f0) ≤ ((rd_T58 t203 x10_1).f1)
       ·rw [if_pos c9] at H
        have c9b0 := eq_true c9
        have c9b1 : decide (((rd_T58 t203 x10_1).f0) ≤ ((rd_T58 t203 x10_1).f1)) = true := decide_eq_true c9
        clear c9
        by_cases c10 : ((rd_T58 t203 x10_1).f1) ≤ (a0.size : Int)
        ·rw [if_pos c10] at H
         have c10b0 := eq_true c10
         have c10b1 : decide (((rd_T58 t203 x10_1).f1) ≤ (a0.size : Int)) = true := decide_eq_true c10
         clear c10
         replace H := Option.bind_eq_some_iff.mp H
         obtain ⟨t208, A110, H⟩ := H
         replace H : (if x10_1 < 60 then (if (t208.size : Int) ≤ 20 then (if x3_1.length < 5864062014805 then (token_Words.l0 k1 a0 (x3_1 ++ [(⟨t208, x10_1⟩ : S40)]) t203 (t203.length : Int) (wrap64 (x10_1 + 1))) else (none)) else (token_Words.l0 k1 a0 x3_1 t203 (t203.length : Int) (wrap64 (x10_1 + 1)))) else (token_Words.l0 k1 a0 x3_1 t203 (t203.length : Int) (wrap64 (x10_1 + 1)))) = some r := H
         have A11 := Aside0.mk A110
         clear A110
         by_cases c12 : x10_1 < 60
         ·rw [if_pos c12] at H
          have c12b0 : decide (x10_1 < 60) = true := decide_eq_true c12
          clear c12
          by_cases c13 : (t208.size : Int) ≤ 20
          ·rw [if_pos c13] at H
           have c13b0 : decide ((t208.size : Int) ≤ 20) = true := decide_eq_true c13
           have c13b1 : decide (t208.size ≤ 20) = true := decide_eq_true (by omega)
           clear c13
           by_cases c14 : x3_1.length < 5864062014805
           ·rw [if_pos c14] at H
            have LMc14 := Aside0.mk c14
            clear c14
            obtain ⟨y209, hy209⟩ : ∃ y_ : List (S40), y_ = (x3_1 ++ [(⟨t208, x10_1⟩ : S40)]) := ⟨_, rfl⟩
            replace H : (token_Words.l0 k1 a0 y209 t203 (t203.length : Int) (wrap64 (x10_1 + 1))) = some r := by first | (rw [hy209]; with_reducible exact H) | (have H2_ := (Option.bind_some _ _).symm.trans H; rw [hy209]; with_reducible exact H2_) | (have H2_ := (Option.bind_some _ _).symm.trans H; with_reducible exact H2_) | with_reducible exact H | (rw [hy209]; exact H) | exact H
            have Ny209 := Aside0.mk hy209
            clear hy209
            have H' := Aside0.mk H
            clear H
            have p206 : 0 ≤ (x10_1 : Int) := of_decide_eq_true as_
            have q206 : x10_1 < (t203.length : Int) := of_decide_eq_true as_
            obtain ⟨ad206, e206, hx206_0, hx206_1⟩ := at_T58 (Kd.R_reads' HO_8.out).2.2 x10_1 p206 q206
            cases e206
            replace p206 := eq_true p206
            replace q206 := eq_true q206
            go_wp2_with (first | ((with_reducible refine gate_dst (N := 5) rfl ?_); (try (refine gate_guard (by rfl) ?_; dsimp only)); refine box_event ?hg (N := 5) ?hd (cs := #[.int .i64 0, .int .i64 0]) (t := 58) ?hr ?_; (case hd => rfl); (case hg => rfl); (case hr => first | (go_simp; done) | (go_simp; rfl)); intro gb207 hg w15 hbox hb; have n0_ := Aside0.mk (Kd.R_below (kr_ HO_3.out) hb); have n1_ := Aside0.mk (Kd.R_below (Kd.R_elderB (kr_ HO_8.out) gb207 (Nat.le_of_eq hg.symm)) hb); have n2_ := Aside0.mk (below_step (bb_ HB.out) hb); have n3_ := Aside0.mk (hbox); have n4_ := Aside0.mk ((by rw [hg]; exact (below_size (bb_ HB.out)) : w.heap.size ≤ gb207)); have n5_ := Aside0.mk ((by rw [hg]; exact (below_size (bb_ HB.out)) : w.heap.size ≤ gb207)); clear HO_3; clear HO_8; clear HB; have HO_3 := n0_; have HO_8 := n1_; have HB := n2_; have BK207 := n3_; have GW207 := n4_; have GE207 := n5_; clear n0_ n1_ n2_ n3_ n4_ n5_; clear hb hbox hg; have hcz16_0 : w15.cell? ⟨gb207, 0, none⟩ = some (.int .i64 0) := (blk_cell BK207.out 0).trans rfl; have hcz16_1 : w15.cell? ⟨gb207, 1, none⟩ = some (.int .i64 0) := (blk_cell BK207.out 1).trans rfl; have hfz16_0 := blk_frozen BK207.out 0; have hfz16_1 := blk_frozen BK207.out 1) | ((with_reducible refine gate_callee (f := 66) rfl ?_); refine goesL_ (some 21) rfl rfl Tryz.func66 (by kernel_rfl) rfl #[.string (a0.extract (((rd_T58 t203 x10_1).f0) : Int).toNat (((rd_T58 t203 x10_1).f1) : Int).toNat)] rfl ar_ ?_; (with_reducible refine (fold_Text.calls k1 (a0.extract (((rd_T58 t203 x10_1).f0) : Int).toNat (((rd_T58 t203 x10_1).f1) : Int).toNat) t208 _ (by first | exact hG | exact GL.drewN hG _ | exact GL.below hG (bb1_ HB.out GE207.out)) A11.out).mono ?_); rintro e w17 ⟨rfl, hb⟩; refine ⟨_, rfl, ?_⟩; have n0_ := Aside0.mk (Kd.R_below (by (with_reducible repeat (first | apply Kd.R_alloc | apply Kd.R_drewN | apply Kd.R_drew)); exact (Kd.R_mono (Kd.R_far (p := ⟨gb207, 1, none⟩) (Kd.R_far (p := ⟨gb207, 0, none⟩) (Kd.R_types HO_3.out BK207.out (by decide)) (fun _ hk => hk.2) (.int .i64 ((rd_T58 t203 x10_1).f0))) (fun _ hk => hk.2) (.int .i64 ((rd_T58 t203 x10_1).f1))) (fun _ h_ => h_.1))) hb); have n1_ := Aside0.mk (Kd.R_below (by (with_reducible repeat (first | apply Kd.R_alloc | apply Kd.R_drewN | apply Kd.R_drew)); exact (Kd.R_mono (Kd.R_far (p := ⟨gb207, 1, none⟩) (Kd.R_far (p := ⟨gb207, 0, none⟩) (Kd.R_mono HO_8.out (fun k_ hk => (⟨hk, hk.2⟩ : _ ∧ k_ ≠ gb207))) (fun _ hk => hk.2) (.int .i64 ((rd_T58 t203 x10_1).f0))) (fun _ hk => hk.2) (.int .i64 ((rd_T58 t203 x10_1).f1))) (fun _ h_ => h_.1))) hb); have n2_ := Aside0.mk (blk_below (g := gb207) (o := .cells #[.int .i64 ((rd_T58 t203 x10_1).f0), .int .i64 ((rd_T58 t203 x10_1).f1)] 58 (0, 0)) (by (with_reducible repeat (first | refine blk_drewN ?_ _ | refine blk_drew ?_ | refine blk_alloc ?_ _)); refine blk_put (cs := #[.int .i64 ((rd_T58 t203 x10_1).f0), .int .i64 0]) ?_ 1 _ rfl; (with_reducible repeat (first | refine blk_drewN ?_ _ | refine blk_drew ?_ | refine blk_alloc ?_ _)); refine blk_put (cs := #[.int .i64 0, .int .i64 0]) ?_ 0 _ rfl; (with_reducible repeat (first | refine blk_drewN ?_ _ | refine blk_drew ?_ | refine blk_alloc ?_ _)); exact BK207.out) hb); have n3_ := Aside0.mk (below_step (bb1_ HB.out GE207.out) hb); clear HO_3; clear HO_8; clear BK207; clear HB; have HO_3 := n0_; have HO_8 := n1_; have BK207 := n2_; have HB := n3_; clear n0_ n1_ n2_ n3_; (try clear hb); (try clear hb2); (try clear hk); (try clear hi)) | ((with_reducible refine gate_builtin (b := .append) (xs := #[.tmp 29, .tmp 33]) rfl ?_); (try (refine gate_guard (by rfl) ?_; dsimp only)); at_builtin; refine Kd.R_append k40 (w0 := w) w.heap.size rfl (.tmp 29) (.tmp 33) 22 40 (.agg #[(.string ⟨#[]⟩), (.int .i64 0)]) 24 rfl Tryz.underlying22 info40 rfl (by decide) (by omega) u3 x3_1 (⟨t208, x10_1⟩ : S40) [.string t208, .int .i64 x10_1] (fun _ => True) (fun _ => False) rfl rfl ?aP (fun _ hk => hk.elim) ?aF ?aO ?aB ?aS ?aL ?_; (case aP => exact k40_mkM _ _ _ (⟨t208, x10_1⟩ : S40)); (case aB => exact (bb1_ HB.out GE207.out)); (case aF => exact (fun _ _ => trivial)); (case aO => exact (kr_ HO_3.out)); (case aS => exact (below_size (bb1_ HB.out GE207.out))); (case aL => have := LMc14.out; omega); intro v210 w18 ho hb hg hat; rw [← Ny209.out] at ho; have n0_ := Aside0.mk (Kd.R_over' (kr_ HO_8.out) (Kd.R_typed (kr_ HO_3.out)) (by decide) hg); have n1_ := Aside0.mk (blk_grown (g := gb207) (o := .cells #[.int .i64 ((rd_T58 t203 x10_1).f0), .int .i64 ((rd_T58 t203 x10_1).f1)] 58 (0, 0)) (bk_ BK207.out) hg (Kd.R_ne HO_3.out BK207.out (by decide))); have n2_ := Aside0.mk (hb); have n3_ := Aside0.mk (ho); clear HO_8; clear BK207; clear HB; clear HO_3; have HO_8 := n0_; have BK207 := n1_; have HB := n2_; have HO211 := n3_; clear n0_ n1_ n2_ n3_; clear ho hb hg hat))
            go_roundg k1
            case measure => have := HK1.out; omega
            case rel => exact ⟨(y209), (wrap64 (x10_1 + 1)), rs_, H', ⟨by have := HK1.out; omega⟩, ⟨kr_ HO211.out⟩, ⟨by (with_reducible repeat (first | apply Kd.R_alloc | apply Kd.R_drewN | apply Kd.R_drew)); exact Kd.R_mono HO_8.out (fun _ hk => trivial)⟩, ⟨bb1_ HB.out GE207.out⟩⟩
           ·rw [if_neg c14] at H
            exact absurd H (by simp)
          ·rw [if_neg c13] at H
           have c13b0 : decide ((t208.size : Int) ≤ 20) = false := decide_eq_false c13
           have c13b1 : decide (t208.size ≤ 20) = false := decide_eq_false (by omega)
           clear c13
           have H' := Aside0.mk H
           clear H
           have p206 : 0 ≤ (x10_1 : Int) := of_decide_eq_true as_
           have q206 : x10_1 < (t203.length : Int) := of_decide_eq_true as_
           obtain ⟨ad206, e206, hx206_0, hx206_1⟩ := at_T58 (Kd.R_reads' HO_8.out).2.2 x10_1 p206 q206
           cases e206
           replace p206 := eq_true p206
           replace q206 := eq_true q206
           go_wp2_with (first | ((with_reducible refine gate_dst (N := 5) rfl ?_); (try (refine gate_guard (by rfl) ?_; dsimp only)); refine box_event ?hg (N := 5) ?hd (cs := #[.int .i64 0, .int .i64 0]) (t := 58) ?hr ?_; (case hd => rfl); (case hg => rfl); (case hr => first | (go_simp; done) | (go_simp; rfl)); intro gb207 hg w19 hbox hb; have n0_ := Aside0.mk (Kd.R_below (kr_ HO_3.out) hb); have n1_ := Aside0.mk (Kd.R_below (Kd.R_elderB (kr_ HO_8.out) gb207 (Nat.le_of_eq hg.symm)) hb); have n2_ := Aside0.mk (below_step (bb_ HB.out) hb); have n3_ := Aside0.mk (hbox); have n4_ := Aside0.mk ((by rw [hg]; exact (below_size (bb_ HB.out)) : w.heap.size ≤ gb207)); have n5_ := Aside0.mk ((by rw [hg]; exact (below_size (bb_ HB.out)) : w.heap.size ≤ gb207)); clear HO_3; clear HO_8; clear HB; have HO_3 := n0_; have HO_8 := n1_; have HB := n2_; have BK207 := n3_; have GW207 := n4_; have GE207 := n5_; clear n0_ n1_ n2_ n3_ n4_ n5_; clear hb hbox hg; have hcz20_0 : w19.cell? ⟨gb207, 0, none⟩ = some (.int .i64 0) := (blk_cell BK207.out 0).trans rfl; have hcz20_1 : w19.cell? ⟨gb207, 1, none⟩ = some (.int .i64 0) := (blk_cell BK207.out 1).trans rfl; have hfz20_0 := blk_frozen BK207.out 0; have hfz20_1 := blk_frozen BK207.out 1) | ((with_reducible refine gate_callee (f := 66) rfl ?_); refine goesL_ (some 21) rfl rfl Tryz.func66 (by kernel_rfl) rfl #[.string (a0.extract (((rd_T58 t203 x10_1).f0) : Int).toNat (((rd_T58 t203 x10_1).f1) : Int).toNat)] rfl ar_ ?_; (with_reducible refine (fold_Text.calls k1 (a0.extract (((rd_T58 t203 x10_1).f0) : Int).toNat (((rd_T58 t203 x10_1).f1) : Int).toNat) t208 _ (by first | exact hG | exact GL.drewN hG _ | exact GL.below hG (bb1_ HB.out GE207.out)) A11.out).mono ?_); rintro e w21 ⟨rfl, hb⟩; refine ⟨_, rfl, ?_⟩; have n0_ := Aside0.mk (Kd.R_below (by (with_reducible repeat (first | apply Kd.R_alloc | apply Kd.R_drewN | apply Kd.R_drew)); exact (Kd.R_mono (Kd.R_far (p := ⟨gb207, 1, none⟩) (Kd.R_far (p := ⟨gb207, 0, none⟩) (Kd.R_types HO_3.out BK207.out (by decide)) (fun _ hk => hk.2) (.int .i64 ((rd_T58 t203 x10_1).f0))) (fun _ hk => hk.2) (.int .i64 ((rd_T58 t203 x10_1).f1))) (fun _ h_ => h_.1))) hb); have n1_ := Aside0.mk (Kd.R_below (by (with_reducible repeat (first | apply Kd.R_alloc | apply Kd.R_drewN | apply Kd.R_drew)); exact (Kd.R_mono (Kd.R_far (p := ⟨gb207, 1, none⟩) (Kd.R_far (p := ⟨gb207, 0, none⟩) (Kd.R_mono HO_8.out (fun k_ hk => (⟨hk, hk.2⟩ : _ ∧ k_ ≠ gb207))) (fun _ hk => hk.2) (.int .i64 ((rd_T58 t203 x10_1).f0))) (fun _ hk => hk.2) (.int .i64 ((rd_T58 t203 x10_1).f1))) (fun _ h_ => h_.1))) hb); have n2_ := Aside0.mk (blk_below (g := gb207) (o := .cells #[.int .i64 ((rd_T58 t203 x10_1).f0), .int .i64 ((rd_T58 t203 x10_1).f1)] 58 (0, 0)) (by (with_reducible repeat (first | refine blk_drewN ?_ _ | refine blk_drew ?_ | refine blk_alloc ?_ _)); refine blk_put (cs := #[.int .i64 ((rd_T58 t203 x10_1).f0), .int .i64 0]) ?_ 1 _ rfl; (with_reducible repeat (first | refine blk_drewN ?_ _ | refine blk_drew ?_ | refine blk_alloc ?_ _)); refine blk_put (cs := #[.int .i64 0, .int .i64 0]) ?_ 0 _ rfl; (with_reducible repeat (first | refine blk_drewN ?_ _ | refine blk_drew ?_ | refine blk_alloc ?_ _)); exact BK207.out) hb); have n3_ := Aside0.mk (below_step (bb1_ HB.out GE207.out) hb); clear HO_3; clear HO_8; clear BK207; clear HB; have HO_3 := n0_; have HO_8 := n1_; have BK207 := n2_; have HB := n3_; clear n0_ n1_ n2_ n3_; (try clear hb); (try clear hb2); (try clear hk); (try clear hi)))
           go_roundg k1
           case measure => have := HK1.out; omega
           case rel => exact ⟨(x3_1), (wrap64 (x10_1 + 1)), rs_, H', ⟨by have := HK1.out; omega⟩, ⟨kr_ HO_3.out⟩, ⟨by (with_reducible repeat (first | apply Kd.R_alloc | apply Kd.R_drewN | apply Kd.R_drew)); exact Kd.R_mono HO_8.out (fun _ hk => trivial)⟩, ⟨bb1_ HB.out GE207.out⟩⟩
         ·rw [if_neg c12] at H
          have c12b0 : decide (x10_1 < 60) = false := decide_eq_false c12
          clear c12
          have H' := Aside0.mk H
          clear H
          have p206 : 0 ≤ (x10_1 : Int) := of_decide_eq_true as_
          have q206 : x10_1 < (t203.length : Int) := of_decide_eq_true as_
          obtain ⟨ad206, e206, hx206_0, hx206_1⟩ := at_T58 (Kd.R_reads' HO_8.out).2.2 x10_1 p206 q206
          cases e206
          replace p206 := eq_true p206
          replace q206 := eq_true q206
          go_wp2_with (first | ((with_reducible refine gate_dst (N := 5) rfl ?_); (try (refine gate_guard (by rfl) ?_; dsimp only)); refine box_event ?hg (N := 5) ?hd (cs := #[.int .i64 0, .int .i64 0]) (t := 58) ?hr ?_; (case hd => rfl); (case hg => rfl); (case hr => first | (go_simp; done) | (go_simp; rfl)); intro gb207 hg w22 hbox hb; have n0_ := Aside0.mk (Kd.R_below (kr_ HO_3.out) hb); have n1_ := Aside0.mk (Kd.R_below (Kd.R_elderB (kr_ HO_8.out) gb207 (Nat.le_of_eq hg.symm)) hb); have n2_ := Aside0.mk (below_step (bb_ HB.out) hb); have n3_ := Aside0.mk (hbox); have n4_ := Aside0.mk ((by rw [hg]; exact (below_size (bb_ HB.out)) : w.heap.size ≤ gb207)); have n5_ := Aside0.mk ((by rw [hg]; exact (below_size (bb_ HB.out)) : w.heap.size ≤ gb207)); clear HO_3; clear HO_8; clear HB; have HO_3 := n0_; have HO_8 := n1_; have HB := n2_; have BK207 := n3_; have GW207 := n4_; have GE207 := n5_; clear n0_ n1_ n2_ n3_ n4_ n5_; clear hb hbox hg; have hcz23_0 : w22.cell? ⟨gb207, 0, none⟩ = some (.int .i64 0) := (blk_cell BK207.out 0).trans rfl; have hcz23_1 : w22.cell? ⟨gb207, 1, none⟩ = some (.int .i64 0) := (blk_cell BK207.out 1).trans rfl; have hfz23_0 := blk_frozen BK207.out 0; have hfz23_1 := blk_frozen BK207.out 1) | ((with_reducible refine gate_callee (f := 66) rfl ?_); refine goesL_ (some 21) rfl rfl Tryz.func66 (by kernel_rfl) rfl #[.string (a0.extract (((rd_T58 t203 x10_1).f0) : Int).toNat (((rd_T58 t203 x10_1).f1) : Int).toNat)] rfl ar_ ?_; (with_reducible refine (fold_Text.calls k1 (a0.extract (((rd_T58 t203 x10_1).f0) : Int).toNat (((rd_T58 t203 x10_1).f1) : Int).toNat) t208 _ (by first | exact hG | exact GL.drewN hG _ | exact GL.below hG (bb1_ HB.out GE207.out)) A11.out).mono ?_); rintro e w24 ⟨rfl, hb⟩; refine ⟨_, rfl, ?_⟩; have n0_ := Aside0.mk (Kd.R_below (by (with_reducible repeat (first | apply Kd.R_alloc | apply Kd.R_drewN | apply Kd.R_drew)); exact (Kd.R_mono (Kd.R_far (p := ⟨gb207, 1, none⟩) (Kd.R_far (p := ⟨gb207, 0, none⟩) (Kd.R_types HO_3.out BK207.out (by decide)) (fun _ hk => hk.2) (.int .i64 ((rd_T58 t203 x10_1).f0))) (fun _ hk => hk.2) (.int .i64 ((rd_T58 t203 x10_1).f1))) (fun _ h_ => h_.1))) hb); have n1_ := Aside0.mk (Kd.R_below (by (with_reducible repeat (first | apply Kd.R_alloc | apply Kd.R_drewN | apply Kd.R_drew)); exact (Kd.R_mono (Kd.R_far (p := ⟨gb207, 1, none⟩) (Kd.R_far (p := ⟨gb207, 0, none⟩) (Kd.R_mono HO_8.out (fun k_ hk => (⟨hk, hk.2⟩ : _ ∧ k_ ≠ gb207))) (fun _ hk => hk.2) (.int .i64 ((rd_T58 t203 x10_1).f0))) (fun _ hk => hk.2) (.int .i64 ((rd_T58 t203 x10_1).f1))) (fun _ h_ => h_.1))) hb); have n2_ := Aside0.mk (blk_below (g := gb207) (o := .cells #[.int .i64 ((rd_T58 t203 x10_1).f0), .int .i64 ((rd_T58 t203 x10_1).f1)] 58 (0, 0)) (by (with_reducible repeat (first | refine blk_drewN ?_ _ | refine blk_drew ?_ | refine blk_alloc ?_ _)); refine blk_put (cs := #[.int .i64 ((rd_T58 t203 x10_1).f0), .int .i64 0]) ?_ 1 _ rfl; (with_reducible repeat (first | refine blk_drewN ?_ _ | refine blk_drew ?_ | refine blk_alloc ?_ _)); refine blk_put (cs := #[.int .i64 0, .int .i64 0]) ?_ 0 _ rfl; (with_reducible repeat (first | refine blk_drewN ?_ _ | refine blk_drew ?_ | refine blk_alloc ?_ _)); exact BK207.out) hb); have n3_ := Aside0.mk (below_step (bb1_ HB.out GE207.out) hb); clear HO_3; clear HO_8; clear BK207; clear HB; have HO_3 := n0_; have HO_8 := n1_; have BK207 := n2_; have HB := n3_; clear n0_ n1_ n2_ n3_; (try clear hb); (try clear hb2); (try clear hk); (try clear hi)))
          go_roundg k1
          case measure => have := HK1.out; omega
          case rel => exact ⟨(x3_1), (wrap64 (x10_1 + 1)), rs_, H', ⟨by have := HK1.out; omega⟩, ⟨kr_ HO_3.out⟩, ⟨by (with_reducible repeat (first | apply Kd.R_alloc | apply Kd.R_drewN | apply Kd.R_drew)); exact Kd.R_mono HO_8.out (fun _ hk => trivial)⟩, ⟨bb1_ HB.out GE207.out⟩⟩
        ·rw [if_neg c10] at H
         exact absurd H (by simp)
       ·rw [if_neg c9] at H
        exact absurd H (by simp)
      ·rw [if_neg c8] at H
       exact absurd H (by simp)
     ·rw [if_neg c7] at H
      exact absurd H (by simp)
    ·rw [if_neg c6] at H
     exact absurd H (by simp)
   ·rw [if_neg c5] at H
    have c5b0 : decide (x10_1 < (t203.length : Int)) = false := decide_eq_false c5
    clear c5
    obtain rfl := Option.some.inj H
    go_wp2
    go_ret
    exact ⟨_, by first | rfl | (simp [errW_none, errW_some] <;> rfl) | (simp [*, errW_none, errW_some] <;> rfl), by (with_reducible repeat (first | apply Kd.R_alloc | apply Kd.R_drewN | apply Kd.R_drew)); exact HO_3.out, bb_ HB.out⟩
def stem_Stop.f (a0 : ByteArray) : Option Bool := some (shortTab.any fun s => a0.toList == s.toList)
def shortAt (k : Nat) : ByteArray := shortTab.getD k ByteArray.empty
theorem short_cases (k : Nat) (hk : k < 16) : k = 0 ∨ k = 1 ∨ k = 2 ∨ k = 3 ∨ k = 4 ∨ k = 5 ∨ k = 6 ∨ k = 7 ∨ k = 8 ∨ k = 9 ∨ k = 10 ∨ k = 11 ∨ k = 12 ∨ k = 13 ∨ k = 14 ∨ k = 15 := by omega
theorem short_step (k : Nat) (hk : k < 16) : shortTab.drop k = shortAt k :: shortTab.drop (k + 1) := by
 rcases short_cases k hk with rfl | rfl | rfl | rfl | rfl | rfl | rfl | rfl | rfl | rfl | rfl | rfl | rfl | rfl | rfl | rfl <;> rfl
theorem short_index (k : Nat) (hk : k < 16) (w : World) : (Instr.index 97 (.agg shortCells) (.int .i64 (k : Int))).run Tryz.prog w = .ok (.string (shortAt k)) w := by
 rcases short_cases k hk with rfl | rfl | rfl | rfl | rfl | rfl | rfl | rfl | rfl | rfl | rfl | rfl | rfl | rfl | rfl | rfl <;> kernel_rfl
set_option maxHeartbeats 4000000 in
set_option maxRecDepth 100000 in
theorem stem_Stop.calls (a0 : ByteArray) (r : Bool) (w : World) (hG : GL w) (h : stem_Stop.f a0 = some r) :
  Calls Tryz.prog 47 #[.string a0] w fun e w' => e = .returned (.bool r) ∧ Drawn0 w w' := by
 obtain ⟨t, fr, hg⟩ := hG.short
 have hr0 := Option.some.inj h
 have hr := Aside0.mk hr0
 clear hr0 h hG
 go_enter Tryz.func47, Tryz.ntmps47
 go_wp2_with (refine wpList_load_row rfl 97 _ rfl 1 rfl _ _ _ _ hg Tryz.underlying97 rfl (by kernel_rfl) ?_)
 clear hg
 go_loopg [6] 16 (fun n v wr => ∃ k : Nat, v = .int .i64 k ∧ Aside0 (n + k = 16) ∧ Aside0 (((shortTab.drop k).any fun s => a0.toList == s.toList) = r) ∧ Drawn0 w wr)
 case atStart => exact ⟨0, rfl, ⟨rfl⟩, ⟨hr.out⟩, Drawn0.refl _⟩
 case round =>
  obtain ⟨k, rfl, HN, HR, ⟨m, rfl⟩⟩ := hrel
  by_cases hk : k < 16
  ·have hidx := short_index k hk
   have hst := short_step k hk
   have HR2 := HR.out
   rw [hst] at HR2
   clear HR hst hr
   have hk' : decide ((k : Int) < 16) = true := by simp; omega
   by_cases c : a0.toList = (shortAt k).toList
   ·have e : r = true := by rw [← HR2]; simp [c]
    subst e
    clear HR2
    have b : (a0.toList == (shortAt k).toList) = true := by simpa using c
    clear c
    go_wp2
    go_ret
    exact ⟨rfl, by repeat (first | exact Drawn0.refl _ | apply Drawn0.step)⟩
   ·have b : (a0.toList == (shortAt k).toList) = false := by simpa using c
    have HR := Aside0.mk (show ((shortTab.drop (k + 1)).any fun s => a0.toList == s.toList) = r by rw [← HR2]; simp [List.any_cons, b])
    clear HR2 c
    go_wp2
    go_roundg (gk - 1)
    case measure => have := HN.out; omega
    case rel => exact ⟨k + 1, by go_num, ⟨by have := HN.out; omega⟩, HR, by repeat (first | exact Drawn0.refl _ | apply Drawn0.step)⟩
  ·have e : k = 16 := by have := HN.out; omega
   have HR2 := HR.out
   rw [e] at HR2
   have e2 : r = false := by rw [← HR2]; rfl
   subst e2
   clear hr HR HR2
   have hk' : decide ((k : Int) < 16) = false := by simp; omega
   clear hk e
   go_wp2
   go_ret
   exact ⟨rfl, by repeat (first | exact Drawn0.refl _ | apply Drawn0.step)⟩
def plainGo : List Int → Bool
 | [] => true
 | c :: t => if c < 97 ∨ c > 122 then false else plainGo t
def stem_plain.f (a0 : ByteArray) : Option Bool := if a0.size ≤ 140737488351232 then some (plainGo (bytesOf a0) && decide (a0.size ≥ 4)) else none
set_option maxHeartbeats 4000000 in
set_option maxRecDepth 100000 in
theorem stem_plain.calls (a0 : ByteArray) (r : Bool) (w : World) (h : stem_plain.f a0 = some r) :
  Calls Tryz.prog 67 #[.string a0] w fun e w' => e = .returned (.bool r) ∧ Below w.heap.size w w' := by
 unfold stem_plain.f at h
 split at h
 ·rename_i hs
  have hr0 := Option.some.inj h
  have hr := Aside0.mk hr0
  have HSZ := Aside0.mk (show a0.size ≤ 9223372036854775807 by omega)
  clear hr0 h
  go_enter Tryz.func67, Tryz.ntmps67
  go_wp2_with (refine wpList_bytes rfl 9 53 5 _ rfl Tryz.underlying9 Tryz.underlying53 Tryz.underlying5 a0 rfl HSZ.out ?_; intro W1 A1 c1 hb0 hrd0 hc0)
  have hb := Aside0.mk hb0
  have hrd := Aside0.mk hrd0
  clear hb0 hrd0 hc0
  go_loopg [8] a0.size (fun n v wr => ∃ k : Nat, v = .int .i64 k ∧ Aside0 (n + k = a0.size) ∧ Aside0 ((plainGo ((bytesOf a0).drop k) && decide (a0.size ≥ 4)) = r) ∧ Drawn0 W1 wr)
  case atStart => exact ⟨0, rfl, ⟨rfl⟩, ⟨hr.out⟩, Drawn0.refl _⟩
  case round =>
   obtain ⟨k, rfl, HN, HR, ⟨m, rfl⟩⟩ := hrel
   have HR2 := HR.out
   clear HR hr
   by_cases hk : k < a0.size
   ·obtain ⟨ad, e, hc⟩ := bytes_at hrd.out k hk
    cases e
    rw [plain_step a0 k hk] at HR2
    have hk' : decide (k < a0.size) = true := by simpa using hk
    by_cases c1 : rd (bytesOf a0) (k : Int) < 97
    ·have e : r = false := by rw [← HR2]; simp [plainGo, c1]
     subst e
     clear HR2
     have b1 : decide (rd (bytesOf a0) (k : Int) < 97) = true := by simpa using c1
     go_wp2
     go_ret
     exact ⟨rfl, by repeat (first | exact hb.out | apply pw_below_drewN)⟩
    ·have b1 : decide (rd (bytesOf a0) (k : Int) < 97) = false := by simpa using c1
     by_cases c2 : 122 < rd (bytesOf a0) (k : Int)
     ·have e : r = false := by rw [← HR2]; simp [plainGo, c2]
      subst e
      clear HR2
      have b2 : decide (122 < rd (bytesOf a0) (k : Int)) = true := by simpa using c2
      go_wp2
      go_ret
      exact ⟨rfl, by repeat (first | exact hb.out | apply pw_below_drewN)⟩
     ·have b2 : decide (122 < rd (bytesOf a0) (k : Int)) = false := by simpa using c2
      have HR := Aside0.mk (show (plainGo ((bytesOf a0).drop (k + 1)) && decide (a0.size ≥ 4)) = r by rw [← HR2]; simp [plainGo, c1, c2])
      clear HR2
      go_wp2
      go_roundg (gk - 1)
      case measure => have := HN.out; omega
      case rel => exact ⟨k + 1, by go_num, ⟨by have := HN.out; omega⟩, HR, by repeat (first | exact Drawn0.refl _ | apply Drawn0.step)⟩
   ·have e : k = a0.size := by have := HN.out; omega
    rw [e, List.drop_eq_nil_of_le (by rw [bytesOf_length]; exact Nat.le_refl _)] at HR2
    have e2 : decide (a0.size ≥ 4) = r := by rw [← HR2]; rfl
    have HE := Aside0.mk e2
    clear HR2 e2
    have hk' : decide (k < a0.size) = false := by simpa using hk
    clear hk e
    go_wp2
    go_ret
    exact ⟨ret_bool (by rw [← HE.out, decide_eq_decide]; omega), by repeat (first | exact hb.out | apply pw_below_drewN)⟩
 ·cases h
def stringslite_HasSuffix.f (a0 : ByteArray) (a1 : ByteArray) : Option (Bool) := if (a0.size : Int) ≥ (a1.size : Int) then (if 0 ≤ (wrap64 ((a0.size : Int) - (a1.size : Int))) then (if (wrap64 ((a0.size : Int) - (a1.size : Int))) ≤ (a0.size : Int) then (some ((a0.extract ((wrap64 ((a0.size : Int) - (a1.size : Int))) : Int).toNat a0.size).toList == a1.toList)) else (none)) else (none)) else (some false)
set_option maxHeartbeats 8000000 in
set_option maxRecDepth 100000 in
theorem stringslite_HasSuffix.calls (a0 : ByteArray) (a1 : ByteArray) (r : Bool) (w : World) (h : stringslite_HasSuffix.f a0 a1 = some r) :
  Calls Tryz.prog 101 #[.string a0, .string a1] w fun e w' => e = .returned (.bool r) ∧ Drawn0 w w' := by
 have H : (if (a0.size : Int) ≥ (a1.size : Int) then (if 0 ≤ (wrap64 ((a0.size : Int) - (a1.size : Int))) then (if (wrap64 ((a0.size : Int) - (a1.size : Int))) ≤ (a0.size : Int) then (some ((a0.extract ((wrap64 ((a0.size : Int) - (a1.size : Int))) : Int).toNat a0.size).toList == a1.toList)) else (none)) else (none)) else (some false)) = some r := h
 clear h
 by_cases c3 : (a0.size : Int) ≥ (a1.size : Int)
 ·rw [if_pos c3] at H
  have c3b0 : decide ((a1.size : Int) ≤ (a0.size : Int)) = true := decide_eq_true c3
  have c3b1 : decide (a1.size ≤ a0.size) = true := decide_eq_true (Int.ofNat_le.mp c3)
  clear c3
  obtain ⟨ji4, hji4⟩ : ∃ j_ : Int, (wrap64 ((a0.size : Int) - (a1.size : Int))) = j_ := ⟨_, rfl⟩
  replace H : (if 0 ≤ (ji4) then (if (ji4) ≤ (a0.size : Int) then (some ((a0.extract ((ji4) : Int).toNat a0.size).toList == a1.toList)) else (none)) else (none)) = some r := by first | (rw [hji4] at H; exact H) | (simp only [hji4] at H ⊢; exact H)
  have hji4w : (IntKind.i64.wrap ((a0.size : Int) - (a1.size : Int))) = ji4 := (i64_w _).trans hji4
  by_cases c5 : 0 ≤ (ji4)
  ·rw [if_pos c5] at H
   have c5b0 := eq_true c5
   have c5b1 : decide (0 ≤ (ji4)) = true := decide_eq_true c5
   clear c5
   by_cases c6 : (ji4) ≤ (a0.size : Int)
   ·rw [if_pos c6] at H
    have c6b0 := eq_true c6
    have c6b1 : decide ((ji4) ≤ (a0.size : Int)) = true := decide_eq_true c6
    clear c6
    obtain rfl := Option.some.inj H
    go_enter Tryz.func101, Tryz.ntmps101
    go_wp2
    go_ret
    exact ⟨by first | rfl | (simp; done) | (simp only [← hji4] <;> (first | rfl | simp)) | (simp [*]; done), by repeat (first | exact Drawn0.refl _ | apply Drawn0.step)⟩
   ·rw [if_neg c6] at H
    exact absurd H (by simp)
  ·rw [if_neg c5] at H
   exact absurd H (by simp)
 ·rw [if_neg c3] at H
  have c3b0 : decide ((a1.size : Int) ≤ (a0.size : Int)) = false := decide_eq_false c3
  have c3b1 : decide (a1.size ≤ a0.size) = false := decide_eq_false (fun h => c3 (Int.ofNat_le.mpr h))
  clear c3
  obtain rfl := Option.some.inj H
  go_enter Tryz.func101, Tryz.ntmps101
  go_wp2
  go_ret
  exact ⟨by first | rfl | (simp; done) | (simp [*]; done), by repeat (first | exact Drawn0.refl _ | apply Drawn0.step)⟩
def strings_HasSuffix.f (a0 : ByteArray) (a1 : ByteArray) : Option (Bool) := (stringslite_HasSuffix.f a0 a1).bind fun t212 => (some t212)
set_option maxHeartbeats 8000000 in
set_option maxRecDepth 100000 in
theorem strings_HasSuffix.calls (a0 : ByteArray) (a1 : ByteArray) (r : Bool) (w : World) (h : strings_HasSuffix.f a0 a1 = some r) :
  Calls Tryz.prog 89 #[.string a0, .string a1] w fun e w' => e = .returned (.bool r) ∧ Drawn0 w w' := by
 have H : ((stringslite_HasSuffix.f a0 a1).bind fun t212 => (some t212)) = some r := h
 clear h
 replace H := Option.bind_eq_some_iff.mp H
 obtain ⟨t212, A30, H⟩ := H
 replace H : (some t212) = some r := H
 have A3 := Aside0.mk A30
 clear A30
 obtain rfl := Option.some.inj H
 go_enter Tryz.func89, Tryz.ntmps89
 go_wp2_with (first | ((with_reducible refine gate_callee (f := 101) rfl ?_); refine goesL_ (some 7) rfl rfl Tryz.func101 (by kernel_rfl) rfl #[.string a0, .string a1] rfl ar_ ?_; (with_reducible refine (stringslite_HasSuffix.calls a0 a1 t212 _ A3.out).mono ?_); rintro e w' ⟨rfl, ⟨nd, rfl⟩⟩; refine ⟨_, rfl, ?_⟩))
 go_ret
 exact ⟨by first | rfl | (simp; done) | (simp [*]; done), by repeat (first | exact Drawn0.refl _ | apply Drawn0.step)⟩
def stringslite_TrimSuffix.f (a0 : ByteArray) (a1 : ByteArray) : Option (ByteArray) := (stringslite_HasSuffix.f a0 a1).bind fun t213 => (if t213 = true then (if 0 ≤ (wrap64 ((a0.size : Int) - (a1.size : Int))) then (if (wrap64 ((a0.size : Int) - (a1.size : Int))) ≤ (a0.size : Int) then (some (a0.extract 0 ((wrap64 ((a0.size : Int) - (a1.size : Int))) : Int).toNat)) else (none)) else (none)) else (some a0))
set_option maxHeartbeats 8000000 in
set_option maxRecDepth 100000 in
theorem stringslite_TrimSuffix.calls (a0 : ByteArray) (a1 : ByteArray) (r : ByteArray) (w : World) (h : stringslite_TrimSuffix.f a0 a1 = some r) :
  Calls Tryz.prog 102 #[.string a0, .string a1] w fun e w' => e = .returned (.string r) ∧ Drawn0 w w' := by
 have H : ((stringslite_HasSuffix.f a0 a1).bind fun t213 => (if t213 = true then (if 0 ≤ (wrap64 ((a0.size : Int) - (a1.size : Int))) then (if (wrap64 ((a0.size : Int) - (a1.size : Int))) ≤ (a0.size : Int) then (some (a0.extract 0 ((wrap64 ((a0.size : Int) - (a1.size : Int))) : Int).toNat)) else (none)) else (none)) else (some a0))) = some r := h
 clear h
 replace H := Option.bind_eq_some_iff.mp H
 obtain ⟨t213, A30, H⟩ := H
 replace H : (if t213 = true then (if 0 ≤ (wrap64 ((a0.size : Int) - (a1.size : Int))) then (if (wrap64 ((a0.size : Int) - (a1.size : Int))) ≤ (a0.size : Int) then (some (a0.extract 0 ((wrap64 ((a0.size : Int) - (a1.size : Int))) : Int).toNat)) else (none)) else (none)) else (some a0)) = some r := H
 have A3 := Aside0.mk A30
 clear A30
 by_cases c4 : t213 = true
 ·subst c4
  have H1 : (if 0 ≤ (wrap64 ((a0.size : Int) - (a1.size : Int))) then (if (wrap64 ((a0.size : Int) - (a1.size : Int))) ≤ (a0.size : Int) then (some (a0.extract 0 ((wrap64 ((a0.size : Int) - (a1.size : Int))) : Int).toNat)) else (none)) else (none)) = some r := by rw [if_pos rfl] at H; exact H
  clear H
  have H := H1
  clear H1
  obtain ⟨ji5, hji5⟩ : ∃ j_ : Int, (wrap64 ((a0.size : Int) - (a1.size : Int))) = j_ := ⟨_, rfl⟩
  replace H : (if 0 ≤ (ji5) then (if (ji5) ≤ (a0.size : Int) then (some (a0.extract 0 ((ji5) : Int).toNat)) else (none)) else (none)) = some r := by first | (rw [hji5] at H; exact H) | (simp only [hji5] at H ⊢; exact H)
  (try rw [hji5] at A3)
  have hji5w : (IntKind.i64.wrap ((a0.size : Int) - (a1.size : Int))) = ji5 := (i64_w _).trans hji5
  by_cases c6 : 0 ≤ (ji5)
  ·rw [if_pos c6] at H
   have c6b0 := eq_true c6
   have c6b1 : decide (0 ≤ (ji5)) = true := decide_eq_true c6
   clear c6
   by_cases c7 : (ji5) ≤ (a0.size : Int)
   ·rw [if_pos c7] at H
    have c7b0 := eq_true c7
    have c7b1 : decide ((ji5) ≤ (a0.size : Int)) = true := decide_eq_true c7
    clear c7
    obtain rfl := Option.some.inj H
    go_enter Tryz.func102, Tryz.ntmps102
    go_wp2_with (first | ((with_reducible refine gate_callee (f := 101) rfl ?_); refine goesL_ (some 7) rfl rfl Tryz.func101 (by kernel_rfl) rfl #[.string a0, .string a1] rfl ar_ ?_; (with_reducible refine (stringslite_HasSuffix.calls a0 a1 true _ A3.out).mono ?_); rintro e w' ⟨rfl, ⟨nd, rfl⟩⟩; refine ⟨_, rfl, ?_⟩))
    go_ret
    exact ⟨by first | rfl | (simp; done) | (simp only [← hji5] <;> (first | rfl | simp)) | (simp [*]; done), by repeat (first | exact Drawn0.refl _ | apply Drawn0.step)⟩
   ·rw [if_neg c7] at H
    exact absurd H (by simp)
  ·rw [if_neg c6] at H
   exact absurd H (by simp)
 ·replace c4 := Bool.eq_false_iff.mpr c4
  subst c4
  have H1 : (some a0) = some r := by rw [if_neg (show ¬ (false = true) by decide)] at H; exact H
  clear H
  have H := H1
  clear H1
  obtain rfl := Option.some.inj H
  go_enter Tryz.func102, Tryz.ntmps102
  go_wp2_with (first | ((with_reducible refine gate_callee (f := 101) rfl ?_); refine goesL_ (some 7) rfl rfl Tryz.func101 (by kernel_rfl) rfl #[.string a0, .string a1] rfl ar_ ?_; (with_reducible refine (stringslite_HasSuffix.calls a0 a1 false _ A3.out).mono ?_); rintro e w' ⟨rfl, ⟨nd, rfl⟩⟩; refine ⟨_, rfl, ?_⟩))
  go_ret
  exact ⟨by first | rfl | (simp; done) | (simp [*]; done), by repeat (first | exact Drawn0.refl _ | apply Drawn0.step)⟩
def strings_TrimSuffix.f (a0 : ByteArray) (a1 : ByteArray) : Option (ByteArray) := (stringslite_TrimSuffix.f a0 a1).bind fun t214 => (some t214)
set_option maxHeartbeats 8000000 in
set_option maxRecDepth 100000 in
theorem strings_TrimSuffix.calls (a0 : ByteArray) (a1 : ByteArray) (r : ByteArray) (w : World) (h : strings_TrimSuffix.f a0 a1 = some r) :
  Calls Tryz.prog 90 #[.string a0, .string a1] w fun e w' => e = .returned (.string r) ∧ Drawn0 w w' := by
 have H : ((stringslite_TrimSuffix.f a0 a1).bind fun t214 => (some t214)) = some r := h
 clear h
 replace H := Option.bind_eq_some_iff.mp H
 obtain ⟨t214, A30, H⟩ := H
 replace H : (some t214) = some r := H
 have A3 := Aside0.mk A30
 clear A30
 obtain rfl := Option.some.inj H
 go_enter Tryz.func90, Tryz.ntmps90
 go_wp2_with (first | ((with_reducible refine gate_callee (f := 102) rfl ?_); refine goesL_ (some 7) rfl rfl Tryz.func102 (by kernel_rfl) rfl #[.string a0, .string a1] rfl ar_ ?_; (with_reducible refine (stringslite_TrimSuffix.calls a0 a1 t214 _ A3.out).mono ?_); rintro e w' ⟨rfl, ⟨nd, rfl⟩⟩; refine ⟨_, rfl, ?_⟩))
 go_ret
 exact ⟨by first | rfl | (simp; done) | (simp [*]; done), by repeat (first | exact Drawn0.refl _ | apply Drawn0.step)⟩
end Go.Proofs.YtcgkmomhjincgaaGreatDoor.LibX
