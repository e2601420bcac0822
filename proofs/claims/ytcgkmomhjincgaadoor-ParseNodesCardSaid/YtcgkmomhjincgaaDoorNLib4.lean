import Derived.Test.YtcgkmomhjincgaaDoorNLib0
import Derived.Test.YtcgkmomhjincgaaDoorNLib3
namespace Go.Proofs.YtcgkmomhjincgaaDoor.Lib
open Go.RowKit Go.Proofs.YtcgkmomhjincgaaDoorW.PrintWords Go.Proofs.YtcgkmomhjincgaaDoorW.PrintLast Go.Proofs.YtcgkmomhjincgaaDoorW.PrintMore
attribute [local go_sem] max2_int min2_int max_two min_two max_three min_three max_four min_four   -- for this text's walks alone
set_option linter.unusedVariables false
set_option linter.unusedSimpArgs false
def putL (a1 : Int) : List Int :=
  if a1 < 128 then [a1 % 256]
  else if a1 < 2048 then [(Go.bits .or .i64 192 (a1 / 64)) % 256, (Go.bits .or .i64 128 (Go.bits .and .i64 a1 63)) % 256]
  else if a1 < 65536 then [(Go.bits .or .i64 224 (a1 / 4096)) % 256, (Go.bits .or .i64 128 (Go.bits .and .i64 (a1 / 64) 63)) % 256, (Go.bits .or .i64 128 (Go.bits .and .i64 a1 63)) % 256]
  else [(Go.bits .or .i64 240 (a1 / 262144)) % 256, (Go.bits .or .i64 128 (Go.bits .and .i64 (a1 / 4096) 63)) % 256, (Go.bits .or .i64 128 (Go.bits .and .i64 (a1 / 64) 63)) % 256, (Go.bits .or .i64 128 (Go.bits .and .i64 a1 63)) % 256]
def utf_Put.f (l0 : List Int) (a1 : Int) : Option (List Int) :=
  if l0.length ≤ 140737488351232 then (utf_Sign.f a1).bind fun b => some (l0 ++ if b = true then putL a1 else []) else none
theorem new_nums (W : World) (e : TypeId) (k : IntKind) (ys : List Int) : ∀ j u, (nums k ys)[j]? = some u → (W.alloc (.cells (nums k ys).toArray e)).cell? ((⟨W.heap.size, 0, none⟩ : Addr).add j) = some u := by
  intro j u hu
  rw [add_plain]
  refine (cell_of_row _ W.heap.size j _ e (0, 0) (heap_alloc_new W _)).trans ?_
  simpa using hu
theorem put_info : (Tryd.prog.info? 5).map (fun i => (i.zero, i.size, i.bytes)) = some (some (.int .u8 0), 1, 1) := by kernel_rfl
theorem sign_range {a1 : Int} {b : Bool} (h : utf_Sign.f a1 = some b) : b = true → 0 ≤ a1 ∧ a1 ≤ 1114111 := by
  unfold utf_Sign.f at h
  rintro rfl
  by_cases c1 : a1 ≥ 0
  · by_cases c2 : a1 ≤ 1114111
    · exact ⟨c1, c2⟩
    · rw [if_pos c1, if_neg c2] at h; cases h
  · rw [if_neg c1] at h; cases h
theorem wpList_put {P : Program} {ops : Array Oper} {rest : List Oper} {o : Oper} {a : Act} {W w : World} {Q : Exit → Act → World → Prop} (hgd : o.guard = none) (s x : Operand) (t e : TypeId)
    (ho : o.op = .call { callee := .builtin .append, args := #[s, x], argTypes := #[t, t] }) (ht : P.underlying t = some (.slice e)) (hinfo : (P.info? e).map (fun i => (i.zero, i.size, i.bytes)) = some (some (.int .u8 0), 1, 1))
    (A0 : Option Addr) (l0 : List Int) (HR : ReadsInt w .u8 A0 l0.length l0) (HB : Below w.heap.size w W) (hs : a.eval s = .slice A0 l0.length l0.length)
    (g c : Nat) (ys : List Int) (hx : a.eval x = .slice (some ⟨g, 0, none⟩) ys.length c) (hcells : ∀ j u, (nums .u8 ys)[j]? = some u → W.cell? ((⟨g, 0, none⟩ : Addr).add j) = some u) (hpos : 0 < ys.length) (hl : l0.length + ys.length ≤ 140737488355328)
    (h : ∀ v1 w1, Kd.R (Kd.int .u8) e w1 w.heap.size (fun _ => True) v1 (l0 ++ ys) → Below w.heap.size w w1 → wpList P ops Q rest (a.put o.dst v1) w1) : wpList P ops Q (o :: rest) a W := by
  obtain ⟨i0, hi, hzz⟩ := Option.map_eq_some_iff.1 hinfo
  simp only [Prod.mk.injEq] at hzz
  obtain ⟨hz0, hz1, hz2⟩ := hzz
  refine wpList_append_grows W hgd s x t ho e i0 (.int .u8 0) 1 1 ht hi hz0 hz1 hz2 rfl (by decide) A0 l0.length l0.length (nums .u8 l0) hs ?_ (by rw [nums_length, Nat.mul_one]) ?_ ⟨g, 0, none⟩ ys.length c (nums .u8 ys) hx (by rw [nums_length, Nat.mul_one]) hcells ?_ (by omega) (by simp only [maxLen]; omega) (by omega) ?_
  · rintro rfl
    rcases Nat.eq_zero_or_pos l0.length with h0 | h0
    · exact ⟨h0, h0⟩
    · obtain ⟨ad, h1, _⟩ := HR.2.2 h0
      cases h1
  · rintro b rfl j u hu
    have hj : j < l0.length := by
      rcases Nat.lt_or_ge j l0.length with h0 | h0
      · exact h0
      · rw [List.getElem?_eq_none (by rw [nums_length]; exact h0)] at hu; cases hu
    obtain ⟨ad, h1, h2⟩ := HR.2.2 (by omega)
    cases h1
    have h3 := h2 j hj
    rw [pw_cell_below HB h3]
    simp [nums, List.getElem?_eq_getElem hj] at hu
    rw [← hu]
    simp [List.getD_eq_getElem?_getD, List.getElem?_eq_getElem hj]
  · intro u hu
    obtain ⟨z, _, rfl⟩ := List.mem_map.1 hu
    rfl
  · intro v' w' hown hg
    have hown2 : w'.ownsRow w.heap.size e 1 v' (l0 ++ ys).length (encs (Value.int .u8) (l0 ++ ys)) := by
      have h1 := own_weaken hown HB.size
      rw [← nums_append] at h1
      rw [List.length_append]
      exact h1
    exact h v' w' (Kd.R_of_own hown2 (fun _ _ => trivial)) (HB.grown hg HB.size (fun k hk => by cases hk))
set_option maxHeartbeats 4000000 in
set_option maxRecDepth 100000 in
theorem utf_Put.calls (A0 : Option Addr) (c0 : Nat) (l0 : List Int) (a1 : Int) (r : List Int) (w : World) (hr0 : Kd.C (Kd.int .u8) w A0 l0.length l0) (hc0 : l0.length ≤ c0) (h : utf_Put.f l0 a1 = some r) :
    Calls Tryd.prog 150 #[.slice A0 l0.length c0, .int .i64 a1] w fun e w' => ∃ v1_ : Value, e = .returned v1_ ∧ Kd.R (Kd.int .u8) 5 w' w.heap.size (fun _ => True) v1_ r ∧ Below w.heap.size w w' := by
  unfold utf_Put.f at h
  by_cases hl : l0.length ≤ 140737488351232
  · rw [if_pos hl] at h
    obtain ⟨b, hb, h⟩ := Option.bind_eq_some_iff.1 h
    have HL4 := Aside0.mk (show l0.length + 4 ≤ 140737488355328 by omega)
    have HL5 := Aside0.mk (show (([] : List Int).length + l0.length) * 1 ≤ 140737488355328 by simp; omega)
    have HC := Aside0.mk hr0
    have HRD := Aside0.mk (Kd.reads_of_C (d := (0 : Int)) hr0)
    have hsg := sign_range hb
    have HSG := Aside0.mk hb
    clear hr0 hb
    cases b with
    | true =>
      obtain ⟨hn0, hn1⟩ := hsg rfl
      clear hsg
      have HE := Aside0.mk (show l0 ++ putL a1 = r from Option.some.inj h)
      clear h
      by_cases c1 : a1 < 128
      · have HP := Aside0.mk (show putL a1 = [a1 % 256] by simp [putL, c1])
        have b1 : decide (a1 < 128) = true := by simpa using c1
        clear c1
        go_enter Tryd.func150, Tryd.ntmps150
        go_wp2_with (first | (go_at_call 84; refine (utf_Sign.calls _ true _ HSG.out).mono ?_; rintro e w' ⟨rfl, ⟨nd, rfl⟩⟩) | (at_builtin; refine wpList_put (w := w) rfl (.tmp 21) (.tmp 24) 70 5 rfl Tryd.underlying70 put_info A0 l0 HRD.out ?hb rfl _ _ [a1 % 256] rfl ?hc ?hp ?hl ?_; (case hb => exact below_alloc (pw_below_drewN (Below.refl w.heap.size w) _) _); (case hc => exact new_nums _ _ .u8 _); (case hp => exact Nat.succ_pos _); (case hl => exact Nat.le_trans (Nat.add_le_add_left (by simp) _) HL4.out); intro v1 w1 hR hb1))
        go_ret
        exact ⟨_, rfl, by rw [← HE.out, HP.out]; exact hR, hb1⟩
      · by_cases c2 : a1 < 2048
        · have HP := Aside0.mk (show putL a1 = [(Go.bits .or .i64 192 (a1 / 64)) % 256, (Go.bits .or .i64 128 (Go.bits .and .i64 a1 63)) % 256] by simp [putL, c1, c2])
          have b1 : decide (a1 < 128) = false := by simpa using c1
          have b2 : decide (a1 < 2048) = true := by simpa using c2
          clear c1 c2
          go_enter Tryd.func150, Tryd.ntmps150
          go_wp2_with (first | (go_at_call 84; refine (utf_Sign.calls _ true _ HSG.out).mono ?_; rintro e w' ⟨rfl, ⟨nd, rfl⟩⟩) | (at_builtin; refine wpList_put (w := w) rfl (.tmp 29) (.tmp 38) 70 5 rfl Tryd.underlying70 put_info A0 l0 HRD.out ?hb rfl _ _ [(Go.bits .or .i64 192 (a1 / 64)) % 256, (Go.bits .or .i64 128 (Go.bits .and .i64 a1 63)) % 256] rfl ?hc ?hp ?hl ?_; (case hb => exact below_alloc (pw_below_drewN (Below.refl w.heap.size w) _) _); (case hc => exact new_nums _ _ .u8 _); (case hp => exact Nat.succ_pos _); (case hl => exact Nat.le_trans (Nat.add_le_add_left (by simp) _) HL4.out); intro v1 w1 hR hb1))
          go_ret
          exact ⟨_, rfl, by rw [← HE.out, HP.out]; exact hR, hb1⟩
        · by_cases c3 : a1 < 65536
          · have HP := Aside0.mk (show putL a1 = [(Go.bits .or .i64 224 (a1 / 4096)) % 256, (Go.bits .or .i64 128 (Go.bits .and .i64 (a1 / 64) 63)) % 256, (Go.bits .or .i64 128 (Go.bits .and .i64 a1 63)) % 256] by simp [putL, c1, c2, c3])
            have b1 : decide (a1 < 128) = false := by simpa using c1
            have b2 : decide (a1 < 2048) = false := by simpa using c2
            have b3 : decide (a1 < 65536) = true := by simpa using c3
            clear c1 c2 c3
            go_enter Tryd.func150, Tryd.ntmps150
            go_wp2_with (first | (go_at_call 84; refine (utf_Sign.calls _ true _ HSG.out).mono ?_; rintro e w' ⟨rfl, ⟨nd, rfl⟩⟩) | (at_builtin; refine wpList_put (w := w) rfl (.tmp 43) (.tmp 57) 70 5 rfl Tryd.underlying70 put_info A0 l0 HRD.out ?hb rfl _ _ [(Go.bits .or .i64 224 (a1 / 4096)) % 256, (Go.bits .or .i64 128 (Go.bits .and .i64 (a1 / 64) 63)) % 256, (Go.bits .or .i64 128 (Go.bits .and .i64 a1 63)) % 256] rfl ?hc ?hp ?hl ?_; (case hb => exact below_alloc (pw_below_drewN (Below.refl w.heap.size w) _) _); (case hc => exact new_nums _ _ .u8 _); (case hp => exact Nat.succ_pos _); (case hl => exact Nat.le_trans (Nat.add_le_add_left (by simp) _) HL4.out); intro v1 w1 hR hb1))
            go_ret
            exact ⟨_, rfl, by rw [← HE.out, HP.out]; exact hR, hb1⟩
          · have HP := Aside0.mk (show putL a1 = [(Go.bits .or .i64 240 (a1 / 262144)) % 256, (Go.bits .or .i64 128 (Go.bits .and .i64 (a1 / 4096) 63)) % 256, (Go.bits .or .i64 128 (Go.bits .and .i64 (a1 / 64) 63)) % 256, (Go.bits .or .i64 128 (Go.bits .and .i64 a1 63)) % 256] by simp [putL, c1, c2, c3])
            have b1 : decide (a1 < 128) = false := by simpa using c1
            have b2 : decide (a1 < 2048) = false := by simpa using c2
            have b3 : decide (a1 < 65536) = false := by simpa using c3
            clear c1 c2 c3
            go_enter Tryd.func150, Tryd.ntmps150
            go_wp2_with (first | (go_at_call 84; refine (utf_Sign.calls _ true _ HSG.out).mono ?_; rintro e w' ⟨rfl, ⟨nd, rfl⟩⟩) | (at_builtin; refine wpList_put (w := w) rfl (.tmp 59) (.tmp 78) 70 5 rfl Tryd.underlying70 put_info A0 l0 HRD.out ?hb rfl _ _ [(Go.bits .or .i64 240 (a1 / 262144)) % 256, (Go.bits .or .i64 128 (Go.bits .and .i64 (a1 / 4096) 63)) % 256, (Go.bits .or .i64 128 (Go.bits .and .i64 (a1 / 64) 63)) % 256, (Go.bits .or .i64 128 (Go.bits .and .i64 a1 63)) % 256] rfl ?hc ?hp ?hl ?_; (case hb => exact below_alloc (pw_below_drewN (Below.refl w.heap.size w) _) _); (case hc => exact new_nums _ _ .u8 _); (case hp => exact Nat.succ_pos _); (case hl => exact Nat.le_trans (Nat.add_le_add_left (by simp) _) HL4.out); intro v1 w1 hR hb1))
            go_ret
            exact ⟨_, rfl, by rw [← HE.out, HP.out]; exact hR, hb1⟩
    | false =>
      have HE := Aside0.mk (show l0 = r by have := Option.some.inj h; simpa using this)
      clear h hsg
      go_enter Tryd.func150, Tryd.ntmps150
      go_wp2_with (first | (go_at_call 84; refine (utf_Sign.calls _ false _ HSG.out).mono ?_; rintro e w' ⟨rfl, ⟨nd, rfl⟩⟩) | (at_builtin; refine Kd.R_append_row (Value.int .u8) 0 (h1 := fun _ => rfl) (w0 := w) w.heap.size rfl (.const (.slice none 0 0)) (.tmp 16) 70 5 (.int .u8 0) 1 rfl Tryd.underlying70 put_info rfl (by decide) (.slice none 0 0) [] l0 A0 l0.length c0 (fun _ => True) rfl rfl (fun _ _ => trivial) (Kd.R_nil _ _ _ _ _) ?hc ?hb ?hz ?hl ?_; (case hc => exact Kd.C_below HC.out (pw_below_drewN (Below.refl _ _) _)); (case hb => exact pw_below_drewN (Below.refl w.heap.size w) _); (case hz => exact Nat.le_refl _); (case hl => exact HL5.out); intro v1 w1 hR hb1 hg1 hat1))
      go_ret
      exact ⟨_, rfl, by rw [← HE.out]; exact hR, hb1⟩
  · rw [if_neg hl] at h
    cases h
def lowGo : List (Int × Int × Int × Int) → Int → Int
  | [], r => r
  | (lo, hi, st, up) :: t, r => if lo ≤ r ∧ r ≤ hi ∧ (r - lo) % st = 0 then r + up else lowGo t r
def rowLo (k : Nat) : Int := (rowsTab.getD k (0, 0, 1, 0)).1
def rowHi (k : Nat) : Int := (rowsTab.getD k (0, 0, 1, 0)).2.1
def rowSt (k : Nat) : Int := (rowsTab.getD k (0, 0, 1, 0)).2.2.1
def rowUp (k : Nat) : Int := (rowsTab.getD k (0, 0, 1, 0)).2.2.2
theorem row_cases (k : Nat) (hk : k < 13) : k = 0 ∨ k = 1 ∨ k = 2 ∨ k = 3 ∨ k = 4 ∨ k = 5 ∨ k = 6 ∨ k = 7 ∨ k = 8 ∨ k = 9 ∨ k = 10 ∨ k = 11 ∨ k = 12 := by omega
theorem row_bounds (k : Nat) (hk : k < 13) : 0 ≤ rowLo k ∧ rowHi k ≤ 2000 ∧ 1 ≤ rowSt k ∧ rowSt k ≤ 2 ∧ 0 ≤ rowUp k ∧ rowUp k ≤ 100 := by
  rcases row_cases k hk with rfl | rfl | rfl | rfl | rfl | rfl | rfl | rfl | rfl | rfl | rfl | rfl | rfl <;> decide
theorem row_step (k : Nat) (hk : k < 13) : rowsTab.drop k = (rowLo k, rowHi k, rowSt k, rowUp k) :: rowsTab.drop (k + 1) := by
  rcases row_cases k hk with rfl | rfl | rfl | rfl | rfl | rfl | rfl | rfl | rfl | rfl | rfl | rfl | rfl <;> rfl
theorem rows_index (k : Nat) (hk : k < 13) (w : World) : (Instr.index 181 (.agg rowsCells) (.int .i64 (k : Int))).run Tryd.prog w = .ok (.agg #[.int .i64 (rowLo k), .int .i64 (rowHi k), .int .i64 (rowSt k), .int .i64 (rowUp k)]) w := by
  rcases row_cases k hk with rfl | rfl | rfl | rfl | rfl | rfl | rfl | rfl | rfl | rfl | rfl | rfl | rfl <;> kernel_rfl
def fold_Lower.f (a0 : Int) : Option Int := some (lowGo rowsTab a0)
set_option maxHeartbeats 4000000 in
set_option maxRecDepth 100000 in
theorem fold_Lower.calls (a0 r : Int) (w : World) (hG : GL w) (h : fold_Lower.f a0 = some r) :
    Calls Tryd.prog 151 #[.int .i64 a0] w fun e w' => e = .returned (.int .i64 r) ∧ Below w.heap.size w w' := by
  obtain ⟨t, fr, hg⟩ := hG.rows
  have hr0 := Option.some.inj h
  have hr := Aside0.mk hr0
  clear hr0 h hG
  go_enter Tryd.func151, Tryd.ntmps151
  go_wp2_with (refine wpList_load_row rfl 181 _ rfl 10 rfl _ _ _ _ hg Tryd.underlying181 rfl (by kernel_rfl) ?_)
  clear hg
  go_loopg [6] 13 (fun n v wr => ∃ k : Nat, v = .int .i64 k ∧ Aside0 (n + k = 13) ∧ Aside0 (lowGo (rowsTab.drop k) a0 = r) ∧ Below w.heap.size w wr)
  case atStart => exact ⟨0, rfl, ⟨rfl⟩, ⟨hr.out⟩, Below.refl _ _⟩
  case round =>
    obtain ⟨k, rfl, HN, HR, HB0⟩ := hrel
    have HB := Aside0.mk HB0
    clear HB0
    by_cases hk : k < 13
    · have hidx := rows_index k hk
      obtain ⟨h1, h2, h3, h4, h5, h6⟩ := row_bounds k hk
      have hst := row_step k hk
      have HR2 := HR.out
      rw [hst] at HR2
      clear HR hst
      have hu := Tryd.underlying180
      have hk' : decide ((k : Int) < 13) = true := by simp; omega
      by_cases c1 : rowLo k ≤ a0
      · by_cases c2 : a0 ≤ rowHi k
        · by_cases c3 : (a0 - rowLo k) % rowSt k = 0
          · have e : lowGo ((rowLo k, rowHi k, rowSt k, rowUp k) :: rowsTab.drop (k + 1)) a0 = a0 + rowUp k := by simp [lowGo, c1, c2, c3]
            have er : r = a0 + rowUp k := by rw [← HR2, e]
            clear HR2 e hr
            have HE := Aside0.mk er
            clear er
            have b3 : ((a0 - rowLo k) % rowSt k == 0) = true := by simpa using c3
            clear c3
            go_wp2
            go_ret
            exact ⟨ret_int HE.out.symm, by repeat (first | exact HB.out | apply below_alloc)⟩
          · have e : lowGo ((rowLo k, rowHi k, rowSt k, rowUp k) :: rowsTab.drop (k + 1)) a0 = lowGo (rowsTab.drop (k + 1)) a0 := by simp [lowGo, c3]
            have HR := Aside0.mk (e ▸ HR2)
            clear HR2 e hr
            have b3 : ((a0 - rowLo k) % rowSt k == 0) = false := by simpa using c3
            clear c3
            go_wp2
            go_roundg (gk - 1)
            case measure => have := HN.out; omega
            case rel => exact ⟨k + 1, by go_num, ⟨by have := HN.out; omega⟩, HR, by repeat (first | exact HB.out | apply below_alloc)⟩
        · have e : lowGo ((rowLo k, rowHi k, rowSt k, rowUp k) :: rowsTab.drop (k + 1)) a0 = lowGo (rowsTab.drop (k + 1)) a0 := by simp [lowGo, c2]
          have HR := Aside0.mk (e ▸ HR2)
          clear HR2 e hr
          have b2 : decide (a0 ≤ rowHi k) = false := by simpa using c2
          clear c2
          go_wp2
          go_roundg (gk - 1)
          case measure => have := HN.out; omega
          case rel => exact ⟨k + 1, by go_num, ⟨by have := HN.out; omega⟩, HR, by repeat (first | exact HB.out | apply below_alloc)⟩
      · have e : lowGo ((rowLo k, rowHi k, rowSt k, rowUp k) :: rowsTab.drop (k + 1)) a0 = lowGo (rowsTab.drop (k + 1)) a0 := by simp [lowGo, c1]
        have HR := Aside0.mk (e ▸ HR2)
        clear HR2 e hr
        have b1 : decide (rowLo k ≤ a0) = false := by simpa using c1
        clear c1
        go_wp2
        go_roundg (gk - 1)
        case measure => have := HN.out; omega
        case rel => exact ⟨k + 1, by go_num, ⟨by have := HN.out; omega⟩, HR, by repeat (first | exact HB.out | apply below_alloc)⟩
    · have e : k = 13 := by have := HN.out; omega
      subst e
      have hk' : decide (((13 : Nat) : Int) < 13) = false := by decide
      clear hk
      have HR2 := HR.out
      clear hr HR
      go_wp2
      go_ret
      exact ⟨ret_int HR2, HB.out⟩
def fold_Text.l0 : Nat → ByteArray → List Int → Int → Option (ByteArray)
  | 0, _, _, _ => none
  | k + 1, x0, x3, x4 => if x4 < (x0.size : Int) then ((utf_Next.f x0 x4).bind fun bt116 => (if bt116.1 < 0 then (if 0 ≤ x4 then (if x3.length < 140737488355328 then (fold_Text.l0 k x0 (x3 ++ [bt x0 x4]) (wrap64 (x4 + bt116.2))) else (none)) else (none)) else ((fold_Lower.f bt116.1).bind fun t121 => ((utf_Put.f x3 t121).bind fun t122 => (fold_Text.l0 k x0 t122 (wrap64 (x4 + bt116.2))))))) else (some (strOfNums x3))
def fold_Text.f (k : Nat) (a0 : ByteArray) : Option (ByteArray) := fold_Text.l0 k a0 ([] : List Int) 0
set_option maxHeartbeats 8000000 in
set_option maxRecDepth 100000 in
theorem fold_Text.calls (k : Nat) (a0 : ByteArray) (r : ByteArray) (w : World) (hG : GL w) (h : fold_Text.f k a0 = some r) :
    Calls Tryd.prog 141 #[.string a0] w fun e w' => e = .returned (.string r) ∧ Below w.heap.size w w' := by
  have HB := Aside0.mk (Below.refl w.heap.size w)
  have H : (fold_Text.l0 k a0 ([] : List Int) 0) = some r := h
  clear h
  have H' := Aside0.mk H
  clear H
  go_enter Tryd.func141, Tryd.ntmps141
  go_wp2
  go_loopg [3, 4] k (fun kq v3 v4 w' => ∃ (x3_1 : List Int) (x4_1 : Int), v4 = .int .i64 x4_1 ∧ Aside0 (fold_Text.l0 kq a0 x3_1 x4_1 = some r) ∧ Aside0 (kq ≤ k) ∧ Aside0 (Kd.R (Kd.int .u8) 5 w' w.heap.size (fun _ => True) v3 x3_1) ∧ Aside0 (Below w.heap.size w w'))
  case atStart => exact ⟨(([] : List Int)), (0), (by first | rfl | (simp; done) | (simp [*]; done)), H', ⟨Nat.le_refl _⟩, ⟨by first | exact Kd.R_nil _ _ _ _ _ | exact Kd.N_nil _ _ _ _ _ | exact Kd.V_nil _ _ _ _ _ | exact Kd.Q_nil _ _ _ _ _ | exact Kd.S_nil _ _ _ _ _⟩, ⟨by repeat (first | (with_reducible first | exact HB.out | apply below_alloc | apply pw_below_drewN | apply below_drew1) | exact HB.out)⟩⟩
  case round =>
    clear H'
    try clear c1
    obtain ⟨x3_1, x4_1, rfl, HA, HK1, HO_3, HB⟩ := hrel
    cases gk with
    | zero => exact absurd HA.out (by simp [fold_Text.l0])
    | succ k1 =>
      have H := HA.out
      clear HA
      simp only [fold_Text.l0] at H
      by_cases c2 : x4_1 < (a0.size : Int)
      · rw [if_pos c2] at H
        have c2b0 : decide (x4_1 < (a0.size : Int)) = true := decide_eq_true c2
        clear c2
        replace H := Option.bind_eq_some_iff.mp H
        obtain ⟨⟨t116, t117⟩, A30, H⟩ := H
        replace H : (if t116 < 0 then (if 0 ≤ x4_1 then (if x3_1.length < 140737488355328 then (fold_Text.l0 k1 a0 (x3_1 ++ [bt a0 x4_1]) (wrap64 (x4_1 + t117))) else (none)) else (none)) else ((fold_Lower.f t116).bind fun t121 => ((utf_Put.f x3_1 t121).bind fun t122 => (fold_Text.l0 k1 a0 t122 (wrap64 (x4_1 + t117)))))) = some r := H
        have A3 := Aside0.mk A30
        clear A30
        by_cases c4 : t116 < 0
        · rw [if_pos c4] at H
          have c4b0 : decide (t116 < 0) = true := decide_eq_true c4
          clear c4
          by_cases c5 : 0 ≤ x4_1
          · rw [if_pos c5] at H
            have c5b0 : decide (0 ≤ x4_1) = true := decide_eq_true c5
            clear c5
            by_cases c7 : x3_1.length < 140737488355328
            · rw [if_pos c7] at H
              have LMc7 := Aside0.mk c7
              clear c7
              obtain ⟨y118, hy118⟩ : ∃ y_ : List Int, y_ = (x3_1 ++ [bt a0 x4_1]) := ⟨_, rfl⟩
              replace H : (fold_Text.l0 k1 a0 y118 (wrap64 (x4_1 + t117))) = some r := by first | (rw [hy118]; with_reducible exact H) | (have H2_ := (Option.bind_some _ _).symm.trans H; rw [hy118]; with_reducible exact H2_) | (have H2_ := (Option.bind_some _ _).symm.trans H; with_reducible exact H2_) | with_reducible exact H | (rw [hy118]; exact H) | exact H
              have Ny118 := Aside0.mk hy118
              clear hy118
              have H' := Aside0.mk H
              clear H
              go_wp2_with (first | ((with_reducible refine gate_callee (f := 71) rfl ?_); refine goesL_ (some 14) rfl rfl Tryd.func71 (by kernel_rfl) rfl #[.string a0, .int .i64 x4_1] rfl (by (try simp only [List.map_toArray, List.map_cons, List.map_nil]); first | done | rfl | (simp only [List.length_drop, List.length_take]; rfl)) ?_; (with_reducible refine (utf_Next.calls a0 x4_1 t116 t117 _ A3.out).mono ?_); rintro e w8 ⟨rfl, hb⟩; refine ⟨_, rfl, ?_⟩; have n0_ := Aside0.mk (Kd.R_below (by (with_reducible repeat (first | apply Kd.R_alloc | apply Kd.R_drewN | apply Kd.R_drew)); exact HO_3.out) hb); have n1_ := Aside0.mk (below_step (by repeat (first | (with_reducible first | exact HB.out | apply below_alloc | apply pw_below_drewN | apply below_drew1) | exact HB.out)) hb); clear HO_3; clear HB; have HO_3 := n0_; have HB := n1_; clear n0_ n1_; (try clear hb); (try clear hb2); (try clear hk); (try clear hi); have p6 : 0 ≤ (x4_1 : Int) := of_decide_eq_true (by first | (with_reducible assumption) | assumption); have q6 : x4_1 < (a0.size : Int) := of_decide_eq_true (by first | (with_reducible assumption) | assumption); have hx6 := bt_at a0 x4_1; replace p6 := eq_true p6; replace q6 := eq_true q6) | ((with_reducible refine gate_builtin (b := .append) (xs := #[.tmp 19, .tmp 23]) rfl ?_); at_builtin; refine Kd.R_append (Kd.int .u8) (w0 := w) w.heap.size rfl (.tmp 19) (.tmp 23) 70 5 (.int .u8 0) 1 rfl Tryd.underlying70 info5 rfl (by decide) (by omega) u3 x3_1 (bt a0 x4_1) [.int .u8 (bt a0 x4_1)] (fun _ => True) (fun _ => False) rfl rfl ?aP (fun _ hk => hk.elim) ?aF ?aO ?aB ?aS ?aL ?_; (case aP => exact rfl); (case aB => exact (by repeat (first | (with_reducible first | exact HB.out | apply below_alloc | apply pw_below_drewN | apply below_drew1) | exact HB.out))); (case aF => exact (fun _ _ => trivial)); (case aO => exact (by (with_reducible repeat (first | apply Kd.R_alloc | apply Kd.R_drewN | apply Kd.R_drew)); exact HO_3.out)); (case aS => exact (below_size (by repeat (first | (with_reducible first | exact HB.out | apply below_alloc | apply pw_below_drewN | apply below_drew1) | exact HB.out)))); (case aL => have := LMc7.out; omega); intro v119 w9 ho hb hg hat; rw [← Ny118.out] at ho; have n0_ := Aside0.mk (hb); have n1_ := Aside0.mk (ho); clear HB; clear HO_3; have HB := n0_; have HO120 := n1_; clear n0_ n1_; clear ho hb hg hat))
              go_roundg k1
              case measure => have := HK1.out; omega
              case rel => exact ⟨(y118), (wrap64 (x4_1 + t117)), (by first | rfl | (simp; done) | (simp [*]; done)), H', ⟨by have := HK1.out; omega⟩, ⟨by (with_reducible repeat (first | apply Kd.R_alloc | apply Kd.R_drewN | apply Kd.R_drew)); exact HO120.out⟩, ⟨by repeat (first | (with_reducible first | exact HB.out | apply below_alloc | apply pw_below_drewN | apply below_drew1) | exact HB.out)⟩⟩
            · rw [if_neg c7] at H
              exact absurd H (by simp)
          · rw [if_neg c5] at H
            exact absurd H (by simp)
        · rw [if_neg c4] at H
          have c4b0 : decide (t116 < 0) = false := decide_eq_false c4
          clear c4
          replace H := Option.bind_eq_some_iff.mp H
          obtain ⟨t121, A100, H⟩ := H
          replace H : ((utf_Put.f x3_1 t121).bind fun t122 => (fold_Text.l0 k1 a0 t122 (wrap64 (x4_1 + t117)))) = some r := H
          have A10 := Aside0.mk A100
          clear A100
          replace H := Option.bind_eq_some_iff.mp H
          obtain ⟨t122, A110, H⟩ := H
          replace H : (fold_Text.l0 k1 a0 t122 (wrap64 (x4_1 + t117))) = some r := H
          have A11 := Aside0.mk A110
          clear A110
          have H' := Aside0.mk H
          clear H
          go_wp2_with (first | ((with_reducible refine gate_callee (f := 71) rfl ?_); refine goesL_ (some 14) rfl rfl Tryd.func71 (by kernel_rfl) rfl #[.string a0, .int .i64 x4_1] rfl (by (try simp only [List.map_toArray, List.map_cons, List.map_nil]); first | done | rfl | (simp only [List.length_drop, List.length_take]; rfl)) ?_; (with_reducible refine (utf_Next.calls a0 x4_1 t116 t117 _ A3.out).mono ?_); rintro e w12 ⟨rfl, hb⟩; refine ⟨_, rfl, ?_⟩; have n0_ := Aside0.mk (Kd.R_below (by (with_reducible repeat (first | apply Kd.R_alloc | apply Kd.R_drewN | apply Kd.R_drew)); exact HO_3.out) hb); have n1_ := Aside0.mk (below_step (by repeat (first | (with_reducible first | exact HB.out | apply below_alloc | apply pw_below_drewN | apply below_drew1) | exact HB.out)) hb); clear HO_3; clear HB; have HO_3 := n0_; have HB := n1_; clear n0_ n1_; (try clear hb); (try clear hb2); (try clear hk); (try clear hi)) | ((with_reducible refine gate_callee (f := 151) rfl ?_); refine goesL_ (some 27) rfl rfl Tryd.func151 (by kernel_rfl) rfl #[.int .i64 t116] rfl (by (try simp only [List.map_toArray, List.map_cons, List.map_nil]); first | done | rfl | (simp only [List.length_drop, List.length_take]; rfl)) ?_; (with_reducible refine (fold_Lower.calls t116 t121 _ (by first | exact hG | exact GL.drewN hG _ | exact GL.below hG (by repeat (first | (with_reducible first | exact HB.out | apply below_alloc | apply pw_below_drewN | apply below_drew1) | exact HB.out))) A10.out).mono ?_); rintro e w13 ⟨rfl, hb⟩; refine ⟨_, rfl, ?_⟩; have n0_ := Aside0.mk (Kd.R_below (by (with_reducible repeat (first | apply Kd.R_alloc | apply Kd.R_drewN | apply Kd.R_drew)); exact HO_3.out) hb); have n1_ := Aside0.mk (below_step (by repeat (first | (with_reducible first | exact HB.out | apply below_alloc | apply pw_below_drewN | apply below_drew1) | exact HB.out)) hb); clear HO_3; clear HB; have HO_3 := n0_; have HB := n1_; clear n0_ n1_; (try clear hb); (try clear hb2); (try clear hk); (try clear hi); obtain ⟨Ao14, co14, eo14⟩ := Kd.R_slice HO_3.out; subst eo14) | ((with_reducible refine gate_callee (f := 150) rfl ?_); refine goesL_ (some 28) rfl rfl Tryd.func150 (by kernel_rfl) rfl #[.slice Ao14 x3_1.length co14, .int .i64 t121] rfl (by (try simp only [List.map_toArray, List.map_cons, List.map_nil]); first | done | rfl | (simp only [List.length_drop, List.length_take]; rfl)) ?_; (with_reducible refine (utf_Put.calls _ _ x3_1 t121 t122 _ ?side1 ?side2 A11.out).mono ?_); (case side1 => repeat (first | exact (Kd.R_reads' HO_3.out).2.2 | (with_reducible refine Kd.C_alloc ?_ _) | (with_reducible refine Kd.C_drewN ?_ _) | (with_reducible refine Kd.C_drew ?_))); (case side2 => exact (Kd.R_reads' HO_3.out).2.1); rintro e w15 ⟨v123, rfl, ho0, hb⟩; refine ⟨_, rfl, ?_⟩; have n0_ := Aside0.mk (Kd.R_elder' (by (with_reducible repeat (first | apply Kd.R_alloc | apply Kd.R_drewN | apply Kd.R_drew)); exact HO_3.out) (Kd.R_base ho0) hb); have n1_ := Aside0.mk (Kd.R_lower (Kd.R_new' ho0 (Kd.R_lt (by (with_reducible repeat (first | apply Kd.R_alloc | apply Kd.R_drewN | apply Kd.R_drew)); exact HO_3.out))) (below_size (by repeat (first | (with_reducible first | exact HB.out | apply below_alloc | apply pw_below_drewN | apply below_drew1) | exact HB.out)))); have n2_ := Aside0.mk (below_step (by repeat (first | (with_reducible first | exact HB.out | apply below_alloc | apply pw_below_drewN | apply below_drew1) | exact HB.out)) hb); clear HO_3; clear HB; have HO_3 := n0_; have HO124 := n1_; have HB := n2_; clear n0_ n1_ n2_; (try clear hb); (try clear hb2); (try clear hk); (try clear hi); (try clear ho0)))
          go_roundg k1
          case measure => have := HK1.out; omega
          case rel => exact ⟨(t122), (wrap64 (x4_1 + t117)), (by first | rfl | (simp; done) | (simp [*]; done)), H', ⟨by have := HK1.out; omega⟩, ⟨by (with_reducible repeat (first | apply Kd.R_alloc | apply Kd.R_drewN | apply Kd.R_drew)); exact Kd.R_mono HO124.out (fun _ hk => trivial)⟩, ⟨by repeat (first | (with_reducible first | exact HB.out | apply below_alloc | apply pw_below_drewN | apply below_drew1) | exact HB.out)⟩⟩
      · rw [if_neg c2] at H
        have c2b0 : decide (x4_1 < (a0.size : Int)) = false := decide_eq_false c2
        clear c2
        obtain rfl := Option.some.inj H
        have hcv16 := own_string (P := Tryd.prog) Tryd.underlying70 Tryd.underlying5 Tryd.underlying9 (Kd.own_of_R HO_3.out)
        go_wp2
        go_ret
        exact ⟨by first | rfl | (simp [errW_none, errW_some] <;> rfl) | (simp [*, errW_none, errW_some] <;> rfl), by repeat (first | (with_reducible first | exact HB.out | apply below_alloc | apply pw_below_drewN | apply below_drew1) | exact HB.out)⟩
def fold_Letter.j0 : Nat → Int → Bool → Option (Bool)
  | 0, _, _ => none
  | k + 1, x0, x19 => if x19 = true then (some false) else (if x0 < 592 then (some true) else (if x0 < 880 then (some false) else (if x0 ≤ 1327 then (if x0 = 894 then (some false) else (some (x0 != 903))) else (some false))))
def fold_Letter.f (k : Nat) (a0 : Int) : Option (Bool) := if a0 < 192 then (if (Go.bits .or .i64 a0 32) ≥ 97 then (if (Go.bits .or .i64 a0 32) ≤ 122 then (some (decide (a0 > 0))) else (some false)) else (some false)) else (if a0 = 215 then (fold_Letter.j0 k a0 (a0 == 215)) else (fold_Letter.j0 k a0 (a0 == 247)))
set_option maxHeartbeats 8000000 in
set_option maxRecDepth 100000 in
theorem fold_Letter.calls (k : Nat) (a0 : Int) (r : Bool) (w : World) (h : fold_Letter.f k a0 = some r) :
    Calls Tryd.prog 139 #[.int .i64 a0] w fun e w' => e = .returned (.bool r) ∧ Drawn0 w w' := by
  have H : (if a0 < 192 then (if (Go.bits .or .i64 a0 32) ≥ 97 then (if (Go.bits .or .i64 a0 32) ≤ 122 then (some (decide (a0 > 0))) else (some false)) else (some false)) else (if a0 = 215 then (fold_Letter.j0 k a0 (a0 == 215)) else (fold_Letter.j0 k a0 (a0 == 247)))) = some r := h
  clear h
  by_cases c2 : a0 < 192
  · rw [if_pos c2] at H
    have c2b0 : decide (a0 < 192) = true := decide_eq_true c2
    clear c2
    by_cases c3 : (Go.bits .or .i64 a0 32) ≥ 97
    · rw [if_pos c3] at H
      have c3b0 : decide (97 ≤ (Go.bits .or .i64 a0 32)) = true := decide_eq_true c3
      clear c3
      by_cases c4 : (Go.bits .or .i64 a0 32) ≤ 122
      · rw [if_pos c4] at H
        have c4b0 : decide ((Go.bits .or .i64 a0 32) ≤ 122) = true := decide_eq_true c4
        clear c4
        obtain rfl := Option.some.inj H
        go_enter Tryd.func139, Tryd.ntmps139
        go_wp2
        go_ret
        exact ⟨by first | rfl | (simp; done) | (simp [*]; done), by repeat (first | exact Drawn0.refl _ | apply Drawn0.step)⟩
      · rw [if_neg c4] at H
        have c4b0 : decide ((Go.bits .or .i64 a0 32) ≤ 122) = false := decide_eq_false c4
        clear c4
        obtain rfl := Option.some.inj H
        go_enter Tryd.func139, Tryd.ntmps139
        go_wp2
        go_ret
        exact ⟨by first | rfl | (simp; done) | (simp [*]; done), by repeat (first | exact Drawn0.refl _ | apply Drawn0.step)⟩
    · rw [if_neg c3] at H
      have c3b0 : decide (97 ≤ (Go.bits .or .i64 a0 32)) = false := decide_eq_false c3
      clear c3
      obtain rfl := Option.some.inj H
      go_enter Tryd.func139, Tryd.ntmps139
      go_wp2
      go_ret
      exact ⟨by first | rfl | (simp; done) | (simp [*]; done), by repeat (first | exact Drawn0.refl _ | apply Drawn0.step)⟩
  · rw [if_neg c2] at H
    have c2b0 : decide (a0 < 192) = false := decide_eq_false c2
    clear c2
    have HC5 := Aside0.mk H
    clear H
    go_enter Tryd.func139, Tryd.ntmps139
    go_upto_if 19 with (fail)
    go_cut [19] (fun v19 wc => ∃ (kq : Nat) (x19_4 : Bool), v19 = .bool x19_4 ∧ Aside0 (fold_Letter.j0 kq a0 x19_4 = some r) ∧ Aside0 (kq ≤ k) ∧ Drawn0 w wc)
    case first =>
      have H := HC5.out
      clear HC5
      by_cases c6 : a0 = 215
      · rw [if_pos c6] at H
        have c6b0 : (a0 == 215) = true := beq_iff_eq.mpr c6
        have c6b1 : (a0 != 215) = false := bne_eq_false_iff_eq.mpr c6
        clear c6
        (first | rw [c6b0] | (simp only [i64_w, i32_w]; rw [c6b0]) | skip)
        have H' := Aside0.mk H
        clear H
        go_wp2
        go_meet
        case rel => exact ⟨_, ((a0 == 215)), (by first | rfl | (simp; done) | (simp [*]; done)), H', ⟨by first | omega | exact Nat.le_refl _⟩, by repeat (first | exact Drawn0.refl _ | apply Drawn0.step)⟩
      · rw [if_neg c6] at H
        have c6b0 : (a0 == 215) = false := beq_eq_false_iff_ne.mpr c6
        have c6b1 : (a0 != 215) = true := bne_iff_ne.mpr c6
        (first | rw [c6b0] | (simp only [i64_w, i32_w]; rw [c6b0]) | skip)
        have H' := Aside0.mk H
        clear H
        go_wp2
        go_meet
        case rel => exact ⟨_, ((a0 == 247)), (by first | rfl | (simp; done) | (simp [*]; done)), H', ⟨by first | omega | exact Nat.le_refl _⟩, by repeat (first | exact Drawn0.refl _ | apply Drawn0.step)⟩
    case rest =>
      clear HC5
      try clear c1
      try clear c2
      try clear c2b0
      try clear p2
      try clear c3
      try clear c3b0
      try clear c4
      try clear c4b0
      try clear c6
      try clear c6b0
      try clear c6b1
      obtain ⟨kq, x19_4, rfl, HA, HJ4, ⟨mc4, rfl⟩⟩ := hcut
      cases kq with
      | zero => exact absurd HA.out (by simp [fold_Letter.j0])
      | succ kj4 =>
        have H := HA.out
        clear HA
        simp only [fold_Letter.j0] at H
        by_cases c7 : x19_4 = true
        · subst c7
          have H1 : (some false) = some r := by rw [if_pos rfl] at H; exact H
          clear H
          have H := H1
          clear H1
          obtain rfl := Option.some.inj H
          go_wp2
          go_ret
          exact ⟨by first | rfl | (simp; done) | (simp [*]; done), by repeat (first | exact Drawn0.refl _ | apply Drawn0.step)⟩
        · replace c7 := Bool.eq_false_iff.mpr c7
          subst c7
          have H1 : (if a0 < 592 then (some true) else (if a0 < 880 then (some false) else (if a0 ≤ 1327 then (if a0 = 894 then (some false) else (some (a0 != 903))) else (some false)))) = some r := by rw [if_neg (show ¬ (false = true) by decide)] at H; exact H
          clear H
          have H := H1
          clear H1
          by_cases c8 : a0 < 592
          · rw [if_pos c8] at H
            have c8b0 : decide (a0 < 592) = true := decide_eq_true c8
            clear c8
            obtain rfl := Option.some.inj H
            go_wp2
            go_ret
            exact ⟨by first | rfl | (simp; done) | (simp [*]; done), by repeat (first | exact Drawn0.refl _ | apply Drawn0.step)⟩
          · rw [if_neg c8] at H
            have c8b0 : decide (a0 < 592) = false := decide_eq_false c8
            clear c8
            by_cases c9 : a0 < 880
            · rw [if_pos c9] at H
              have c9b0 : decide (a0 < 880) = true := decide_eq_true c9
              clear c9
              obtain rfl := Option.some.inj H
              go_wp2
              go_ret
              exact ⟨by first | rfl | (simp; done) | (simp [*]; done), by repeat (first | exact Drawn0.refl _ | apply Drawn0.step)⟩
            · rw [if_neg c9] at H
              have c9b0 : decide (a0 < 880) = false := decide_eq_false c9
              clear c9
              by_cases c10 : a0 ≤ 1327
              · rw [if_pos c10] at H
                have c10b0 : decide (a0 ≤ 1327) = true := decide_eq_true c10
                clear c10
                by_cases c11 : a0 = 894
                · rw [if_pos c11] at H
                  have c11b0 : (a0 == 894) = true := beq_iff_eq.mpr c11
                  have c11b1 : (a0 != 894) = false := bne_eq_false_iff_eq.mpr c11
                  clear c11
                  obtain rfl := Option.some.inj H
                  go_wp2
                  go_ret
                  exact ⟨by first | rfl | (simp; done) | (simp [*]; done), by repeat (first | exact Drawn0.refl _ | apply Drawn0.step)⟩
                · rw [if_neg c11] at H
                  have c11b0 : (a0 == 894) = false := beq_eq_false_iff_ne.mpr c11
                  have c11b1 : (a0 != 894) = true := bne_iff_ne.mpr c11
                  obtain rfl := Option.some.inj H
                  go_wp2
                  go_ret
                  exact ⟨by first | rfl | (simp; done) | (simp [*]; done), by repeat (first | exact Drawn0.refl _ | apply Drawn0.step)⟩
              · rw [if_neg c10] at H
                have c10b0 : decide (a0 ≤ 1327) = false := decide_eq_false c10
                clear c10
                obtain rfl := Option.some.inj H
                go_wp2
                go_ret
                exact ⟨by first | rfl | (simp; done) | (simp [*]; done), by repeat (first | exact Drawn0.refl _ | apply Drawn0.step)⟩
def fold_Digit.f (a0 : Int) : Option (Bool) := if a0 ≥ 48 then (some (decide (a0 ≤ 57))) else (some false)
set_option maxHeartbeats 8000000 in
set_option maxRecDepth 100000 in
theorem fold_Digit.calls (a0 : Int) (r : Bool) (w : World) (h : fold_Digit.f a0 = some r) :
    Calls Tryd.prog 140 #[.int .i64 a0] w fun e w' => e = .returned (.bool r) ∧ Drawn0 w w' := by
  have H : (if a0 ≥ 48 then (some (decide (a0 ≤ 57))) else (some false)) = some r := h
  clear h
  by_cases c2 : a0 ≥ 48
  · rw [if_pos c2] at H
    have c2b0 : decide (48 ≤ a0) = true := decide_eq_true c2
    clear c2
    obtain rfl := Option.some.inj H
    go_enter Tryd.func140, Tryd.ntmps140
    go_wp2
    go_ret
    exact ⟨by first | rfl | (simp; done) | (simp [*]; done), by repeat (first | exact Drawn0.refl _ | apply Drawn0.step)⟩
  · rw [if_neg c2] at H
    have c2b0 : decide (48 ≤ a0) = false := decide_eq_false c2
    clear c2
    obtain rfl := Option.some.inj H
    go_enter Tryd.func140, Tryd.ntmps140
    go_wp2
    go_ret
    exact ⟨by first | rfl | (simp; done) | (simp [*]; done), by repeat (first | exact Drawn0.refl _ | apply Drawn0.step)⟩
def fold_Word.f (k : Nat) (a0 : Int) : Option (Bool) := (fold_Letter.f k a0).bind fun t125 => (if t125 = true then (some true) else ((fold_Digit.f a0).bind fun t126 => (some t126)))
set_option maxHeartbeats 8000000 in
set_option maxRecDepth 100000 in
theorem fold_Word.calls (k : Nat) (a0 : Int) (r : Bool) (w : World) (h : fold_Word.f k a0 = some r) :
    Calls Tryd.prog 128 #[.int .i64 a0] w fun e w' => e = .returned (.bool r) ∧ Drawn0 w w' := by
  have H : ((fold_Letter.f k a0).bind fun t125 => (if t125 = true then (some true) else ((fold_Digit.f a0).bind fun t126 => (some t126)))) = some r := h
  clear h
  replace H := Option.bind_eq_some_iff.mp H
  obtain ⟨t125, A20, H⟩ := H
  replace H : (if t125 = true then (some true) else ((fold_Digit.f a0).bind fun t126 => (some t126))) = some r := H
  have A2 := Aside0.mk A20
  clear A20
  by_cases c3 : t125 = true
  · subst c3
    have H1 : (some true) = some r := by rw [if_pos rfl] at H; exact H
    clear H
    have H := H1
    clear H1
    obtain rfl := Option.some.inj H
    go_enter Tryd.func128, Tryd.ntmps128
    go_wp2_with (first | ((with_reducible refine gate_callee (f := 139) rfl ?_); refine goesL_ (some 4) rfl rfl Tryd.func139 (by kernel_rfl) rfl #[.int .i64 a0] rfl (by (try simp only [List.map_toArray, List.map_cons, List.map_nil]); first | done | rfl | (simp only [List.length_drop, List.length_take]; rfl)) ?_; (with_reducible refine (fold_Letter.calls k a0 true _ A2.out).mono ?_); rintro e w' ⟨rfl, ⟨nd, rfl⟩⟩; refine ⟨_, rfl, ?_⟩))
    go_ret
    exact ⟨by first | rfl | (simp; done) | (simp [*]; done), by repeat (first | exact Drawn0.refl _ | apply Drawn0.step)⟩
  · replace c3 := Bool.eq_false_iff.mpr c3
    subst c3
    have H1 : ((fold_Digit.f a0).bind fun t126 => (some t126)) = some r := by rw [if_neg (show ¬ (false = true) by decide)] at H; exact H
    clear H
    have H := H1
    clear H1
    replace H := Option.bind_eq_some_iff.mp H
    obtain ⟨t126, A40, H⟩ := H
    replace H : (some t126) = some r := H
    have A4 := Aside0.mk A40
    clear A40
    obtain rfl := Option.some.inj H
    go_enter Tryd.func128, Tryd.ntmps128
    go_wp2_with (first | ((with_reducible refine gate_callee (f := 139) rfl ?_); refine goesL_ (some 4) rfl rfl Tryd.func139 (by kernel_rfl) rfl #[.int .i64 a0] rfl (by (try simp only [List.map_toArray, List.map_cons, List.map_nil]); first | done | rfl | (simp only [List.length_drop, List.length_take]; rfl)) ?_; (with_reducible refine (fold_Letter.calls k a0 false _ A2.out).mono ?_); rintro e w' ⟨rfl, ⟨nd, rfl⟩⟩; refine ⟨_, rfl, ?_⟩) | (go_at_call 140; (with_reducible refine (fold_Digit.calls a0 t126 _ A4.out).mono ?_); rintro e w' ⟨rfl, ⟨nd, rfl⟩⟩))
    go_ret
    exact ⟨by first | rfl | (simp; done) | (simp [*]; done), by repeat (first | exact Drawn0.refl _ | apply Drawn0.step)⟩
end Go.Proofs.YtcgkmomhjincgaaDoor.Lib
