/- The lines of script and their laws, part Qk: contracts by hand. -/
import Derived.Test.YtcgkmomhjincgaaDoorTLibQ0
import Derived.Test.YtcgkmomhjincgaaDoorTQi
import Derived.Test.YtcgkmomhjincgaaDoorTQj
import Derived.RangeFuncNested
import Derived.RangeFuncBound
import Derived.RangeFuncCalls
import Derived.RangeFuncLeaves
import Derived.WalkKit
import Derived.OwnWalkIn
import Derived.TacticsInMore
import Derived.LoopNIn
import Derived.LoopIn
import Derived.Shelf.RegionOpen
import Derived.IntWalk
import Derived.Lib.Hide
import Derived.Maps.AppendAt
import Derived.Lib.AppendStr
import Derived.Lib.UnsafeStr
import Derived.Lib.Builder
import Derived.Laws.Externs
import Derived.HandedShaped
import Derived.Shelf.Vars
import Derived.Deep.DeepHandedRow
import Derived.Carry
import Derived.ProofKit
import Derived.OpenShut
import Derived.ShutString
import Derived.ChangeOld
import Derived.SizedLaws
import Derived.LaidMore
import Derived.Lay
import Derived.SevenTiedAt
import Derived.Stop.Joined
namespace Go.Proofs.YtcgkmomhjincgaaDoor.LibQ.Scr
open Go.RowKit Go.Proofs.YtcgkmomhjincgaaDoor.LibQ Go.Proofs.YtcgkmomhjincgaaDoorW.PrintWords Go.Proofs.YtcgkmomhjincgaaDoorW.PrintLast Go.Proofs.YtcgkmomhjincgaaDoorW.PrintMore
set_option linter.unusedVariables false
set_option linter.unusedSimpArgs false
attribute [local go_sem] max2_int min2_int max_two min_two max_three min_three max_four min_four
theorem info42 : (Tryd.prog.info? 42).map (fun i => (i.zero, i.size, i.bytes)) = some (some (.agg #[(.int .i64 0), (.int .i64 0), (.int .i64 0), (.int .i64 0), (.int .i64 0), (.int .i64 0), (.string ⟨#[]⟩), (.int .i64 0), (.string ⟨#[]⟩), (.slice none 0 0)]), 10, 112) := info42b
def scholiaref29_Read.f (a0 : ByteArray) : Option (Int × Int × Int × Int × Int × Int × ByteArray × Int × ByteArray × List Int × Bool) :=
  if a0.size ≤ 1048576 then some ((readS a0).1.f0, (readS a0).1.f1, (readS a0).1.f2, (readS a0).1.f3, (readS a0).1.f4, (readS a0).1.f5, (readS a0).1.f6, (readS a0).1.f7, (readS a0).1.f8, (readS a0).1.f9, (readS a0).2) else none
theorem scholiaref29_Read.calls (a0 : ByteArray) (r1 r2 r3 r4 r5 r6 : Int) (r7 : ByteArray) (r8 : Int) (r9 : ByteArray) (r10 : List Int) (r11 : Bool) (w : World) (h : scholiaref29_Read.f a0 = some (r1, r2, r3, r4, r5, r6, r7, r8, r9, r10, r11)) :
    Calls Tryd.prog 28 #[.string a0] w fun e w' => ∃ v9_ : Value, e = .returned (.tuple #[.agg #[.int .i64 r1, .int .i64 r2, .int .i64 r3, .int .i64 r4, .int .i64 r5, .int .i64 r6, .string r7, .int .i64 r8, .string r9, v9_], .bool r11]) ∧ Kd.R (Kd.int .i64) 3 w' w.heap.size (fun _ => True) v9_ r10 ∧ Below w.heap.size w w' := by
  unfold scholiaref29_Read.f at h
  split at h
  · rename_i c
    simp only [Option.some.injEq, Prod.mk.injEq] at h
    obtain ⟨rfl, rfl, rfl, rfl, rfl, rfl, rfl, rfl, rfl, rfl, rfl⟩ := h
    refine (rread_calls 400000001 a0 w (readS a0).1 (readS a0).2 (rread_f a0 (by omega) 400000001 (by omega))).mono ?_
    rintro e w' ⟨v, rfl, hR, hb⟩
    exact ⟨v, rfl, hR, hb⟩
  · cases h
def scholiaref29_Lines.l0 : Nat → ByteArray → List ByteArray → Int → Int → Int → Option (List ByteArray)
  | 0, _, _, _, _, _ => none
  | k + 1, x0, x3, x4, x7, x8 => if x8 < x7 then (if 0 ≤ x8 then (if x8 < (x0.size : Int) then (if (bt x0 x8) = 10 then (if 0 ≤ x4 then (if x4 ≤ x8 then (if x8 ≤ (x0.size : Int) then (if x3.length < 8796093022208 then (scholiaref29_Lines.l0 k x0 (x3 ++ [x0.extract (x4 : Int).toNat (x8 : Int).toNat]) (wrap64 (x8 + 1)) x7 (wrap64 (x8 + 1))) else (none)) else (none)) else (none)) else (none)) else (scholiaref29_Lines.l0 k x0 x3 x4 x7 (wrap64 (x8 + 1)))) else (none)) else (none)) else (if x4 < (x0.size : Int) then (if 0 ≤ x4 then (if x4 ≤ (x0.size : Int) then (if x3.length < 8796093022208 then (some (x3 ++ [x0.extract (x4 : Int).toNat x0.size])) else (none)) else (none)) else (none)) else (some x3))
def scholiaref29_Lines.f (k : Nat) (a0 : ByteArray) : Option (List ByteArray) := scholiaref29_Lines.l0 k a0 ([] : List ByteArray) 0 (a0.size : Int) 0
set_option maxHeartbeats 8000000 in
set_option maxRecDepth 100000 in
theorem scholiaref29_Lines.calls (k : Nat) (a0 : ByteArray) (r : List ByteArray) (w : World) (h : scholiaref29_Lines.f k a0 = some r) :
    Calls Tryd.prog 67 #[.string a0] w fun e w' => ∃ v0_ : Value, e = .returned (v0_) ∧ Kd.R Kd.string 9 w' w.heap.size (fun _ => True) v0_ r ∧ Below w.heap.size w w' := by
  have HB := Aside0.mk (Below.refl w.heap.size w)
  have H : (scholiaref29_Lines.l0 k a0 ([] : List ByteArray) 0 (a0.size : Int) 0) = some r := h
  clear h
  have H' := Aside0.mk H
  clear H
  go_enter Tryd.func67, Tryd.ntmps67
  go_wp2
  go_loopg [3, 4, 8] k (fun kq v3 v4 v8 w' => ∃ (x3_1 : List ByteArray) (x4_1 : Int) (x8_1 : Int), v4 = .int .i64 x4_1 ∧ v8 = .int .i64 x8_1 ∧ Aside0 (scholiaref29_Lines.l0 kq a0 x3_1 x4_1 (a0.size : Int) x8_1 = some r) ∧ Aside0 (kq ≤ k) ∧ Aside0 (Kd.R Kd.string 9 w' w.heap.size (fun _ => True) v3 x3_1) ∧ Aside0 (Below w.heap.size w w'))
  case atStart => exact ⟨(([] : List ByteArray)), (0), (0), (by first | rfl | (simp; done) | (simp [*]; done)), (by first | rfl | (simp; done) | (simp [*]; done)), H', ⟨Nat.le_refl _⟩, ⟨by first | exact Kd.R_nil _ _ _ _ _ | exact Kd.N_nil _ _ _ _ _ | exact Kd.V_nil _ _ _ _ _ | exact Kd.Q_nil _ _ _ _ _ | exact Kd.S_nil _ _ _ _ _⟩, ⟨by repeat (first | (with_reducible first | exact HB.out | apply below_alloc | apply pw_below_drewN | apply below_drew1) | exact HB.out)⟩⟩
  case round =>
    clear H'
    obtain ⟨x3_1, x4_1, x8_1, rfl, rfl, HA, HK1, HO_3, HB⟩ := hrel
    cases gk with
    | zero => exact absurd HA.out (by simp [scholiaref29_Lines.l0])
    | succ k1 =>
      have H := HA.out
      clear HA
      simp only [scholiaref29_Lines.l0] at H
      by_cases c2 : x8_1 < (a0.size : Int)
      · rw [if_pos c2] at H
        have c2b0 : decide (x8_1 < (a0.size : Int)) = true := decide_eq_true c2
        clear c2
        by_cases c3 : 0 ≤ x8_1
        · rw [if_pos c3] at H
          have c3b0 : decide (0 ≤ x8_1) = true := decide_eq_true c3
          clear c3
          by_cases c4 : x8_1 < (a0.size : Int)
          · rw [if_pos c4] at H
            have c4b0 : decide (x8_1 < (a0.size : Int)) = true := decide_eq_true c4
            clear c4
            by_cases c6 : (bt a0 x8_1) = 10
            · rw [if_pos c6] at H
              have c6b0 : ((bt a0 x8_1) == 10) = true := beq_iff_eq.mpr c6
              have c6b1 : ((bt a0 x8_1) != 10) = false := bne_eq_false_iff_eq.mpr c6
              clear c6
              by_cases c7 : 0 ≤ x4_1
              · rw [if_pos c7] at H
                have c7b0 := eq_true c7
                have c7b1 : decide (0 ≤ x4_1) = true := decide_eq_true c7
                clear c7
                by_cases c8 : x4_1 ≤ x8_1
                · rw [if_pos c8] at H
                  have c8b0 := eq_true c8
                  have c8b1 : decide (x4_1 ≤ x8_1) = true := decide_eq_true c8
                  clear c8
                  by_cases c9 : x8_1 ≤ (a0.size : Int)
                  · rw [if_pos c9] at H
                    have c9b0 := eq_true c9
                    have c9b1 : decide (x8_1 ≤ (a0.size : Int)) = true := decide_eq_true c9
                    clear c9
                    by_cases c10 : x3_1.length < 8796093022208
                    · rw [if_pos c10] at H
                      have LMc10 := Aside0.mk c10
                      clear c10
                      obtain ⟨y245, hy245⟩ : ∃ y_ : List ByteArray, y_ = (x3_1 ++ [a0.extract (x4_1 : Int).toNat (x8_1 : Int).toNat]) := ⟨_, rfl⟩
                      replace H : (scholiaref29_Lines.l0 k1 a0 y245 (wrap64 (x8_1 + 1)) (a0.size : Int) (wrap64 (x8_1 + 1))) = some r := by first | (rw [hy245]; with_reducible exact H) | (have H2_ := (Option.bind_some _ _).symm.trans H; rw [hy245]; with_reducible exact H2_) | (have H2_ := (Option.bind_some _ _).symm.trans H; with_reducible exact H2_) | with_reducible exact H | (rw [hy245]; exact H) | exact H
                      have Ny245 := Aside0.mk hy245
                      clear hy245
                      have H' := Aside0.mk H
                      clear H
                      have p5 : 0 ≤ (x8_1 : Int) := of_decide_eq_true (by first | (with_reducible assumption) | assumption)
                      have q5 : x8_1 < (a0.size : Int) := of_decide_eq_true (by first | (with_reducible assumption) | assumption)
                      have hx5 := bt_at a0 x8_1
                      replace p5 := eq_true p5
                      replace q5 := eq_true q5
                      go_wp2_with (first | ((with_reducible refine gate_builtin (b := .append) (xs := #[.tmp 15, .tmp 20]) rfl ?_); at_builtin; refine Kd.R_append Kd.string (w0 := w) w.heap.size rfl (.tmp 15) (.tmp 20) 77 9 (.string ⟨#[]⟩) 16 rfl Tryd.underlying77 info9 rfl (by decide) (by omega) u3 x3_1 (a0.extract (x4_1 : Int).toNat (x8_1 : Int).toNat) [.string (a0.extract (x4_1 : Int).toNat (x8_1 : Int).toNat)] (fun _ => True) (fun _ => False) rfl rfl ?aP (fun _ hk => hk.elim) ?aF ?aO ?aB ?aS ?aL ?_; (case aP => exact rfl); (case aB => exact (by repeat (first | (with_reducible first | exact HB.out | apply below_alloc | apply pw_below_drewN | apply below_drew1) | exact HB.out))); (case aF => exact (fun _ _ => trivial)); (case aO => exact (by (with_reducible repeat (first | apply Kd.R_alloc | apply Kd.R_drewN | apply Kd.R_drew)); exact HO_3.out)); (case aS => exact (below_size (by repeat (first | (with_reducible first | exact HB.out | apply below_alloc | apply pw_below_drewN | apply below_drew1) | exact HB.out)))); (case aL => have := LMc10.out; omega); intro v246 w11 ho hb hg hat; rw [← Ny245.out] at ho; have n0_ := Aside0.mk (hb); have n1_ := Aside0.mk (ho); clear HB; clear HO_3; have HB := n0_; have HO247 := n1_; clear n0_ n1_; clear ho hb hg hat))
                      go_roundg k1
                      case measure => have := HK1.out; omega
                      case rel => exact ⟨(y245), (wrap64 (x8_1 + 1)), (wrap64 (x8_1 + 1)), (by first | rfl | (simp; done) | (simp [*]; done)), (by first | rfl | (simp; done) | (simp [*]; done)), H', ⟨by have := HK1.out; omega⟩, ⟨by (with_reducible repeat (first | apply Kd.R_alloc | apply Kd.R_drewN | apply Kd.R_drew)); exact HO247.out⟩, ⟨by repeat (first | (with_reducible first | exact HB.out | apply below_alloc | apply pw_below_drewN | apply below_drew1) | exact HB.out)⟩⟩
                    · rw [if_neg c10] at H
                      exact absurd H (by simp)
                  · rw [if_neg c9] at H
                    exact absurd H (by simp)
                · rw [if_neg c8] at H
                  exact absurd H (by simp)
              · rw [if_neg c7] at H
                exact absurd H (by simp)
            · rw [if_neg c6] at H
              have c6b0 : ((bt a0 x8_1) == 10) = false := beq_eq_false_iff_ne.mpr c6
              have c6b1 : ((bt a0 x8_1) != 10) = true := bne_iff_ne.mpr c6
              have H' := Aside0.mk H
              clear H
              have p5 : 0 ≤ (x8_1 : Int) := of_decide_eq_true (by first | (with_reducible assumption) | assumption)
              have q5 : x8_1 < (a0.size : Int) := of_decide_eq_true (by first | (with_reducible assumption) | assumption)
              have hx5 := bt_at a0 x8_1
              replace p5 := eq_true p5
              replace q5 := eq_true q5
              go_wp2
              go_roundg k1
              case measure => have := HK1.out; omega
              case rel => exact ⟨(x3_1), (x4_1), (wrap64 (x8_1 + 1)), (by first | rfl | (simp; done) | (simp [*]; done)), (by first | rfl | (simp; done) | (simp [*]; done)), H', ⟨by have := HK1.out; omega⟩, ⟨by (with_reducible repeat (first | apply Kd.R_alloc | apply Kd.R_drewN | apply Kd.R_drew)); exact HO_3.out⟩, ⟨by repeat (first | (with_reducible first | exact HB.out | apply below_alloc | apply pw_below_drewN | apply below_drew1) | exact HB.out)⟩⟩
          · rw [if_neg c4] at H
            exact absurd H (by simp)
        · rw [if_neg c3] at H
          exact absurd H (by simp)
      · rw [if_neg c2] at H
        have c2b0 : decide (x8_1 < (a0.size : Int)) = false := decide_eq_false c2
        clear c2
        by_cases c12 : x4_1 < (a0.size : Int)
        · rw [if_pos c12] at H
          have c12b0 : decide (x4_1 < (a0.size : Int)) = true := decide_eq_true c12
          clear c12
          by_cases c13 : 0 ≤ x4_1
          · rw [if_pos c13] at H
            have c13b0 := eq_true c13
            have c13b1 : decide (0 ≤ x4_1) = true := decide_eq_true c13
            clear c13
            by_cases c14 : x4_1 ≤ (a0.size : Int)
            · rw [if_pos c14] at H
              have c14b0 := eq_true c14
              have c14b1 : decide (x4_1 ≤ (a0.size : Int)) = true := decide_eq_true c14
              clear c14
              by_cases c15 : x3_1.length < 8796093022208
              · rw [if_pos c15] at H
                have LMc15 := Aside0.mk c15
                clear c15
                obtain ⟨y248, hy248⟩ : ∃ y_ : List ByteArray, y_ = (x3_1 ++ [a0.extract (x4_1 : Int).toNat a0.size]) := ⟨_, rfl⟩
                replace H : (some y248) = some r := by first | (rw [hy248]; with_reducible exact H) | (have H2_ := (Option.bind_some _ _).symm.trans H; rw [hy248]; with_reducible exact H2_) | (have H2_ := (Option.bind_some _ _).symm.trans H; with_reducible exact H2_) | with_reducible exact H | (rw [hy248]; exact H) | exact H
                have Ny248 := Aside0.mk hy248
                clear hy248
                obtain rfl := Option.some.inj H
                go_wp2_with (first | ((with_reducible refine gate_builtin (b := .append) (xs := #[.tmp 29, .tmp 33]) rfl ?_); at_builtin; refine Kd.R_append Kd.string (w0 := w) w.heap.size rfl (.tmp 29) (.tmp 33) 77 9 (.string ⟨#[]⟩) 16 rfl Tryd.underlying77 info9 rfl (by decide) (by omega) u3 x3_1 (a0.extract (x4_1 : Int).toNat a0.size) [.string (a0.extract (x4_1 : Int).toNat a0.size)] (fun _ => True) (fun _ => False) rfl rfl ?aP (fun _ hk => hk.elim) ?aF ?aO ?aB ?aS ?aL ?_; (case aP => exact rfl); (case aB => exact (by repeat (first | (with_reducible first | exact HB.out | apply below_alloc | apply pw_below_drewN | apply below_drew1) | exact HB.out))); (case aF => exact (fun _ _ => trivial)); (case aO => exact (by (with_reducible repeat (first | apply Kd.R_alloc | apply Kd.R_drewN | apply Kd.R_drew)); exact HO_3.out)); (case aS => exact (below_size (by repeat (first | (with_reducible first | exact HB.out | apply below_alloc | apply pw_below_drewN | apply below_drew1) | exact HB.out)))); (case aL => have := LMc15.out; omega); intro v249 w16 ho hb hg hat; rw [← Ny248.out] at ho; have n0_ := Aside0.mk (hb); have n1_ := Aside0.mk (ho); clear HB; clear HO_3; have HB := n0_; have HO250 := n1_; clear n0_ n1_; clear ho hb hg hat))
                go_ret
                exact ⟨_, by first | rfl | (simp [errW_none, errW_some] <;> rfl) | (simp [*, errW_none, errW_some] <;> rfl), by (with_reducible repeat (first | apply Kd.R_alloc | apply Kd.R_drewN | apply Kd.R_drew)); exact HO250.out, by repeat (first | (with_reducible first | exact HB.out | apply below_alloc | apply pw_below_drewN | apply below_drew1) | exact HB.out)⟩
              · rw [if_neg c15] at H
                exact absurd H (by simp)
            · rw [if_neg c14] at H
              exact absurd H (by simp)
          · rw [if_neg c13] at H
            exact absurd H (by simp)
        · rw [if_neg c12] at H
          have c12b0 : decide (x4_1 < (a0.size : Int)) = false := decide_eq_false c12
          clear c12
          obtain rfl := Option.some.inj H
          go_wp2
          go_ret
          exact ⟨_, by first | rfl | (simp [errW_none, errW_some] <;> rfl) | (simp [*, errW_none, errW_some] <;> rfl), by (with_reducible repeat (first | apply Kd.R_alloc | apply Kd.R_drewN | apply Kd.R_drew)); exact HO_3.out, by repeat (first | (with_reducible first | exact HB.out | apply below_alloc | apply pw_below_drewN | apply below_drew1) | exact HB.out)⟩
def scholiaref29_Parse.l0 : Nat → ByteArray → List (S42) → List ByteArray → Int → Int → Option ((List (S42)) × Int × Int)
  | 0, _, _, _, _, _ => none
  | k + 1, x0, x5, x14, x15, x16 => if x16 < x15 then (if 0 ≤ x16 then (if x16 < (x14.length : Int) then (if (rdOf ByteArray.empty x14 x16).toList = ([] : List UInt8) then (scholiaref29_Parse.l0 k x0 x5 x14 x15 (wrap64 (x16 + 1))) else ((scholiaref29_Read.f (rdOf ByteArray.empty x14 x16)).bind fun bt258 => (if bt258.2.2.2.2.2.2.2.2.2.2 = true then (if x5.length < 1256584717458 then (scholiaref29_Parse.l0 k x0 (x5 ++ [(⟨bt258.1, bt258.2.1, bt258.2.2.1, bt258.2.2.2.1, bt258.2.2.2.2.1, bt258.2.2.2.2.2.1, bt258.2.2.2.2.2.2.1, bt258.2.2.2.2.2.2.2.1, bt258.2.2.2.2.2.2.2.2.1, bt258.2.2.2.2.2.2.2.2.2.1⟩ : S42)]) x14 x15 (wrap64 (x16 + 1))) else (none)) else (some (x5, x16, 17))))) else (none)) else (none)) else ((scholiaref29_Lines.f k x0).bind fun t254 => (some (x5, (t254.length : Int), 0)))
def scholiaref29_Parse.f (k : Nat) (a0 : ByteArray) : Option ((List (S42)) × Int × Int) := if (a0.size : Int) > 32768 then (some (([] : List (S42)), 0, 5)) else ((scholiaref29_Lines.f k a0).bind fun t251 => (scholiaref29_Parse.l0 k a0 ([] : List (S42)) t251 (t251.length : Int) 0))
set_option maxHeartbeats 8000000 in
set_option maxRecDepth 100000 in
theorem scholiaref29_Parse.calls (k : Nat) (a0 : ByteArray) (r1 : List (S42)) (r2 : Int) (r3 : Int) (w : World) (h : scholiaref29_Parse.f k a0 = some (r1, r2, r3)) :
    Calls Tryd.prog 32 #[.string a0] w fun e w' => ∃ v0_ : Value, e = .returned (.tuple #[v0_, .int .i64 r2, .int .i64 r3]) ∧ Kd.S k42 42 w' w.heap.size (fun _ => True) v0_ r1 ∧ Below w.heap.size w w' := by
  have hu42 := Tryd.underlying42
  have HB := Aside0.mk (Below.refl w.heap.size w)
  have H : (if (a0.size : Int) > 32768 then (some (([] : List (S42)), 0, 5)) else ((scholiaref29_Lines.f k a0).bind fun t251 => (scholiaref29_Parse.l0 k a0 ([] : List (S42)) t251 (t251.length : Int) 0))) = some (r1, r2, r3) := h
  clear h
  by_cases c2 : (a0.size : Int) > 32768
  · rw [if_pos c2] at H
    have c2b0 : decide (32768 < (a0.size : Int)) = true := decide_eq_true c2
    have c2b1 : decide (32768 < a0.size) = true := decide_eq_true (by omega)
    clear c2
    simp only [Option.some.injEq, Prod.mk.injEq] at H
    obtain ⟨rfl, rfl, rfl⟩ := H
    go_enter Tryd.func32, Tryd.ntmps32
    go_wp2
    go_ret3
    exact ⟨_, by first | rfl | (simp [errW_none, errW_some] <;> rfl) | (simp [*, errW_none, errW_some] <;> rfl), by first | exact Kd.S_nil _ _ _ _ _ | exact Kd.N_nil _ _ _ _ _ | exact Kd.V_nil _ _ _ _ _ | exact Kd.Q_nil _ _ _ _ _ | exact Kd.R_nil _ _ _ _ _, by repeat (first | (with_reducible first | exact HB.out | apply below_alloc | apply pw_below_drewN | apply below_drew1) | exact HB.out)⟩
  · rw [if_neg c2] at H
    have c2b0 : decide (32768 < (a0.size : Int)) = false := decide_eq_false c2
    have c2b1 : decide (32768 < a0.size) = false := decide_eq_false (by omega)
    clear c2
    replace H := Option.bind_eq_some_iff.mp H
    obtain ⟨t251, A30, H⟩ := H
    replace H : (scholiaref29_Parse.l0 k a0 ([] : List (S42)) t251 (t251.length : Int) 0) = some (r1, r2, r3) := H
    have A3 := Aside0.mk A30
    clear A30
    have H' := Aside0.mk H
    clear H
    go_enter Tryd.func32, Tryd.ntmps32
    go_wp2_with (first | ((with_reducible refine gate_callee (f := 67) rfl ?_); refine goesL_ (some 14) rfl rfl Tryd.func67 (by kernel_rfl) rfl #[.string a0] rfl (by (try simp only [List.map_toArray, List.map_cons, List.map_nil]); first | done | rfl | (simp only [List.length_drop, List.length_take]; rfl)) ?_; (with_reducible refine (scholiaref29_Lines.calls k a0 t251 _ A3.out).mono ?_); rintro e w4 ⟨v252, rfl, ho0, hb⟩; refine ⟨_, rfl, ?_⟩; have n0_ := Aside0.mk (Kd.R_lower ho0 (below_size (by repeat (first | (with_reducible first | exact HB.out | apply below_alloc | apply pw_below_drewN | apply below_drew1) | exact HB.out)))); have n1_ := Aside0.mk (below_step (by repeat (first | (with_reducible first | exact HB.out | apply below_alloc | apply pw_below_drewN | apply below_drew1) | exact HB.out)) hb); clear HB; have HO253 := n0_; have HB := n1_; clear n0_ n1_; (try clear hb); (try clear hb2); (try clear hk); (try clear hi); (try clear ho0); obtain ⟨Ao5, co5, eo5⟩ := Kd.R_slice HO253.out; subst eo5))
    go_loopg [5, 16] k (fun kq v5 v16 w' => ∃ (x5_1 : List (S42)) (x16_1 : Int), v16 = .int .i64 x16_1 ∧ Aside0 (scholiaref29_Parse.l0 kq a0 x5_1 t251 (t251.length : Int) x16_1 = some (r1, r2, r3)) ∧ Aside0 (kq ≤ k) ∧ Aside0 (Kd.S k42 42 w' w.heap.size (fun _ => True) v5 x5_1) ∧ Aside0 (Kd.R Kd.string 9 w' w.heap.size (fun _ => True) (.slice Ao5 t251.length co5) t251) ∧ Aside0 (Below w.heap.size w w'))
    case atStart => exact ⟨(([] : List (S42))), (0), (by first | rfl | (simp; done) | (simp [*]; done)), H', ⟨Nat.le_refl _⟩, ⟨by first | exact Kd.S_nil _ _ _ _ _ | exact Kd.N_nil _ _ _ _ _ | exact Kd.V_nil _ _ _ _ _ | exact Kd.Q_nil _ _ _ _ _ | exact Kd.R_nil _ _ _ _ _⟩, ⟨by (with_reducible repeat (first | apply Kd.R_alloc | apply Kd.R_drewN | apply Kd.R_drew)); exact HO253.out⟩, ⟨by repeat (first | (with_reducible first | exact HB.out | apply below_alloc | apply pw_below_drewN | apply below_drew1) | exact HB.out)⟩⟩
    case round =>
      clear H'
      try clear c2
      try clear c2b0
      try clear c2b1
      try clear p2
      try clear c3
      obtain ⟨x5_1, x16_1, rfl, HA, HK1, HO_5, HO_14, HB⟩ := hrel
      cases gk with
      | zero => exact absurd HA.out (by simp [scholiaref29_Parse.l0])
      | succ k1 =>
        have H := HA.out
        clear HA
        simp only [scholiaref29_Parse.l0] at H
        by_cases c6 : x16_1 < (t251.length : Int)
        · rw [if_pos c6] at H
          have c6b0 : decide (x16_1 < (t251.length : Int)) = true := decide_eq_true c6
          clear c6
          by_cases c7 : 0 ≤ x16_1
          · rw [if_pos c7] at H
            have c7b0 : decide (0 ≤ x16_1) = true := decide_eq_true c7
            clear c7
            by_cases c8 : x16_1 < (t251.length : Int)
            · rw [if_pos c8] at H
              have c8b0 : decide (x16_1 < (t251.length : Int)) = true := decide_eq_true c8
              clear c8
              by_cases c9 : (rdOf ByteArray.empty t251 x16_1).toList = ([] : List UInt8)
              · rw [if_pos c9] at H
                have c9b0 : ((rdOf ByteArray.empty t251 x16_1).toList == ([] : List UInt8)) = true := beq_iff_eq.mpr c9
                have c9b1 : ((rdOf ByteArray.empty t251 x16_1).toList != ([] : List UInt8)) = false := bne_eq_false_iff_eq.mpr c9
                clear c9
                have H' := Aside0.mk H
                clear H
                have p257 : 0 ≤ (x16_1 : Int) := of_decide_eq_true (by first | (with_reducible assumption) | assumption)
                have q257 : x16_1 < (t251.length : Int) := of_decide_eq_true (by first | (with_reducible assumption) | assumption)
                obtain ⟨ad257, e257, hx257_0⟩ := Kd.at_string (Kd.R_reads' HO_14.out).2.2 x16_1 p257 q257
                cases e257
                replace p257 := eq_true p257
                replace q257 := eq_true q257
                go_wp2
                go_roundg k1
                case measure => have := HK1.out; omega
                case rel => exact ⟨(x5_1), (wrap64 (x16_1 + 1)), (by first | rfl | (simp; done) | (simp [*]; done)), H', ⟨by have := HK1.out; omega⟩, ⟨by (with_reducible repeat (first | apply Kd.S_alloc | apply Kd.S_drewN | apply Kd.S_drew)); exact HO_5.out⟩, ⟨by (with_reducible repeat (first | apply Kd.R_alloc | apply Kd.R_drewN | apply Kd.R_drew)); exact HO_14.out⟩, ⟨by repeat (first | (with_reducible first | exact HB.out | apply below_alloc | apply pw_below_drewN | apply below_drew1) | exact HB.out)⟩⟩
              · rw [if_neg c9] at H
                have c9b0 : ((rdOf ByteArray.empty t251 x16_1).toList == ([] : List UInt8)) = false := beq_eq_false_iff_ne.mpr c9
                have c9b1 : ((rdOf ByteArray.empty t251 x16_1).toList != ([] : List UInt8)) = true := bne_iff_ne.mpr c9
                replace H := Option.bind_eq_some_iff.mp H
                obtain ⟨⟨t258, t259, t260, t261, t262, t263, t264, t265, t266, t267, t270⟩, A100, H⟩ := H
                replace H : (if t270 = true then (if x5_1.length < 1256584717458 then (scholiaref29_Parse.l0 k1 a0 (x5_1 ++ [(⟨t258, t259, t260, t261, t262, t263, t264, t265, t266, t267⟩ : S42)]) t251 (t251.length : Int) (wrap64 (x16_1 + 1))) else (none)) else (some (x5_1, x16_1, 17))) = some (r1, r2, r3) := H
                have A10 := Aside0.mk A100
                clear A100
                by_cases c11 : t270 = true
                · subst c11
                  have H1 : (if x5_1.length < 1256584717458 then (scholiaref29_Parse.l0 k1 a0 (x5_1 ++ [(⟨t258, t259, t260, t261, t262, t263, t264, t265, t266, t267⟩ : S42)]) t251 (t251.length : Int) (wrap64 (x16_1 + 1))) else (none)) = some (r1, r2, r3) := by rw [if_pos rfl] at H; exact H
                  clear H
                  have H := H1
                  clear H1
                  by_cases c12 : x5_1.length < 1256584717458
                  · rw [if_pos c12] at H
                    have LMc12 := Aside0.mk c12
                    clear c12
                    obtain ⟨y272, hy272⟩ : ∃ y_ : List (S42), y_ = (x5_1 ++ [(⟨t258, t259, t260, t261, t262, t263, t264, t265, t266, t267⟩ : S42)]) := ⟨_, rfl⟩
                    replace H : (scholiaref29_Parse.l0 k1 a0 y272 t251 (t251.length : Int) (wrap64 (x16_1 + 1))) = some (r1, r2, r3) := by first | (rw [hy272]; with_reducible exact H) | (have H2_ := (Option.bind_some _ _).symm.trans H; rw [hy272]; with_reducible exact H2_) | (have H2_ := (Option.bind_some _ _).symm.trans H; with_reducible exact H2_) | with_reducible exact H | (rw [hy272]; exact H) | exact H
                    have Ny272 := Aside0.mk hy272
                    clear hy272
                    have H' := Aside0.mk H
                    clear H
                    have p257 : 0 ≤ (x16_1 : Int) := of_decide_eq_true (by first | (with_reducible assumption) | assumption)
                    have q257 : x16_1 < (t251.length : Int) := of_decide_eq_true (by first | (with_reducible assumption) | assumption)
                    obtain ⟨ad257, e257, hx257_0⟩ := Kd.at_string (Kd.R_reads' HO_14.out).2.2 x16_1 p257 q257
                    cases e257
                    replace p257 := eq_true p257
                    replace q257 := eq_true q257
                    go_wp2_with (first | ((with_reducible refine gate_callee (f := 28) rfl ?_); refine goesL_ (some 25) rfl rfl Tryd.func28 (by kernel_rfl) rfl #[.string (rdOf ByteArray.empty t251 x16_1)] rfl (by (try simp only [List.map_toArray, List.map_cons, List.map_nil]); first | done | rfl | (simp only [List.length_drop, List.length_take]; rfl)) ?_; (with_reducible refine (scholiaref29_Read.calls (rdOf ByteArray.empty t251 x16_1) t258 t259 t260 t261 t262 t263 t264 t265 t266 t267 true _ A10.out).mono ?_); rintro e w13 ⟨v268, rfl, ho0, hb⟩; refine ⟨_, rfl, ?_⟩; have n0_ := Aside0.mk (Kd.S_elder' (by (with_reducible repeat (first | apply Kd.S_alloc | apply Kd.S_drewN | apply Kd.S_drew)); exact HO_5.out) (Kd.R_base ho0) hb); have n1_ := Aside0.mk (Kd.R_below (by (with_reducible repeat (first | apply Kd.R_alloc | apply Kd.R_drewN | apply Kd.R_drew)); exact HO_14.out) hb); have n2_ := Aside0.mk (Kd.R_lower ho0 (below_size (by repeat (first | (with_reducible first | exact HB.out | apply below_alloc | apply pw_below_drewN | apply below_drew1) | exact HB.out)))); have n3_ := Aside0.mk (below_step (by repeat (first | (with_reducible first | exact HB.out | apply below_alloc | apply pw_below_drewN | apply below_drew1) | exact HB.out)) hb); clear HO_5; clear HO_14; clear HB; have HO_5 := n0_; have HO_14 := n1_; have HO269 := n2_; have HB := n3_; clear n0_ n1_ n2_ n3_; (try clear hb); (try clear hb2); (try clear hk); (try clear hi); (try clear ho0)) | ((with_reducible refine gate_dst (N := 8) rfl ?_); refine box_event ?hg (N := 8) ?hd (cs := #[.int .i64 0, .int .i64 0, .int .i64 0, .int .i64 0, .int .i64 0, .int .i64 0, .string (⟨#[]⟩ : ByteArray), .int .i64 0, .string (⟨#[]⟩ : ByteArray), .slice none 0 0]) (t := 42) ?hr ?_; (case hd => rfl); (case hg => rfl); (case hr => first | (go_simp; done) | (go_simp; rfl)); intro gb271 hg w14 hbox hb; have n0_ := Aside0.mk (Kd.S_below (Kd.S_elderB (by (with_reducible repeat (first | apply Kd.S_alloc | apply Kd.S_drewN | apply Kd.S_drew)); exact HO_5.out) gb271 (Nat.le_of_eq hg.symm)) hb); have n1_ := Aside0.mk (Kd.R_below (by (with_reducible repeat (first | apply Kd.R_alloc | apply Kd.R_drewN | apply Kd.R_drew)); exact HO_14.out) hb); have n2_ := Aside0.mk (Kd.R_below (by (with_reducible repeat (first | apply Kd.R_alloc | apply Kd.R_drewN | apply Kd.R_drew)); exact HO269.out) hb); have n3_ := Aside0.mk (below_step (by repeat (first | (with_reducible first | exact HB.out | apply below_alloc | apply pw_below_drewN | apply below_drew1) | exact HB.out)) hb); have n4_ := Aside0.mk (hbox); have n5_ := Aside0.mk ((by rw [hg]; exact (below_size (by repeat (first | (with_reducible first | exact HB.out | apply below_alloc | apply pw_below_drewN | apply below_drew1) | exact HB.out))) : w.heap.size ≤ gb271)); have n6_ := Aside0.mk ((by rw [hg]; exact (below_size (by repeat (first | (with_reducible first | exact HB.out | apply below_alloc | apply pw_below_drewN | apply below_drew1) | exact HB.out))) : w.heap.size ≤ gb271)); clear HO_5; clear HO_14; clear HO269; clear HB; have HO_5 := n0_; have HO_14 := n1_; have HO269 := n2_; have HB := n3_; have BK271 := n4_; have GW271 := n5_; have GE271 := n6_; clear n0_ n1_ n2_ n3_ n4_ n5_ n6_; clear hb hbox hg; have hcz15_0 : w14.cell? ⟨gb271, 0, none⟩ = some (.int .i64 0) := (blk_cell BK271.out 0).trans rfl; have hcz15_1 : w14.cell? ⟨gb271, 1, none⟩ = some (.int .i64 0) := (blk_cell BK271.out 1).trans rfl; have hcz15_2 : w14.cell? ⟨gb271, 2, none⟩ = some (.int .i64 0) := (blk_cell BK271.out 2).trans rfl; have hcz15_3 : w14.cell? ⟨gb271, 3, none⟩ = some (.int .i64 0) := (blk_cell BK271.out 3).trans rfl; have hcz15_4 : w14.cell? ⟨gb271, 4, none⟩ = some (.int .i64 0) := (blk_cell BK271.out 4).trans rfl; have hcz15_5 : w14.cell? ⟨gb271, 5, none⟩ = some (.int .i64 0) := (blk_cell BK271.out 5).trans rfl; have hcz15_6 : w14.cell? ⟨gb271, 6, none⟩ = some (.string (⟨#[]⟩ : ByteArray)) := (blk_cell BK271.out 6).trans rfl; have hcz15_7 : w14.cell? ⟨gb271, 7, none⟩ = some (.int .i64 0) := (blk_cell BK271.out 7).trans rfl; have hcz15_8 : w14.cell? ⟨gb271, 8, none⟩ = some (.string (⟨#[]⟩ : ByteArray)) := (blk_cell BK271.out 8).trans rfl; have hcz15_9 : w14.cell? ⟨gb271, 9, none⟩ = some (.slice none 0 0) := (blk_cell BK271.out 9).trans rfl; have hfz15_0 := blk_frozen BK271.out 0; have hfz15_1 := blk_frozen BK271.out 1; have hfz15_2 := blk_frozen BK271.out 2; have hfz15_3 := blk_frozen BK271.out 3; have hfz15_4 := blk_frozen BK271.out 4; have hfz15_5 := blk_frozen BK271.out 5; have hfz15_6 := blk_frozen BK271.out 6; have hfz15_7 := blk_frozen BK271.out 7; have hfz15_8 := blk_frozen BK271.out 8; have hfz15_9 := blk_frozen BK271.out 9; obtain ⟨Ao16, co16, eo16⟩ := Kd.R_slice HO269.out; subst eo16) | ((with_reducible refine gate_store (t := 42) (p := 8) rfl ?_); refine store_event (t := 42) (p := 8) (v := ?vo_w17) (w1 := ((((((((((w14.setCell ⟨gb271, 0, none⟩ (.int .i64 t258)).setCell ⟨gb271, 1, none⟩ (.int .i64 t259)).setCell ⟨gb271, 2, none⟩ (.int .i64 t260)).setCell ⟨gb271, 3, none⟩ (.int .i64 t261)).setCell ⟨gb271, 4, none⟩ (.int .i64 t262)).setCell ⟨gb271, 5, none⟩ (.int .i64 t263)).setCell ⟨gb271, 6, none⟩ (.string t264)).setCell ⟨gb271, 7, none⟩ (.int .i64 t265)).setCell ⟨gb271, 8, none⟩ (.string t266)).setCell ⟨gb271, 9, none⟩ (.slice Ao16 t267.length co16))) ?hg ?ho ?hn ?hr ?_; (case ho => rfl); (case hg => rfl); (case hn => rfl); (case hr => first | (go_simp; done) | (go_simp; rfl)); intro w17 hw; have n0_ : Aside0 (Kd.S k42 42 w17 w.heap.size (fun k_ => some k_ ≠ (.slice Ao16 t267.length co16 : Value).ownBlock ∧ k_ ≠ gb271) u5 x5_1) := ⟨(by rw [hw]; exact (by (with_reducible repeat (first | apply Kd.S_alloc | apply Kd.S_drewN | apply Kd.S_drew)); exact Kd.S_mono (Kd.S_far (p := ⟨gb271, 9, none⟩) (Kd.S_far (p := ⟨gb271, 8, none⟩) (Kd.S_far (p := ⟨gb271, 7, none⟩) (Kd.S_far (p := ⟨gb271, 6, none⟩) (Kd.S_far (p := ⟨gb271, 5, none⟩) (Kd.S_far (p := ⟨gb271, 4, none⟩) (Kd.S_far (p := ⟨gb271, 3, none⟩) (Kd.S_far (p := ⟨gb271, 2, none⟩) (Kd.S_far (p := ⟨gb271, 1, none⟩) (Kd.S_far (p := ⟨gb271, 0, none⟩) (Kd.S_mono HO_5.out (fun k_ hk => (⟨hk, hk.2⟩ : _ ∧ k_ ≠ gb271))) (fun _ hk => hk.2) (.int .i64 t258)) (fun _ hk => hk.2) (.int .i64 t259)) (fun _ hk => hk.2) (.int .i64 t260)) (fun _ hk => hk.2) (.int .i64 t261)) (fun _ hk => hk.2) (.int .i64 t262)) (fun _ hk => hk.2) (.int .i64 t263)) (fun _ hk => hk.2) (.string t264)) (fun _ hk => hk.2) (.int .i64 t265)) (fun _ hk => hk.2) (.string t266)) (fun _ hk => hk.2) (.slice Ao16 t267.length co16)) (fun _ hk => ⟨hk.1.1.2, hk.1.2⟩)))⟩; have n1_ : Aside0 (Kd.R Kd.string 9 w17 w.heap.size (fun _ => True) (.slice (some ad257) t251.length co5) t251) := ⟨(by rw [hw]; exact (by (with_reducible repeat (first | apply Kd.R_alloc | apply Kd.R_drewN | apply Kd.R_drew)); exact Kd.R_mono (Kd.R_far (p := ⟨gb271, 9, none⟩) (Kd.R_far (p := ⟨gb271, 8, none⟩) (Kd.R_far (p := ⟨gb271, 7, none⟩) (Kd.R_far (p := ⟨gb271, 6, none⟩) (Kd.R_far (p := ⟨gb271, 5, none⟩) (Kd.R_far (p := ⟨gb271, 4, none⟩) (Kd.R_far (p := ⟨gb271, 3, none⟩) (Kd.R_far (p := ⟨gb271, 2, none⟩) (Kd.R_far (p := ⟨gb271, 1, none⟩) (Kd.R_far (p := ⟨gb271, 0, none⟩) (Kd.R_types HO_14.out BK271.out (by decide)) (fun _ hk => hk.2) (.int .i64 t258)) (fun _ hk => hk.2) (.int .i64 t259)) (fun _ hk => hk.2) (.int .i64 t260)) (fun _ hk => hk.2) (.int .i64 t261)) (fun _ hk => hk.2) (.int .i64 t262)) (fun _ hk => hk.2) (.int .i64 t263)) (fun _ hk => hk.2) (.string t264)) (fun _ hk => hk.2) (.int .i64 t265)) (fun _ hk => hk.2) (.string t266)) (fun _ hk => hk.2) (.slice Ao16 t267.length co16)) (fun _ hk => trivial)))⟩; have n2_ : Aside0 (Kd.R (Kd.int .i64) 3 w17 w.heap.size (fun _ => True) (.slice Ao16 t267.length co16) t267) := ⟨(by rw [hw]; exact (by (with_reducible repeat (first | apply Kd.R_alloc | apply Kd.R_drewN | apply Kd.R_drew)); exact Kd.R_mono (Kd.R_far (p := ⟨gb271, 9, none⟩) (Kd.R_far (p := ⟨gb271, 8, none⟩) (Kd.R_far (p := ⟨gb271, 7, none⟩) (Kd.R_far (p := ⟨gb271, 6, none⟩) (Kd.R_far (p := ⟨gb271, 5, none⟩) (Kd.R_far (p := ⟨gb271, 4, none⟩) (Kd.R_far (p := ⟨gb271, 3, none⟩) (Kd.R_far (p := ⟨gb271, 2, none⟩) (Kd.R_far (p := ⟨gb271, 1, none⟩) (Kd.R_far (p := ⟨gb271, 0, none⟩) (Kd.R_types HO269.out BK271.out (by decide)) (fun _ hk => hk.2) (.int .i64 t258)) (fun _ hk => hk.2) (.int .i64 t259)) (fun _ hk => hk.2) (.int .i64 t260)) (fun _ hk => hk.2) (.int .i64 t261)) (fun _ hk => hk.2) (.int .i64 t262)) (fun _ hk => hk.2) (.int .i64 t263)) (fun _ hk => hk.2) (.string t264)) (fun _ hk => hk.2) (.int .i64 t265)) (fun _ hk => hk.2) (.string t266)) (fun _ hk => hk.2) (.slice Ao16 t267.length co16)) (fun _ hk => trivial)))⟩; have n3_ : Aside0 (w17.heap[gb271]? = some (.cells #[.int .i64 t258, .int .i64 t259, .int .i64 t260, .int .i64 t261, .int .i64 t262, .int .i64 t263, .string t264, .int .i64 t265, .string t266, .slice Ao16 t267.length co16] 42 (0, 0))) := ⟨(by rw [hw]; exact (by (with_reducible repeat (first | refine blk_drewN ?_ _ | refine blk_drew ?_ | refine blk_alloc ?_ _)); refine blk_put (cs := #[.int .i64 t258, .int .i64 t259, .int .i64 t260, .int .i64 t261, .int .i64 t262, .int .i64 t263, .string t264, .int .i64 t265, .string t266, .slice none 0 0]) ?_ 9 _ rfl; (with_reducible repeat (first | refine blk_drewN ?_ _ | refine blk_drew ?_ | refine blk_alloc ?_ _)); refine blk_put (cs := #[.int .i64 t258, .int .i64 t259, .int .i64 t260, .int .i64 t261, .int .i64 t262, .int .i64 t263, .string t264, .int .i64 t265, .string (⟨#[]⟩ : ByteArray), .slice none 0 0]) ?_ 8 _ rfl; (with_reducible repeat (first | refine blk_drewN ?_ _ | refine blk_drew ?_ | refine blk_alloc ?_ _)); refine blk_put (cs := #[.int .i64 t258, .int .i64 t259, .int .i64 t260, .int .i64 t261, .int .i64 t262, .int .i64 t263, .string t264, .int .i64 0, .string (⟨#[]⟩ : ByteArray), .slice none 0 0]) ?_ 7 _ rfl; (with_reducible repeat (first | refine blk_drewN ?_ _ | refine blk_drew ?_ | refine blk_alloc ?_ _)); refine blk_put (cs := #[.int .i64 t258, .int .i64 t259, .int .i64 t260, .int .i64 t261, .int .i64 t262, .int .i64 t263, .string (⟨#[]⟩ : ByteArray), .int .i64 0, .string (⟨#[]⟩ : ByteArray), .slice none 0 0]) ?_ 6 _ rfl; (with_reducible repeat (first | refine blk_drewN ?_ _ | refine blk_drew ?_ | refine blk_alloc ?_ _)); refine blk_put (cs := #[.int .i64 t258, .int .i64 t259, .int .i64 t260, .int .i64 t261, .int .i64 t262, .int .i64 0, .string (⟨#[]⟩ : ByteArray), .int .i64 0, .string (⟨#[]⟩ : ByteArray), .slice none 0 0]) ?_ 5 _ rfl; (with_reducible repeat (first | refine blk_drewN ?_ _ | refine blk_drew ?_ | refine blk_alloc ?_ _)); refine blk_put (cs := #[.int .i64 t258, .int .i64 t259, .int .i64 t260, .int .i64 t261, .int .i64 0, .int .i64 0, .string (⟨#[]⟩ : ByteArray), .int .i64 0, .string (⟨#[]⟩ : ByteArray), .slice none 0 0]) ?_ 4 _ rfl; (with_reducible repeat (first | refine blk_drewN ?_ _ | refine blk_drew ?_ | refine blk_alloc ?_ _)); refine blk_put (cs := #[.int .i64 t258, .int .i64 t259, .int .i64 t260, .int .i64 0, .int .i64 0, .int .i64 0, .string (⟨#[]⟩ : ByteArray), .int .i64 0, .string (⟨#[]⟩ : ByteArray), .slice none 0 0]) ?_ 3 _ rfl; (with_reducible repeat (first | refine blk_drewN ?_ _ | refine blk_drew ?_ | refine blk_alloc ?_ _)); refine blk_put (cs := #[.int .i64 t258, .int .i64 t259, .int .i64 0, .int .i64 0, .int .i64 0, .int .i64 0, .string (⟨#[]⟩ : ByteArray), .int .i64 0, .string (⟨#[]⟩ : ByteArray), .slice none 0 0]) ?_ 2 _ rfl; (with_reducible repeat (first | refine blk_drewN ?_ _ | refine blk_drew ?_ | refine blk_alloc ?_ _)); refine blk_put (cs := #[.int .i64 t258, .int .i64 0, .int .i64 0, .int .i64 0, .int .i64 0, .int .i64 0, .string (⟨#[]⟩ : ByteArray), .int .i64 0, .string (⟨#[]⟩ : ByteArray), .slice none 0 0]) ?_ 1 _ rfl; (with_reducible repeat (first | refine blk_drewN ?_ _ | refine blk_drew ?_ | refine blk_alloc ?_ _)); refine blk_put (cs := #[.int .i64 0, .int .i64 0, .int .i64 0, .int .i64 0, .int .i64 0, .int .i64 0, .string (⟨#[]⟩ : ByteArray), .int .i64 0, .string (⟨#[]⟩ : ByteArray), .slice none 0 0]) ?_ 0 _ rfl; (with_reducible repeat (first | refine blk_drewN ?_ _ | refine blk_drew ?_ | refine blk_alloc ?_ _)); exact BK271.out))⟩; have n4_ : Aside0 (Below w.heap.size w w17) := ⟨(by rw [hw]; exact (by repeat (first | (with_reducible first | exact HB.out | apply below_alloc | apply pw_below_drewN | apply below_drew1 | refine below_set ?_ GE271.out) | exact HB.out)))⟩; clear hw; clear HO_5; clear HO_14; clear HO269; clear BK271; clear HB; have HO_5 := n0_; have HO_14 := n1_; have HO269 := n2_; have BK271 := n3_; have HB := n4_; clear n0_ n1_ n2_ n3_ n4_; have hcz18_0 : w17.cell? ⟨gb271, 0, none⟩ = some (.int .i64 t258) := (blk_cell BK271.out 0).trans rfl; have hcz18_1 : w17.cell? ⟨gb271, 1, none⟩ = some (.int .i64 t259) := (blk_cell BK271.out 1).trans rfl; have hcz18_2 : w17.cell? ⟨gb271, 2, none⟩ = some (.int .i64 t260) := (blk_cell BK271.out 2).trans rfl; have hcz18_3 : w17.cell? ⟨gb271, 3, none⟩ = some (.int .i64 t261) := (blk_cell BK271.out 3).trans rfl; have hcz18_4 : w17.cell? ⟨gb271, 4, none⟩ = some (.int .i64 t262) := (blk_cell BK271.out 4).trans rfl; have hcz18_5 : w17.cell? ⟨gb271, 5, none⟩ = some (.int .i64 t263) := (blk_cell BK271.out 5).trans rfl; have hcz18_6 : w17.cell? ⟨gb271, 6, none⟩ = some (.string t264) := (blk_cell BK271.out 6).trans rfl; have hcz18_7 : w17.cell? ⟨gb271, 7, none⟩ = some (.int .i64 t265) := (blk_cell BK271.out 7).trans rfl; have hcz18_8 : w17.cell? ⟨gb271, 8, none⟩ = some (.string t266) := (blk_cell BK271.out 8).trans rfl; have hcz18_9 : w17.cell? ⟨gb271, 9, none⟩ = some (.slice Ao16 t267.length co16) := (blk_cell BK271.out 9).trans rfl; have hfz18_0 := blk_frozen BK271.out 0; have hfz18_1 := blk_frozen BK271.out 1; have hfz18_2 := blk_frozen BK271.out 2; have hfz18_3 := blk_frozen BK271.out 3; have hfz18_4 := blk_frozen BK271.out 4; have hfz18_5 := blk_frozen BK271.out 5; have hfz18_6 := blk_frozen BK271.out 6; have hfz18_7 := blk_frozen BK271.out 7; have hfz18_8 := blk_frozen BK271.out 8; have hfz18_9 := blk_frozen BK271.out 9) | ((with_reducible refine gate_builtin (b := .append) (xs := #[.tmp 32, .tmp 34]) rfl ?_); at_builtin; refine Kd.S_append k42 (w0 := w) w.heap.size rfl (.tmp 32) (.tmp 34) 44 42 (.agg #[(.int .i64 0), (.int .i64 0), (.int .i64 0), (.int .i64 0), (.int .i64 0), (.int .i64 0), (.string ⟨#[]⟩), (.int .i64 0), (.string ⟨#[]⟩), (.slice none 0 0)]) 112 rfl Tryd.underlying44 info42 rfl (by decide) (by omega) u5 x5_1 (⟨t258, t259, t260, t261, t262, t263, t264, t265, t266, t267⟩ : S42) [.int .i64 t258, .int .i64 t259, .int .i64 t260, .int .i64 t261, .int .i64 t262, .int .i64 t263, .string t264, .int .i64 t265, .string t266, .slice Ao16 t267.length co16] (fun k_ => k_ ≠ gb271) (fun k_ => some k_ = (.slice Ao16 t267.length co16 : Value).ownBlock) rfl rfl ?aP (fun k_ hk_ => ((Kd.R_mono (ok' := fun k_ => ((fun k_ => k_ ≠ gb271)) k_ ∧ some k_ ≠ (u5 : Value).ownBlock) (Kd.R_types (Kd.R_apart' (HO269.out) (Kd.S_typed HO_5.out) (by decide)) BK271.out (by decide)) (fun k_ hk => ⟨hk.2, hk.1.2⟩))).1 k_ hk_.symm) ?aF ?aO ?aB ?aS ?aL ?_; (case aP => exact k42_mkM _ _ _ (⟨t258, t259, t260, t261, t262, t263, t264, t265, t266, t267⟩ : S42) (Kd.R_mono (Kd.R_tight rfl (Kd.R_mono (ok' := fun k_ => ((fun k_ => k_ ≠ gb271)) k_ ∧ some k_ ≠ (u5 : Value).ownBlock) (Kd.R_types (Kd.R_apart' (HO269.out) (Kd.S_typed HO_5.out) (by decide)) BK271.out (by decide)) (fun k_ hk => ⟨hk.2, hk.1.2⟩))) (fun _ h_ => h_))); (case aB => exact (by repeat (first | (with_reducible first | exact HB.out | apply below_alloc | apply pw_below_drewN | apply below_drew1 | refine below_set ?_ GE271.out) | exact HB.out))); (case aF => exact (fun k_ hk => Kd.freshB (g := gb271) (o := .cells #[.int .i64 t258, .int .i64 t259, .int .i64 t260, .int .i64 t261, .int .i64 t262, .int .i64 t263, .string t264, .int .i64 t265, .string t266, .slice Ao16 t267.length co16] 42 (0, 0)) (by (with_reducible repeat (first | refine blk_drewN ?_ _ | refine blk_drew ?_ | refine blk_alloc ?_ _)); exact BK271.out) k_ hk)); (case aO => exact (by (with_reducible repeat (first | apply Kd.S_alloc | apply Kd.S_drewN | apply Kd.S_drew)); exact Kd.S_mono HO_5.out (fun k_ hk => ⟨hk.2, fun e_ => hk.1 e_⟩))); (case aS => exact (below_size (by repeat (first | (with_reducible first | exact HB.out | apply below_alloc | apply pw_below_drewN | apply below_drew1 | refine below_set ?_ GE271.out) | exact HB.out)))); (case aL => have := LMc12.out; omega); intro v273 w19 ho hb hg hat; rw [← Ny272.out] at ho; have n0_ := Aside0.mk (Kd.R_over' (by (with_reducible repeat (first | apply Kd.R_alloc | apply Kd.R_drewN | apply Kd.R_drew)); exact HO_14.out) (Kd.S_typed (by (with_reducible repeat (first | apply Kd.S_alloc | apply Kd.S_drewN | apply Kd.S_drew)); exact HO_5.out)) (by decide) hg); have n1_ := Aside0.mk (blk_grown (g := gb271) (o := .cells #[.int .i64 t258, .int .i64 t259, .int .i64 t260, .int .i64 t261, .int .i64 t262, .int .i64 t263, .string t264, .int .i64 t265, .string t266, .slice Ao16 t267.length co16] 42 (0, 0)) (by (with_reducible repeat (first | refine blk_drewN ?_ _ | refine blk_drew ?_ | refine blk_alloc ?_ _)); exact BK271.out) hg (Kd.S_away HO_5.out (fun _ hk => hk.2))); have n2_ := Aside0.mk (hb); have n3_ := Aside0.mk (ho); clear HO_14; clear BK271; clear HB; clear HO_5; clear HO269; have HO_14 := n0_; have BK271 := n1_; have HB := n2_; have HO274 := n3_; clear n0_ n1_ n2_ n3_; clear ho hb hg hat))
                    go_roundg k1
                    case measure => have := HK1.out; omega
                    case rel => exact ⟨(y272), (wrap64 (x16_1 + 1)), (by first | rfl | (simp; done) | (simp [*]; done)), H', ⟨by have := HK1.out; omega⟩, ⟨by (with_reducible repeat (first | apply Kd.S_alloc | apply Kd.S_drewN | apply Kd.S_drew)); exact Kd.S_mono HO274.out (fun _ hk => trivial)⟩, ⟨by (with_reducible repeat (first | apply Kd.R_alloc | apply Kd.R_drewN | apply Kd.R_drew)); exact HO_14.out⟩, ⟨by repeat (first | (with_reducible first | exact HB.out | apply below_alloc | apply pw_below_drewN | apply below_drew1 | refine below_set ?_ GE271.out) | exact HB.out)⟩⟩
                  · rw [if_neg c12] at H
                    exact absurd H (by simp)
                · replace c11 := Bool.eq_false_iff.mpr c11
                  subst c11
                  have H1 : (some (x5_1, x16_1, 17)) = some (r1, r2, r3) := by rw [if_neg (show ¬ (false = true) by decide)] at H; exact H
                  clear H
                  have H := H1
                  clear H1
                  simp only [Option.some.injEq, Prod.mk.injEq] at H
                  obtain ⟨rfl, rfl, rfl⟩ := H
                  have p257 : 0 ≤ (x16_1 : Int) := of_decide_eq_true (by first | (with_reducible assumption) | assumption)
                  have q257 : x16_1 < (t251.length : Int) := of_decide_eq_true (by first | (with_reducible assumption) | assumption)
                  obtain ⟨ad257, e257, hx257_0⟩ := Kd.at_string (Kd.R_reads' HO_14.out).2.2 x16_1 p257 q257
                  cases e257
                  replace p257 := eq_true p257
                  replace q257 := eq_true q257
                  go_wp2_with (first | ((with_reducible refine gate_callee (f := 28) rfl ?_); refine goesL_ (some 25) rfl rfl Tryd.func28 (by kernel_rfl) rfl #[.string (rdOf ByteArray.empty t251 x16_1)] rfl (by (try simp only [List.map_toArray, List.map_cons, List.map_nil]); first | done | rfl | (simp only [List.length_drop, List.length_take]; rfl)) ?_; (with_reducible refine (scholiaref29_Read.calls (rdOf ByteArray.empty t251 x16_1) t258 t259 t260 t261 t262 t263 t264 t265 t266 t267 false _ A10.out).mono ?_); rintro e w20 ⟨v268, rfl, ho0, hb⟩; refine ⟨_, rfl, ?_⟩; have n0_ := Aside0.mk (Kd.S_elder' (by (with_reducible repeat (first | apply Kd.S_alloc | apply Kd.S_drewN | apply Kd.S_drew)); exact HO_5.out) (Kd.R_base ho0) hb); have n1_ := Aside0.mk (Kd.R_below (by (with_reducible repeat (first | apply Kd.R_alloc | apply Kd.R_drewN | apply Kd.R_drew)); exact HO_14.out) hb); have n2_ := Aside0.mk (Kd.R_lower ho0 (below_size (by repeat (first | (with_reducible first | exact HB.out | apply below_alloc | apply pw_below_drewN | apply below_drew1) | exact HB.out)))); have n3_ := Aside0.mk (below_step (by repeat (first | (with_reducible first | exact HB.out | apply below_alloc | apply pw_below_drewN | apply below_drew1) | exact HB.out)) hb); clear HO_5; clear HO_14; clear HB; have HO_5 := n0_; have HO_14 := n1_; have HO269 := n2_; have HB := n3_; clear n0_ n1_ n2_ n3_; (try clear hb); (try clear hb2); (try clear hk); (try clear hi); (try clear ho0)) | ((with_reducible refine gate_dst (N := 8) rfl ?_); refine box_event ?hg (N := 8) ?hd (cs := #[.int .i64 0, .int .i64 0, .int .i64 0, .int .i64 0, .int .i64 0, .int .i64 0, .string (⟨#[]⟩ : ByteArray), .int .i64 0, .string (⟨#[]⟩ : ByteArray), .slice none 0 0]) (t := 42) ?hr ?_; (case hd => rfl); (case hg => rfl); (case hr => first | (go_simp; done) | (go_simp; rfl)); intro gb271 hg w21 hbox hb; have n0_ := Aside0.mk (Kd.S_below (Kd.S_elderB (by (with_reducible repeat (first | apply Kd.S_alloc | apply Kd.S_drewN | apply Kd.S_drew)); exact HO_5.out) gb271 (Nat.le_of_eq hg.symm)) hb); have n1_ := Aside0.mk (Kd.R_below (by (with_reducible repeat (first | apply Kd.R_alloc | apply Kd.R_drewN | apply Kd.R_drew)); exact HO_14.out) hb); have n2_ := Aside0.mk (Kd.R_below (by (with_reducible repeat (first | apply Kd.R_alloc | apply Kd.R_drewN | apply Kd.R_drew)); exact HO269.out) hb); have n3_ := Aside0.mk (below_step (by repeat (first | (with_reducible first | exact HB.out | apply below_alloc | apply pw_below_drewN | apply below_drew1) | exact HB.out)) hb); have n4_ := Aside0.mk (hbox); have n5_ := Aside0.mk ((by rw [hg]; exact (below_size (by repeat (first | (with_reducible first | exact HB.out | apply below_alloc | apply pw_below_drewN | apply below_drew1) | exact HB.out))) : w.heap.size ≤ gb271)); have n6_ := Aside0.mk ((by rw [hg]; exact (below_size (by repeat (first | (with_reducible first | exact HB.out | apply below_alloc | apply pw_below_drewN | apply below_drew1) | exact HB.out))) : w.heap.size ≤ gb271)); clear HO_5; clear HO_14; clear HO269; clear HB; have HO_5 := n0_; have HO_14 := n1_; have HO269 := n2_; have HB := n3_; have BK271 := n4_; have GW271 := n5_; have GE271 := n6_; clear n0_ n1_ n2_ n3_ n4_ n5_ n6_; clear hb hbox hg; have hcz22_0 : w21.cell? ⟨gb271, 0, none⟩ = some (.int .i64 0) := (blk_cell BK271.out 0).trans rfl; have hcz22_1 : w21.cell? ⟨gb271, 1, none⟩ = some (.int .i64 0) := (blk_cell BK271.out 1).trans rfl; have hcz22_2 : w21.cell? ⟨gb271, 2, none⟩ = some (.int .i64 0) := (blk_cell BK271.out 2).trans rfl; have hcz22_3 : w21.cell? ⟨gb271, 3, none⟩ = some (.int .i64 0) := (blk_cell BK271.out 3).trans rfl; have hcz22_4 : w21.cell? ⟨gb271, 4, none⟩ = some (.int .i64 0) := (blk_cell BK271.out 4).trans rfl; have hcz22_5 : w21.cell? ⟨gb271, 5, none⟩ = some (.int .i64 0) := (blk_cell BK271.out 5).trans rfl; have hcz22_6 : w21.cell? ⟨gb271, 6, none⟩ = some (.string (⟨#[]⟩ : ByteArray)) := (blk_cell BK271.out 6).trans rfl; have hcz22_7 : w21.cell? ⟨gb271, 7, none⟩ = some (.int .i64 0) := (blk_cell BK271.out 7).trans rfl; have hcz22_8 : w21.cell? ⟨gb271, 8, none⟩ = some (.string (⟨#[]⟩ : ByteArray)) := (blk_cell BK271.out 8).trans rfl; have hcz22_9 : w21.cell? ⟨gb271, 9, none⟩ = some (.slice none 0 0) := (blk_cell BK271.out 9).trans rfl; have hfz22_0 := blk_frozen BK271.out 0; have hfz22_1 := blk_frozen BK271.out 1; have hfz22_2 := blk_frozen BK271.out 2; have hfz22_3 := blk_frozen BK271.out 3; have hfz22_4 := blk_frozen BK271.out 4; have hfz22_5 := blk_frozen BK271.out 5; have hfz22_6 := blk_frozen BK271.out 6; have hfz22_7 := blk_frozen BK271.out 7; have hfz22_8 := blk_frozen BK271.out 8; have hfz22_9 := blk_frozen BK271.out 9; obtain ⟨Ao23, co23, eo23⟩ := Kd.R_slice HO269.out; subst eo23))
                  go_ret3
                  exact ⟨_, by first | rfl | (simp [errW_none, errW_some] <;> rfl) | (simp [*, errW_none, errW_some] <;> rfl), by (with_reducible repeat (first | apply Kd.S_alloc | apply Kd.S_drewN | apply Kd.S_drew)); exact Kd.S_mono (Kd.S_far (p := ⟨gb271, 9, none⟩) (Kd.S_far (p := ⟨gb271, 8, none⟩) (Kd.S_far (p := ⟨gb271, 7, none⟩) (Kd.S_far (p := ⟨gb271, 6, none⟩) (Kd.S_far (p := ⟨gb271, 5, none⟩) (Kd.S_far (p := ⟨gb271, 4, none⟩) (Kd.S_far (p := ⟨gb271, 3, none⟩) (Kd.S_far (p := ⟨gb271, 2, none⟩) (Kd.S_far (p := ⟨gb271, 1, none⟩) (Kd.S_far (p := ⟨gb271, 0, none⟩) (Kd.S_mono HO_5.out (fun k_ hk => (⟨hk, hk.2⟩ : _ ∧ k_ ≠ gb271))) (fun _ hk => hk.2) (.int .i64 t258)) (fun _ hk => hk.2) (.int .i64 t259)) (fun _ hk => hk.2) (.int .i64 t260)) (fun _ hk => hk.2) (.int .i64 t261)) (fun _ hk => hk.2) (.int .i64 t262)) (fun _ hk => hk.2) (.int .i64 t263)) (fun _ hk => hk.2) (.string t264)) (fun _ hk => hk.2) (.int .i64 t265)) (fun _ hk => hk.2) (.string t266)) (fun _ hk => hk.2) (.slice Ao23 t267.length co23)) (fun _ hk => trivial), by repeat (first | (with_reducible first | exact HB.out | apply below_alloc | apply pw_below_drewN | apply below_drew1 | refine below_set ?_ GE271.out) | exact HB.out)⟩
            · rw [if_neg c8] at H
              exact absurd H (by simp)
          · rw [if_neg c7] at H
            exact absurd H (by simp)
        · rw [if_neg c6] at H
          have c6b0 : decide (x16_1 < (t251.length : Int)) = false := decide_eq_false c6
          clear c6
          replace H := Option.bind_eq_some_iff.mp H
          obtain ⟨t254, A240, H⟩ := H
          replace H : (some (x5_1, (t254.length : Int), 0)) = some (r1, r2, r3) := H
          have A24 := Aside0.mk A240
          clear A240
          simp only [Option.some.injEq, Prod.mk.injEq] at H
          obtain ⟨rfl, rfl, rfl⟩ := H
          go_wp2_with (first | ((with_reducible refine gate_callee (f := 67) rfl ?_); refine goesL_ (some 39) rfl rfl Tryd.func67 (by kernel_rfl) rfl #[.string a0] rfl (by (try simp only [List.map_toArray, List.map_cons, List.map_nil]); first | done | rfl | (simp only [List.length_drop, List.length_take]; rfl)) ?_; (with_reducible refine (scholiaref29_Lines.calls k1 a0 t254 _ A24.out).mono ?_); rintro e w25 ⟨v255, rfl, ho0, hb⟩; refine ⟨_, rfl, ?_⟩; have n0_ := Aside0.mk (Kd.S_below (by (with_reducible repeat (first | apply Kd.S_alloc | apply Kd.S_drewN | apply Kd.S_drew)); exact HO_5.out) hb); have n1_ := Aside0.mk (Kd.R_elder' (by (with_reducible repeat (first | apply Kd.R_alloc | apply Kd.R_drewN | apply Kd.R_drew)); exact HO_14.out) (Kd.R_base ho0) hb); have n2_ := Aside0.mk (Kd.R_lower (Kd.R_new' ho0 (Kd.R_lt (by (with_reducible repeat (first | apply Kd.R_alloc | apply Kd.R_drewN | apply Kd.R_drew)); exact HO_14.out))) (below_size (by repeat (first | (with_reducible first | exact HB.out | apply below_alloc | apply pw_below_drewN | apply below_drew1) | exact HB.out)))); have n3_ := Aside0.mk (below_step (by repeat (first | (with_reducible first | exact HB.out | apply below_alloc | apply pw_below_drewN | apply below_drew1) | exact HB.out)) hb); clear HO_5; clear HO_14; clear HB; have HO_5 := n0_; have HO_14 := n1_; have HO256 := n2_; have HB := n3_; clear n0_ n1_ n2_ n3_; (try clear hb); (try clear hb2); (try clear hk); (try clear hi); (try clear ho0); obtain ⟨Ao26, co26, eo26⟩ := Kd.R_slice HO256.out; subst eo26))
          go_ret3
          exact ⟨_, by first | rfl | (simp [errW_none, errW_some] <;> rfl) | (simp [*, errW_none, errW_some] <;> rfl), by (with_reducible repeat (first | apply Kd.S_alloc | apply Kd.S_drewN | apply Kd.S_drew)); exact HO_5.out, by repeat (first | (with_reducible first | exact HB.out | apply below_alloc | apply pw_below_drewN | apply below_drew1) | exact HB.out)⟩
def cutGo : List UInt8 → List UInt8 → List (List UInt8)
  | [], cur => if cur = [] then [] else [cur]
  | b :: t, cur => if b = 10 then cur :: cutGo t [] else cutGo t (cur ++ [b])
def toB (l : List UInt8) : ByteArray := ⟨l.toArray⟩
theorem toB_list (s : ByteArray) : toB s.data.toList = s := by
  cases s with | mk d => simp [toB]
theorem toB_ext (s : ByteArray) (a b : Nat) : s.extract a b = toB ((s.data.toList.take b).drop a) := by
  rw [← toB_list (s.extract a b), ByteArray.data_extract, Array.toList_extract, List.extract_eq_take_drop, List.drop_take]
theorem cutGo_hit : ∀ (pre post cur : List UInt8), (∀ b ∈ pre, b ≠ 10) → cutGo (pre ++ 10 :: post) cur = (cur ++ pre) :: cutGo post []
  | [], post, cur, _ => by simp [cutGo]
  | b :: t, post, cur, h => by
    rw [List.cons_append, cutGo, if_neg (h b (by simp)), cutGo_hit t post (cur ++ [b]) (fun x hx => h x (by simp [hx]))]
    simp
theorem cutGo_miss : ∀ (l cur : List UInt8), (∀ b ∈ l, b ≠ 10) → cutGo l cur = if cur ++ l = [] then [] else [cur ++ l]
  | [], cur, _ => by simp [cutGo]
  | b :: t, cur, h => by
    rw [cutGo, if_neg (h b (by simp)), cutGo_miss t (cur ++ [b]) (fun x hx => h x (by simp [hx]))]
    simp
theorem idx_split : ∀ (l : List UInt8), (Lib.indexByte l 10 = -1 ∧ ∀ b ∈ l, b ≠ 10) ∨ (∃ (i : Nat) (post : List UInt8), Lib.indexByte l 10 = i ∧ l = l.take i ++ 10 :: post ∧ l.drop (i + 1) = post ∧ ∀ b ∈ l.take i, b ≠ 10)
  | [] => .inl ⟨rfl, by simp⟩
  | b :: t => by
    by_cases hb : b = 10
    · subst hb
      exact .inr ⟨0, t, by simp [Lib.indexByte], by simp, by simp, by simp⟩
    · have hb2 : (b == 10) = false := by simpa using hb
      rcases idx_split t with ⟨h1, h2⟩ | ⟨i, post, h1, h2, h3, h4⟩
      · left
        refine ⟨?_, ?_⟩
        · simp only [Lib.indexByte, hb2, h1]; rfl
        · intro x hx
          rcases List.mem_cons.1 hx with rfl | hx
          · exact hb
          · exact h2 x hx
      · right
        refine ⟨i + 1, post, ?_, ?_, ?_, ?_⟩
        · simp only [Lib.indexByte, hb2, h1]
          have : ((i : Int) == -1) = false := by simp
          rw [this]
          simp
        · simp only [List.take_succ_cons, List.cons_append, ← h2]
        · rw [List.drop_succ_cons]; exact h3
        · intro x hx
          rw [List.take_succ_cons] at hx
          rcases List.mem_cons.1 hx with rfl | hx
          · exact hb
          · exact h4 x hx
theorem trim_hit (pre : List UInt8) : trimB (toB (pre ++ [10])) = toB pre := by
  unfold trimB toB
  have e : Lib.trimSuffix (pre ++ [10]) [10] = pre := by
    unfold Lib.trimSuffix Lib.hasSuffix
    simp
  simp only [e]
theorem trim_miss (l : List UInt8) (h : ∀ b ∈ l, b ≠ 10) : trimB (toB l) = toB l := by
  unfold trimB toB
  have e : Lib.trimSuffix l [10] = l := by
    unfold Lib.trimSuffix Lib.hasSuffix
    split
    · rename_i c
      exfalso
      have h2 : ([10] : List UInt8) <:+ l := by simpa using c
      obtain ⟨t, rfl⟩ := h2
      exact h 10 (by simp) rfl
    · rfl
  simp only [e]
theorem lines_cut : ∀ (d : Nat) (s : ByteArray), s.size < d → (linesF d s).map trimB = (cutGo s.data.toList []).map toB := by
  intro d
  induction d with
  | zero => intro s h; omega
  | succ d ih =>
    intro s h
    have hl : s.data.toList.length = s.size := by rw [Array.length_toList]; rfl
    rw [linesF]
    by_cases hz : s.size = 0
    · rw [if_pos hz]
      have e : s.data.toList = [] := List.eq_nil_of_length_eq_zero (by omega)
      rw [e]
      simp [cutGo]
    · rw [if_neg hz]
      have hns := nextLine_size s (by omega)
      rw [List.map_cons, ih _ (by omega)]
      rcases idx_split s.data.toList with ⟨h1, h2⟩ | ⟨i, post, h1, h2, h3, h4⟩
      · have hn : nextLine s = (s, ⟨#[]⟩) := by unfold nextLine; rw [if_neg (by rw [h1]; decide)]
        rw [hn, cutGo_miss _ [] h2, List.nil_append, if_neg (by intro e; rw [e] at hl; simp at hl; omega)]
        simp only
        rw [← toB_list s, trim_miss _ h2]
        simp [cutGo, toB]
      · have hi : i + 1 ≤ s.size := by
          have := congrArg List.length h2
          rw [List.length_append, List.length_cons, List.length_take] at this
          omega
        have hn : nextLine s = (toB (s.data.toList.take i ++ [10]), toB post) := by
          unfold nextLine
          rw [if_pos (by omega), h1]
          have e1 : ((i : Int) + 1).toNat = i + 1 := by omega
          rw [e1, toB_ext, toB_ext]
          congr 1
          · congr 1
            rw [List.drop_zero]
            conv => lhs; rw [h2]
            rw [List.take_append]
            have : (s.data.toList.take i).length = i := by rw [List.length_take]; omega
            rw [this, List.take_of_length_le (by omega), show i + 1 - i = 1 by omega]
            rfl
          · congr 1
            rw [← h3, List.take_of_length_le (by omega)]
        rw [hn]
        simp only
        rw [trim_hit]
        conv => rhs; rw [h2, cutGo_hit _ _ _ h4, List.nil_append, List.map_cons]
        rfl
theorem bt_list (s : ByteArray) (i : Nat) (h : i < s.size) : bt s (i : Int) = 10 ↔ s.data.toList[i]'(by rw [Array.length_toList]; exact h) = 10 := by
  unfold bt
  rw [Int.toNat_natCast, dif_pos h]
  have e : s.data.toList[i]'(by rw [Array.length_toList]; exact h) = s[i] := by rfl
  rw [e]
  constructor
  · intro h
    exact UInt8.toNat_inj.1 (by have : s[i].toNat = 10 := by omega
                                rw [this]; rfl)
  · intro h
    rw [h]; rfl
theorem rlines_go (s : ByteArray) (hs : s.size ≤ 40000000) : ∀ (d k i f : Nat) (acc : List ByteArray), s.size - i ≤ d → i ≤ s.size → f ≤ i → acc.length ≤ i → d + 1 ≤ k →
    scholiaref29_Lines.l0 k s acc (f : Int) (s.size : Int) (i : Int) = some (acc ++ (cutGo (s.data.toList.drop i) ((s.data.toList.take i).drop f)).map toB) := by
  have hl : s.data.toList.length = s.size := by rw [Array.length_toList]; rfl
  have fin : ∀ (k i f : Nat) (acc : List ByteArray), i = s.size → f ≤ i → acc.length ≤ i → scholiaref29_Lines.l0 (k + 1) s acc (f : Int) (s.size : Int) (i : Int) = some (acc ++ (cutGo (s.data.toList.drop i) ((s.data.toList.take i).drop f)).map toB) := by
    intro k i f acc hi hf ha
    rw [scholiaref29_Lines.l0, if_neg (by omega), List.drop_eq_nil_of_le (by omega), cutGo]
    by_cases c : f < s.size
    · rw [if_pos (by omega), if_pos (by omega), if_pos (by omega), if_pos (by omega), if_neg (by
        intro e
        have := congrArg List.length e
        rw [List.length_drop, List.length_take] at this
        simp at this
        omega)]
      rw [Int.toNat_natCast, toB_ext, hi]
      rfl
    · rw [if_neg (by omega), if_pos (List.drop_eq_nil_of_le (by rw [List.length_take]; omega))]
      simp
  intro d
  induction d with
  | zero =>
    intro k i f acc h hi hf ha hk
    obtain ⟨k, rfl⟩ : ∃ q, k = q + 1 := ⟨k - 1, by omega⟩
    exact fin k i f acc (by omega) hf ha
  | succ d ih =>
    intro k i f acc h hi hf ha hk
    obtain ⟨k, rfl⟩ : ∃ q, k = q + 1 := ⟨k - 1, by omega⟩
    by_cases c : i < s.size
    · have hil : i < s.data.toList.length := by omega
      have w1 : wrap64 ((i : Int) + 1) = ((i + 1 : Nat) : Int) := by unfold wrap64; omega
      rw [scholiaref29_Lines.l0, if_pos (by omega), if_pos (by omega), if_pos (by omega), w1, List.drop_eq_getElem_cons hil, cutGo]
      by_cases h10 : bt s (i : Int) = 10
      · rw [if_pos h10, if_pos ((bt_list s i c).1 h10), if_pos (by omega), if_pos (by omega), if_pos (by omega), if_pos (by omega), ih k (i + 1) (i + 1) _ (by omega) (by omega) (by omega) (by simp; omega) (by omega)]
        have e0 : (s.data.toList.take (i + 1)).drop (i + 1) = [] := List.drop_eq_nil_of_le (by rw [List.length_take]; omega)
        rw [e0, List.map_cons, List.append_assoc, Int.toNat_natCast, Int.toNat_natCast, toB_ext]
        rfl
      · rw [if_neg h10, if_neg (fun e => h10 ((bt_list s i c).2 e)), ih k (i + 1) f _ (by omega) (by omega) (by omega) (by omega) (by omega)]
        congr 4
        rw [← List.take_append_getElem hil, List.drop_append_of_le_length (by rw [List.length_take]; omega)]
    · exact fin k i f acc (by omega) hf ha
def linesB (s : ByteArray) : List ByteArray := (linesF (s.size + 1) s).map trimB
theorem rlines_f (s : ByteArray) (hs : s.size ≤ 40000000) (k : Nat) (hk : s.size + 1 ≤ k) : scholiaref29_Lines.f k s = some (linesB s) := by
  unfold scholiaref29_Lines.f linesB
  have := rlines_go s hs s.size k 0 0 [] (by omega) (by omega) (by omega) (by simp) hk
  rw [show ((0 : Nat) : Int) = 0 from rfl] at this
  rw [this, lines_cut (s.size + 1) s (by omega)]
  simp
theorem rdOf_get (l : List ByteArray) (i : Nat) (h : i < l.length) : rdOf ByteArray.empty l (i : Int) = l[i] := by
  simp [rdOf, List.getD_eq_getElem?_getD, List.getElem?_eq_getElem h]
theorem linesB_len (s : ByteArray) : (linesB s).length ≤ s.size := by
  unfold linesB
  rw [List.length_map]
  exact linesF_len _ s
theorem size_nil (y : ByteArray) : y.toList = ([] : List UInt8) ↔ y.size = 0 := by
  rw [ByteArray.toList_eq, ← List.length_eq_zero_iff, Array.length_toList]
  exact Iff.rfl
theorem rparse_go (s : ByteArray) (hs : s.size ≤ 1048576) (L : List ByteArray) (hL : L = linesF (s.size + 1) s) (K : Nat) (hK : s.size + 1 ≤ K) : ∀ (d i : Nat) (xs : List S42), i + d = L.length → xs.length ≤ i →
    scholiaref29_Parse.l0 (K + d + 1) s xs (L.map trimB) ((L.map trimB).length : Int) (i : Int) = some (parseGo (L.drop i) xs (i : Int)) := by
  have hb : L.map trimB = linesB s := by rw [hL]; rfl
  have hlen := linesB_len s
  rw [← hb, List.length_map] at hlen
  have hsz : ∀ x ∈ L, x.size ≤ s.size := by rw [hL]; exact fun x hx => linesF_mem _ s x hx
  intro d
  induction d with
  | zero =>
    intro i xs h hx
    rw [scholiaref29_Parse.l0, if_neg (by rw [List.length_map]; omega), rlines_f s (by omega) _ (by omega), List.drop_eq_nil_of_le (by omega)]
    simp only [Option.bind_some]
    rw [← hb, List.length_map, parseGo]
    congr 3
    omega
  | succ d ih =>
    intro i xs h hx
    have c : i < L.length := by omega
    have cm : i < (L.map trimB).length := by rw [List.length_map]; exact c
    have w1 : wrap64 ((i : Int) + 1) = ((i + 1 : Nat) : Int) := by unfold wrap64; omega
    rw [show K + (d + 1) + 1 = (K + d + 1) + 1 by omega, scholiaref29_Parse.l0, if_pos (by omega), if_pos (by omega), if_pos (by omega), w1, rdOf_get _ i cm, List.getElem_map, List.drop_eq_getElem_cons c, parseGo]
    have e1 : ((i : Int) + 1) = ((i + 1 : Nat) : Int) := by omega
    by_cases hz : (trimB L[i]).size = 0
    · rw [if_pos ((size_nil _).2 hz), if_pos hz, e1]
      exact ih (i + 1) xs (by omega) (by omega)
    · rw [if_neg (fun e => hz ((size_nil _).1 e)), if_neg hz]
      have hx1 := hsz L[i] (List.getElem_mem c)
      have hx2 := trimB_size L[i]
      unfold scholiaref29_Read.f
      rw [if_pos (by omega)]
      simp only [Option.bind_some]
      by_cases hr : (readS (trimB L[i])).2 = true
      · rw [if_pos hr, if_pos hr, if_pos (by omega), e1]
        exact ih (i + 1) _ (by omega) (by simp; omega)
      · rw [if_neg hr, if_neg hr]
theorem rparse_f (s : ByteArray) (hs : s.size ≤ 1048576) (k : Nat) (hk : 2 * s.size + 10 ≤ k) : scholiaref29_Parse.f k s = some (parseS s) := by
  unfold scholiaref29_Parse.f parseS
  by_cases c : 32768 < s.size
  · rw [if_pos (by omega), if_pos c]
  · rw [if_neg (by omega), if_neg c, rlines_f s (by omega) k (by omega)]
    simp only [Option.bind_some]
    have hl := linesF_len (s.size + 1) s
    have := rparse_go s hs _ rfl (k - (linesF (s.size + 1) s).length - 1) (by omega) (linesF (s.size + 1) s).length 0 [] (by omega) (by simp)
    rw [show k - (linesF (s.size + 1) s).length - 1 + (linesF (s.size + 1) s).length + 1 = k by omega] at this
    rw [List.drop_zero] at this
    exact this
theorem parse_calls (s : ByteArray) (w : World) (hG : GL w) (hs : s.size ≤ 32768) :
    Calls Tryd.prog 31 #[.string s] w fun e w' => ∃ v, e = .returned (.tuple #[v, .int .i64 (parseS s).2.1, .int .i64 (parseS s).2.2]) ∧ Kd.S k42 42 w' w.heap.size (fun _ => True) v (parseS s).1 ∧ Below w.heap.size w w' := by
  have := parse_short s w hG (by omega)
  unfold parseS
  rw [if_neg (by omega)]
  exact this
theorem rparse_calls (s : ByteArray) (w : World) (hs : s.size ≤ 32768) :
    Calls Tryd.prog 32 #[.string s] w fun e w' => ∃ v, e = .returned (.tuple #[v, .int .i64 (parseS s).2.1, .int .i64 (parseS s).2.2]) ∧ Kd.S k42 42 w' w.heap.size (fun _ => True) v (parseS s).1 ∧ Below w.heap.size w w' :=
  scholiaref29_Parse.calls (2 * s.size + 10) s (parseS s).1 (parseS s).2.1 (parseS s).2.2 w (rparse_f s (by omega) _ (Nat.le_refl _))
theorem rows_of_S {W : World} {base : Nat} {ok : Nat → Prop} {A : Option Addr} {c : Nat} {xs : List S42} (h : Kd.S k42 42 W base ok (.slice A xs.length c) xs) : Kd.C k42 W A xs.length xs ∧ xs.length ≤ c :=
  have h1 := Kd.R_reads' (Kd.S_R h)
  ⟨h1.2.2, h1.2.1⟩
theorem parse_f9 : ∀ (L : List ByteArray) (xs : List S42) (n : Int), (∀ x ∈ xs, x.f9.length ≤ 240) → ∀ x ∈ (parseGo L xs n).1, x.f9.length ≤ 240
  | [], xs, n, h => h
  | y :: t, xs, n, h => by
    simp only [parseGo]
    split
    · exact parse_f9 t xs _ h
    · split
      · rename_i c
        refine parse_f9 t _ _ ?_
        intro x hx
        rcases List.mem_append.1 hx with hx | hx
        · exact h x hx
        · rw [List.mem_singleton.1 hx]
          exact (readS_fine _ c).2.2
      · exact h
theorem parseS_f9 (s : ByteArray) : ∀ x ∈ (parseS s).1, x.f9.length ≤ 40000001 := by
  intro x hx
  unfold parseS at hx
  split at hx
  · cases hx
  · have := parse_f9 _ [] 0 (by simp) x hx
    omega
theorem toB_app (a b : List UInt8) : toB (a ++ b) = toB a ++ toB b := by
  apply ByteArray.ext
  apply Array.toList_inj.1
  simp [toB]
set_option maxHeartbeats 16000000 in
set_option maxRecDepth 100000 in
theorem texts_main (A : Option Addr) (c : Nat) (l : List S42) (s : ByteArray) (w0 : World) (hG : GL w0) (hr : Kd.C k42 w0 A l.length l) (hc : l.length ≤ c) (hl : l.length ≤ 40) (hok : ∀ x ∈ l, OkS x) (hs : s.size ≤ 4096) (hb : Calls Tryd.prog 24 #[.slice A l.length c, .int .i64 40] w0 fun e w' => e = .returned (.bool true) ∧ Below w0.heap.size w0 w') :
    Calls Tryd.prog 8 #[.slice A l.length c, .string s] w0 fun e w' => e = .returned (.bool true) ∧ Below w0.heap.size w0 w' := by
  have hu := Tryd.underlying42
  have HG0 := Aside0.mk hG
  have HR0 := Aside0.mk hr
  have HC := Aside0.mk hc
  have HL := Aside0.mk hl
  have HOK := Aside0.mk hok
  have HS := Aside0.mk hs
  have HBR := Aside0.mk hb
  have b1 : decide ((40 : Int) < (l.length : Int)) = false := decide_eq_false (by omega)
  have b2 : decide ((4096 : Int) < (s.size : Int)) = false := decide_eq_false (by omega)
  clear hG hr hc hl hok hs hb
  go_enter Tryd.func8, Tryd.ntmps8
  go_wp2_with fail
  refine HBR.out.mono ?_
  rintro e w' ⟨rfl, h0⟩
  have HG := Aside0.mk (HG0.out.below h0)
  have HR := Aside0.mk (Kd.C_below HR0.out h0)
  have H0 := Aside0.mk h0
  clear h0 HG0 HR0
  go_wp2_with fail
  go_loopg [5, 32] l.length (fun n v5 v32 wr => ∃ (j : Nat), v32 = .int .i64 (j : Int) ∧ v5 = .string (toB (writeP (l.take j))) ∧ Aside0 (j ≤ l.length ∧ l.length - j ≤ n) ∧ Aside0 (Below w'.heap.size w' wr))
  case atStart => exact ⟨0, rfl, rfl, ⟨Nat.zero_le _, Nat.le_refl _⟩, ⟨Below.refl _ _⟩⟩
  case round =>
    obtain ⟨j, rfl, rfl, HI, HB⟩ := hrel
    have hj0 := HI.out.1
    by_cases hlt : j < l.length
    · have cb : decide ((j : Int) < (l.length : Int)) = true := decide_eq_true (by omega)
      have cb2 : decide (j < l.length) = true := decide_eq_true hlt
      obtain ⟨ad, A9, c9, ead, hSI, hc9, hR9⟩ := at_step (Kd.C_below HR.out HB.out) j hlt
      obtain ⟨x, hx⟩ : ∃ x, x = l[j] := ⟨_, rfl⟩
      rw [← hx] at hSI hc9 hR9
      subst ead
      have HX := Aside0.mk (show x ∈ l by rw [hx]; exact List.getElem_mem hlt)
      have HT := Aside0.mk (show l.take (j + 1) = l.take j ++ [x] by rw [hx]; exact (List.take_append_getElem hlt).symm)
      have HSI := Aside0.mk hSI
      have HC9 := Aside0.mk hc9
      have HR9 := Aside0.mk hR9
      have HBA := Aside0.mk (below_alloc (Below.refl wr.heap.size wr) (.cells #[.int .i64 x.f0, .int .i64 x.f1, .int .i64 x.f2, .int .i64 x.f3, .int .i64 x.f4, .int .i64 x.f5, .string x.f6, .int .i64 x.f7, .string x.f8, .slice A9 x.f9.length c9] 42))
      have hjb : (j : Int) ≤ 1000 := by have := HL.out; omega
      have hj1 : decide (0 ≤ (j : Int)) = true := decide_eq_true (by omega)
      have hwl := Lib.hid (writeP_len (l.take j))
      clear hx hSI hc9 hR9
      obtain ⟨wt, hwt⟩ : ∃ z, z = toB (writeP (l.take j)) := ⟨_, rfl⟩
      rw [← hwt]
      have HWT := Aside0.mk hwt
      have HWL := Aside0.mk (show wt.size ≤ 241000 by
        have h1 := hwl.out; have h2 := HL.out; rw [List.length_take] at h1
        rw [hwt]
        show (writeP (l.take j)).toArray.size ≤ _
        rw [List.size_toArray]
        omega)
      clear hwt hwl
      go_wp2_with (first | ((with_reducible refine gate_dst (N := 35) rfl ?_); refine Kd.event_run rfl (load_in HSI.out _ _ (.tmp 34) rfl rfl) ?_))
      obtain ⟨⟨sx, ex⟩, hsx⟩ : ∃ q, q = lineS x := ⟨_, rfl⟩
      have HLN := Aside0.mk (rline_f x (HOK.out x HX.out) 400000001 (by omega))
      rw [← hsx] at HLN
      have HSX := Aside0.mk hsx
      clear hsx
      refine (rline_calls 400000001 x A9 c9 _ sx ex (Kd.C_below HR9.out HBA.out) HC9.out HLN.out).mono ?_
      rintro e w2 ⟨rfl, hb2⟩
      have HB2 := Aside0.mk (show Below w'.heap.size w' w2 from HB.out.trans ((HBA.out.trans (hb2.mono HBA.out.size)).mono HB.out.size))
      clear hb2 HBA
      rcases lineS_two x with h0 | h0
      · have e0 : ex = 0 := by have := HSX.out; rw [← this] at h0; exact h0
        subst e0
        have HT2 := Aside0.mk (show toB (writeP (l.take (j + 1))) = wt ++ (sx ++ (⟨#[10]⟩ : ByteArray)) by
          rw [HT.out, writeP_snoc, if_pos h0, ← HSX.out, toB_app, toB_app, toB_list, ← HWT.out]
          rfl)
        have HSZ := Aside0.mk (show sx.size ≤ 240 by have := lineS_size x h0; rw [← HSX.out] at this; exact this)
        clear h0
        have n1 : (9223372036854775807 < sx.size + 1) = False := eq_false (by have := HSZ.out; omega)
        have n2 : (9223372036854775807 < wt.size + (sx.size + 1)) = False := eq_false (by have := HSZ.out; have := HWL.out; omega)
        have n3 : (9223372036854775807 < wt.size + (sx ++ (⟨#[10]⟩ : ByteArray)).size) = False := eq_false (by rw [ByteArray.size_append]; have q4 : (⟨#[10]⟩ : ByteArray).size = 1 := rfl; have := HSZ.out; have := HWL.out; omega)
        go_wp2_with fail
        go_roundg (gk - 1)
        case measure => have h1 := HI.out; have h2 := HL.out; omega
        case rel => exact ⟨j + 1, by go_num, by rw [HT2.out], ⟨by omega, by have h1 := HI.out; omega⟩, HB2⟩
      · have e0 : ex = 1 := by have := HSX.out; rw [← this] at h0; exact h0
        subst e0
        have HT2 := Aside0.mk (show toB (writeP (l.take (j + 1))) = wt by
          rw [HT.out, writeP_snoc, if_neg (by rw [h0]; decide), List.append_nil]; exact HWT.out.symm)
        clear h0
        go_wp2_with fail
        go_roundg (gk - 1)
        case measure => have h1 := HI.out; have h2 := HL.out; omega
        case rel => exact ⟨j + 1, by go_num, by rw [HT2.out], ⟨by omega, by have h1 := HI.out; omega⟩, HB2⟩
    · have cb : decide ((j : Int) < (l.length : Int)) = false := decide_eq_false (by omega)
      have cb2 : decide (j < l.length) = false := decide_eq_false hlt
      have HE := Aside0.mk (show l.take j = l from List.take_of_length_le (by omega))
      clear hlt hj0
      rw [HE.out]
      go_wp2_with fail
      refine (parse_calls s wr (HG.out.below HB.out) (by have := HS.out; omega)).mono ?_
      rintro e w2 ⟨v1, rfl, hS1, hb2⟩
      obtain ⟨A1, c1, ev1⟩ := Kd.R_slice (Kd.S_R hS1)
      subst ev1
      have HV1 := Aside0.mk (rows_of_S hS1)
      have HB2 := Aside0.mk (HB.out.trans (hb2.mono HB.out.size))
      clear hS1 hb2
      go_wp2_with fail
      refine (rparse_calls s w2 (by have := HS.out; omega)).mono ?_
      rintro e w3 ⟨v2, rfl, hS2, hb3⟩
      obtain ⟨A2, c2, ev2⟩ := Kd.R_slice (Kd.S_R hS2)
      subst ev2
      have HV2 := Aside0.mk (rows_of_S hS2)
      have HV13 := Aside0.mk (show Kd.C k42 w3 A1 (parseS s).1.length (parseS s).1 from Kd.C_below HV1.out.1 hb3)
      have HB3 := Aside0.mk (HB2.out.trans (hb3.mono HB2.out.size))
      clear hS2 hb3
      go_wp2_with fail
      refine (write_calls A c l w3 (HG.out.below HB3.out) (Kd.C_below HR.out HB3.out) HC.out (by have := HL.out; omega) HOK.out).mono ?_
      rintro e w4 ⟨rfl, hb4⟩
      have HB4 := Aside0.mk (HB3.out.trans (hb4.mono HB3.out.size))
      have HV14 := Aside0.mk (Kd.C_below HV13.out hb4)
      have HV24 := Aside0.mk (Kd.C_below HV2.out.1 hb4)
      clear hb4
      rw [show (⟨(writeP l).toArray⟩ : ByteArray) = toB (writeP l) from rfl]
      go_wp2_with fail
      refine (rsame_all (parseS s).1 (parseS s).1 w4 A1 c1 A2 c2 HV14.out HV1.out.2 HV24.out HV2.out.2 (parseS_f9 s)).mono ?_
      rintro e w5 ⟨rfl, hb5⟩
      have HB5 := Aside0.mk (HB4.out.trans (hb5.mono HB4.out.size))
      clear hb5
      rw [show decide ((parseS s).1 = (parseS s).1) = true from decide_eq_true rfl]
      go_wp2_with fail
      refine (awake_calls w5 (HG.out.below HB5.out)).mono ?_
      rintro e w6 ⟨rfl, hb6⟩
      have HB6 := Aside0.mk (H0.out.trans ((HB5.out.trans (hb6.mono HB5.out.size)).mono H0.out.size))
      clear hb6
      go_wp2
      go_ret
      exact ⟨rfl, HB6.out⟩
set_option maxHeartbeats 16000000 in
set_option maxRecDepth 100000 in
theorem texts_calls (A : Option Addr) (c : Nat) (l : List S42) (s : ByteArray) (w : World) (hG : GL w) (hr : Kd.C k42 w A l.length l) (hc : l.length ≤ c) (hl : l.length ≤ 1048576) (hok : ∀ x ∈ l, OkS x) :
    Calls Tryd.prog 8 #[.slice A l.length c, .string s] w fun e w' => e = .returned (.bool true) ∧ Below w.heap.size w w' := by
  by_cases c1 : 40 < l.length
  · have b1 : decide ((40 : Int) < (l.length : Int)) = true := decide_eq_true (by omega)
    have HG := Aside0.mk hG
    clear hG hr hc hl hok c1
    go_enter Tryd.func8, Tryd.ntmps8
    go_wp2_with fail
    refine (awake_calls w HG.out).mono ?_
    rintro e w2 ⟨rfl, hb⟩
    have HB := Aside0.mk hb
    clear hb
    go_wp2
    go_ret
    exact ⟨rfl, HB.out⟩
  · have b1 : decide ((40 : Int) < (l.length : Int)) = false := decide_eq_false (by omega)
    obtain ⟨bb, hbb⟩ := brief_f l (by omega) 40 400000001 (by omega)
    have hB : Calls Tryd.prog 24 #[.slice A l.length c, .int .i64 40] w fun e w' => e = .returned (.bool bb) ∧ Below w.heap.size w w' := scholiaplain_Brief.calls 400000001 A c l 40 bb w hr hc hbb
    by_cases c2 : bb = true ∧ s.size ≤ 4096
    · obtain ⟨rfl, c3⟩ := c2
      exact texts_main A c l s w hG hr hc (by omega) hok c3 hB
    · have HB0 := Aside0.mk hB
      have HG := Aside0.mk hG
      cases bb with
      | false =>
        clear hG hr hc hl hok c1 hB hbb c2
        go_enter Tryd.func8, Tryd.ntmps8
        go_wp2_with fail
        refine HB0.out.mono ?_
        rintro e w1 ⟨rfl, hb⟩
        have HB1 := Aside0.mk hb
        clear hb
        go_wp2_with fail
        refine (awake_calls w1 (HG.out.below HB1.out)).mono ?_
        rintro e w2 ⟨rfl, hb⟩
        have HB := Aside0.mk (HB1.out.trans (hb.mono HB1.out.size))
        clear hb
        go_wp2
        go_ret
        exact ⟨rfl, HB.out⟩
      | true =>
        have b2 : decide ((4096 : Int) < (s.size : Int)) = true := decide_eq_true (by
          rcases Nat.lt_or_ge 4096 s.size with h | h
          · omega
          · exact absurd ⟨rfl, h⟩ c2)
        clear hG hr hc hl hok c1 hB hbb c2
        go_enter Tryd.func8, Tryd.ntmps8
        go_wp2_with fail
        refine HB0.out.mono ?_
        rintro e w1 ⟨rfl, hb⟩
        have HB1 := Aside0.mk hb
        clear hb
        go_wp2_with fail
        refine (awake_calls w1 (HG.out.below HB1.out)).mono ?_
        rintro e w2 ⟨rfl, hb⟩
        have HB := Aside0.mk (HB1.out.trans (hb.mono HB1.out.size))
        clear hb
        go_wp2
        go_ret
        exact ⟨rfl, HB.out⟩
end Go.Proofs.YtcgkmomhjincgaaDoor.LibQ.Scr
