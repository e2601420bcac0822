import Derived.Test.YtcgkmomhjincgaaGreatDoorELibX0
import Derived.Test.YtcgkmomhjincgaaGreatDoorELibX3
import Derived.Test.YtcgkmomhjincgaaGreatDoorELibX4
namespace Go.Proofs.YtcgkmomhjincgaaGreatDoor.LibX
open Go.RowKit Go.Proofs.YtcgkmomhjincgaaGreatDoorW.PrintWords Go.Proofs.YtcgkmomhjincgaaGreatDoorW.PrintLast Go.Proofs.YtcgkmomhjincgaaGreatDoorW.PrintMore
attribute [local go_sem] max2_int min2_int max_two min_two max_three min_three max_four min_four   -- for this text's walks alone
set_option linter.unusedVariables false
set_option linter.unusedSimpArgs false
def scholiaref15_Pieces.l0 : Nat → ByteArray → List (S33) → Int → List Int → Int → Int → Option ((List (S33)))
 | 0, _, _, _, _, _, _ => none
 | k + 1, x0, x3, x4, x12, x13, x14 => if x14 < x13 then (if 0 ≤ x14 then (if x14 < (x12.length : Int) then ((scholiaref03_Next.f k x0 x4).bind fun bt142 => (if bt142.1 ≥ 0 then ((scholiaref04_Word.f k bt142.1).bind fun t144 => (if (x3.length : Int) > 0 then (if 0 ≤ (wrap64 ((x3.length : Int) - 1)) then (if (wrap64 ((x3.length : Int) - 1)) < (x3.length : Int) then (if (((rd_T33 x3 (wrap64 ((x3.length : Int) - 1))).f1) == t144) = true then (if 0 ≤ x4 then (if x4 ≤ (rd x12 x14) then (if (rd x12 x14) ≤ (x0.size : Int) then (if ((rd_T33 x3 (wrap64 ((x3.length : Int) - 1))).f0).size + (x0.extract (x4 : Int).toNat ((rd x12 x14) : Int).toNat).size ≤ 9223372036854775807 then (scholiaref15_Pieces.l0 k x0 (x3.set ((wrap64 ((x3.length : Int) - 1)) : Int).toNat (⟨((rd_T33 x3 (wrap64 ((x3.length : Int) - 1))).f0) ++ (x0.extract (x4 : Int).toNat ((rd x12 x14) : Int).toNat), (rd_T33 x3 (wrap64 ((x3.length : Int) - 1))).f1⟩ : S33)) (rd x12 x14) x12 x13 (wrap64 (x14 + 1))) else (none)) else (none)) else (none)) else (none)) else (if 0 ≤ x4 then (if x4 ≤ (rd x12 x14) then (if (rd x12 x14) ≤ (x0.size : Int) then (if x3.length < 5864062014805 then (scholiaref15_Pieces.l0 k x0 (x3 ++ [(⟨x0.extract (x4 : Int).toNat ((rd x12 x14) : Int).toNat, t144⟩ : S33)]) (rd x12 x14) x12 x13 (wrap64 (x14 + 1))) else (none)) else (none)) else (none)) else (none))) else (none)) else (none)) else (if 0 ≤ x4 then (if x4 ≤ (rd x12 x14) then (if (rd x12 x14) ≤ (x0.size : Int) then (if x3.length < 5864062014805 then (scholiaref15_Pieces.l0 k x0 (x3 ++ [(⟨x0.extract (x4 : Int).toNat ((rd x12 x14) : Int).toNat, t144⟩ : S33)]) (rd x12 x14) x12 x13 (wrap64 (x14 + 1))) else (none)) else (none)) else (none)) else (none)))) else (if (x3.length : Int) > 0 then (if 0 ≤ (wrap64 ((x3.length : Int) - 1)) then (if (wrap64 ((x3.length : Int) - 1)) < (x3.length : Int) then (if (((rd_T33 x3 (wrap64 ((x3.length : Int) - 1))).f1) == false) = true then (if 0 ≤ x4 then (if x4 ≤ (rd x12 x14) then (if (rd x12 x14) ≤ (x0.size : Int) then (if ((rd_T33 x3 (wrap64 ((x3.length : Int) - 1))).f0).size + (x0.extract (x4 : Int).toNat ((rd x12 x14) : Int).toNat).size ≤ 9223372036854775807 then (scholiaref15_Pieces.l0 k x0 (x3.set ((wrap64 ((x3.length : Int) - 1)) : Int).toNat (⟨((rd_T33 x3 (wrap64 ((x3.length : Int) - 1))).f0) ++ (x0.extract (x4 : Int).toNat ((rd x12 x14) : Int).toNat), (rd_T33 x3 (wrap64 ((x3.length : Int) - 1))).f1⟩ : S33)) (rd x12 x14) x12 x13 (wrap64 (x14 + 1))) else (none)) else (none)) else (none)) else (none)) else (if 0 ≤ x4 then (if x4 ≤ (rd x12 x14) then (if (rd x12 x14) ≤ (x0.size : Int) then (if x3.length < 5864062014805 then (scholiaref15_Pieces.l0 k x0 (x3 ++ [(⟨x0.extract (x4 : Int).toNat ((rd x12 x14) : Int).toNat, false⟩ : S33)]) (rd x12 x14) x12 x13 (wrap64 (x14 + 1))) else (none)) else (none)) else (none)) else (none))) else (none)) else (none)) else (if 0 ≤ x4 then (if x4 ≤ (rd x12 x14) then (if (rd x12 x14) ≤ (x0.size : Int) then (if x3.length < 5864062014805 then (scholiaref15_Pieces.l0 k x0 (x3 ++ [(⟨x0.extract (x4 : Int).toNat ((rd x12 x14) : Int).toNat, false⟩ : S33)]) (rd x12 x14) x12 x13 (wrap64 (x14 + 1))) else (none)) else (none)) else (none)) else (none))))) else (none)) else (none)) else (some x3)
def scholiaref15_Pieces.f (k : Nat) (a0 : ByteArray) : Option ((List (S33))) := (scholiaref03_Ends.f k a0).bind fun t138 => (scholiaref15_Pieces.l0 k a0 ([] : List (S33)) 0 t138 (t138.length : Int) 0)
def scholiaref15_Pieces.T10 : Bool × List (List Nat × List Nat) := (true, [([], []), ([], []), ([1], [1]), ([], []), ([], []), ([4], [4]), ([3, 5], [3, 5]), ([6], [6]), ([7], [7]), ([], []), ([], []), ([], []), ([9, 10, 11], [9, 10, 11]), ([8, 12], [8, 12]), ([0, 2, 0, 1, 2, 3, 4, 5, 6, 7, 8, 9, 10, 11, 12, 13], [0, 2]), ([14, 0, 1, 2, 3, 4, 5, 6, 7, 8, 9, 10, 11, 12, 13], [14]), ([15, 13, 0, 1, 2, 3, 4, 5, 6, 7, 8, 9, 10, 11, 12, 13], [13, 15])])
def scholiaref15_Pieces.B10 : List Nat := [0, 0, 2, 0, 0, 16, 56, 120, 248, 0, 0, 0, 3584, 8184, 16383, 32767, 65535]
theorem scholiaref15_Pieces.tab10 : rtab .any (opsOf Tryz.f8 10) = scholiaref15_Pieces.T10 := by kernel_rfl
theorem scholiaref15_Pieces.bits10 : waitsOk scholiaref15_Pieces.T10.2 scholiaref15_Pieces.B10 = true := by kernel_rfl
set_option maxHeartbeats 8000000 in
set_option maxRecDepth 100000 in
theorem scholiaref15_Pieces.calls (k : Nat) (a0 : ByteArray) (r : List (S33)) (w : World) (h : scholiaref15_Pieces.f k a0 = some r) :
  Calls Tryz.prog 8 #[.string a0] w fun e w' => ∃ v0_ : Value, e = .returned (v0_) ∧ Kd.R k33 33 w' w.heap.size (fun _ => True) v0_ r ∧ Below w.heap.size w w' := by
 have hu33 := Tryz.underlying33
 have HB := Aside0.mk (Below.refl w.heap.size w)
 have H : ((scholiaref03_Ends.f k a0).bind fun t138 => (scholiaref15_Pieces.l0 k a0 ([] : List (S33)) 0 t138 (t138.length : Int) 0)) = some r := h
 clear h
 replace H := Option.bind_eq_some_iff.mp H
 obtain ⟨t138, A20, H⟩ := H
 replace H : (scholiaref15_Pieces.l0 k a0 ([] : List (S33)) 0 t138 (t138.length : Int) 0) = some r := H
 have A2 := Aside0.mk A20
 clear A20
 have H' := Aside0.mk H
 clear H
 go_enter Tryz.func8, Tryz.ntmps8
 go_wp2_with (first | ((with_reducible refine gate_callee (f := 13) rfl ?_); refine goesL_ (some 12) rfl rfl Tryz.func13 (by kernel_rfl) rfl #[.string a0] rfl ar_ ?_; (with_reducible refine (scholiaref03_Ends.calls k a0 t138 _ A2.out).mono ?_); rintro e w3 ⟨v139, rfl, ho0, hb⟩; refine ⟨_, rfl, ?_⟩; have n0_ := Aside0.mk (Kd.R_lower ho0 (below_size (bb_ HB.out))); have n1_ := Aside0.mk (below_step (bb_ HB.out) hb); clear HB; have HO140 := n0_; have HB := n1_; clear n0_ n1_; (try clear hb); (try clear hb2); (try clear hk); (try clear hi); (try clear ho0); obtain ⟨Ao4, co4, eo4⟩ := Kd.R_slice HO140.out; subst eo4))
 go_loopg [3, 4, 14] k (fun kq v3 v4 v14 w' => ∃ (x3_1 : List (S33)) (x4_1 : Int) (x14_1 : Int), v4 = .int .i64 x4_1 ∧ v14 = .int .i64 x14_1 ∧ Aside0 (scholiaref15_Pieces.l0 kq a0 x3_1 x4_1 t138 (t138.length : Int) x14_1 = some r) ∧ Aside0 (kq ≤ k) ∧ Aside0 (Kd.R k33 33 w' w.heap.size (fun _ => True) v3 x3_1) ∧ Aside0 (Kd.R (Kd.int .i64) 3 w' w.heap.size (fun _ => True) (.slice Ao4 t138.length co4) t138) ∧ Aside0 (Below w.heap.size w w'))
 case atStart => exact ⟨(([] : List (S33))), (0), (0), rs_, rs_, H', ⟨Nat.le_refl _⟩, ⟨by first | exact Kd.R_nil _ _ _ _ _ | exact Kd.N_nil _ _ _ _ _ | exact Kd.V_nil _ _ _ _ _ | exact Kd.Q_nil _ _ _ _ _ | exact Kd.S_nil _ _ _ _ _⟩, ⟨kr_ HO140.out⟩, ⟨bb_ HB.out⟩⟩
 case round =>
  clear H'
  try clear c1
  try clear p2
  obtain ⟨x3_1, x4_1, x14_1, rfl, rfl, HA, HK1, HO_3, HO_12, HB⟩ := hrel
  cases gk with
  | zero => exact absurd HA.out (by simp [scholiaref15_Pieces.l0])
  | succ k1 =>
   have H := HA.out
   clear HA
   simp only [scholiaref15_Pieces.l0] at H
   by_cases c5 : x14_1 < (t138.length : Int)
   ·rw [if_pos c5] at H
    have c5b0 : decide (x14_1 < (t138.length : Int)) = true := decide_eq_true c5
    clear c5
    by_cases c6 : 0 ≤ x14_1
    ·rw [if_pos c6] at H
     have c6b0 : decide (0 ≤ x14_1) = true := decide_eq_true c6
     clear c6
     by_cases c7 : x14_1 < (t138.length : Int)
     ·rw [if_pos c7] at H
      have c7b0 : decide (x14_1 < (t138.length : Int)) = true := decide_eq_true c7
      clear c7
      replace H := Option.bind_eq_some_iff.mp H
      obtain ⟨⟨t142, t143⟩, A80, H⟩ := H
      replace H : (if t142 ≥ 0 then ((scholiaref04_Word.f k1 t142).bind fun t144 => (if (x3_1.length : Int) > 0 then (if 0 ≤ (wrap64 ((x3_1.length : Int) - 1)) then (if (wrap64 ((x3_1.length : Int) - 1)) < (x3_1.length : Int) then (if (((rd_T33 x3_1 (wrap64 ((x3_1.length : Int) - 1))).f1) == t144) = true then (if 0 ≤ x4_1 then (if x4_1 ≤ (rd t138 x14_1) then (if (rd t138 x14_1) ≤ (a0.size : Int) then (if ((rd_T33 x3_1 (wrap64 ((x3_1.length : Int) - 1))).f0).size + (a0.extract (x4_1 : Int).toNat ((rd t138 x14_1) : Int).toNat).size ≤ 9223372036854775807 then (scholiaref15_Pieces.l0 k1 a0 (x3_1.set ((wrap64 ((x3_1.length : Int) - 1)) : Int).toNat (⟨((rd_T33 x3_1 (wrap64 ((x3_1.length : Int) - 1))).f0) ++ (a0.extract (x4_1 : Int).toNat ((rd t138 x14_1) : Int).toNat), (rd_T33 x3_1 (wrap64 ((x3_1.length : Int) - 1))).f1⟩ : S33)) (rd t138 x14_1) t138 (t138.length : Int) (wrap64 (x14_1 + 1))) else (none)) else (none)) else (none)) else (none)) else (if 0 ≤ x4_1 then (if x4_1 ≤ (rd t138 x14_1) then (if (rd t138 x14_1) ≤ (a0.size : Int) then (if x3_1.length < 5864062014805 then (scholiaref15_Pieces.l0 k1 a0 (x3_1 ++ [(⟨a0.extract (x4_1 : Int).toNat ((rd t138 x14_1) : Int).toNat, t144⟩ : S33)]) (rd t138 x14_1) t138 (t138.length : Int) (wrap64 (x14_1 + 1))) else (none)) else (none)) else (none)) else (none))) else (none)) else (none)) else (if 0 ≤ x4_1 then (if x4_1 ≤ (rd t138 x14_1) then (if (rd t138 x14_1) ≤ (a0.size : Int) then (if x3_1.length < 5864062014805 then (scholiaref15_Pieces.l0 k1 a0 (x3_1 ++ [(⟨a0.extract (x4_1 : Int).toNat ((rd t138 x14_1) : Int).toNat, t144⟩ : S33)]) (rd t138 x14_1) t138 (t138.length : Int) (wrap64 (x14_1 + 1))) else (none)) else (none)) else (none)) else (none)))) else (if (x3_1.length : Int) > 0 then (if 0 ≤ (wrap64 ((x3_1.length : Int) - 1)) then (if (wrap64 ((x3_1.length : Int) - 1)) < (x3_1.length : Int) then (if (((rd_T33 x3_1 (wrap64 ((x3_1.length : Int) - 1))).f1) == false) = true then (if 0 ≤ x4_1 then (if x4_1 ≤ (rd t138 x14_1) then (if (rd t138 x14_1) ≤ (a0.size : Int) then (if ((rd_T33 x3_1 (wrap64 ((x3_1.length : Int) - 1))).f0).size + (a0.extract (x4_1 : Int).toNat ((rd t138 x14_1) : Int).toNat).size ≤ 9223372036854775807 then (scholiaref15_Pieces.l0 k1 a0 (x3_1.set ((wrap64 ((x3_1.length : Int) - 1)) : Int).toNat (⟨((rd_T33 x3_1 (wrap64 ((x3_1.length : Int) - 1))).f0) ++ (a0.extract (x4_1 : Int).toNat ((rd t138 x14_1) : Int).toNat), (rd_T33 x3_1 (wrap64 ((x3_1.length : Int) - 1))).f1⟩ : S33)) (rd t138 x14_1) t138 (t138.length : Int) (wrap64 (x14_1 + 1))) else (none)) else (none)) else (none)) else (none)) else (if 0 ≤ x4_1 then (if x4_1 ≤ (rd t138 x14_1) then (if (rd t138 x14_1) ≤ (a0.size : Int) then (if x3_1.length < 5864062014805 then (scholiaref15_Pieces.l0 k1 a0 (x3_1 ++ [(⟨a0.extract (x4_1 : Int).toNat ((rd t138 x14_1) : Int).toNat, false⟩ : S33)]) (rd t138 x14_1) t138 (t138.length : Int) (wrap64 (x14_1 + 1))) else (none)) else (none)) else (none)) else (none))) else (none)) else (none)) else (if 0 ≤ x4_1 then (if x4_1 ≤ (rd t138 x14_1) then (if (rd t138 x14_1) ≤ (a0.size : Int) then (if x3_1.length < 5864062014805 then (scholiaref15_Pieces.l0 k1 a0 (x3_1 ++ [(⟨a0.extract (x4_1 : Int).toNat ((rd t138 x14_1) : Int).toNat, false⟩ : S33)]) (rd t138 x14_1) t138 (t138.length : Int) (wrap64 (x14_1 + 1))) else (none)) else (none)) else (none)) else (none)))) = some r := H
      have A8 := Aside0.mk A80
      clear A80
      by_cases c9 : t142 ≥ 0
      ·rw [if_pos c9] at H
       have c9b0 : decide (0 ≤ t142) = true := decide_eq_true c9
       clear c9
       replace H := Option.bind_eq_some_iff.mp H
       obtain ⟨t144, A100, H⟩ := H
       replace H : (if (x3_1.length : Int) > 0 then (if 0 ≤ (wrap64 ((x3_1.length : Int) - 1)) then (if (wrap64 ((x3_1.length : Int) - 1)) < (x3_1.length : Int) then (if (((rd_T33 x3_1 (wrap64 ((x3_1.length : Int) - 1))).f1) == t144) = true then (if 0 ≤ x4_1 then (if x4_1 ≤ (rd t138 x14_1) then (if (rd t138 x14_1) ≤ (a0.size : Int) then (if ((rd_T33 x3_1 (wrap64 ((x3_1.length : Int) - 1))).f0).size + (a0.extract (x4_1 : Int).toNat ((rd t138 x14_1) : Int).toNat).size ≤ 9223372036854775807 then (scholiaref15_Pieces.l0 k1 a0 (x3_1.set ((wrap64 ((x3_1.length : Int) - 1)) : Int).toNat (⟨((rd_T33 x3_1 (wrap64 ((x3_1.length : Int) - 1))).f0) ++ (a0.extract (x4_1 : Int).toNat ((rd t138 x14_1) : Int).toNat), (rd_T33 x3_1 (wrap64 ((x3_1.length : Int) - 1))).f1⟩ : S33)) (rd t138 x14_1) t138 (t138.length : Int) (wrap64 (x14_1 + 1))) else (none)) else (none)) else (none)) else (none)) else (if 0 ≤ x4_1 then (if x4_1 ≤ (rd t138 x14_1) then (if (rd t138 x14_1) ≤ (a0.size : Int) then (if x3_1.length < 5864062014805 then (scholiaref15_Pieces.l0 k1 a0 (x3_1 ++ [(⟨a0.extract (x4_1 : Int).toNat ((rd t138 x14_1) : Int).toNat, t144⟩ : S33)]) (rd t138 x14_1) t138 (t138.length : Int) (wrap64 (x14_1 + 1))) else (none)) else (none)) else (none)) else (none))) else (none)) else (none)) else (if 0 ≤ x4_1 then (if x4_1 ≤ (rd t138 x14_1) then (if (rd t138 x14_1) ≤ (a0.size : Int) then (if x3_1.length < 5864062014805 then (scholiaref15_Pieces.l0 k1 a0 (x3_1 ++ [(⟨a0.extract (x4_1 : Int).toNat ((rd t138 x14_1) : Int).toNat, t144⟩ : S33)]) (rd t138 x14_1) t138 (t138.length : Int) (wrap64 (x14_1 + 1))) else (none)) else (none)) else (none)) else (none))) = some r := H
       have A10 := Aside0.mk A100
       clear A100
       by_cases c11 : (x3_1.length : Int) > 0
       ·rw [if_pos c11] at H
        have c11b0 : decide (0 < (x3_1.length : Int)) = true := decide_eq_true c11
        have c11b1 : decide (0 < x3_1.length) = true := decide_eq_true (by omega)
        clear c11
        obtain ⟨ji12, hji12⟩ : ∃ j_ : Int, (wrap64 ((x3_1.length : Int) - 1)) = j_ := ⟨_, rfl⟩
        replace H : (if 0 ≤ (ji12) then (if (ji12) < (x3_1.length : Int) then (if (((rd_T33 x3_1 (ji12)).f1) == t144) = true then (if 0 ≤ x4_1 then (if x4_1 ≤ (rd t138 x14_1) then (if (rd t138 x14_1) ≤ (a0.size : Int) then (if ((rd_T33 x3_1 (ji12)).f0).size + (a0.extract (x4_1 : Int).toNat ((rd t138 x14_1) : Int).toNat).size ≤ 9223372036854775807 then (scholiaref15_Pieces.l0 k1 a0 (x3_1.set ((ji12) : Int).toNat (⟨((rd_T33 x3_1 (ji12)).f0) ++ (a0.extract (x4_1 : Int).toNat ((rd t138 x14_1) : Int).toNat), (rd_T33 x3_1 (ji12)).f1⟩ : S33)) (rd t138 x14_1) t138 (t138.length : Int) (wrap64 (x14_1 + 1))) else (none)) else (none)) else (none)) else (none)) else (if 0 ≤ x4_1 then (if x4_1 ≤ (rd t138 x14_1) then (if (rd t138 x14_1) ≤ (a0.size : Int) then (if x3_1.length < 5864062014805 then (scholiaref15_Pieces.l0 k1 a0 (x3_1 ++ [(⟨a0.extract (x4_1 : Int).toNat ((rd t138 x14_1) : Int).toNat, t144⟩ : S33)]) (rd t138 x14_1) t138 (t138.length : Int) (wrap64 (x14_1 + 1))) else (none)) else (none)) else (none)) else (none))) else (none)) else (none)) = some r := by first | (rw [hji12] at H; exact H) | (simp only [hji12] at H ⊢; exact H)
        (try rw [hji12] at A8)
        (try rw [hji12] at A10)
        have hji12w : (IntKind.i64.wrap ((x3_1.length : Int) - 1)) = ji12 := (i64_w _).trans hji12
        by_cases c13 : 0 ≤ (ji12)
        ·rw [if_pos c13] at H
         have c13b0 : decide (0 ≤ (ji12)) = true := decide_eq_true c13
         clear c13
         by_cases c14 : (ji12) < (x3_1.length : Int)
         ·rw [if_pos c14] at H
          have c14b0 : decide ((ji12) < (x3_1.length : Int)) = true := decide_eq_true c14
          clear c14
          by_cases c15 : (((rd_T33 x3_1 (ji12)).f1) == t144) = true
          ·rw [if_pos c15] at H
           have c15b0 : (((rd_T33 x3_1 (ji12)).f1) == t144) = true := c15
           (try (have c15b1 : decide (((rd_T33 x3_1 (ji12)).f1) = t144) = true := by simpa using c15))
           (try (have c15b2 : (((rd_T33 x3_1 (ji12)).f1) == t144) = true := by simpa using c15))
           clear c15
           by_cases c16 : 0 ≤ x4_1
           ·rw [if_pos c16] at H
            have c16b0 := eq_true c16
            have c16b1 : decide (0 ≤ x4_1) = true := decide_eq_true c16
            clear c16
            by_cases c17 : x4_1 ≤ (rd t138 x14_1)
            ·rw [if_pos c17] at H
             have c17b0 := eq_true c17
             have c17b1 : decide (x4_1 ≤ (rd t138 x14_1)) = true := decide_eq_true c17
             clear c17
             by_cases c18 : (rd t138 x14_1) ≤ (a0.size : Int)
             ·rw [if_pos c18] at H
              have c18b0 := eq_true c18
              have c18b1 : decide ((rd t138 x14_1) ≤ (a0.size : Int)) = true := decide_eq_true c18
              clear c18
              by_cases c19 : ((rd_T33 x3_1 (ji12)).f0).size + (a0.extract (x4_1 : Int).toNat ((rd t138 x14_1) : Int).toNat).size ≤ 9223372036854775807
              ·rw [if_pos c19] at H
               have c19b0 := eq_true c19
               have c19b1 : decide (((rd_T33 x3_1 (ji12)).f0).size + (a0.extract (x4_1 : Int).toNat ((rd t138 x14_1) : Int).toNat).size ≤ 9223372036854775807) = true := decide_eq_true c19
               try have c19b2 : (9223372036854775807 < ((rd_T33 x3_1 (ji12)).f0).size + (a0.extract (x4_1 : Int).toNat ((rd t138 x14_1) : Int).toNat).size) = False := eq_false (Nat.not_lt.2 c19)
               have c19b3 : (9223372036854775807 < (((rd_T33 x3_1 (ji12)).f0)).size + ((rd t138 x14_1).toNat - x4_1.toNat)) = False := eq_false (Nat.not_lt.2 (by have q_ := c19; rw [ByteArray.size_extract] at q_; have h_ : rd t138 x14_1 ≤ (a0.size : Int) := of_decide_eq_true (by assumption); rw [Nat.min_eq_left (by omega)] at q_; exact q_))
               obtain ⟨y147, hy147⟩ : ∃ y_ : List (S33), y_ = (x3_1.set ((ji12) : Int).toNat (⟨((rd_T33 x3_1 (ji12)).f0) ++ (a0.extract (x4_1 : Int).toNat ((rd t138 x14_1) : Int).toNat), (rd_T33 x3_1 (ji12)).f1⟩ : S33)) := ⟨_, rfl⟩
               replace H : (scholiaref15_Pieces.l0 k1 a0 y147 (rd t138 x14_1) t138 (t138.length : Int) (wrap64 (x14_1 + 1))) = some r := by first | (rw [hy147]; with_reducible exact H) | (have H2_ := (Option.bind_some _ _).symm.trans H; rw [hy147]; with_reducible exact H2_) | (have H2_ := (Option.bind_some _ _).symm.trans H; with_reducible exact H2_) | with_reducible exact H | (rw [hy147]; exact H) | exact H
               have Ny147 := Aside0.mk hy147
               clear hy147
               have H' := Aside0.mk H
               clear H
               have p141 : 0 ≤ (x14_1 : Int) := of_decide_eq_true as_
               have q141 : x14_1 < (t138.length : Int) := of_decide_eq_true as_
               obtain ⟨ad141, e141, hx141_0⟩ := Kd.at_int (Kd.R_reads' HO_12.out).2.2 x14_1 p141 q141
               cases e141
               replace p141 := eq_true p141
               replace q141 := eq_true q141
               try go_wp2_with (first | ((with_reducible refine gate_callee (f := 14) rfl ?_); refine goesL_ (some 21) rfl rfl Tryz.func14 (by kernel_rfl) rfl #[.string a0, .int .i64 x4_1] rfl ar_ ?_; (with_reducible refine (scholiaref03_Next.calls k1 a0 x4_1 t142 t143 _ A8.out).mono ?_); rintro e w21 ⟨rfl, hb⟩; refine ⟨_, rfl, ?_⟩; have n0_ := Aside0.mk (Kd.R_below (kr_ HO_3.out) hb); have n1_ := Aside0.mk (Kd.R_below (kr_ HO_12.out) hb); have n2_ := Aside0.mk (below_step (bb_ HB.out) hb); clear HO_3; clear HO_12; clear HB; have HO_3 := n0_; have HO_12 := n1_; have HB := n2_; clear n0_ n1_ n2_; (try clear hb); (try clear hb2); (try clear hk); (try clear hi)) | (go_at_call 15; (with_reducible refine (scholiaref04_Word.calls k1 t142 t144 _ A10.out).mono ?_); rintro e w' ⟨rfl, ⟨nd, rfl⟩⟩; (try (rw [drewN_self w21]; generalize hq_ : World.drewN w21 _ = w21; have n0_ : Aside0 (Kd.R (Kd.int .i64) 3 w21 w.heap.size (fun _ => True) (.slice (some ad141) t138.length co4) t138) := ⟨by rw [← hq_]; exact (kr_ HO_12.out)⟩; have n1_ : Aside0 (Kd.R k33 33 w21 w.heap.size (fun _ => True) u3 x3_1) := ⟨by rw [← hq_]; exact (kr_ HO_3.out)⟩; have n2_ : Aside0 (Below w.heap.size w w21) := ⟨by rw [← hq_]; exact (bb_ HB.out)⟩; clear HO_12 HO_3 HB hq_; have HO_12 := n0_; have HO_3 := n1_; have HB := n2_; clear n0_ n1_ n2_)); obtain ⟨Ao22, co22, eo22⟩ := Kd.R_slice HO_3.out; subst eo22; have p145 : 0 ≤ ((ji12) : Int) := of_decide_eq_true as_; have q145 : (ji12) < (x3_1.length : Int) := of_decide_eq_true as_; obtain ⟨ad145, e145, hx145_0, hx145_1⟩ := at_T33 (Kd.R_reads' HO_3.out).2.2 (ji12) p145 q145; cases e145; replace p145 := eq_true p145; replace q145 := eq_true q145))
               have n0_ := Aside0.mk (Kd.R_drew HO_3.out)
               have n1_ := Aside0.mk (Kd.R_drew HO_12.out)
               have n2_ := Aside0.mk (below_drew1 HB.out)
               clear HO_3
               clear HO_12
               clear HB
               have HO_3 := n0_
               have HO_12 := n1_
               have HB := n2_
               clear n0_ n1_ n2_
               have p146 : 0 ≤ ((ji12) : Int) := of_decide_eq_true as_
               have q146 : (ji12) < (x3_1.length : Int) := of_decide_eq_true as_
               obtain ⟨ad146, e146, hx146_0, hx146_1⟩ := at_T33 (Kd.R_reads' HO_3.out).2.2 (ji12) p146 q146
               obtain rfl : ad145 = ad146 := (by injection e146)
               replace p146 := eq_true p146
               replace q146 := eq_true q146
               have p20 : 0 ≤ ((ji12) : Int) := of_decide_eq_true as_
               have q20 : ((ji12) : Int) < ((x3_1.length : Int) : Int) := of_decide_eq_true as_
               obtain ⟨go20, co20, eo20, gb20, gl20, cl20, HG20⟩ := Kd.R_form HO_3.out (by omega)
               (first | cases eo20 | (injection eo20 with ea_ en_ ec_; (first | subst ea_ | (injection ea_ with ea_; subst ea_)); subst ec_; clear en_))
               have GB20 := Aside0.mk gb20
               have GG20 := Aside0.mk HG20
               clear gb20 gl20 HG20
               (first | simp only [add_plain] at hx145_0 | skip)
               (first | simp only [add_plain] at hx145_1 | skip)
               (first | simp only [add_plain] at hx146_0 | skip)
               (first | simp only [add_plain] at hx146_1 | skip)
               obtain ⟨ce20, hcl20, hM20, hcc20, hfr20⟩ := Kd.R_elem HO_3.out z33 ((ji12) : Int) p20 q20
               obtain rfl := k33_openM hM20
               have hx20_0 : World.cell? _ ⟨go20, ((ji12) : Int).toNat * 2, none⟩ = some (.string ((rd_T33 x3_1 (ji12)).f0)) := hcc20 0 _ rfl
               have hx20_1 : World.cell? _ ⟨go20, ((ji12) : Int).toNat * 2 + 1, none⟩ = some (.bool ((rd_T33 x3_1 (ji12)).f1)) := hcc20 1 _ rfl
               have hf20_0 : World.frozen? _ ⟨go20, ((ji12) : Int).toNat * 2, none⟩ = false := hfr20 0
               have hf20_1 : World.frozen? _ ⟨go20, ((ji12) : Int).toNat * 2 + 1, none⟩ = false := hfr20 1
               clear hcl20 hcc20 hfr20 hM20
               replace p20 := eq_true p20
               replace q20 := eq_true q20
               obtain ⟨ce24, hcl24, hM24, hcc24, hfr24⟩ := Kd.R_elem HO_3.out z33 ((ji12) : Int) (of_decide_eq_true as_) (by have h_ : ((ji12) : Int) < ((x3_1.length : Int) : Int) := of_decide_eq_true as_; first | exact h_ | (have e_ := (Kd.R_reads' HO_3.out).1; omega) | simpa using h_)
               obtain rfl := k33_openM hM24
               have HP24 := (Kd.R_seg HO_3.out ((ji12) : Int) (of_decide_eq_true as_) (by have h_ : ((ji12) : Int) < ((x3_1.length : Int) : Int) := of_decide_eq_true as_; first | exact h_ | (have e_ := (Kd.R_reads' HO_3.out).1; omega) | simpa using h_) (seg := [.string (((rd_T33 x3_1 (ji12)).f0) ++ (a0.extract (x4_1 : Int).toNat ((rd t138 x14_1) : Int).toNat))]) (j := 0) hcl24 hcc24 (show 1 ≤ 2 from by decide) (x' := (⟨((rd_T33 x3_1 (ji12)).f0) ++ (a0.extract (x4_1 : Int).toNat ((rd t138 x14_1) : Int).toNat), (rd_T33 x3_1 (ji12)).f1⟩ : S33)) (k33_mkM _ _ _ (⟨((rd_T33 x3_1 (ji12)).f0) ++ (a0.extract (x4_1 : Int).toNat ((rd t138 x14_1) : Int).toNat), (rd_T33 x3_1 (ji12)).f1⟩ : S33) ) (fun _ hk => hk)).1
               rw [← Ny147.out] at HP24
               have HQ24 := Aside0.mk HP24
               clear hcl24 hcc24 hfr24 hM24 HP24
               refine start_ (n := 17) (S := fun w' => w'.cell? ⟨go20, ((ji12)).toNat * 2, none⟩ = some (.string ((rd_T33 x3_1 (ji12)).f0)) ∧ w'.cell? ⟨go20, ((ji12)).toNat * 2 + 1, none⟩ = some (.bool ((rd_T33 x3_1 (ji12)).f1))) (ds := [16]) #[false, false, false, false, false, false, false, false, false, false, false, false, false, false, false, false, false] (by kernel_rfl) rfl rfl ⟨hx146_0, hx146_1⟩ (fun hHeld => ?_); refine with_tabW scholiaref15_Pieces.tab10 scholiaref15_Pieces.bits10 (fun HT_ HW_ => ?_)
               generalize w21.drew = w23 at HO_3 HO_12 HB GG20 HQ24 hf20_0 hf20_1 hx145_0 hx145_1 hx146_0 hx146_1 hx20_0 hx20_1 hHeld ⊢
               refine pure_ (i := 0) (N := some 44) (v := ?_) (a' := ?_) #[true, false, false, false, false, false, false, false, false, false, false, false, false, false, false, false, false] rfl rfl (any_of HT_.out (by kernel_rfl)) (fun _ _ _ h => h) (Or.inl ⟨by rfl, ?_⟩) ?_ ?_
               rotate_left
               ·intro w'
                go_simp
                with_reducible rfl
               rotate_left
               ·simp only [Act.put, List.setIfInBounds_toArray, List.set_cons_zero, List.set_cons_succ, i64_w, i32_w]
                rfl
               refine pure_ (i := 1) (N := some 45) (v := ?_) (a' := ?_) #[true, true, false, false, false, false, false, false, false, false, false, false, false, false, false, false, false] rfl rfl (any_of HT_.out (by kernel_rfl)) (fun _ _ _ h => h) (Or.inl ⟨by rfl, ?_⟩) ?_ ?_
               rotate_left
               ·intro w'
                go_simp
                with_reducible rfl
               rotate_left
               ·simp only [Act.put, List.setIfInBounds_toArray, List.set_cons_zero, List.set_cons_succ, i64_w, i32_w]
                rfl
               refine pure_ (i := 2) (N := some 46) (v := ?_) (a' := ?_) #[true, true, true, false, false, false, false, false, false, false, false, false, false, false, false, false, false] rfl rfl (any_of HT_.out (by kernel_rfl)) (fun _ _ _ h => h) (Or.inl ⟨by rfl, ?_⟩) ?_ ?_
               rotate_left
               ·intro w'
                go_simp
                with_reducible rfl
               rotate_left
               ·simp only [Act.put, List.setIfInBounds_toArray, List.set_cons_zero, List.set_cons_succ, i64_w, i32_w]
                rfl
               refine pure_ (i := 3) (N := some 47) (v := ?_) (a' := ?_) #[true, true, true, true, false, false, false, false, false, false, false, false, false, false, false, false, false] rfl rfl (any_of HT_.out (by kernel_rfl)) (fun _ _ _ h => h) (Or.inl ⟨by rfl, ?_⟩) ?_ ?_
               rotate_left
               ·intro w'
                go_simp
                with_reducible rfl
               rotate_left
               ·simp only [Act.put, List.setIfInBounds_toArray, List.set_cons_zero, List.set_cons_succ, i64_w, i32_w]
                rfl
               refine pure_ (i := 4) (N := some 48) (v := ?_) (a' := ?_) #[true, true, true, true, true, false, false, false, false, false, false, false, false, false, false, false, false] rfl rfl (any_of HT_.out (by kernel_rfl)) (fun _ _ _ h => h) (Or.inl ⟨by rfl, ?_⟩) ?_ ?_
               rotate_left
               ·intro w'
                go_simp
                with_reducible rfl
               rotate_left
               ·simp only [Act.put, List.setIfInBounds_toArray, List.set_cons_zero, List.set_cons_succ, i64_w, i32_w]
                rfl
               refine pure_ (i := 5) (N := some 49) (v := ?_) (a' := ?_) #[true, true, true, true, true, true, false, false, false, false, false, false, false, false, false, false, false] rfl rfl (any_of HT_.out (by kernel_rfl)) (fun _ _ _ h => h) (Or.inl ⟨by rfl, ?_⟩) ?_ ?_
               rotate_left
               ·intro w'
                go_simp
                with_reducible rfl
               rotate_left
               ·simp only [Act.put, List.setIfInBounds_toArray, List.set_cons_zero, List.set_cons_succ, i64_w, i32_w]
                rfl
               refine pure_ (i := 6) (N := some 50) (v := ?_) (a' := ?_) #[true, true, true, true, true, true, true, false, false, false, false, false, false, false, false, false, false] rfl rfl (any_of HT_.out (by kernel_rfl)) (fun _ _ _ h => h) (Or.inl ⟨by rfl, ?_⟩) ?_ ?_
               rotate_left
               ·intro w'
                go_simp
                with_reducible rfl
               rotate_left
               ·simp only [Act.put, List.setIfInBounds_toArray, List.set_cons_zero, List.set_cons_succ, i64_w, i32_w]
                rfl
               refine pure_ (i := 7) (N := some 51) (v := ?_) (a' := ?_) #[true, true, true, true, true, true, true, true, false, false, false, false, false, false, false, false, false] rfl rfl (any_of HT_.out (by kernel_rfl)) (fun _ _ _ h => h) (Or.inl ⟨by rfl, ?_⟩) ?_ ?_
               rotate_left
               ·intro w'
                go_simp
                with_reducible rfl
               rotate_left
               ·simp only [Act.put, List.setIfInBounds_toArray, List.set_cons_zero, List.set_cons_succ, i64_w, i32_w]
                rfl
               refine pure_ (i := 9) (N := some 53) (v := ?_) (a' := ?_) #[true, true, true, true, true, true, true, true, false, true, false, false, false, false, false, false, false] rfl rfl (any_of HT_.out (by kernel_rfl)) (fun _ _ _ h => h) (Or.inl ⟨by rfl, ?_⟩) ?_ ?_
               rotate_left
               ·intro w'
                go_simp
                with_reducible rfl
               rotate_left
               ·simp only [Act.put, List.setIfInBounds_toArray, List.set_cons_zero, List.set_cons_succ, i64_w, i32_w]
                rfl
               refine pure_ (i := 10) (N := some 54) (v := ?_) (a' := ?_) #[true, true, true, true, true, true, true, true, false, true, true, false, false, false, false, false, false] rfl rfl (any_of HT_.out (by kernel_rfl)) (fun _ _ _ h => h) (Or.inl ⟨by rfl, ?_⟩) ?_ ?_
               rotate_left
               ·intro w'
                go_simp
                with_reducible rfl
               rotate_left
               ·simp only [Act.put, List.setIfInBounds_toArray, List.set_cons_zero, List.set_cons_succ, i64_w, i32_w]
                rfl
               refine pure_ (i := 11) (N := some 55) (v := ?_) (a' := ?_) #[true, true, true, true, true, true, true, true, false, true, true, true, false, false, false, false, false] rfl rfl (any_of HT_.out (by kernel_rfl)) (fun _ _ _ h => h) (Or.inl ⟨by rfl, ?_⟩) ?_ ?_
               rotate_left
               ·intro w'
                go_simp
                with_reducible rfl
               rotate_left
               ·simp only [Act.put, List.setIfInBounds_toArray, List.set_cons_zero, List.set_cons_succ, i64_w, i32_w]
                rfl
               refine pure_ (i := 12) (N := some 56) (v := ?_) (a' := ?_) #[true, true, true, true, true, true, true, true, false, true, true, true, true, false, false, false, false] rfl rfl (any_of HT_.out (by kernel_rfl)) (fun _ _ _ h => h) (Or.inl ⟨by rfl, ?_⟩) ?_ ?_
               rotate_left
               ·intro w'
                go_simp
                with_reducible rfl
               rotate_left
               ·simp only [Act.put, List.setIfInBounds_toArray, List.set_cons_zero, List.set_cons_succ, i64_w, i32_w]
                rfl
               refine take_ (i := 8) (N := some 52) (v := ?_) (a' := ?_) #[true, true, true, true, true, true, true, true, true, true, true, true, true, false, false, false, false] rfl rfl (take_ofW HT_.out HW_.out (by kernel_rfl)) (fun _ _ _ h => h) (Or.inl ⟨by rfl, ?_⟩) hHeld ?_ ?_
               rotate_left
               ·rintro w' ⟨s0, s1⟩
                go_simp
                with_reducible rfl
               rotate_left
               ·simp only [Act.put, List.setIfInBounds_toArray, List.set_cons_zero, List.set_cons_succ, i64_w, i32_w]
                rfl
               refine pure_ (i := 13) (N := some 57) (v := ?_) (a' := ?_) #[true, true, true, true, true, true, true, true, true, true, true, true, true, true, false, false, false] rfl rfl (any_of HT_.out (by kernel_rfl)) (fun _ _ _ h => h) (Or.inl ⟨by rfl, ?_⟩) ?_ ?_
               rotate_left
               ·intro w'
                go_simp
                with_reducible rfl
               rotate_left
               ·simp only [Act.put, List.setIfInBounds_toArray, List.set_cons_zero, List.set_cons_succ, i64_w, i32_w]
                rfl
               refine pure_ (i := 14) (N := some 58) (v := ?_) (a' := ?_) #[true, true, true, true, true, true, true, true, true, true, true, true, true, true, true, false, false] rfl rfl (any_of HT_.out (by kernel_rfl)) (fun _ _ _ h => h) (Or.inl ⟨by rfl, ?_⟩) ?_ ?_
               rotate_left
               ·intro w'
                go_simp
                with_reducible rfl
               rotate_left
               ·simp only [Act.put, List.setIfInBounds_toArray, List.set_cons_zero, List.set_cons_succ, i64_w, i32_w]
                rfl
               refine pure_ (i := 15) (N := some 59) (v := ?_) (a' := ?_) #[true, true, true, true, true, true, true, true, true, true, true, true, true, true, true, true, false] rfl rfl (any_of HT_.out (by kernel_rfl)) (fun _ _ _ h => h) (Or.inl ⟨by rfl, ?_⟩) ?_ ?_
               rotate_left
               ·intro w'
                go_simp
                with_reducible rfl
               rotate_left
               ·simp only [Act.put, List.setIfInBounds_toArray, List.set_cons_zero, List.set_cons_succ, i64_w, i32_w]
                rfl
               refine last_ (i := 16) (N := none) #[true, true, true, true, true, true, true, true, true, true, true, true, true, true, true, true, true] rfl rfl (one_of HT_.out (by kernel_rfl)) (by decide) (fun K hK => ?_)
               refine skip_ (w1 := ?_) (by rfl) rfl ?_ ?_
               rotate_left
               ·go_simp
                rfl
               refine hK.out _ _ ?_
               clear hK K
               refine done_ (done_of HT_.out (by kernel_rfl)) ?_
               try go_wp2
               go_roundg k1
               case measure => have := HK1.out; omega
               case rel => exact ⟨(y147), (rd t138 x14_1), (wrap64 (x14_1 + 1)), rs_, rs_, H', ⟨by have := HK1.out; omega⟩, ⟨kr_ HQ24.out⟩, ⟨by (with_reducible repeat (first | apply Kd.R_alloc | apply Kd.R_drewN | apply Kd.R_drew)); exact Kd.R_mono (Kd.R_far (p := ⟨go20, ((ji12) : Int).toNat * 2, none⟩) (Kd.R_types HO_12.out GG20.out (by decide)) (fun _ hk => hk.2) (.string (((rd_T33 x3_1 (ji12)).f0) ++ (a0.extract (x4_1 : Int).toNat ((rd t138 x14_1) : Int).toNat)))) (fun _ hk => trivial)⟩, ⟨bb1_ HB.out GB20.out⟩⟩
              ·rw [if_neg c19] at H
               exact absurd H (by simp)
             ·rw [if_neg c18] at H
              exact absurd H (by simp)
            ·rw [if_neg c17] at H
             exact absurd H (by simp)
           ·rw [if_neg c16] at H
            exact absurd H (by simp)
          ·rw [if_neg c15] at H
           have c15b0 : (((rd_T33 x3_1 (ji12)).f1) == t144) = false := by simpa using c15
           (try (have c15b1 : decide (((rd_T33 x3_1 (ji12)).f1) = t144) = false := by simpa using c15))
           (try (have c15b2 : (((rd_T33 x3_1 (ji12)).f1) == t144) = false := by simpa using c15))
           (try (have c15b3 : ¬ (((rd_T33 x3_1 (ji12)).f1) = t144) := by simpa using c15))
           clear c15
           by_cases c25 : 0 ≤ x4_1
           ·rw [if_pos c25] at H
            have c25b0 := eq_true c25
            have c25b1 : decide (0 ≤ x4_1) = true := decide_eq_true c25
            clear c25
            by_cases c26 : x4_1 ≤ (rd t138 x14_1)
            ·rw [if_pos c26] at H
             have c26b0 := eq_true c26
             have c26b1 : decide (x4_1 ≤ (rd t138 x14_1)) = true := decide_eq_true c26
             clear c26
             by_cases c27 : (rd t138 x14_1) ≤ (a0.size : Int)
             ·rw [if_pos c27] at H
              have c27b0 := eq_true c27
              have c27b1 : decide ((rd t138 x14_1) ≤ (a0.size : Int)) = true := decide_eq_true c27
              clear c27
              by_cases c28 : x3_1.length < 5864062014805
              ·rw [if_pos c28] at H
               have LMc28 := Aside0.mk c28
               clear c28
               obtain ⟨y148, hy148⟩ : ∃ y_ : List (S33), y_ = (x3_1 ++ [(⟨a0.extract (x4_1 : Int).toNat ((rd t138 x14_1) : Int).toNat, t144⟩ : S33)]) := ⟨_, rfl⟩
               replace H : (scholiaref15_Pieces.l0 k1 a0 y148 (rd t138 x14_1) t138 (t138.length : Int) (wrap64 (x14_1 + 1))) = some r := by first | (rw [hy148]; with_reducible exact H) | (have H2_ := (Option.bind_some _ _).symm.trans H; rw [hy148]; with_reducible exact H2_) | (have H2_ := (Option.bind_some _ _).symm.trans H; with_reducible exact H2_) | with_reducible exact H | (rw [hy148]; exact H) | exact H
               have Ny148 := Aside0.mk hy148
               clear hy148
               have H' := Aside0.mk H
               clear H
               have p141 : 0 ≤ (x14_1 : Int) := of_decide_eq_true as_
               have q141 : x14_1 < (t138.length : Int) := of_decide_eq_true as_
               obtain ⟨ad141, e141, hx141_0⟩ := Kd.at_int (Kd.R_reads' HO_12.out).2.2 x14_1 p141 q141
               cases e141
               replace p141 := eq_true p141
               replace q141 := eq_true q141
               go_wp2_with (first | ((with_reducible refine gate_callee (f := 14) rfl ?_); refine goesL_ (some 21) rfl rfl Tryz.func14 (by kernel_rfl) rfl #[.string a0, .int .i64 x4_1] rfl ar_ ?_; (with_reducible refine (scholiaref03_Next.calls k1 a0 x4_1 t142 t143 _ A8.out).mono ?_); rintro e w29 ⟨rfl, hb⟩; refine ⟨_, rfl, ?_⟩; have n0_ := Aside0.mk (Kd.R_below (kr_ HO_3.out) hb); have n1_ := Aside0.mk (Kd.R_below (kr_ HO_12.out) hb); have n2_ := Aside0.mk (below_step (bb_ HB.out) hb); clear HO_3; clear HO_12; clear HB; have HO_3 := n0_; have HO_12 := n1_; have HB := n2_; clear n0_ n1_ n2_; (try clear hb); (try clear hb2); (try clear hk); (try clear hi)) | (go_at_call 15; (with_reducible refine (scholiaref04_Word.calls k1 t142 t144 _ A10.out).mono ?_); rintro e w' ⟨rfl, ⟨nd, rfl⟩⟩; obtain ⟨Ao30, co30, eo30⟩ := Kd.R_slice HO_3.out; subst eo30; have p145 : 0 ≤ ((ji12) : Int) := of_decide_eq_true as_; have q145 : (ji12) < (x3_1.length : Int) := of_decide_eq_true as_; obtain ⟨ad145, e145, hx145_0, hx145_1⟩ := at_T33 (Kd.R_reads' HO_3.out).2.2 (ji12) p145 q145; cases e145; replace p145 := eq_true p145; replace q145 := eq_true q145) | ((with_reducible refine gate_builtin (b := .append) (xs := #[.tmp 60, .tmp 67]) rfl ?_); at_builtin; refine Kd.R_append k33 (w0 := w) w.heap.size rfl (.tmp 60) (.tmp 67) 30 33 (.agg #[(.string ⟨#[]⟩), (.bool false)]) 24 rfl Tryz.underlying30 info33 rfl (by decide) (by omega) (.slice (some ad145) x3_1.length co30) x3_1 (⟨a0.extract (x4_1 : Int).toNat ((rd t138 x14_1) : Int).toNat, t144⟩ : S33) [.string (a0.extract (x4_1 : Int).toNat ((rd t138 x14_1) : Int).toNat), .bool t144] (fun _ => True) (fun _ => False) rfl rfl ?aP (fun _ hk => hk.elim) ?aF ?aO ?aB ?aS ?aL ?_; (case aP => exact k33_mkM _ _ _ (⟨a0.extract (x4_1 : Int).toNat ((rd t138 x14_1) : Int).toNat, t144⟩ : S33)); (case aB => exact (bb_ HB.out)); (case aF => exact (fun _ _ => trivial)); (case aO => exact (kr_ HO_3.out)); (case aS => exact (below_size (bb_ HB.out))); (case aL => have := LMc28.out; omega); intro v149 w31 ho hb hg hat; rw [← Ny148.out] at ho; have n0_ := Aside0.mk (Kd.R_over' (kr_ HO_12.out) (Kd.R_typed (kr_ HO_3.out)) (by decide) hg); have n1_ := Aside0.mk (hb); have n2_ := Aside0.mk (ho); clear HO_12; clear HB; clear HO_3; have HO_12 := n0_; have HB := n1_; have HO150 := n2_; clear n0_ n1_ n2_; clear ho hb hg hat))
               go_roundg k1
               case measure => have := HK1.out; omega
               case rel => exact ⟨(y148), (rd t138 x14_1), (wrap64 (x14_1 + 1)), rs_, rs_, H', ⟨by have := HK1.out; omega⟩, ⟨kr_ HO150.out⟩, ⟨kr_ HO_12.out⟩, ⟨bb_ HB.out⟩⟩
              ·rw [if_neg c28] at H
               exact absurd H (by simp)
             ·rw [if_neg c27] at H
              exact absurd H (by simp)
            ·rw [if_neg c26] at H
             exact absurd H (by simp)
           ·rw [if_neg c25] at H
            exact absurd H (by simp)
         ·rw [if_neg c14] at H
          exact absurd H (by simp)
        ·rw [if_neg c13] at H
         exact absurd H (by simp)
       ·rw [if_neg c11] at H
        have c11b0 : decide (0 < (x3_1.length : Int)) = false := decide_eq_false c11
        have c11b1 : decide (0 < x3_1.length) = false := decide_eq_false (by omega)
        clear c11
        by_cases c32 : 0 ≤ x4_1
        ·rw [if_pos c32] at H
         have c32b0 := eq_true c32
         have c32b1 : decide (0 ≤ x4_1) = true := decide_eq_true c32
         clear c32
         by_cases c33 : x4_1 ≤ (rd t138 x14_1)
         ·rw [if_pos c33] at H
          have c33b0 := eq_true c33
          have c33b1 : decide (x4_1 ≤ (rd t138 x14_1)) = true := decide_eq_true c33
          clear c33
          by_cases c34 : (rd t138 x14_1) ≤ (a0.size : Int)
          ·rw [if_pos c34] at H
           have c34b0 := eq_true c34
           have c34b1 : decide ((rd t138 x14_1) ≤ (a0.size : Int)) = true := decide_eq_true c34
           clear c34
           by_cases c35 : x3_1.length < 5864062014805
           ·rw [if_pos c35] at H
            have LMc35 := Aside0.mk c35
            clear c35
            obtain ⟨y151, hy151⟩ : ∃ y_ : List (S33), y_ = (x3_1 ++ [(⟨a0.extract (x4_1 : Int).toNat ((rd t138 x14_1) : Int).toNat, t144⟩ : S33)]) := ⟨_, rfl⟩
            replace H : (scholiaref15_Pieces.l0 k1 a0 y151 (rd t138 x14_1) t138 (t138.length : Int) (wrap64 (x14_1 + 1))) = some r := by first | (rw [hy151]; with_reducible exact H) | (have H2_ := (Option.bind_some _ _).symm.trans H; rw [hy151]; with_reducible exact H2_) | (have H2_ := (Option.bind_some _ _).symm.trans H; with_reducible exact H2_) | with_reducible exact H | (rw [hy151]; exact H) | exact H
            have Ny151 := Aside0.mk hy151
            clear hy151
            have H' := Aside0.mk H
            clear H
            have p141 : 0 ≤ (x14_1 : Int) := of_decide_eq_true as_
            have q141 : x14_1 < (t138.length : Int) := of_decide_eq_true as_
            obtain ⟨ad141, e141, hx141_0⟩ := Kd.at_int (Kd.R_reads' HO_12.out).2.2 x14_1 p141 q141
            cases e141
            replace p141 := eq_true p141
            replace q141 := eq_true q141
            go_wp2_with (first | ((with_reducible refine gate_callee (f := 14) rfl ?_); refine goesL_ (some 21) rfl rfl Tryz.func14 (by kernel_rfl) rfl #[.string a0, .int .i64 x4_1] rfl ar_ ?_; (with_reducible refine (scholiaref03_Next.calls k1 a0 x4_1 t142 t143 _ A8.out).mono ?_); rintro e w36 ⟨rfl, hb⟩; refine ⟨_, rfl, ?_⟩; have n0_ := Aside0.mk (Kd.R_below (kr_ HO_3.out) hb); have n1_ := Aside0.mk (Kd.R_below (kr_ HO_12.out) hb); have n2_ := Aside0.mk (below_step (bb_ HB.out) hb); clear HO_3; clear HO_12; clear HB; have HO_3 := n0_; have HO_12 := n1_; have HB := n2_; clear n0_ n1_ n2_; (try clear hb); (try clear hb2); (try clear hk); (try clear hi)) | (go_at_call 15; (with_reducible refine (scholiaref04_Word.calls k1 t142 t144 _ A10.out).mono ?_); rintro e w' ⟨rfl, ⟨nd, rfl⟩⟩; obtain ⟨Ao37, co37, eo37⟩ := Kd.R_slice HO_3.out; subst eo37) | ((with_reducible refine gate_builtin (b := .append) (xs := #[.tmp 60, .tmp 67]) rfl ?_); at_builtin; refine Kd.R_append k33 (w0 := w) w.heap.size rfl (.tmp 60) (.tmp 67) 30 33 (.agg #[(.string ⟨#[]⟩), (.bool false)]) 24 rfl Tryz.underlying30 info33 rfl (by decide) (by omega) (.slice Ao37 x3_1.length co37) x3_1 (⟨a0.extract (x4_1 : Int).toNat ((rd t138 x14_1) : Int).toNat, t144⟩ : S33) [.string (a0.extract (x4_1 : Int).toNat ((rd t138 x14_1) : Int).toNat), .bool t144] (fun _ => True) (fun _ => False) rfl rfl ?aP (fun _ hk => hk.elim) ?aF ?aO ?aB ?aS ?aL ?_; (case aP => exact k33_mkM _ _ _ (⟨a0.extract (x4_1 : Int).toNat ((rd t138 x14_1) : Int).toNat, t144⟩ : S33)); (case aB => exact (bb_ HB.out)); (case aF => exact (fun _ _ => trivial)); (case aO => exact (kr_ HO_3.out)); (case aS => exact (below_size (bb_ HB.out))); (case aL => have := LMc35.out; omega); intro v152 w38 ho hb hg hat; rw [← Ny151.out] at ho; have n0_ := Aside0.mk (Kd.R_over' (kr_ HO_12.out) (Kd.R_typed (kr_ HO_3.out)) (by decide) hg); have n1_ := Aside0.mk (hb); have n2_ := Aside0.mk (ho); clear HO_12; clear HB; clear HO_3; have HO_12 := n0_; have HB := n1_; have HO153 := n2_; clear n0_ n1_ n2_; clear ho hb hg hat))
            go_roundg k1
            case measure => have := HK1.out; omega
            case rel => exact ⟨(y151), (rd t138 x14_1), (wrap64 (x14_1 + 1)), rs_, rs_, H', ⟨by have := HK1.out; omega⟩, ⟨kr_ HO153.out⟩, ⟨kr_ HO_12.out⟩, ⟨bb_ HB.out⟩⟩
           ·rw [if_neg c35] at H
            exact absurd H (by simp)
          ·rw [if_neg c34] at H
           exact absurd H (by simp)
         ·rw [if_neg c33] at H
          exact absurd H (by simp)
        ·rw [if_neg c32] at H
         exact absurd H (by simp)
      ·rw [if_neg c9] at H
       have c9b0 : decide (0 ≤ t142) = false := decide_eq_false c9
       clear c9
       by_cases c39 : (x3_1.length : Int) > 0
       ·rw [if_pos c39] at H
        have c39b0 : decide (0 < (x3_1.length : Int)) = true := decide_eq_true c39
        have c39b1 : decide (0 < x3_1.length) = true := decide_eq_true (by omega)
        clear c39
        obtain ⟨ji40, hji40⟩ : ∃ j_ : Int, (wrap64 ((x3_1.length : Int) - 1)) = j_ := ⟨_, rfl⟩
        replace H : (if 0 ≤ (ji40) then (if (ji40) < (x3_1.length : Int) then (if (((rd_T33 x3_1 (ji40)).f1) == false) = true then (if 0 ≤ x4_1 then (if x4_1 ≤ (rd t138 x14_1) then (if (rd t138 x14_1) ≤ (a0.size : Int) then (if ((rd_T33 x3_1 (ji40)).f0).size + (a0.extract (x4_1 : Int).toNat ((rd t138 x14_1) : Int).toNat).size ≤ 9223372036854775807 then (scholiaref15_Pieces.l0 k1 a0 (x3_1.set ((ji40) : Int).toNat (⟨((rd_T33 x3_1 (ji40)).f0) ++ (a0.extract (x4_1 : Int).toNat ((rd t138 x14_1) : Int).toNat), (rd_T33 x3_1 (ji40)).f1⟩ : S33)) (rd t138 x14_1) t138 (t138.length : Int) (wrap64 (x14_1 + 1))) else (none)) else (none)) else (none)) else (none)) else (if 0 ≤ x4_1 then (if x4_1 ≤ (rd t138 x14_1) then (if (rd t138 x14_1) ≤ (a0.size : Int) then (if x3_1.length < 5864062014805 then (scholiaref15_Pieces.l0 k1 a0 (x3_1 ++ [(⟨a0.extract (x4_1 : Int).toNat ((rd t138 x14_1) : Int).toNat, false⟩ : S33)]) (rd t138 x14_1) t138 (t138.length : Int) (wrap64 (x14_1 + 1))) else (none)) else (none)) else (none)) else (none))) else (none)) else (none)) = some r := by first | (rw [hji40] at H; exact H) | (simp only [hji40] at H ⊢; exact H)
        (try rw [hji40] at A8)
        have hji40w : (IntKind.i64.wrap ((x3_1.length : Int) - 1)) = ji40 := (i64_w _).trans hji40
        by_cases c41 : 0 ≤ (ji40)
        ·rw [if_pos c41] at H
         have c41b0 : decide (0 ≤ (ji40)) = true := decide_eq_true c41
         clear c41
         by_cases c42 : (ji40) < (x3_1.length : Int)
         ·rw [if_pos c42] at H
          have c42b0 : decide ((ji40) < (x3_1.length : Int)) = true := decide_eq_true c42
          clear c42
          by_cases c43 : (((rd_T33 x3_1 (ji40)).f1) == false) = true
          ·rw [if_pos c43] at H
           have c43b0 : (((rd_T33 x3_1 (ji40)).f1) == false) = true := c43
           (try (have c43b1 : decide (((rd_T33 x3_1 (ji40)).f1) = false) = true := by simpa using c43))
           (try (have c43b2 : (((rd_T33 x3_1 (ji40)).f1) == false) = true := by simpa using c43))
           clear c43
           by_cases c44 : 0 ≤ x4_1
           ·rw [if_pos c44] at H
            have c44b0 := eq_true c44
            have c44b1 : decide (0 ≤ x4_1) = true := decide_eq_true c44
            clear c44
            by_cases c45 : x4_1 ≤ (rd t138 x14_1)
            ·rw [if_pos c45] at H
             have c45b0 := eq_true c45
             have c45b1 : decide (x4_1 ≤ (rd t138 x14_1)) = true := decide_eq_true c45
             clear c45
             by_cases c46 : (rd t138 x14_1) ≤ (a0.size : Int)
             ·rw [if_pos c46] at H
              have c46b0 := eq_true c46
              have c46b1 : decide ((rd t138 x14_1) ≤ (a0.size : Int)) = true := decide_eq_true c46
              clear c46
              by_cases c47 : ((rd_T33 x3_1 (ji40)).f0).size + (a0.extract (x4_1 : Int).toNat ((rd t138 x14_1) : Int).toNat).size ≤ 9223372036854775807
              ·rw [if_pos c47] at H
               have c47b0 := eq_true c47
               have c47b1 : decide (((rd_T33 x3_1 (ji40)).f0).size + (a0.extract (x4_1 : Int).toNat ((rd t138 x14_1) : Int).toNat).size ≤ 9223372036854775807) = true := decide_eq_true c47
               try have c47b2 : (9223372036854775807 < ((rd_T33 x3_1 (ji40)).f0).size + (a0.extract (x4_1 : Int).toNat ((rd t138 x14_1) : Int).toNat).size) = False := eq_false (Nat.not_lt.2 c47)
               have c47b3 : (9223372036854775807 < (((rd_T33 x3_1 (ji40)).f0)).size + ((rd t138 x14_1).toNat - x4_1.toNat)) = False := eq_false (Nat.not_lt.2 (by have q_ := c47; rw [ByteArray.size_extract] at q_; have h_ : rd t138 x14_1 ≤ (a0.size : Int) := of_decide_eq_true (by assumption); rw [Nat.min_eq_left (by omega)] at q_; exact q_))
               obtain ⟨y156, hy156⟩ : ∃ y_ : List (S33), y_ = (x3_1.set ((ji40) : Int).toNat (⟨((rd_T33 x3_1 (ji40)).f0) ++ (a0.extract (x4_1 : Int).toNat ((rd t138 x14_1) : Int).toNat), (rd_T33 x3_1 (ji40)).f1⟩ : S33)) := ⟨_, rfl⟩
               replace H : (scholiaref15_Pieces.l0 k1 a0 y156 (rd t138 x14_1) t138 (t138.length : Int) (wrap64 (x14_1 + 1))) = some r := by first | (rw [hy156]; with_reducible exact H) | (have H2_ := (Option.bind_some _ _).symm.trans H; rw [hy156]; with_reducible exact H2_) | (have H2_ := (Option.bind_some _ _).symm.trans H; with_reducible exact H2_) | with_reducible exact H | (rw [hy156]; exact H) | exact H
               have Ny156 := Aside0.mk hy156
               clear hy156
               have H' := Aside0.mk H
               clear H
               have p141 : 0 ≤ (x14_1 : Int) := of_decide_eq_true as_
               have q141 : x14_1 < (t138.length : Int) := of_decide_eq_true as_
               obtain ⟨ad141, e141, hx141_0⟩ := Kd.at_int (Kd.R_reads' HO_12.out).2.2 x14_1 p141 q141
               cases e141
               replace p141 := eq_true p141
               replace q141 := eq_true q141
               try go_wp2_with (first | ((with_reducible refine gate_callee (f := 14) rfl ?_); refine goesL_ (some 21) rfl rfl Tryz.func14 (by kernel_rfl) rfl #[.string a0, .int .i64 x4_1] rfl ar_ ?_; (with_reducible refine (scholiaref03_Next.calls k1 a0 x4_1 t142 t143 _ A8.out).mono ?_); rintro e w49 ⟨rfl, hb⟩; refine ⟨_, rfl, ?_⟩; have n0_ := Aside0.mk (Kd.R_below (kr_ HO_3.out) hb); have n1_ := Aside0.mk (Kd.R_below (kr_ HO_12.out) hb); have n2_ := Aside0.mk (below_step (bb_ HB.out) hb); clear HO_3; clear HO_12; clear HB; have HO_3 := n0_; have HO_12 := n1_; have HB := n2_; clear n0_ n1_ n2_; (try clear hb); (try clear hb2); (try clear hk); (try clear hi); obtain ⟨Ao50, co50, eo50⟩ := Kd.R_slice HO_3.out; subst eo50; have p154 : 0 ≤ ((ji40) : Int) := of_decide_eq_true as_; have q154 : (ji40) < (x3_1.length : Int) := of_decide_eq_true as_; obtain ⟨ad154, e154, hx154_0, hx154_1⟩ := at_T33 (Kd.R_reads' HO_3.out).2.2 (ji40) p154 q154; cases e154; replace p154 := eq_true p154; replace q154 := eq_true q154))
               have n0_ := Aside0.mk (Kd.R_drew HO_3.out)
               have n1_ := Aside0.mk (Kd.R_drew HO_12.out)
               have n2_ := Aside0.mk (below_drew1 HB.out)
               clear HO_3
               clear HO_12
               clear HB
               have HO_3 := n0_
               have HO_12 := n1_
               have HB := n2_
               clear n0_ n1_ n2_
               have p155 : 0 ≤ ((ji40) : Int) := of_decide_eq_true as_
               have q155 : (ji40) < (x3_1.length : Int) := of_decide_eq_true as_
               obtain ⟨ad155, e155, hx155_0, hx155_1⟩ := at_T33 (Kd.R_reads' HO_3.out).2.2 (ji40) p155 q155
               obtain rfl : ad154 = ad155 := (by injection e155)
               replace p155 := eq_true p155
               replace q155 := eq_true q155
               have p48 : 0 ≤ ((ji40) : Int) := of_decide_eq_true as_
               have q48 : ((ji40) : Int) < ((x3_1.length : Int) : Int) := of_decide_eq_true as_
               obtain ⟨go48, co48, eo48, gb48, gl48, cl48, HG48⟩ := Kd.R_form HO_3.out (by omega)
               (first | cases eo48 | (injection eo48 with ea_ en_ ec_; (first | subst ea_ | (injection ea_ with ea_; subst ea_)); subst ec_; clear en_))
               have GB48 := Aside0.mk gb48
               have GG48 := Aside0.mk HG48
               clear gb48 gl48 HG48
               (first | simp only [add_plain] at hx154_0 | skip)
               (first | simp only [add_plain] at hx154_1 | skip)
               (first | simp only [add_plain] at hx155_0 | skip)
               (first | simp only [add_plain] at hx155_1 | skip)
               obtain ⟨ce48, hcl48, hM48, hcc48, hfr48⟩ := Kd.R_elem HO_3.out z33 ((ji40) : Int) p48 q48
               obtain rfl := k33_openM hM48
               have hx48_0 : World.cell? _ ⟨go48, ((ji40) : Int).toNat * 2, none⟩ = some (.string ((rd_T33 x3_1 (ji40)).f0)) := hcc48 0 _ rfl
               have hx48_1 : World.cell? _ ⟨go48, ((ji40) : Int).toNat * 2 + 1, none⟩ = some (.bool ((rd_T33 x3_1 (ji40)).f1)) := hcc48 1 _ rfl
               have hf48_0 : World.frozen? _ ⟨go48, ((ji40) : Int).toNat * 2, none⟩ = false := hfr48 0
               have hf48_1 : World.frozen? _ ⟨go48, ((ji40) : Int).toNat * 2 + 1, none⟩ = false := hfr48 1
               clear hcl48 hcc48 hfr48 hM48
               replace p48 := eq_true p48
               replace q48 := eq_true q48
               obtain ⟨ce52, hcl52, hM52, hcc52, hfr52⟩ := Kd.R_elem HO_3.out z33 ((ji40) : Int) (of_decide_eq_true as_) (by have h_ : ((ji40) : Int) < ((x3_1.length : Int) : Int) := of_decide_eq_true as_; first | exact h_ | (have e_ := (Kd.R_reads' HO_3.out).1; omega) | simpa using h_)
               obtain rfl := k33_openM hM52
               have HP52 := (Kd.R_seg HO_3.out ((ji40) : Int) (of_decide_eq_true as_) (by have h_ : ((ji40) : Int) < ((x3_1.length : Int) : Int) := of_decide_eq_true as_; first | exact h_ | (have e_ := (Kd.R_reads' HO_3.out).1; omega) | simpa using h_) (seg := [.string (((rd_T33 x3_1 (ji40)).f0) ++ (a0.extract (x4_1 : Int).toNat ((rd t138 x14_1) : Int).toNat))]) (j := 0) hcl52 hcc52 (show 1 ≤ 2 from by decide) (x' := (⟨((rd_T33 x3_1 (ji40)).f0) ++ (a0.extract (x4_1 : Int).toNat ((rd t138 x14_1) : Int).toNat), (rd_T33 x3_1 (ji40)).f1⟩ : S33)) (k33_mkM _ _ _ (⟨((rd_T33 x3_1 (ji40)).f0) ++ (a0.extract (x4_1 : Int).toNat ((rd t138 x14_1) : Int).toNat), (rd_T33 x3_1 (ji40)).f1⟩ : S33) ) (fun _ hk => hk)).1
               rw [← Ny156.out] at HP52
               have HQ52 := Aside0.mk HP52
               clear hcl52 hcc52 hfr52 hM52 HP52
               refine start_ (n := 17) (S := fun w' => w'.cell? ⟨go48, ((ji40)).toNat * 2, none⟩ = some (.string ((rd_T33 x3_1 (ji40)).f0)) ∧ w'.cell? ⟨go48, ((ji40)).toNat * 2 + 1, none⟩ = some (.bool ((rd_T33 x3_1 (ji40)).f1))) (ds := [16]) #[false, false, false, false, false, false, false, false, false, false, false, false, false, false, false, false, false] (by kernel_rfl) rfl rfl ⟨hx155_0, hx155_1⟩ (fun hHeld => ?_); refine with_tabW scholiaref15_Pieces.tab10 scholiaref15_Pieces.bits10 (fun HT_ HW_ => ?_)
               generalize w49.drew = w51 at HO_3 HO_12 HB GG48 HQ52 hf48_0 hf48_1 hx154_0 hx154_1 hx155_0 hx155_1 hx48_0 hx48_1 hHeld ⊢
               refine pure_ (i := 0) (N := some 44) (v := ?_) (a' := ?_) #[true, false, false, false, false, false, false, false, false, false, false, false, false, false, false, false, false] rfl rfl (any_of HT_.out (by kernel_rfl)) (fun _ _ _ h => h) (Or.inl ⟨by rfl, ?_⟩) ?_ ?_
               rotate_left
               ·intro w'
                go_simp
                with_reducible rfl
               rotate_left
               ·simp only [Act.put, List.setIfInBounds_toArray, List.set_cons_zero, List.set_cons_succ, i64_w, i32_w]
                rfl
               refine pure_ (i := 1) (N := some 45) (v := ?_) (a' := ?_) #[true, true, false, false, false, false, false, false, false, false, false, false, false, false, false, false, false] rfl rfl (any_of HT_.out (by kernel_rfl)) (fun _ _ _ h => h) (Or.inl ⟨by rfl, ?_⟩) ?_ ?_
               rotate_left
               ·intro w'
                go_simp
                with_reducible rfl
               rotate_left
               ·simp only [Act.put, List.setIfInBounds_toArray, List.set_cons_zero, List.set_cons_succ, i64_w, i32_w]
                rfl
               refine pure_ (i := 2) (N := some 46) (v := ?_) (a' := ?_) #[true, true, true, false, false, false, false, false, false, false, false, false, false, false, false, false, false] rfl rfl (any_of HT_.out (by kernel_rfl)) (fun _ _ _ h => h) (Or.inl ⟨by rfl, ?_⟩) ?_ ?_
               rotate_left
               ·intro w'
                go_simp
                with_reducible rfl
               rotate_left
               ·simp only [Act.put, List.setIfInBounds_toArray, List.set_cons_zero, List.set_cons_succ, i64_w, i32_w]
                rfl
               refine pure_ (i := 3) (N := some 47) (v := ?_) (a' := ?_) #[true, true, true, true, false, false, false, false, false, false, false, false, false, false, false, false, false] rfl rfl (any_of HT_.out (by kernel_rfl)) (fun _ _ _ h => h) (Or.inl ⟨by rfl, ?_⟩) ?_ ?_
               rotate_left
               ·intro w'
                go_simp
                with_reducible rfl
               rotate_left
               ·simp only [Act.put, List.setIfInBounds_toArray, List.set_cons_zero, List.set_cons_succ, i64_w, i32_w]
                rfl
               refine pure_ (i := 4) (N := some 48) (v := ?_) (a' := ?_) #[true, true, true, true, true, false, false, false, false, false, false, false, false, false, false, false, false] rfl rfl (any_of HT_.out (by kernel_rfl)) (fun _ _ _ h => h) (Or.inl ⟨by rfl, ?_⟩) ?_ ?_
               rotate_left
               ·intro w'
                go_simp
                with_reducible rfl
               rotate_left
               ·simp only [Act.put, List.setIfInBounds_toArray, List.set_cons_zero, List.set_cons_succ, i64_w, i32_w]
                rfl
               refine pure_ (i := 5) (N := some 49) (v := ?_) (a' := ?_) #[true, true, true, true, true, true, false, false, false, false, false, false, false, false, false, false, false] rfl rfl (any_of HT_.out (by kernel_rfl)) (fun _ _ _ h => h) (Or.inl ⟨by rfl, ?_⟩) ?_ ?_
               rotate_left
               ·intro w'
                go_simp
                with_reducible rfl
               rotate_left
               ·simp only [Act.put, List.setIfInBounds_toArray, List.set_cons_zero, List.set_cons_succ, i64_w, i32_w]
                rfl
               refine pure_ (i := 6) (N := some 50) (v := ?_) (a' := ?_) #[true, true, true, true, true, true, true, false, false, false, false, false, false, false, false, false, false] rfl rfl (any_of HT_.out (by kernel_rfl)) (fun _ _ _ h => h) (Or.inl ⟨by rfl, ?_⟩) ?_ ?_
               rotate_left
               ·intro w'
                go_simp
                with_reducible rfl
               rotate_left
               ·simp only [Act.put, List.setIfInBounds_toArray, List.set_cons_zero, List.set_cons_succ, i64_w, i32_w]
                rfl
               refine pure_ (i := 7) (N := some 51) (v := ?_) (a' := ?_) #[true, true, true, true, true, true, true, true, false, false, false, false, false, false, false, false, false] rfl rfl (any_of HT_.out (by kernel_rfl)) (fun _ _ _ h => h) (Or.inl ⟨by rfl, ?_⟩) ?_ ?_
               rotate_left
               ·intro w'
                go_simp
                with_reducible rfl
               rotate_left
               ·simp only [Act.put, List.setIfInBounds_toArray, List.set_cons_zero, List.set_cons_succ, i64_w, i32_w]
                rfl
               refine pure_ (i := 9) (N := some 53) (v := ?_) (a' := ?_) #[true, true, true, true, true, true, true, true, false, true, false, false, false, false, false, false, false] rfl rfl (any_of HT_.out (by kernel_rfl)) (fun _ _ _ h => h) (Or.inl ⟨by rfl, ?_⟩) ?_ ?_
               rotate_left
               ·intro w'
                go_simp
                with_reducible rfl
               rotate_left
               ·simp only [Act.put, List.setIfInBounds_toArray, List.set_cons_zero, List.set_cons_succ, i64_w, i32_w]
                rfl
               refine pure_ (i := 10) (N := some 54) (v := ?_) (a' := ?_) #[true, true, true, true, true, true, true, true, false, true, true, false, false, false, false, false, false] rfl rfl (any_of HT_.out (by kernel_rfl)) (fun _ _ _ h => h) (Or.inl ⟨by rfl, ?_⟩) ?_ ?_
               rotate_left
               ·intro w'
                go_simp
                with_reducible rfl
               rotate_left
               ·simp only [Act.put, List.setIfInBounds_toArray, List.set_cons_zero, List.set_cons_succ, i64_w, i32_w]
                rfl
               refine pure_ (i := 11) (N := some 55) (v := ?_) (a' := ?_) #[true, true, true, true, true, true, true, true, false, true, true, true, false, false, false, false, false] rfl rfl (any_of HT_.out (by kernel_rfl)) (fun _ _ _ h => h) (Or.inl ⟨by rfl, ?_⟩) ?_ ?_
               rotate_left
               ·intro w'
                go_simp
                with_reducible rfl
               rotate_left
               ·simp only [Act.put, List.setIfInBounds_toArray, List.set_cons_zero, List.set_cons_succ, i64_w, i32_w]
                rfl
               refine pure_ (i := 12) (N := some 56) (v := ?_) (a' := ?_) #[true, true, true, true, true, true, true, true, false, true, true, true, true, false, false, false, false] rfl rfl (any_of HT_.out (by kernel_rfl)) (fun _ _ _ h => h) (Or.inl ⟨by rfl, ?_⟩) ?_ ?_
               rotate_left
               ·intro w'
                go_simp
                with_reducible rfl
               rotate_left
               ·simp only [Act.put, List.setIfInBounds_toArray, List.set_cons_zero, List.set_cons_succ, i64_w, i32_w]
                rfl
               refine take_ (i := 8) (N := some 52) (v := ?_) (a' := ?_) #[true, true, true, true, true, true, true, true, true, true, true, true, true, false, false, false, false] rfl rfl (take_ofW HT_.out HW_.out (by kernel_rfl)) (fun _ _ _ h => h) (Or.inl ⟨by rfl, ?_⟩) hHeld ?_ ?_
               rotate_left
               ·rintro w' ⟨s0, s1⟩
                go_simp
                with_reducible rfl
               rotate_left
               ·simp only [Act.put, List.setIfInBounds_toArray, List.set_cons_zero, List.set_cons_succ, i64_w, i32_w]
                rfl
               refine pure_ (i := 13) (N := some 57) (v := ?_) (a' := ?_) #[true, true, true, true, true, true, true, true, true, true, true, true, true, true, false, false, false] rfl rfl (any_of HT_.out (by kernel_rfl)) (fun _ _ _ h => h) (Or.inl ⟨by rfl, ?_⟩) ?_ ?_
               rotate_left
               ·intro w'
                go_simp
                with_reducible rfl
               rotate_left
               ·simp only [Act.put, List.setIfInBounds_toArray, List.set_cons_zero, List.set_cons_succ, i64_w, i32_w]
                rfl
               refine pure_ (i := 14) (N := some 58) (v := ?_) (a' := ?_) #[true, true, true, true, true, true, true, true, true, true, true, true, true, true, true, false, false] rfl rfl (any_of HT_.out (by kernel_rfl)) (fun _ _ _ h => h) (Or.inl ⟨by rfl, ?_⟩) ?_ ?_
               rotate_left
               ·intro w'
                go_simp
                with_reducible rfl
               rotate_left
               ·simp only [Act.put, List.setIfInBounds_toArray, List.set_cons_zero, List.set_cons_succ, i64_w, i32_w]
                rfl
               refine pure_ (i := 15) (N := some 59) (v := ?_) (a' := ?_) #[true, true, true, true, true, true, true, true, true, true, true, true, true, true, true, true, false] rfl rfl (any_of HT_.out (by kernel_rfl)) (fun _ _ _ h => h) (Or.inl ⟨by rfl, ?_⟩) ?_ ?_
               rotate_left
               ·intro w'
                go_simp
                with_reducible rfl
               rotate_left
               ·simp only [Act.put, List.setIfInBounds_toArray, List.set_cons_zero, List.set_cons_succ, i64_w, i32_w]
                rfl
               refine last_ (i := 16) (N := none) #[true, true, true, true, true, true, true, true, true, true, true, true, true, true, true, true, true] rfl rfl (one_of HT_.out (by kernel_rfl)) (by decide) (fun K hK => ?_)
               refine skip_ (w1 := ?_) (by rfl) rfl ?_ ?_
               rotate_left
               ·go_simp
                rfl
               refine hK.out _ _ ?_
               clear hK K
               refine done_ (done_of HT_.out (by kernel_rfl)) ?_
               try go_wp2
               go_roundg k1
               case measure => have := HK1.out; omega
               case rel => exact ⟨(y156), (rd t138 x14_1), (wrap64 (x14_1 + 1)), rs_, rs_, H', ⟨by have := HK1.out; omega⟩, ⟨kr_ HQ52.out⟩, ⟨by (with_reducible repeat (first | apply Kd.R_alloc | apply Kd.R_drewN | apply Kd.R_drew)); exact Kd.R_mono (Kd.R_far (p := ⟨go48, ((ji40) : Int).toNat * 2, none⟩) (Kd.R_types HO_12.out GG48.out (by decide)) (fun _ hk => hk.2) (.string (((rd_T33 x3_1 (ji40)).f0) ++ (a0.extract (x4_1 : Int).toNat ((rd t138 x14_1) : Int).toNat)))) (fun _ hk => trivial)⟩, ⟨bb1_ HB.out GB48.out⟩⟩
              ·rw [if_neg c47] at H
               exact absurd H (by simp)
             ·rw [if_neg c46] at H
              exact absurd H (by simp)
            ·rw [if_neg c45] at H
             exact absurd H (by simp)
           ·rw [if_neg c44] at H
            exact absurd H (by simp)
          ·rw [if_neg c43] at H
           have c43b0 : (((rd_T33 x3_1 (ji40)).f1) == false) = false := by simpa using c43
           (try (have c43b1 : decide (((rd_T33 x3_1 (ji40)).f1) = false) = false := by simpa using c43))
           (try (have c43b2 : (((rd_T33 x3_1 (ji40)).f1) == false) = false := by simpa using c43))
           (try (have c43b3 : ¬ (((rd_T33 x3_1 (ji40)).f1) = false) := by simpa using c43))
           clear c43
           by_cases c53 : 0 ≤ x4_1
           ·rw [if_pos c53] at H
            have c53b0 := eq_true c53
            have c53b1 : decide (0 ≤ x4_1) = true := decide_eq_true c53
            clear c53
            by_cases c54 : x4_1 ≤ (rd t138 x14_1)
            ·rw [if_pos c54] at H
             have c54b0 := eq_true c54
             have c54b1 : decide (x4_1 ≤ (rd t138 x14_1)) = true := decide_eq_true c54
             clear c54
             by_cases c55 : (rd t138 x14_1) ≤ (a0.size : Int)
             ·rw [if_pos c55] at H
              have c55b0 := eq_true c55
              have c55b1 : decide ((rd t138 x14_1) ≤ (a0.size : Int)) = true := decide_eq_true c55
              clear c55
              by_cases c56 : x3_1.length < 5864062014805
              ·rw [if_pos c56] at H
               have LMc56 := Aside0.mk c56
               clear c56
               obtain ⟨y157, hy157⟩ : ∃ y_ : List (S33), y_ = (x3_1 ++ [(⟨a0.extract (x4_1 : Int).toNat ((rd t138 x14_1) : Int).toNat, false⟩ : S33)]) := ⟨_, rfl⟩
               replace H : (scholiaref15_Pieces.l0 k1 a0 y157 (rd t138 x14_1) t138 (t138.length : Int) (wrap64 (x14_1 + 1))) = some r := by first | (rw [hy157]; with_reducible exact H) | (have H2_ := (Option.bind_some _ _).symm.trans H; rw [hy157]; with_reducible exact H2_) | (have H2_ := (Option.bind_some _ _).symm.trans H; with_reducible exact H2_) | with_reducible exact H | (rw [hy157]; exact H) | exact H
               have Ny157 := Aside0.mk hy157
               clear hy157
               have H' := Aside0.mk H
               clear H
               have p141 : 0 ≤ (x14_1 : Int) := of_decide_eq_true as_
               have q141 : x14_1 < (t138.length : Int) := of_decide_eq_true as_
               obtain ⟨ad141, e141, hx141_0⟩ := Kd.at_int (Kd.R_reads' HO_12.out).2.2 x14_1 p141 q141
               cases e141
               replace p141 := eq_true p141
               replace q141 := eq_true q141
               go_wp2_with (first | ((with_reducible refine gate_callee (f := 14) rfl ?_); refine goesL_ (some 21) rfl rfl Tryz.func14 (by kernel_rfl) rfl #[.string a0, .int .i64 x4_1] rfl ar_ ?_; (with_reducible refine (scholiaref03_Next.calls k1 a0 x4_1 t142 t143 _ A8.out).mono ?_); rintro e w57 ⟨rfl, hb⟩; refine ⟨_, rfl, ?_⟩; have n0_ := Aside0.mk (Kd.R_below (kr_ HO_3.out) hb); have n1_ := Aside0.mk (Kd.R_below (kr_ HO_12.out) hb); have n2_ := Aside0.mk (below_step (bb_ HB.out) hb); clear HO_3; clear HO_12; clear HB; have HO_3 := n0_; have HO_12 := n1_; have HB := n2_; clear n0_ n1_ n2_; (try clear hb); (try clear hb2); (try clear hk); (try clear hi); obtain ⟨Ao58, co58, eo58⟩ := Kd.R_slice HO_3.out; subst eo58; have p154 : 0 ≤ ((ji40) : Int) := of_decide_eq_true as_; have q154 : (ji40) < (x3_1.length : Int) := of_decide_eq_true as_; obtain ⟨ad154, e154, hx154_0, hx154_1⟩ := at_T33 (Kd.R_reads' HO_3.out).2.2 (ji40) p154 q154; cases e154; replace p154 := eq_true p154; replace q154 := eq_true q154) | ((with_reducible refine gate_builtin (b := .append) (xs := #[.tmp 60, .tmp 67]) rfl ?_); at_builtin; refine Kd.R_append k33 (w0 := w) w.heap.size rfl (.tmp 60) (.tmp 67) 30 33 (.agg #[(.string ⟨#[]⟩), (.bool false)]) 24 rfl Tryz.underlying30 info33 rfl (by decide) (by omega) (.slice (some ad154) x3_1.length co58) x3_1 (⟨a0.extract (x4_1 : Int).toNat ((rd t138 x14_1) : Int).toNat, false⟩ : S33) [.string (a0.extract (x4_1 : Int).toNat ((rd t138 x14_1) : Int).toNat), .bool false] (fun _ => True) (fun _ => False) rfl rfl ?aP (fun _ hk => hk.elim) ?aF ?aO ?aB ?aS ?aL ?_; (case aP => exact k33_mkM _ _ _ (⟨a0.extract (x4_1 : Int).toNat ((rd t138 x14_1) : Int).toNat, false⟩ : S33)); (case aB => exact (bb_ HB.out)); (case aF => exact (fun _ _ => trivial)); (case aO => exact (kr_ HO_3.out)); (case aS => exact (below_size (bb_ HB.out))); (case aL => have := LMc56.out; omega); intro v158 w59 ho hb hg hat; rw [← Ny157.out] at ho; have n0_ := Aside0.mk (Kd.R_over' (kr_ HO_12.out) (Kd.R_typed (kr_ HO_3.out)) (by decide) hg); have n1_ := Aside0.mk (hb); have n2_ := Aside0.mk (ho); clear HO_12; clear HB; clear HO_3; have HO_12 := n0_; have HB := n1_; have HO159 := n2_; clear n0_ n1_ n2_; clear ho hb hg hat))
               go_roundg k1
               case measure => have := HK1.out; omega
               case rel => exact ⟨(y157), (rd t138 x14_1), (wrap64 (x14_1 + 1)), rs_, rs_, H', ⟨by have := HK1.out; omega⟩, ⟨kr_ HO159.out⟩, ⟨kr_ HO_12.out⟩, ⟨bb_ HB.out⟩⟩
              ·rw [if_neg c56] at H
               exact absurd H (by simp)
             ·rw [if_neg c55] at H
              exact absurd H (by simp)
            ·rw [if_neg c54] at H
             exact absurd H (by simp)
           ·rw [if_neg c53] at H
            exact absurd H (by simp)
         ·rw [if_neg c42] at H
          exact absurd H (by simp)
        ·rw [if_neg c41] at H
         exact absurd H (by simp)
       ·rw [if_neg c39] at H
        have c39b0 : decide (0 < (x3_1.length : Int)) = false := decide_eq_false c39
        have c39b1 : decide (0 < x3_1.length) = false := decide_eq_false (by omega)
        clear c39
        by_cases c60 : 0 ≤ x4_1
        ·rw [if_pos c60] at H
         have c60b0 := eq_true c60
         have c60b1 : decide (0 ≤ x4_1) = true := decide_eq_true c60
         clear c60
         by_cases c61 : x4_1 ≤ (rd t138 x14_1)
         ·rw [if_pos c61] at H
          have c61b0 := eq_true c61
          have c61b1 : decide (x4_1 ≤ (rd t138 x14_1)) = true := decide_eq_true c61
          clear c61
          by_cases c62 : (rd t138 x14_1) ≤ (a0.size : Int)
          ·rw [if_pos c62] at H
           have c62b0 := eq_true c62
           have c62b1 : decide ((rd t138 x14_1) ≤ (a0.size : Int)) = true := decide_eq_true c62
           clear c62
           by_cases c63 : x3_1.length < 5864062014805
           ·rw [if_pos c63] at H
            have LMc63 := Aside0.mk c63
            clear c63
            obtain ⟨y160, hy160⟩ : ∃ y_ : List (S33), y_ = (x3_1 ++ [(⟨a0.extract (x4_1 : Int).toNat ((rd t138 x14_1) : Int).toNat, false⟩ : S33)]) := ⟨_, rfl⟩
            replace H : (scholiaref15_Pieces.l0 k1 a0 y160 (rd t138 x14_1) t138 (t138.length : Int) (wrap64 (x14_1 + 1))) = some r := by first | (rw [hy160]; with_reducible exact H) | (have H2_ := (Option.bind_some _ _).symm.trans H; rw [hy160]; with_reducible exact H2_) | (have H2_ := (Option.bind_some _ _).symm.trans H; with_reducible exact H2_) | with_reducible exact H | (rw [hy160]; exact H) | exact H
            have Ny160 := Aside0.mk hy160
            clear hy160
            have H' := Aside0.mk H
            clear H
            have p141 : 0 ≤ (x14_1 : Int) := of_decide_eq_true as_
            have q141 : x14_1 < (t138.length : Int) := of_decide_eq_true as_
            obtain ⟨ad141, e141, hx141_0⟩ := Kd.at_int (Kd.R_reads' HO_12.out).2.2 x14_1 p141 q141
            cases e141
            replace p141 := eq_true p141
            replace q141 := eq_true q141
            go_wp2_with (first | ((with_reducible refine gate_callee (f := 14) rfl ?_); refine goesL_ (some 21) rfl rfl Tryz.func14 (by kernel_rfl) rfl #[.string a0, .int .i64 x4_1] rfl ar_ ?_; (with_reducible refine (scholiaref03_Next.calls k1 a0 x4_1 t142 t143 _ A8.out).mono ?_); rintro e w64 ⟨rfl, hb⟩; refine ⟨_, rfl, ?_⟩; have n0_ := Aside0.mk (Kd.R_below (kr_ HO_3.out) hb); have n1_ := Aside0.mk (Kd.R_below (kr_ HO_12.out) hb); have n2_ := Aside0.mk (below_step (bb_ HB.out) hb); clear HO_3; clear HO_12; clear HB; have HO_3 := n0_; have HO_12 := n1_; have HB := n2_; clear n0_ n1_ n2_; (try clear hb); (try clear hb2); (try clear hk); (try clear hi); obtain ⟨Ao65, co65, eo65⟩ := Kd.R_slice HO_3.out; subst eo65) | ((with_reducible refine gate_builtin (b := .append) (xs := #[.tmp 60, .tmp 67]) rfl ?_); at_builtin; refine Kd.R_append k33 (w0 := w) w.heap.size rfl (.tmp 60) (.tmp 67) 30 33 (.agg #[(.string ⟨#[]⟩), (.bool false)]) 24 rfl Tryz.underlying30 info33 rfl (by decide) (by omega) (.slice Ao65 x3_1.length co65) x3_1 (⟨a0.extract (x4_1 : Int).toNat ((rd t138 x14_1) : Int).toNat, false⟩ : S33) [.string (a0.extract (x4_1 : Int).toNat ((rd t138 x14_1) : Int).toNat), .bool false] (fun _ => True) (fun _ => False) rfl rfl ?aP (fun _ hk => hk.elim) ?aF ?aO ?aB ?aS ?aL ?_; (case aP => exact k33_mkM _ _ _ (⟨a0.extract (x4_1 : Int).toNat ((rd t138 x14_1) : Int).toNat, false⟩ : S33)); (case aB => exact (bb_ HB.out)); (case aF => exact (fun _ _ => trivial)); (case aO => exact (kr_ HO_3.out)); (case aS => exact (below_size (bb_ HB.out))); (case aL => have := LMc63.out; omega); intro v161 w66 ho hb hg hat; rw [← Ny160.out] at ho; have n0_ := Aside0.mk (Kd.R_over' (kr_ HO_12.out) (Kd.R_typed (kr_ HO_3.out)) (by decide) hg); have n1_ := Aside0.mk (hb); have n2_ := Aside0.mk (ho); clear HO_12; clear HB; clear HO_3; have HO_12 := n0_; have HB := n1_; have HO162 := n2_; clear n0_ n1_ n2_; clear ho hb hg hat))
            go_roundg k1
            case measure => have := HK1.out; omega
            case rel => exact ⟨(y160), (rd t138 x14_1), (wrap64 (x14_1 + 1)), rs_, rs_, H', ⟨by have := HK1.out; omega⟩, ⟨kr_ HO162.out⟩, ⟨kr_ HO_12.out⟩, ⟨bb_ HB.out⟩⟩
           ·rw [if_neg c63] at H
            exact absurd H (by simp)
          ·rw [if_neg c62] at H
           exact absurd H (by simp)
         ·rw [if_neg c61] at H
          exact absurd H (by simp)
        ·rw [if_neg c60] at H
         exact absurd H (by simp)
     ·rw [if_neg c7] at H
      exact absurd H (by simp)
    ·rw [if_neg c6] at H
     exact absurd H (by simp)
   ·rw [if_neg c5] at H
    have c5b0 : decide (x14_1 < (t138.length : Int)) = false := decide_eq_false c5
    clear c5
    obtain rfl := Option.some.inj H
    go_wp2
    go_ret
    exact ⟨_, by first | rfl | (simp [errW_none, errW_some] <;> rfl) | (simp [*, errW_none, errW_some] <;> rfl), by (with_reducible repeat (first | apply Kd.R_alloc | apply Kd.R_drewN | apply Kd.R_drew)); exact HO_3.out, bb_ HB.out⟩
end Go.Proofs.YtcgkmomhjincgaaGreatDoor.LibX
