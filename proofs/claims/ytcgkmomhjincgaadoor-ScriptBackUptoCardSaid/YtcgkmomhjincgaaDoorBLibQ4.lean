import Derived.Test.YtcgkmomhjincgaaDoorBLibQ0
namespace Go.Proofs.YtcgkmomhjincgaaDoor.LibQ
open Go.RowKit Go.Proofs.YtcgkmomhjincgaaDoorW.PrintWords Go.Proofs.YtcgkmomhjincgaaDoorW.PrintLast Go.Proofs.YtcgkmomhjincgaaDoorW.PrintMore
attribute [local go_sem] max2_int min2_int max_two min_two max_three min_three max_four min_four   -- for this text's walks alone
set_option linter.unusedVariables false
set_option linter.unusedSimpArgs false
mutual
def scholiaplain_Brief.l0 : Nat → List (S42) → Int → Int → Int → Option (Bool)
 | 0, _, _, _, _ => none
 | k + 1, x0, x1, x5, x6 => if x6 < (x0.length : Int) then (scholiaplain_Brief.j1 k x0 x1 x5 x6 (decide (x6 < x1))) else (scholiaplain_Brief.j1 k x0 x1 x5 x6 false)
def scholiaplain_Brief.j1 : Nat → List (S42) → Int → Int → Int → Bool → Option (Bool)
 | 0, _, _, _, _, _ => none
 | k + 1, x0, x1, x5, x6, x15 => if x15 = true then (if 0 ≤ x6 then (if x6 < (x0.length : Int) then (if (wrap64 (x5 + (((mn (((rd_T42 x0 x6).f6).size : Int) 8192) + (mn (((rd_T42 x0 x6).f8).size : Int) 8192)) + (mn (((rd_T42 x0 x6).f9).length : Int) 8192)))) > 8192 then (some false) else (scholiaplain_Brief.l0 k x0 x1 (wrap64 (x5 + (((mn (((rd_T42 x0 x6).f6).size : Int) 8192) + (mn (((rd_T42 x0 x6).f8).size : Int) 8192)) + (mn (((rd_T42 x0 x6).f9).length : Int) 8192)))) (wrap64 (x6 + 1)))) else (none)) else (none)) else (some true)
end
def scholiaplain_Brief.f (k : Nat) (l0 : List (S42)) (a1 : Int) : Option (Bool) := scholiaplain_Brief.l0 k l0 a1 0 0
set_option maxHeartbeats 8000000 in
set_option maxRecDepth 100000 in
theorem scholiaplain_Brief.calls (k : Nat) (A0 : Option Addr) (c0 : Nat) (l0 : List (S42)) (a1 : Int) (r : Bool) (w : World) (hr0 : Kd.C k42 w A0 l0.length l0) (hc0 : l0.length ≤ c0) (h : scholiaplain_Brief.f k l0 a1 = some r) :
  Calls Tryd.prog 24 #[.slice A0 l0.length c0, .int .i64 a1] w fun e w' => e = .returned (.bool r) ∧ Below w.heap.size w w' := by
 have HR0 := Aside0.mk hr0
 have HC0 := Aside0.mk hc0
 clear hr0 hc0
 have HB := Aside0.mk (Below.refl w.heap.size w)
 have H : (scholiaplain_Brief.l0 k l0 a1 0 0) = some r := h
 clear h
 have H' := Aside0.mk H
 clear H
 go_enter Tryd.func24, Tryd.ntmps24
 go_wp2
 repeat (go_quiet (fail); try go_wp2)
 go_loopg [5, 6] k (fun kq v5 v6 w' => ∃ (x5_1 : Int) (x6_1 : Int), v5 = .int .i64 x5_1 ∧ v6 = .int .i64 x6_1 ∧ Aside0 (scholiaplain_Brief.l0 kq l0 a1 x5_1 x6_1 = some r) ∧ Aside0 (kq ≤ k) ∧ Aside0 (Below w.heap.size w w'))
 case atStart => exact ⟨(0), (0), rs_, rs_, H', ⟨Nat.le_refl _⟩, ⟨bb_ HB.out⟩⟩
 case round =>
  clear H'
  try clear c2
  try clear p2
  obtain ⟨x5_1, x6_1, rfl, rfl, HA, HK1, HB⟩ := hrel
  cases gk with
  | zero => exact absurd HA.out (by simp [scholiaplain_Brief.l0])
  | succ k1 =>
   have H := HA.out
   clear HA
   simp only [scholiaplain_Brief.l0] at H
   have HC3 := Aside0.mk H
   clear H
   go_upto_region 3 with (fail)
   repeat (go_quiet (fail); go_upto_region 3 with (fail))
   go_cut [15] (fun v15 wc => ∃ (kq : Nat) (x15_2 : Bool), v15 = .bool x15_2 ∧ Aside0 (scholiaplain_Brief.j1 kq l0 a1 x5_1 x6_1 x15_2 = some r) ∧ Aside0 (kq ≤ k1) ∧ Aside0 (Below w.heap.size w wc))
   case first =>
    have H := HC3.out
    clear HC3
    by_cases c4 : x6_1 < (l0.length : Int)
    ·rw [if_pos c4] at H
     have c4b0 : decide (x6_1 < (l0.length : Int)) = true := decide_eq_true c4
     clear c4
     (first | rw [c4b0] | (simp only [i64_w, i32_w]; rw [c4b0]) | skip)
     have H' := Aside0.mk H
     clear H
     go_wp2
     repeat (go_quiet (fail); try go_wp2)
     go_meet
     case rel => exact ⟨_, (decide (x6_1 < a1)), rs_, H', ⟨by have := HK1.out; first | omega | exact Nat.le_refl _⟩, ⟨bb_ HB.out⟩⟩
    ·rw [if_neg c4] at H
     have c4b0 : decide (x6_1 < (l0.length : Int)) = false := decide_eq_false c4
     clear c4
     (first | rw [c4b0] | (simp only [i64_w, i32_w]; rw [c4b0]) | skip)
     have H' := Aside0.mk H
     clear H
     go_wp2
     repeat (go_quiet (fail); try go_wp2)
     go_meet
     case rel => exact ⟨_, (false), rs_, H', ⟨by have := HK1.out; first | omega | exact Nat.le_refl _⟩, ⟨bb_ HB.out⟩⟩
   case rest =>
    clear HC3
    try clear c2
    try clear p2
    try clear c4
    try clear c4b0
    try clear p2
    obtain ⟨kq, x15_2, rfl, HA, HJ2, HB⟩ := hcut
    cases kq with
    | zero => exact absurd HA.out (by simp [scholiaplain_Brief.j1])
    | succ kj2 =>
     have H := HA.out
     clear HA
     simp only [scholiaplain_Brief.j1] at H
     by_cases c5 : x15_2 = true
     ·subst c5
      have H1 : (if 0 ≤ x6_1 then (if x6_1 < (l0.length : Int) then (if (wrap64 (x5_1 + (((mn (((rd_T42 l0 x6_1).f6).size : Int) 8192) + (mn (((rd_T42 l0 x6_1).f8).size : Int) 8192)) + (mn (((rd_T42 l0 x6_1).f9).length : Int) 8192)))) > 8192 then (some false) else (scholiaplain_Brief.l0 kj2 l0 a1 (wrap64 (x5_1 + (((mn (((rd_T42 l0 x6_1).f6).size : Int) 8192) + (mn (((rd_T42 l0 x6_1).f8).size : Int) 8192)) + (mn (((rd_T42 l0 x6_1).f9).length : Int) 8192)))) (wrap64 (x6_1 + 1)))) else (none)) else (none)) = some r := by rw [if_pos rfl] at H; exact H
      clear H
      have H := H1
      clear H1
      by_cases c6 : 0 ≤ x6_1
      ·rw [if_pos c6] at H
       have c6b0 : decide (0 ≤ x6_1) = true := decide_eq_true c6
       clear c6
       by_cases c7 : x6_1 < (l0.length : Int)
       ·rw [if_pos c7] at H
        have c7b0 : decide (x6_1 < (l0.length : Int)) = true := decide_eq_true c7
        clear c7
        obtain ⟨ji8, hji8⟩ : ∃ j_ : Int, (mn (((rd_T42 l0 x6_1).f6).size : Int) 8192) = j_ := ⟨_, rfl⟩
        replace H : (if (wrap64 (x5_1 + (((ji8) + (mn (((rd_T42 l0 x6_1).f8).size : Int) 8192)) + (mn (((rd_T42 l0 x6_1).f9).length : Int) 8192)))) > 8192 then (some false) else (scholiaplain_Brief.l0 kj2 l0 a1 (wrap64 (x5_1 + (((ji8) + (mn (((rd_T42 l0 x6_1).f8).size : Int) 8192)) + (mn (((rd_T42 l0 x6_1).f9).length : Int) 8192)))) (wrap64 (x6_1 + 1)))) = some r := by first | (rw [hji8] at H; exact H) | (simp only [hji8] at H ⊢; exact H)
        have hji8_ : (if 8192 < (((rd_T42 l0 x6_1).f6).size : Int) then 8192 else (((rd_T42 l0 x6_1).f6).size : Int)) = ji8 := hji8
        obtain ⟨ji9, hji9⟩ : ∃ j_ : Int, (mn (((rd_T42 l0 x6_1).f8).size : Int) 8192) = j_ := ⟨_, rfl⟩
        replace H : (if (wrap64 (x5_1 + (((ji8) + (ji9)) + (mn (((rd_T42 l0 x6_1).f9).length : Int) 8192)))) > 8192 then (some false) else (scholiaplain_Brief.l0 kj2 l0 a1 (wrap64 (x5_1 + (((ji8) + (ji9)) + (mn (((rd_T42 l0 x6_1).f9).length : Int) 8192)))) (wrap64 (x6_1 + 1)))) = some r := by first | (rw [hji9] at H; exact H) | (simp only [hji9] at H ⊢; exact H)
        have hji9_ : (if 8192 < (((rd_T42 l0 x6_1).f8).size : Int) then 8192 else (((rd_T42 l0 x6_1).f8).size : Int)) = ji9 := hji9
        obtain ⟨ji10, hji10⟩ : ∃ j_ : Int, (mn (((rd_T42 l0 x6_1).f9).length : Int) 8192) = j_ := ⟨_, rfl⟩
        replace H : (if (wrap64 (x5_1 + (((ji8) + (ji9)) + (ji10)))) > 8192 then (some false) else (scholiaplain_Brief.l0 kj2 l0 a1 (wrap64 (x5_1 + (((ji8) + (ji9)) + (ji10)))) (wrap64 (x6_1 + 1)))) = some r := by first | (rw [hji10] at H; exact H) | (simp only [hji10] at H ⊢; exact H)
        have hji10_ : (if 8192 < (((rd_T42 l0 x6_1).f9).length : Int) then 8192 else (((rd_T42 l0 x6_1).f9).length : Int)) = ji10 := hji10
        by_cases c11 : (wrap64 (x5_1 + (((ji8) + (ji9)) + (ji10)))) > 8192
        ·rw [if_pos c11] at H
         have c11b0 : decide (8192 < (wrap64 (x5_1 + (((ji8) + (ji9)) + (ji10))))) = true := decide_eq_true c11
         clear c11
         obtain rfl := Option.some.inj H
         have p251 : 0 ≤ (x6_1 : Int) := of_decide_eq_true as_
         have q251 : x6_1 < (l0.length : Int) := of_decide_eq_true as_
         obtain ⟨ad251, A251_9, c251_9, e251, hx251_0, hx251_1, hx251_2, hx251_3, hx251_4, hx251_5, hx251_6, hx251_7, hx251_8, hx251_9, hl251_9, hi251_9⟩ := at_T42 HR0.out x6_1 p251 q251
         cases e251
         replace hx251_0 := (HB.out.cell (World.block_lt_of_cell? w _ hx251_0)).trans hx251_0
         replace hx251_1 := (HB.out.cell (World.block_lt_of_cell? w _ hx251_1)).trans hx251_1
         replace hx251_2 := (HB.out.cell (World.block_lt_of_cell? w _ hx251_2)).trans hx251_2
         replace hx251_3 := (HB.out.cell (World.block_lt_of_cell? w _ hx251_3)).trans hx251_3
         replace hx251_4 := (HB.out.cell (World.block_lt_of_cell? w _ hx251_4)).trans hx251_4
         replace hx251_5 := (HB.out.cell (World.block_lt_of_cell? w _ hx251_5)).trans hx251_5
         replace hx251_6 := (HB.out.cell (World.block_lt_of_cell? w _ hx251_6)).trans hx251_6
         replace hx251_7 := (HB.out.cell (World.block_lt_of_cell? w _ hx251_7)).trans hx251_7
         replace hx251_8 := (HB.out.cell (World.block_lt_of_cell? w _ hx251_8)).trans hx251_8
         replace hx251_9 := (HB.out.cell (World.block_lt_of_cell? w _ hx251_9)).trans hx251_9
         have HR251_9 := Aside0.mk hi251_9
         have HC251_9 := Aside0.mk hl251_9
         clear hi251_9 hl251_9
         replace p251 := eq_true p251
         replace q251 := eq_true q251
         have p252 : 0 ≤ (x6_1 : Int) := of_decide_eq_true as_
         have q252 : x6_1 < (l0.length : Int) := of_decide_eq_true as_
         obtain ⟨ad252, A252_9, c252_9, e252, hx252_0, hx252_1, hx252_2, hx252_3, hx252_4, hx252_5, hx252_6, hx252_7, hx252_8, hx252_9, hl252_9, hi252_9⟩ := at_T42 HR0.out x6_1 p252 q252
         obtain rfl : ad251 = ad252 := (by injection e252)
         replace hx252_0 := (HB.out.cell (World.block_lt_of_cell? w _ hx252_0)).trans hx252_0
         replace hx252_1 := (HB.out.cell (World.block_lt_of_cell? w _ hx252_1)).trans hx252_1
         replace hx252_2 := (HB.out.cell (World.block_lt_of_cell? w _ hx252_2)).trans hx252_2
         replace hx252_3 := (HB.out.cell (World.block_lt_of_cell? w _ hx252_3)).trans hx252_3
         replace hx252_4 := (HB.out.cell (World.block_lt_of_cell? w _ hx252_4)).trans hx252_4
         replace hx252_5 := (HB.out.cell (World.block_lt_of_cell? w _ hx252_5)).trans hx252_5
         replace hx252_6 := (HB.out.cell (World.block_lt_of_cell? w _ hx252_6)).trans hx252_6
         replace hx252_7 := (HB.out.cell (World.block_lt_of_cell? w _ hx252_7)).trans hx252_7
         replace hx252_8 := (HB.out.cell (World.block_lt_of_cell? w _ hx252_8)).trans hx252_8
         replace hx252_9 := (HB.out.cell (World.block_lt_of_cell? w _ hx252_9)).trans hx252_9
         have HR252_9 := Aside0.mk hi252_9
         have HC252_9 := Aside0.mk hl252_9
         clear hi252_9 hl252_9
         replace p252 := eq_true p252
         replace q252 := eq_true q252
         have ea_ := Option.some.inj (hx251_9.symm.trans hx252_9)
         injection ea_ with ea_ en_ ec_
         subst ea_
         subst ec_
         clear en_
         have p253 : 0 ≤ (x6_1 : Int) := of_decide_eq_true as_
         have q253 : x6_1 < (l0.length : Int) := of_decide_eq_true as_
         obtain ⟨ad253, A253_9, c253_9, e253, hx253_0, hx253_1, hx253_2, hx253_3, hx253_4, hx253_5, hx253_6, hx253_7, hx253_8, hx253_9, hl253_9, hi253_9⟩ := at_T42 HR0.out x6_1 p253 q253
         obtain rfl : ad251 = ad253 := (by injection e253)
         replace hx253_0 := (HB.out.cell (World.block_lt_of_cell? w _ hx253_0)).trans hx253_0
         replace hx253_1 := (HB.out.cell (World.block_lt_of_cell? w _ hx253_1)).trans hx253_1
         replace hx253_2 := (HB.out.cell (World.block_lt_of_cell? w _ hx253_2)).trans hx253_2
         replace hx253_3 := (HB.out.cell (World.block_lt_of_cell? w _ hx253_3)).trans hx253_3
         replace hx253_4 := (HB.out.cell (World.block_lt_of_cell? w _ hx253_4)).trans hx253_4
         replace hx253_5 := (HB.out.cell (World.block_lt_of_cell? w _ hx253_5)).trans hx253_5
         replace hx253_6 := (HB.out.cell (World.block_lt_of_cell? w _ hx253_6)).trans hx253_6
         replace hx253_7 := (HB.out.cell (World.block_lt_of_cell? w _ hx253_7)).trans hx253_7
         replace hx253_8 := (HB.out.cell (World.block_lt_of_cell? w _ hx253_8)).trans hx253_8
         replace hx253_9 := (HB.out.cell (World.block_lt_of_cell? w _ hx253_9)).trans hx253_9
         have HR253_9 := Aside0.mk hi253_9
         have HC253_9 := Aside0.mk hl253_9
         clear hi253_9 hl253_9
         replace p253 := eq_true p253
         replace q253 := eq_true q253
         have ea_ := Option.some.inj (hx251_9.symm.trans hx253_9)
         injection ea_ with ea_ en_ ec_
         subst ea_
         subst ec_
         clear en_
         go_wp2
         repeat (go_quiet (fail); try go_wp2)
         go_ret
         exact ⟨by first | rfl | (simp [errW_none, errW_some] <;> rfl) | (simp only [← hji8, ← hji9, ← hji10]; first | rfl | (simp [errW_none, errW_some] <;> rfl)) | (simp [*, errW_none, errW_some] <;> rfl), bb_ HB.out⟩
        ·rw [if_neg c11] at H
         have c11b0 : decide (8192 < (wrap64 (x5_1 + (((ji8) + (ji9)) + (ji10))))) = false := decide_eq_false c11
         clear c11
         have H' := Aside0.mk H
         clear H
         have p251 : 0 ≤ (x6_1 : Int) := of_decide_eq_true as_
         have q251 : x6_1 < (l0.length : Int) := of_decide_eq_true as_
         obtain ⟨ad251, A251_9, c251_9, e251, hx251_0, hx251_1, hx251_2, hx251_3, hx251_4, hx251_5, hx251_6, hx251_7, hx251_8, hx251_9, hl251_9, hi251_9⟩ := at_T42 HR0.out x6_1 p251 q251
         cases e251
         replace hx251_0 := (HB.out.cell (World.block_lt_of_cell? w _ hx251_0)).trans hx251_0
         replace hx251_1 := (HB.out.cell (World.block_lt_of_cell? w _ hx251_1)).trans hx251_1
         replace hx251_2 := (HB.out.cell (World.block_lt_of_cell? w _ hx251_2)).trans hx251_2
         replace hx251_3 := (HB.out.cell (World.block_lt_of_cell? w _ hx251_3)).trans hx251_3
         replace hx251_4 := (HB.out.cell (World.block_lt_of_cell? w _ hx251_4)).trans hx251_4
         replace hx251_5 := (HB.out.cell (World.block_lt_of_cell? w _ hx251_5)).trans hx251_5
         replace hx251_6 := (HB.out.cell (World.block_lt_of_cell? w _ hx251_6)).trans hx251_6
         replace hx251_7 := (HB.out.cell (World.block_lt_of_cell? w _ hx251_7)).trans hx251_7
         replace hx251_8 := (HB.out.cell (World.block_lt_of_cell? w _ hx251_8)).trans hx251_8
         replace hx251_9 := (HB.out.cell (World.block_lt_of_cell? w _ hx251_9)).trans hx251_9
         have HR251_9 := Aside0.mk hi251_9
         have HC251_9 := Aside0.mk hl251_9
         clear hi251_9 hl251_9
         replace p251 := eq_true p251
         replace q251 := eq_true q251
         have p252 : 0 ≤ (x6_1 : Int) := of_decide_eq_true as_
         have q252 : x6_1 < (l0.length : Int) := of_decide_eq_true as_
         obtain ⟨ad252, A252_9, c252_9, e252, hx252_0, hx252_1, hx252_2, hx252_3, hx252_4, hx252_5, hx252_6, hx252_7, hx252_8, hx252_9, hl252_9, hi252_9⟩ := at_T42 HR0.out x6_1 p252 q252
         obtain rfl : ad251 = ad252 := (by injection e252)
         replace hx252_0 := (HB.out.cell (World.block_lt_of_cell? w _ hx252_0)).trans hx252_0
         replace hx252_1 := (HB.out.cell (World.block_lt_of_cell? w _ hx252_1)).trans hx252_1
         replace hx252_2 := (HB.out.cell (World.block_lt_of_cell? w _ hx252_2)).trans hx252_2
         replace hx252_3 := (HB.out.cell (World.block_lt_of_cell? w _ hx252_3)).trans hx252_3
         replace hx252_4 := (HB.out.cell (World.block_lt_of_cell? w _ hx252_4)).trans hx252_4
         replace hx252_5 := (HB.out.cell (World.block_lt_of_cell? w _ hx252_5)).trans hx252_5
         replace hx252_6 := (HB.out.cell (World.block_lt_of_cell? w _ hx252_6)).trans hx252_6
         replace hx252_7 := (HB.out.cell (World.block_lt_of_cell? w _ hx252_7)).trans hx252_7
         replace hx252_8 := (HB.out.cell (World.block_lt_of_cell? w _ hx252_8)).trans hx252_8
         replace hx252_9 := (HB.out.cell (World.block_lt_of_cell? w _ hx252_9)).trans hx252_9
         have HR252_9 := Aside0.mk hi252_9
         have HC252_9 := Aside0.mk hl252_9
         clear hi252_9 hl252_9
         replace p252 := eq_true p252
         replace q252 := eq_true q252
         have ea_ := Option.some.inj (hx251_9.symm.trans hx252_9)
         injection ea_ with ea_ en_ ec_
         subst ea_
         subst ec_
         clear en_
         have p253 : 0 ≤ (x6_1 : Int) := of_decide_eq_true as_
         have q253 : x6_1 < (l0.length : Int) := of_decide_eq_true as_
         obtain ⟨ad253, A253_9, c253_9, e253, hx253_0, hx253_1, hx253_2, hx253_3, hx253_4, hx253_5, hx253_6, hx253_7, hx253_8, hx253_9, hl253_9, hi253_9⟩ := at_T42 HR0.out x6_1 p253 q253
         obtain rfl : ad251 = ad253 := (by injection e253)
         replace hx253_0 := (HB.out.cell (World.block_lt_of_cell? w _ hx253_0)).trans hx253_0
         replace hx253_1 := (HB.out.cell (World.block_lt_of_cell? w _ hx253_1)).trans hx253_1
         replace hx253_2 := (HB.out.cell (World.block_lt_of_cell? w _ hx253_2)).trans hx253_2
         replace hx253_3 := (HB.out.cell (World.block_lt_of_cell? w _ hx253_3)).trans hx253_3
         replace hx253_4 := (HB.out.cell (World.block_lt_of_cell? w _ hx253_4)).trans hx253_4
         replace hx253_5 := (HB.out.cell (World.block_lt_of_cell? w _ hx253_5)).trans hx253_5
         replace hx253_6 := (HB.out.cell (World.block_lt_of_cell? w _ hx253_6)).trans hx253_6
         replace hx253_7 := (HB.out.cell (World.block_lt_of_cell? w _ hx253_7)).trans hx253_7
         replace hx253_8 := (HB.out.cell (World.block_lt_of_cell? w _ hx253_8)).trans hx253_8
         replace hx253_9 := (HB.out.cell (World.block_lt_of_cell? w _ hx253_9)).trans hx253_9
         have HR253_9 := Aside0.mk hi253_9
         have HC253_9 := Aside0.mk hl253_9
         clear hi253_9 hl253_9
         replace p253 := eq_true p253
         replace q253 := eq_true q253
         have ea_ := Option.some.inj (hx251_9.symm.trans hx253_9)
         injection ea_ with ea_ en_ ec_
         subst ea_
         subst ec_
         clear en_
         go_wp2
         repeat (go_quiet (fail); try go_wp2)
         go_roundg kj2
         case measure => have := HK1.out; have := HJ2.out; omega
         case rel => exact ⟨(wrap64 (x5_1 + (((ji8) + (ji9)) + (ji10)))), (wrap64 (x6_1 + 1)), (by first | rfl | (simp; done) | (simp only [← hji8, ← hji9, ← hji10] <;> (first | rfl | simp)) | (simp [*]; done)), rs_, H', ⟨by have := HK1.out; have := HJ2.out; omega⟩, ⟨bb_ HB.out⟩⟩
       ·rw [if_neg c7] at H
        exact absurd H (by simp)
      ·rw [if_neg c6] at H
       exact absurd H (by simp)
     ·replace c5 := Bool.eq_false_iff.mpr c5
      subst c5
      have H1 : (some true) = some r := by rw [if_neg (show ¬ (false = true) by decide)] at H; exact H
      clear H
      have H := H1
      clear H1
      obtain rfl := Option.some.inj H
      go_wp2
      repeat (go_quiet (fail); try go_wp2)
      go_ret
      exact ⟨by first | rfl | (simp [errW_none, errW_some] <;> rfl) | (simp [*, errW_none, errW_some] <;> rfl), bb_ HB.out⟩
end Go.Proofs.YtcgkmomhjincgaaDoor.LibQ
