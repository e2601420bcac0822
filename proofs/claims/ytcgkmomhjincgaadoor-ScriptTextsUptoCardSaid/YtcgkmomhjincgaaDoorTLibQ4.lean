import Derived.Test.YtcgkmomhjincgaaDoorTLibQ0
namespace Go.Proofs.YtcgkmomhjincgaaDoor.LibQ
open Go.RowKit Go.Proofs.YtcgkmomhjincgaaDoorW.PrintWords Go.Proofs.YtcgkmomhjincgaaDoorW.PrintLast Go.Proofs.YtcgkmomhjincgaaDoorW.PrintMore
attribute [local go_sem] max2_int min2_int max_two min_two max_three min_three max_four min_four   -- for this text's walks alone
set_option linter.unusedVariables false
set_option linter.unusedSimpArgs false
mutual
def scholiaplain_Brief.l0 : Nat → List (S42) → Int → Int → Int → Option (Bool)
 | 0, _, _, _, _ => none
 | k + 1, x0, x1, x5, x6 => if x6 < (x0.length : Int) then (scholiaplain_Brief.j1 k x0 x1 x5 x6 (decide (x6 < x1))) else (scholiaplain_Brief.j1 k x0 x1 x5 x6 false)
def scholiaplain_Brief.j1 : Nat → List (S42) → Int → Int → Int → Bool → Option (Bool)
 | 0, _, _, _, _, _ => none
 | k + 1, x0, x1, x5, x6, x15 => if x15 = true then (if 0 ≤ x6 then (if x6 < (x0.length : Int) then (if (wrap64 (x5 + (((mn (((rd_T42 x0 x6).f6).size : Int) 8192) + (mn (((rd_T42 x0 x6).f8).size : Int) 8192)) + (mn (((rd_T42 x0 x6).f9).length : Int) 8192)))) > 8192 then (some false) else (scholiaplain_Brief.l0 k x0 x1 (wrap64 (x5 + (((mn (((rd_T42 x0 x6).f6).size : Int) 8192) + (mn (((rd_T42 x0 x6).f8).size : Int) 8192)) + (mn (((rd_T42 x0 x6).f9).length : Int) 8192)))) (wrap64 (x6 + 1)))) else (none)) else (none)) else (some true)
end
def scholiaplain_Brief.f (k : Nat) (l0 : List (S42)) (a1 : Int) : Option (Bool) := scholiaplain_Brief.l0 k l0 a1 0 0
set_option maxHeartbeats 8000000 in
set_option maxRecDepth 100000 in
theorem scholiaplain_Brief.calls (k : Nat) (A0 : Option Addr) (c0 : Nat) (l0 : List (S42)) (a1 : Int) (r : Bool) (w : World) (hr0 : Kd.C k42 w A0 l0.length l0) (hc0 : l0.length ≤ c0) (h : scholiaplain_Brief.f k l0 a1 = some r) :
  Calls Tryd.prog 24 #[.slice A0 l0.length c0, .int .i64 a1] w fun e w' => e = .returned (.bool r) ∧ Below w.heap.size w w' := by
 have HR0 := Aside0.mk hr0
 have HC0 := Aside0.mk hc0
 clear hr0 hc0
 have HB := Aside0.mk (Below.refl w.heap.size w)
 have H : (scholiaplain_Brief.l0 k l0 a1 0 0) = some r := h
 clear h
 have H' := Aside0.mk H
 clear H
 go_enter Tryd.func24, Tryd.ntmps24
 go_wp2
 repeat (go_quiet (fail); try go_wp2)
 go_loopg [5, 6] k (fun kq v5 v6 w' => ∃ (x5_1 : Int) (x6_1 : Int), v5 = .int .i64 x5_1 ∧ v6 = .int .i64 x6_1 ∧ Aside0 (scholiaplain_Brief.l0 kq l0 a1 x5_1 x6_1 = some r) ∧ Aside0 (kq ≤ k) ∧ Aside0 (Below w.heap.size w w'))
 case atStart => exact ⟨(0), (0), rs_, rs_, H', ⟨Nat.le_refl _⟩, ⟨bb_ HB.out⟩⟩
 case round =>
  clear H'
  try clear c2
  try clear p2
  obtain ⟨x5_1, x6_1, rfl, rfl, HA, HK1, HB⟩ := hrel
  cases gk with
  | zero => exact absurd HA.out (by simp [scholiaplain_Brief.l0])
  | succ k1 =>
   have H := HA.out
   clear HA
   simp only [scholiaplain_Brief.l0] at H
   have HC3 := Aside0.mk H
   clear H
   go_upto_region 3 with (fail)
   repeat (go_quiet (fail); go_upto_region 3 with (fail))
   go_cut [15] (fun v15 wc => ∃ (kq : Nat) (x15_2 : Bool), v15 = .bool x15_2 ∧ Aside0 (scholiaplain_Brief.j1 kq l0 a1 x5_1 x6_1 x15_2 = some r) ∧ Aside0 (kq ≤ k1) ∧ Aside0 (Below w.heap.size w wc))
   case first =>
    have H := HC3.out
    clear HC3
    by_cases c4 : x6_1 < (l0.length : Int)
    ·rw [if_pos c4] at H
     have c4b0 : decide (x6_1 < (l0.length : Int)) = true := decide_eq_true c4
     clear c4
     (first | rw [c4b0] | (simp only [i64_w, i32_w]; rw [c4b0]) | skip)
     have H' := Aside0.mk H
     clear H
     go_wp2
     repeat (go_quiet (fail); try go_wp2)
     go_meet
     case rel => exact ⟨_, (decide (x6_1 < a1)), rs_, H', ⟨by have := HK1.out; first | omega | exact Nat.le_refl _⟩, ⟨bb_ HB.out⟩⟩
    ·rw [if_neg c4] at H
     have c4b0 : decide (x6_1 < (l0.length : Int)) = false := decide_eq_false c4
     clear c4
     (first | rw [c4b0] | (simp only [i64_w, i32_w]; rw [c4b0]) | skip)
     have H' := Aside0.mk H
     clear H
     go_wp2
     repeat (go_quiet (fail); try go_wp2)
     go_meet
     case rel => exact ⟨_, (false), rs_, H', ⟨by have := HK1.out; first | omega | exact Nat.le_refl _⟩, ⟨bb_ HB.out⟩⟩
   case rest =>
    clear HC3
    try clear c2
    try clear p2
    try clear c4
    try clear c4b0
    try clear p2
    obtain ⟨kq, x15_2, rfl, HA, HJ2, HB⟩ := hcut
    cases kq with
    | zero => exact absurd HA.out (by simp [scholiaplain_Brief.j1])
    | succ kj2 =>
     have H := HA.out
     clear HA
     simp only [scholiaplain_Brief.j1] at H
     by_cases c5 : x15_2 = true
     ·subst c5
      have H1 : (if 0 ≤ x6_1 then (if x6_1 < (l0.length : Int) then (if (wrap64 (x5_1 + (((mn (((rd_T42 l0 x6_1).f6).size : Int) 8192) + (mn (((rd_T42 l0 x6_1).f8).size : Int) 8192)) + (mn (((rd_T42 l0 x6_1).f9).length : Int) 8192)))) > 8192 then (some false) else (scholiaplain_Brief.l0 kj2 l0 a1 (wrap64 (x5_1 + (((mn (((rd_T42 l0 x6_1).f6).size : Int) 8192) + (mn (((rd_T42 l0 x6_1).f8).size : Int) 8192)) + (mn (((rd_T42 l0 x6_1).f9).length : Int) 8192)))) (wrap64 (x6_1 + 1)))) else (none)) else (none)) = some r := by rw [if_pos rfl] at H; exact H
      clear H
      have H := H1
      clear H1
      by_cases c6 : 0 ≤ x6_1
      ·rw [if_pos c6] at H
       have c6b0 : decide (0 ≤ x6_1) = true := decide_eq_true c6
       clear c6
       by_cases c7 : x6_1 < (l0.length : Int)
       ·rw [if_pos c7] at H
        have c7b0 : decide (x6_1 < (l0.length : Int)) = true := decide_eq_true c7
        clear c7
        obtain ⟨ji8, hji8⟩ : ∃ j_ : Int, (mn (((rd_T42 l0 x6_1).f6).size : Int) 8192) = j_ := ⟨_, rfl⟩
        replace H : (if (wrap64 (x5_1 + (((ji8) + (mn (((rd_T42 l0 x6_1).f8).size : Int) 8192)) + (mn (((rd_T42 l0 x6_1).f9).length : Int) 8192)))) > 8192 then (some false) else (scholiaplain_Brief.l0 kj2 l0 a1 (wrap64 (x5_1 + (((ji8) + (mn (((rd_T42 l0 x6_1).f8).size : Int) 8192)) + (mn (((rd_T42 l0 x6_1).f9).length : Int) 8192)))) (wrap64 (x6_1 + 1)))) = some r := by first | (rw [hji8] at H; exact H) | (simp only [hji8] at H ⊢; exact H)
        have hji8_ : (if 8192 < (((rd_T42 l0 x6_1).f6).size : Int) then 8192 else (((rd_T42 l0 x6_1).f6).size : Int)) = ji8 := hji8
        obtain ⟨ji9, hji9⟩ : ∃ j_ : Int, (mn (((rd_T42 l0 x6_1).f8).size : Int) 8192) = j_ := ⟨_, rfl⟩
        replace H : (if (wrap64 (x5_1 + (((ji8) + (ji9)) + (mn (((rd_T42 l0 x6_1).f9).length : Int) 8192)))) > 8192 then (some false) else (scholiaplain_Brief.l0 kj2 l0 a1 (wrap64 (x5_1 + (((ji8) + (ji9)) + (mn (((rd_T42 l0 x6_1).f9).length : Int) 8192)))) (wrap64 (x6_1 + 1)))) = some r := by first | (rw [hji9] at H; exact H) | (simp only [hji9] at H ⊢; exact H)
        have hji9_ : (if 8192 < (((rd_T42 l0 x6_1).f8).size : Int) then 8192 else (((rd_T42 l0 x6_1).f8).size : Int)) = ji9 := hji9
        obtain ⟨ji10, hji10⟩ : ∃ j_ : Int, (mn (((rd_T42 l0 x6_1).f9).length : Int) 8192) = j_ := ⟨_, rfl⟩
        replace H : (if (wrap64 (x5_1 + (((ji8) + (ji9)) + (ji10)))) > 8192 then (some false) else (scholiaplain_Brief.l0 kj2 l0 a1 (wrap64 (x5_1 + (((ji8) + (ji9)) + (ji10)))) (wrap64 (x6_1 + 1)))) = some r := by first | (rw [hji10] at H; exact H) | (simp only [hji10] at H ⊢; exact H)
        have hji10_ : (if 8192 < (((rd_T42 l0 x6_1).f9).length : Int) then 8192 else (((rd_T42 l0 x6_1).f9).length : Int)) = ji10 := hji10
        by_cases c11 : (wrap64 (x5_1 + (((ji8) + (ji9)) + (ji10)))) > 8192
        ·rw [if_pos c11] at H
         have c11b0 : decide (8192 < (wrap64 (x5_1 + (((ji8) + (ji9)) + (ji10))))) = true := decide_eq_true c11
         clear c11
         obtain rfl := Option.some.inj H
         have p251 : 0 ≤ (x6_1 : Int) := of_decide_eq_true as_
         have q251 : x6_1 < (l0.length : Int) := of_decide_eq_true as_
         obtain ⟨ad251, A251_9, c251_9, e251, hx251_0, hx251_1, hx251_2, hx251_3, hx251_4, hx251_5, hx251_6, hx251_7, hx251_8, hx251_9, hl251_9, hi251_9⟩ := at_T42 HR0.out x6_1 p251 q251
         cases e251
         replace hx251_0 := (HB.out.cell (World.block_lt_of_cell? w _ hx251_0)).trans hx251_0
         replace hx251_1 := (HB.out.cell (World.block_lt_of_cell? w _ hx251_1)).trans hx251_1
         replace hx251_2 := (HB.out.cell (World.block_lt_of_cell? w _ hx251_2)).trans hx251_2
         replace hx251_3 := (HB.out.cell (World.block_lt_of_cell? w _ hx251_3)).trans hx251_3
         replace hx251_4 := (HB.out.cell (World.block_lt_of_cell? w _ hx251_4)).trans hx251_4
         replace hx251_5 := (HB.out.cell (World.block_lt_of_cell? w _ hx251_5)).trans hx251_5
         replace hx251_6 := (HB.out.cell (World.block_lt_of_cell? w _ hx251_6)).trans hx251_6
         replace hx251_7 := (HB.out.cell (World.block_lt_of_cell? w _ hx251_7)).trans hx251_7
         replace hx251_8 := (HB.out.cell (World.block_lt_of_cell? w _ hx251_8)).trans hx251_8
         replace hx251_9 := (HB.out.cell (World.block_lt_of_cell? w _ hx251_9)).trans hx251_9
         have HR251_9 := Aside0.mk hi251_9
         have HC251_9 := Aside0.mk hl251_9
         clear hi251_9 hl251_9
         replace p251 := eq_true p251
         replace q251 := eq_true q251
         have p252 : 0 ≤ (x6_1 : Int) := of_decide_eq_true as_
         have q252 : x6_1 < (l0.length : Int) := of_decide_eq_true as_
         obtain ⟨ad252, A252_9, c252_9, e252, hx252_0, hx252_1, hx252_2, hx252_3, hx252_4, hx252_5, hx252_6, hx252_7, hx252_8, hx252_9, hl252_9, hi252_9⟩ := at_T42 HR0.out x6_1 p252 q252
         obtain rfl : ad251 = ad252 := (by injection e252)
         replace hx252_0 := (HB.out.cell (World.block_lt_of_cell? w _ hx252_0)).trans hx252_0
         replace hx252_1 := (HB.out.cell (World.block_lt_of_cell? w _ hx252_1)).trans hx252_1
         replace hx252_2 := (HB.out.cell (World.block_lt_of_cell? w _ hx252_2)).trans hx252_2
         replace hx252_3 := (HB.out.cell (World.block_lt_of_cell? w _ hx252_3)).trans hx252_3
         replace hx252_4 := (HB.out.cell (World.block_lt_of_cell? w _ hx252_4)).trans hx252_4
         replace hx252_5 := (HB.out.cell (World.block_lt_of_cell? w _ hx252_5)).trans hx252_5
         replace hx252_6 := (HB.out.cell (World.block_lt_of_cell? w _ hx252_6)).trans hx252_6
         replace hx252_7 := (HB.out.cell (World.block_lt_of_cell? w _ hx252_7)).trans hx252_7
         replace hx252_8 := (HB.out.cell (World.block_lt_of_cell? w _ hx252_8)).trans hx252_8
         replace hx252_9 := (HB.out.cell (World.block_lt_of_cell? w _ hx252_9)).trans hx252_9
         have HR252_9 := Aside0.mk hi252_9
         have HC252_9 := Aside0.mk hl252_9
         clear hi252_9 hl252_9
         replace p252 := eq_true p252
         replace q252 := eq_true q252
         have ea_ := Option.some.inj (hx251_9.symm.trans hx252_9)
         injection ea_ with ea_ en_ ec_
         subst ea_
         subst ec_
         clear en_
         have p253 : 0 ≤ (x6_1 : Int) := of_decide_eq_true as_
         have q253 : x6_1 < (l0.length : Int) := of_decide_eq_true as_
         obtain ⟨ad253, A253_9, c253_9, e253, hx253_0, hx253_1, hx253_2, hx253_3, hx253_4, hx253_5, hx253_6, hx253_7, hx253_8, hx253_9, hl253_9, hi253_9⟩ := at_T42 HR0.out x6_1 p253 q253
         obtain rfl : ad251 = ad253 := (by injection e253)
         replace hx253_0 := (HB.out.cell (World.block_lt_of_cell? w _ hx253_0)).trans hx253_0
         replace hx253_1 := (HB.out.cell (World.block_lt_of_cell? w _ hx253_1)).trans hx253_1
         replace hx253_2 := (HB.out.cell (World.block_lt_of_cell? w _ hx253_2)).trans hx253_2
         replace hx253_3 := (HB.out.cell (World.block_lt_of_cell? w _ hx253_3)).trans hx253_3
         replace hx253_4 := (HB.out.cell (World.block_lt_of_cell? w _ hx253_4)).trans hx253_4
         replace hx253_5 := (HB.out.cell (World.block_lt_of_cell? w _ hx253_5)).trans hx253_5
         replace hx253_6 := (HB.out.cell (World.block_lt_of_cell? w _ hx253_6)).trans hx253_6
         replace hx253_7 := (HB.out.cell (World.block_lt_of_cell? w _ hx253_7)).trans hx253_7
         replace hx253_8 := (HB.out.cell (World.block_lt_of_cell? w _ hx253_8)).trans hx253_8
         replace hx253_9 := (HB.out.cell (World.block_lt_of_cell? w _ hx253_9)).trans hx253_9
         have HR253_9 := Aside0.mk hi253_9
         have HC253_9 := Aside0.mk hl253_9
         clear hi253_9 hl253_9
         replace p253 := eq_true p253
         replace q253 := eq_true q253
         have ea_ := Option.some.inj (hx251_9.symm.trans hx253_9)
         injection ea_ with ea_ en_ ec_
         subst ea_
         subst ec_
         clear en_
         go_wp2
         repeat (go_quiet (fail); try go_wp2)
         go_ret
         exact ⟨by first | rfl | (simp [errW_none, errW_some] <;> rfl) | (simp only [← hji8, ← hji9, ← hji10]; first | rfl | (simp [errW_none, errW_some] <;> rfl)) | (simp [*, errW_none, errW_some] <;> rfl), bb_ HB.out⟩
        ·rw [if_neg c11] at H
         have c11b0 : decide (8192 < (wrap64 (x5_1 + (((ji8) + (ji9)) + (ji10))))) = false := decide_eq_false c11
         clear c11
         have H' := Aside0.mk H
         clear H
         have p251 : 0 ≤ (x6_1 : Int) := of_decide_eq_true as_
         have q251 : x6_1 < (l0.length : Int) := of_decide_eq_true as_
         obtain ⟨ad251, A251_9, c251_9, e251, hx251_0, hx251_1, hx251_2, hx251_3, hx251_4, hx251_5, hx251_6, hx251_7, hx251_8, hx251_9, hl251_9, hi251_9⟩ := at_T42 HR0.out x6_1 p251 q251
         cases e251
         replace hx251_0 := (HB.out.cell (World.block_lt_of_cell? w _ hx251_0)).trans hx251_0
         replace hx251_1 := (HB.out.cell (World.block_lt_of_cell? w _ hx251_1)).trans hx251_1
         replace hx251_2 := (HB.out.cell (World.block_lt_of_cell? w _ hx251_2)).trans hx251_2
         replace hx251_3 := (HB.out.cell (World.block_lt_of_cell? w _ hx251_3)).trans hx251_3
         replace hx251_4 := (HB.out.cell (World.block_lt_of_cell? w _ hx251_4)).trans hx251_4
         replace hx251_5 := (HB.out.cell (World.block_lt_of_cell? w _ hx251_5)).trans hx251_5
         replace hx251_6 := (HB.out.cell (World.block_lt_of_cell? w _ hx251_6)).trans hx251_6
         replace hx251_7 := (HB.out.cell (World.block_lt_of_cell? w _ hx251_7)).trans hx251_7
         replace hx251_8 := (HB.out.cell (World.block_lt_of_cell? w _ hx251_8)).trans hx251_8
         replace hx251_9 := (HB.out.cell (World.block_lt_of_cell? w _ hx251_9)).trans hx251_9
         have HR251_9 := Aside0.mk hi251_9
         have HC251_9 := Aside0.mk hl251_9
         clear hi251_9 hl251_9
         replace p251 := eq_true p251
         replace q251 := eq_true q251
         have p252 : 0 ≤ (x6_1 : Int) := of_decide_eq_true as_
         have q252 : x6_1 < (l0.length : Int) := of_decide_eq_true as_
         obtain ⟨ad252, A252_9, c252_9, e252, hx252_0, hx252_1, hx252_2, hx252_3, hx252_4, hx252_5, hx252_6, hx252_7, hx252_8, hx252_9, hl252_9, hi252_9⟩ := at_T42 HR0.out x6_1 p252 q252
         obtain rfl : ad251 = ad252 := (by injection e252)
         replace hx252_0 := (HB.out.cell (World.block_lt_of_cell? w _ hx252_0)).trans hx252_0
         replace hx252_1 := (HB.out.cell (World.block_lt_of_cell? w _ hx252_1)).trans hx252_1
         replace hx252_2 := (HB.out.cell (World.block_lt_of_cell? w _ hx252_2)).trans hx252_2
         replace hx252_3 := (HB.out.cell (World.block_lt_of_cell? w _ hx252_3)).trans hx252_3
         replace hx252_4 := (HB.out.cell (World.block_lt_of_cell? w _ hx252_4)).trans hx252_4
         replace hx252_5 := (HB.out.cell (World.block_lt_of_cell? w _ hx252_5)).trans hx252_5
         replace hx252_6 := (HB.out.cell (World.block_lt_of_cell? w _ hx252_6)).trans hx252_6
         replace hx252_7 := (HB.out.cell (World.block_lt_of_cell? w _ hx252_7)).trans hx252_7
         replace hx252_8 := (HB.out.cell (World.block_lt_of_cell? w _ hx252_8)).trans hx252_8
         replace hx252_9 := (HB.out.cell (World.block_lt_of_cell? w _ hx252_9)).trans hx252_9
         have HR252_9 := Aside0.mk hi252_9
         have HC252_9 := Aside0.mk hl252_9
         clear hi252_9 hl252_9
         replace p252 := eq_true p252
         replace q252 := eq_true q252
         have ea_ := Option.some.inj (hx251_9.symm.trans hx252_9)
         injection ea_ with ea_ en_ ec_
         subst ea_
         subst ec_
         clear en_
         have p253 : 0 ≤ (x6_1 : Int) := of_decide_eq_true as_
         have q253 : x6_1 < (l0.length : Int) := of_decide_eq_true as_
         obtain ⟨ad253, A253_9, c253_9, e253, hx253_0, hx253_1, hx253_2, hx253_3, hx253_4, hx253_5, hx253_6, hx253_7, hx253_8, hx253_9, hl253_9, hi253_9⟩ := at_T42 HR0.out x6_1 p253 q253
         obtain rfl : ad251 = ad253 := (by injection e253)
         replace hx253_0 := (HB.out.cell (World.block_lt_of_cell? w _ hx253_0)).trans hx253_0
         replace hx253_1 := (HB.out.cell (World.block_lt_of_cell? w _ hx253_1)).trans hx253_1
         replace hx253_2 := (HB.out.cell (World.block_lt_of_cell? w _ hx253_2)).trans hx253_2
         replace hx253_3 := (HB.out.cell (World.block_lt_of_cell? w _ hx253_3)).trans hx253_3
         replace hx253_4 := (HB.out.cell (World.block_lt_of_cell? w _ hx253_4)).trans hx253_4
         replace hx253_5 := (HB.out.cell (World.block_lt_of_cell? w _ hx253_5)).trans hx253_5
         replace hx253_6 := (HB.out.cell (World.block_lt_of_cell? w _ hx253_6)).trans hx253_6
         replace hx253_7 := (HB.out.cell (World.block_lt_of_cell? w _ hx253_7)).trans hx253_7
         replace hx253_8 := (HB.out.cell (World.block_lt_of_cell? w _ hx253_8)).trans hx253_8
         replace hx253_9 := (HB.out.cell (World.block_lt_of_cell? w _ hx253_9)).trans hx253_9
         have HR253_9 := Aside0.mk hi253_9
         have HC253_9 := Aside0.mk hl253_9
         clear hi253_9 hl253_9
         replace p253 := eq_true p253
         replace q253 := eq_true q253
         have ea_ := Option.some.inj (hx251_9.symm.trans hx253_9)
         injection ea_ with ea_ en_ ec_
         subst ea_
         subst ec_
         clear en_
         go_wp2
         repeat (go_quiet (fail); try go_wp2)
         go_roundg kj2
         case measure => have := HK1.out; have := HJ2.out; omega
         case rel => exact ⟨(wrap64 (x5_1 + (((ji8) + (ji9)) + (ji10)))), (wrap64 (x6_1 + 1)), (by first | rfl | (simp; done) | (simp only [← hji8, ← hji9, ← hji10] <;> (first | rfl | simp)) | (simp [*]; done)), rs_, H', ⟨by have := HK1.out; have := HJ2.out; omega⟩, ⟨bb_ HB.out⟩⟩
       ·rw [if_neg c7] at H
        exact absurd H (by simp)
      ·rw [if_neg c6] at H
       exact absurd H (by simp)
     ·replace c5 := Bool.eq_false_iff.mpr c5
      subst c5
      have H1 : (some true) = some r := by rw [if_neg (show ¬ (false = true) by decide)] at H; exact H
      clear H
      have H := H1
      clear H1
      obtain rfl := Option.some.inj H
      go_wp2
      repeat (go_quiet (fail); try go_wp2)
      go_ret
      exact ⟨by first | rfl | (simp [errW_none, errW_some] <;> rfl) | (simp [*, errW_none, errW_some] <;> rfl), bb_ HB.out⟩
def scholiaref29_Parts.l0 : Nat → ByteArray → List ByteArray → List ByteArray → Int → Int → Option (ByteArray × Int)
 | 0, _, _, _, _, _ => none
 | k + 1, x0, x5, x10, x11, x12 => if x12 < x11 then (if 0 ≤ x12 then (if x12 < (x10.length : Int) then (if (rdOf ByteArray.empty x10 x12).toList = x0.toList then (if x12 < (x5.length : Int) then (some (rdOf ByteArray.empty x5 x12, wrap64 (x12 + 1))) else (none)) else (scholiaref29_Parts.l0 k x0 x5 x10 x11 (wrap64 (x12 + 1)))) else (none)) else (none)) else (some ((⟨#[]⟩ : ByteArray), 0))
def scholiaref29_Parts.f (k : Nat) (a0 : ByteArray) : Option (ByteArray × Int) := (some (([(⟨#[112, 117, 116]⟩ : ByteArray), (⟨#[100, 114, 111, 112]⟩ : ByteArray), (⟨#[115, 121, 110, 99]⟩ : ByteArray), (⟨#[115, 101, 110, 100]⟩ : ByteArray), (⟨#[100, 101, 108, 105, 118, 101, 114]⟩ : ByteArray), (⟨#[108, 111, 115, 101]⟩ : ByteArray), (⟨#[100, 111, 117, 98, 108, 101]⟩ : ByteArray), (⟨#[115, 112, 111, 105, 108]⟩ : ByteArray), (⟨#[99, 114, 97, 115, 104]⟩ : ByteArray), (⟨#[115, 116, 97, 114, 116]⟩ : ByteArray), (⟨#[102, 117, 115, 101]⟩ : ByteArray), (⟨#[102, 108, 117, 115, 104]⟩ : ByteArray), (⟨#[99, 111, 109, 112, 97, 99, 116]⟩ : ByteArray), (⟨#[99, 111, 108, 108, 101, 99, 116]⟩ : ByteArray), (⟨#[115, 97, 118, 101]⟩ : ByteArray), (⟨#[113, 117, 101, 114, 121]⟩ : ByteArray)] : List ByteArray) : List ByteArray)).bind fun y254 => (scholiaref29_Parts.l0 k a0 (([(⟨#[82, 68, 70, 83]⟩ : ByteArray), (⟨#[82, 68]⟩ : ByteArray), (⟨#[82]⟩ : ByteArray), (⟨#[82, 84]⟩ : ByteArray), (⟨#[82, 84, 78]⟩ : ByteArray), (⟨#[82, 84, 78]⟩ : ByteArray), (⟨#[82, 84, 78]⟩ : ByteArray), (⟨#[82, 84, 78, 65, 88]⟩ : ByteArray), (⟨#[82, 88, 65, 75]⟩ : ByteArray), (⟨#[82]⟩ : ByteArray), (⟨#[82, 78]⟩ : ByteArray), (⟨#[82]⟩ : ByteArray), (⟨#[82]⟩ : ByteArray), (⟨#[82]⟩ : ByteArray), (⟨#[82]⟩ : ByteArray), (⟨#[82, 78, 83]⟩ : ByteArray)] : List ByteArray)) y254 (y254.length : Int) 0)
set_option maxHeartbeats 8000000 in
set_option maxRecDepth 100000 in
theorem scholiaref29_Parts.calls (k : Nat) (a0 : ByteArray) (r1 : ByteArray) (r2 : Int) (w : World) (h : scholiaref29_Parts.f k a0 = some (r1, r2)) :
  Calls Tryd.prog 55 #[.string a0] w fun e w' => e = .returned (.tuple #[.string r1, .int .i64 r2]) ∧ Below w.heap.size w w' := by
 have HB := Aside0.mk (Below.refl w.heap.size w)
 have H : ((some (([(⟨#[112, 117, 116]⟩ : ByteArray), (⟨#[100, 114, 111, 112]⟩ : ByteArray), (⟨#[115, 121, 110, 99]⟩ : ByteArray), (⟨#[115, 101, 110, 100]⟩ : ByteArray), (⟨#[100, 101, 108, 105, 118, 101, 114]⟩ : ByteArray), (⟨#[108, 111, 115, 101]⟩ : ByteArray), (⟨#[100, 111, 117, 98, 108, 101]⟩ : ByteArray), (⟨#[115, 112, 111, 105, 108]⟩ : ByteArray), (⟨#[99, 114, 97, 115, 104]⟩ : ByteArray), (⟨#[115, 116, 97, 114, 116]⟩ : ByteArray), (⟨#[102, 117, 115, 101]⟩ : ByteArray), (⟨#[102, 108, 117, 115, 104]⟩ : ByteArray), (⟨#[99, 111, 109, 112, 97, 99, 116]⟩ : ByteArray), (⟨#[99, 111, 108, 108, 101, 99, 116]⟩ : ByteArray), (⟨#[115, 97, 118, 101]⟩ : ByteArray), (⟨#[113, 117, 101, 114, 121]⟩ : ByteArray)] : List ByteArray) : List ByteArray)).bind fun y254 => (scholiaref29_Parts.l0 k a0 (([(⟨#[82, 68, 70, 83]⟩ : ByteArray), (⟨#[82, 68]⟩ : ByteArray), (⟨#[82]⟩ : ByteArray), (⟨#[82, 84]⟩ : ByteArray), (⟨#[82, 84, 78]⟩ : ByteArray), (⟨#[82, 84, 78]⟩ : ByteArray), (⟨#[82, 84, 78]⟩ : ByteArray), (⟨#[82, 84, 78, 65, 88]⟩ : ByteArray), (⟨#[82, 88, 65, 75]⟩ : ByteArray), (⟨#[82]⟩ : ByteArray), (⟨#[82, 78]⟩ : ByteArray), (⟨#[82]⟩ : ByteArray), (⟨#[82]⟩ : ByteArray), (⟨#[82]⟩ : ByteArray), (⟨#[82]⟩ : ByteArray), (⟨#[82, 78, 83]⟩ : ByteArray)] : List ByteArray)) y254 (y254.length : Int) 0)) = some (r1, r2) := h
 clear h
 obtain ⟨y254, hy254⟩ : ∃ y_ : List ByteArray, y_ = (([(⟨#[112, 117, 116]⟩ : ByteArray), (⟨#[100, 114, 111, 112]⟩ : ByteArray), (⟨#[115, 121, 110, 99]⟩ : ByteArray), (⟨#[115, 101, 110, 100]⟩ : ByteArray), (⟨#[100, 101, 108, 105, 118, 101, 114]⟩ : ByteArray), (⟨#[108, 111, 115, 101]⟩ : ByteArray), (⟨#[100, 111, 117, 98, 108, 101]⟩ : ByteArray), (⟨#[115, 112, 111, 105, 108]⟩ : ByteArray), (⟨#[99, 114, 97, 115, 104]⟩ : ByteArray), (⟨#[115, 116, 97, 114, 116]⟩ : ByteArray), (⟨#[102, 117, 115, 101]⟩ : ByteArray), (⟨#[102, 108, 117, 115, 104]⟩ : ByteArray), (⟨#[99, 111, 109, 112, 97, 99, 116]⟩ : ByteArray), (⟨#[99, 111, 108, 108, 101, 99, 116]⟩ : ByteArray), (⟨#[115, 97, 118, 101]⟩ : ByteArray), (⟨#[113, 117, 101, 114, 121]⟩ : ByteArray)] : List ByteArray)) := ⟨_, rfl⟩
 replace H : (scholiaref29_Parts.l0 k a0 (([(⟨#[82, 68, 70, 83]⟩ : ByteArray), (⟨#[82, 68]⟩ : ByteArray), (⟨#[82]⟩ : ByteArray), (⟨#[82, 84]⟩ : ByteArray), (⟨#[82, 84, 78]⟩ : ByteArray), (⟨#[82, 84, 78]⟩ : ByteArray), (⟨#[82, 84, 78]⟩ : ByteArray), (⟨#[82, 84, 78, 65, 88]⟩ : ByteArray), (⟨#[82, 88, 65, 75]⟩ : ByteArray), (⟨#[82]⟩ : ByteArray), (⟨#[82, 78]⟩ : ByteArray), (⟨#[82]⟩ : ByteArray), (⟨#[82]⟩ : ByteArray), (⟨#[82]⟩ : ByteArray), (⟨#[82]⟩ : ByteArray), (⟨#[82, 78, 83]⟩ : ByteArray)] : List ByteArray)) y254 (y254.length : Int) 0) = some (r1, r2) := by first | (rw [hy254]; with_reducible exact H) | (have H2_ := (Option.bind_some _ _).symm.trans H; rw [hy254]; with_reducible exact H2_) | (have H2_ := (Option.bind_some _ _).symm.trans H; with_reducible exact H2_) | with_reducible exact H | (rw [hy254]; exact H) | exact H
 have Ny254 := Aside0.mk hy254
 clear hy254
 obtain ⟨y257, hy257⟩ : ∃ y_ : List ByteArray, y_ = (([(⟨#[82, 68, 70, 83]⟩ : ByteArray), (⟨#[82, 68]⟩ : ByteArray), (⟨#[82]⟩ : ByteArray), (⟨#[82, 84]⟩ : ByteArray), (⟨#[82, 84, 78]⟩ : ByteArray), (⟨#[82, 84, 78]⟩ : ByteArray), (⟨#[82, 84, 78]⟩ : ByteArray), (⟨#[82, 84, 78, 65, 88]⟩ : ByteArray), (⟨#[82, 88, 65, 75]⟩ : ByteArray), (⟨#[82]⟩ : ByteArray), (⟨#[82, 78]⟩ : ByteArray), (⟨#[82]⟩ : ByteArray), (⟨#[82]⟩ : ByteArray), (⟨#[82]⟩ : ByteArray), (⟨#[82]⟩ : ByteArray), (⟨#[82, 78, 83]⟩ : ByteArray)] : List ByteArray)) := ⟨_, rfl⟩
 replace H : (scholiaref29_Parts.l0 k a0 y257 y254 (y254.length : Int) 0) = some (r1, r2) := by first | (rw [hy257]; with_reducible exact H) | (have H2_ := (Option.bind_some _ _).symm.trans H; rw [hy257]; with_reducible exact H2_) | (have H2_ := (Option.bind_some _ _).symm.trans H; with_reducible exact H2_) | with_reducible exact H | (rw [hy257]; exact H) | exact H
 have Ny257 := Aside0.mk hy257
 clear hy257
 have H' := Aside0.mk H
 clear H
 go_enter Tryd.func55, Tryd.ntmps55
 go_wp2_with (first | ((with_reducible refine gate_dst (N := 8) rfl ?_); refine Kd.R_lit Kd.string _ 9 ?hg (N := 8) ?hd (xs := ([(⟨#[112, 117, 116]⟩ : ByteArray), (⟨#[100, 114, 111, 112]⟩ : ByteArray), (⟨#[115, 121, 110, 99]⟩ : ByteArray), (⟨#[115, 101, 110, 100]⟩ : ByteArray), (⟨#[100, 101, 108, 105, 118, 101, 114]⟩ : ByteArray), (⟨#[108, 111, 115, 101]⟩ : ByteArray), (⟨#[100, 111, 117, 98, 108, 101]⟩ : ByteArray), (⟨#[115, 112, 111, 105, 108]⟩ : ByteArray), (⟨#[99, 114, 97, 115, 104]⟩ : ByteArray), (⟨#[115, 116, 97, 114, 116]⟩ : ByteArray), (⟨#[102, 117, 115, 101]⟩ : ByteArray), (⟨#[102, 108, 117, 115, 104]⟩ : ByteArray), (⟨#[99, 111, 109, 112, 97, 99, 116]⟩ : ByteArray), (⟨#[99, 111, 108, 108, 101, 99, 116]⟩ : ByteArray), (⟨#[115, 97, 118, 101]⟩ : ByteArray), (⟨#[113, 117, 101, 114, 121]⟩ : ByteArray)] : List ByteArray)) (inner := [.string (⟨#[112, 117, 116]⟩ : ByteArray), .string (⟨#[100, 114, 111, 112]⟩ : ByteArray), .string (⟨#[115, 121, 110, 99]⟩ : ByteArray), .string (⟨#[115, 101, 110, 100]⟩ : ByteArray), .string (⟨#[100, 101, 108, 105, 118, 101, 114]⟩ : ByteArray), .string (⟨#[108, 111, 115, 101]⟩ : ByteArray), .string (⟨#[100, 111, 117, 98, 108, 101]⟩ : ByteArray), .string (⟨#[115, 112, 111, 105, 108]⟩ : ByteArray), .string (⟨#[99, 114, 97, 115, 104]⟩ : ByteArray), .string (⟨#[115, 116, 97, 114, 116]⟩ : ByteArray), .string (⟨#[102, 117, 115, 101]⟩ : ByteArray), .string (⟨#[102, 108, 117, 115, 104]⟩ : ByteArray), .string (⟨#[99, 111, 109, 112, 97, 99, 116]⟩ : ByteArray), .string (⟨#[99, 111, 108, 108, 101, 99, 116]⟩ : ByteArray), .string (⟨#[115, 97, 118, 101]⟩ : ByteArray), .string (⟨#[113, 117, 101, 114, 121]⟩ : ByteArray)]) (ok := fun _ => True) (okp := fun _ => True) ?hr ?hp (fun _ hk => hk) trivial (Below.refl _ _) (Nat.le_refl _) (by simp) ?_; (case hd => rfl); (case hg => rfl); (case hr => first | (go_simp; done) | (go_simp; rfl)); (case hp => exact (Reps.one (show Kd.M Kd.string _ _ _ (⟨#[112, 117, 116]⟩ : ByteArray) [.string (⟨#[112, 117, 116]⟩ : ByteArray)] from rfl) (Reps.one (show Kd.M Kd.string _ _ _ (⟨#[100, 114, 111, 112]⟩ : ByteArray) [.string (⟨#[100, 114, 111, 112]⟩ : ByteArray)] from rfl) (Reps.one (show Kd.M Kd.string _ _ _ (⟨#[115, 121, 110, 99]⟩ : ByteArray) [.string (⟨#[115, 121, 110, 99]⟩ : ByteArray)] from rfl) (Reps.one (show Kd.M Kd.string _ _ _ (⟨#[115, 101, 110, 100]⟩ : ByteArray) [.string (⟨#[115, 101, 110, 100]⟩ : ByteArray)] from rfl) (Reps.one (show Kd.M Kd.string _ _ _ (⟨#[100, 101, 108, 105, 118, 101, 114]⟩ : ByteArray) [.string (⟨#[100, 101, 108, 105, 118, 101, 114]⟩ : ByteArray)] from rfl) (Reps.one (show Kd.M Kd.string _ _ _ (⟨#[108, 111, 115, 101]⟩ : ByteArray) [.string (⟨#[108, 111, 115, 101]⟩ : ByteArray)] from rfl) (Reps.one (show Kd.M Kd.string _ _ _ (⟨#[100, 111, 117, 98, 108, 101]⟩ : ByteArray) [.string (⟨#[100, 111, 117, 98, 108, 101]⟩ : ByteArray)] from rfl) (Reps.one (show Kd.M Kd.string _ _ _ (⟨#[115, 112, 111, 105, 108]⟩ : ByteArray) [.string (⟨#[115, 112, 111, 105, 108]⟩ : ByteArray)] from rfl) (Reps.one (show Kd.M Kd.string _ _ _ (⟨#[99, 114, 97, 115, 104]⟩ : ByteArray) [.string (⟨#[99, 114, 97, 115, 104]⟩ : ByteArray)] from rfl) (Reps.one (show Kd.M Kd.string _ _ _ (⟨#[115, 116, 97, 114, 116]⟩ : ByteArray) [.string (⟨#[115, 116, 97, 114, 116]⟩ : ByteArray)] from rfl) (Reps.one (show Kd.M Kd.string _ _ _ (⟨#[102, 117, 115, 101]⟩ : ByteArray) [.string (⟨#[102, 117, 115, 101]⟩ : ByteArray)] from rfl) (Reps.one (show Kd.M Kd.string _ _ _ (⟨#[102, 108, 117, 115, 104]⟩ : ByteArray) [.string (⟨#[102, 108, 117, 115, 104]⟩ : ByteArray)] from rfl) (Reps.one (show Kd.M Kd.string _ _ _ (⟨#[99, 111, 109, 112, 97, 99, 116]⟩ : ByteArray) [.string (⟨#[99, 111, 109, 112, 97, 99, 116]⟩ : ByteArray)] from rfl) (Reps.one (show Kd.M Kd.string _ _ _ (⟨#[99, 111, 108, 108, 101, 99, 116]⟩ : ByteArray) [.string (⟨#[99, 111, 108, 108, 101, 99, 116]⟩ : ByteArray)] from rfl) (Reps.one (show Kd.M Kd.string _ _ _ (⟨#[115, 97, 118, 101]⟩ : ByteArray) [.string (⟨#[115, 97, 118, 101]⟩ : ByteArray)] from rfl) (Reps.one (show Kd.M Kd.string _ _ _ (⟨#[113, 117, 101, 114, 121]⟩ : ByteArray) [.string (⟨#[113, 117, 101, 114, 121]⟩ : ByteArray)] from rfl) (Reps.none _ _)))))))))))))))))); intro v255 w2 ho3 hb hg_ hnew_; clear hg_ hnew_; (first | rw [← Ny254.out] at ho3 | (simp only [Int.reduceToNat] at ho3; rw [← Ny254.out] at ho3)); have n0_ := Aside0.mk (Kd.R_lower ho3 (below_size (bb_ HB.out))); have n1_ := Aside0.mk (below_step (bb_ HB.out) hb); clear HB; have HO256 := n0_; have HB := n1_; clear n0_ n1_; clear hb ho3) | ((with_reducible refine gate_dst (N := 9) rfl ?_); refine Kd.R_lit Kd.string _ 9 ?hg (N := 9) ?hd (xs := ([(⟨#[82, 68, 70, 83]⟩ : ByteArray), (⟨#[82, 68]⟩ : ByteArray), (⟨#[82]⟩ : ByteArray), (⟨#[82, 84]⟩ : ByteArray), (⟨#[82, 84, 78]⟩ : ByteArray), (⟨#[82, 84, 78]⟩ : ByteArray), (⟨#[82, 84, 78]⟩ : ByteArray), (⟨#[82, 84, 78, 65, 88]⟩ : ByteArray), (⟨#[82, 88, 65, 75]⟩ : ByteArray), (⟨#[82]⟩ : ByteArray), (⟨#[82, 78]⟩ : ByteArray), (⟨#[82]⟩ : ByteArray), (⟨#[82]⟩ : ByteArray), (⟨#[82]⟩ : ByteArray), (⟨#[82]⟩ : ByteArray), (⟨#[82, 78, 83]⟩ : ByteArray)] : List ByteArray)) (inner := [.string (⟨#[82, 68, 70, 83]⟩ : ByteArray), .string (⟨#[82, 68]⟩ : ByteArray), .string (⟨#[82]⟩ : ByteArray), .string (⟨#[82, 84]⟩ : ByteArray), .string (⟨#[82, 84, 78]⟩ : ByteArray), .string (⟨#[82, 84, 78]⟩ : ByteArray), .string (⟨#[82, 84, 78]⟩ : ByteArray), .string (⟨#[82, 84, 78, 65, 88]⟩ : ByteArray), .string (⟨#[82, 88, 65, 75]⟩ : ByteArray), .string (⟨#[82]⟩ : ByteArray), .string (⟨#[82, 78]⟩ : ByteArray), .string (⟨#[82]⟩ : ByteArray), .string (⟨#[82]⟩ : ByteArray), .string (⟨#[82]⟩ : ByteArray), .string (⟨#[82]⟩ : ByteArray), .string (⟨#[82, 78, 83]⟩ : ByteArray)]) (ok := fun _ => True) (okp := fun _ => True) ?hr ?hp (fun _ hk => hk) trivial (Below.refl _ _) (Nat.le_refl _) (by simp) ?_; (case hd => rfl); (case hg => rfl); (case hr => first | (go_simp; done) | (go_simp; rfl)); (case hp => exact (Reps.one (show Kd.M Kd.string _ _ _ (⟨#[82, 68, 70, 83]⟩ : ByteArray) [.string (⟨#[82, 68, 70, 83]⟩ : ByteArray)] from rfl) (Reps.one (show Kd.M Kd.string _ _ _ (⟨#[82, 68]⟩ : ByteArray) [.string (⟨#[82, 68]⟩ : ByteArray)] from rfl) (Reps.one (show Kd.M Kd.string _ _ _ (⟨#[82]⟩ : ByteArray) [.string (⟨#[82]⟩ : ByteArray)] from rfl) (Reps.one (show Kd.M Kd.string _ _ _ (⟨#[82, 84]⟩ : ByteArray) [.string (⟨#[82, 84]⟩ : ByteArray)] from rfl) (Reps.one (show Kd.M Kd.string _ _ _ (⟨#[82, 84, 78]⟩ : ByteArray) [.string (⟨#[82, 84, 78]⟩ : ByteArray)] from rfl) (Reps.one (show Kd.M Kd.string _ _ _ (⟨#[82, 84, 78]⟩ : ByteArray) [.string (⟨#[82, 84, 78]⟩ : ByteArray)] from rfl) (Reps.one (show Kd.M Kd.string _ _ _ (⟨#[82, 84, 78]⟩ : ByteArray) [.string (⟨#[82, 84, 78]⟩ : ByteArray)] from rfl) (Reps.one (show Kd.M Kd.string _ _ _ (⟨#[82, 84, 78, 65, 88]⟩ : ByteArray) [.string (⟨#[82, 84, 78, 65, 88]⟩ : ByteArray)] from rfl) (Reps.one (show Kd.M Kd.string _ _ _ (⟨#[82, 88, 65, 75]⟩ : ByteArray) [.string (⟨#[82, 88, 65, 75]⟩ : ByteArray)] from rfl) (Reps.one (show Kd.M Kd.string _ _ _ (⟨#[82]⟩ : ByteArray) [.string (⟨#[82]⟩ : ByteArray)] from rfl) (Reps.one (show Kd.M Kd.string _ _ _ (⟨#[82, 78]⟩ : ByteArray) [.string (⟨#[82, 78]⟩ : ByteArray)] from rfl) (Reps.one (show Kd.M Kd.string _ _ _ (⟨#[82]⟩ : ByteArray) [.string (⟨#[82]⟩ : ByteArray)] from rfl) (Reps.one (show Kd.M Kd.string _ _ _ (⟨#[82]⟩ : ByteArray) [.string (⟨#[82]⟩ : ByteArray)] from rfl) (Reps.one (show Kd.M Kd.string _ _ _ (⟨#[82]⟩ : ByteArray) [.string (⟨#[82]⟩ : ByteArray)] from rfl) (Reps.one (show Kd.M Kd.string _ _ _ (⟨#[82]⟩ : ByteArray) [.string (⟨#[82]⟩ : ByteArray)] from rfl) (Reps.one (show Kd.M Kd.string _ _ _ (⟨#[82, 78, 83]⟩ : ByteArray) [.string (⟨#[82, 78, 83]⟩ : ByteArray)] from rfl) (Reps.none _ _)))))))))))))))))); intro v258 w4 ho5 hb hg_ hnew_; clear hg_ hnew_; (first | rw [← Ny257.out] at ho5 | (simp only [Int.reduceToNat] at ho5; rw [← Ny257.out] at ho5)); have n0_ := Aside0.mk (Kd.R_elder' (kr_ HO256.out) (Kd.R_base ho5) hb); have n1_ := Aside0.mk (Kd.R_lower (Kd.R_new' ho5 (Kd.R_lt (kr_ HO256.out))) (below_size (bb_ HB.out))); have n2_ := Aside0.mk (below_step (bb_ HB.out) hb); clear HO256; clear HB; have HO256 := n0_; have HO259 := n1_; have HB := n2_; clear n0_ n1_ n2_; clear hb ho5; obtain ⟨Ao6, co6, eo6⟩ := Kd.R_slice HO256.out; subst eo6))
 go_loopg [12] k (fun kq v12 w' => ∃ (x12_1 : Int), v12 = .int .i64 x12_1 ∧ Aside0 (scholiaref29_Parts.l0 kq a0 y257 y254 (y254.length : Int) x12_1 = some (r1, r2)) ∧ Aside0 (kq ≤ k) ∧ Aside0 (Kd.R Kd.string 9 w' w.heap.size (fun k_ => some k_ ≠ ((.slice Ao6 y254.length co6) : Value).ownBlock) v258 y257) ∧ Aside0 (Kd.R Kd.string 9 w' w.heap.size (fun k_ => some k_ ≠ (v258 : Value).ownBlock) (.slice Ao6 y254.length co6) y254) ∧ Aside0 (Below w.heap.size w w'))
 case atStart => exact ⟨(0), rs_, H', ⟨Nat.le_refl _⟩, ⟨by (with_reducible repeat (first | apply Kd.R_alloc | apply Kd.R_drewN | apply Kd.R_drew)); exact Kd.R_mono HO259.out (fun _ hk => hk.2)⟩, ⟨by (with_reducible repeat (first | apply Kd.R_alloc | apply Kd.R_drewN | apply Kd.R_drew)); exact Kd.R_mono HO256.out (fun _ hk => hk.2)⟩, ⟨bb_ HB.out⟩⟩
 case round =>
  clear H'
  try clear p2
  try clear c5
  obtain ⟨x12_1, rfl, HA, HK1, HO_5, HO_10, HB⟩ := hrel
  cases gk with
  | zero => exact absurd HA.out (by simp [scholiaref29_Parts.l0])
  | succ k1 =>
   have H := HA.out
   clear HA
   simp only [scholiaref29_Parts.l0] at H
   by_cases c7 : x12_1 < (y254.length : Int)
   ·rw [if_pos c7] at H
    have c7b0 : decide (x12_1 < (y254.length : Int)) = true := decide_eq_true c7
    clear c7
    by_cases c8 : 0 ≤ x12_1
    ·rw [if_pos c8] at H
     have c8b0 : decide (0 ≤ x12_1) = true := decide_eq_true c8
     clear c8
     by_cases c9 : x12_1 < (y254.length : Int)
     ·rw [if_pos c9] at H
      have c9b0 : decide (x12_1 < (y254.length : Int)) = true := decide_eq_true c9
      clear c9
      by_cases c10 : (rdOf ByteArray.empty y254 x12_1).toList = a0.toList
      ·rw [if_pos c10] at H
       have c10b0 : ((rdOf ByteArray.empty y254 x12_1).toList == a0.toList) = true := beq_iff_eq.mpr c10
       have c10b1 : ((rdOf ByteArray.empty y254 x12_1).toList != a0.toList) = false := bne_eq_false_iff_eq.mpr c10
       clear c10
       by_cases c11 : x12_1 < (y257.length : Int)
       ·rw [if_pos c11] at H
        have c11b0 : decide (x12_1 < (y257.length : Int)) = true := decide_eq_true c11
        clear c11
        simp only [Option.some.injEq, Prod.mk.injEq] at H
        obtain ⟨rfl, rfl⟩ := H
        have p260 : 0 ≤ (x12_1 : Int) := of_decide_eq_true as_
        have q260 : x12_1 < (y254.length : Int) := of_decide_eq_true as_
        obtain ⟨ad260, e260, hx260_0⟩ := Kd.at_string (Kd.R_reads' HO_10.out).2.2 x12_1 p260 q260
        cases e260
        replace p260 := eq_true p260
        replace q260 := eq_true q260
        obtain ⟨Ao12, co12, eo12⟩ := Kd.R_slice HO_5.out
        subst eo12
        have p261 : 0 ≤ (x12_1 : Int) := of_decide_eq_true as_
        have q261 : x12_1 < (y257.length : Int) := of_decide_eq_true as_
        obtain ⟨ad261, e261, hx261_0⟩ := Kd.at_string (Kd.R_reads' HO_5.out).2.2 x12_1 p261 q261
        cases e261
        replace p261 := eq_true p261
        replace q261 := eq_true q261
        go_wp2
        go_ret2
        exact ⟨by first | rfl | (simp [errW_none, errW_some] <;> rfl) | (simp [*, errW_none, errW_some] <;> rfl), bb_ HB.out⟩
       ·rw [if_neg c11] at H
        exact absurd H (by simp)
      ·rw [if_neg c10] at H
       have c10b0 : ((rdOf ByteArray.empty y254 x12_1).toList == a0.toList) = false := beq_eq_false_iff_ne.mpr c10
       have c10b1 : ((rdOf ByteArray.empty y254 x12_1).toList != a0.toList) = true := bne_iff_ne.mpr c10
       have H' := Aside0.mk H
       clear H
       have p260 : 0 ≤ (x12_1 : Int) := of_decide_eq_true as_
       have q260 : x12_1 < (y254.length : Int) := of_decide_eq_true as_
       obtain ⟨ad260, e260, hx260_0⟩ := Kd.at_string (Kd.R_reads' HO_10.out).2.2 x12_1 p260 q260
       cases e260
       replace p260 := eq_true p260
       replace q260 := eq_true q260
       go_wp2
       go_roundg k1
       case measure => have := HK1.out; omega
       case rel => exact ⟨(wrap64 (x12_1 + 1)), rs_, H', ⟨by have := HK1.out; omega⟩, ⟨kr_ HO_5.out⟩, ⟨kr_ HO_10.out⟩, ⟨bb_ HB.out⟩⟩
     ·rw [if_neg c9] at H
      exact absurd H (by simp)
    ·rw [if_neg c8] at H
     exact absurd H (by simp)
   ·rw [if_neg c7] at H
    have c7b0 : decide (x12_1 < (y254.length : Int)) = false := decide_eq_false c7
    clear c7
    simp only [Option.some.injEq, Prod.mk.injEq] at H
    obtain ⟨rfl, rfl⟩ := H
    go_wp2
    go_ret2
    exact ⟨by first | rfl | (simp [errW_none, errW_some] <;> rfl) | (simp [*, errW_none, errW_some] <;> rfl), bb_ HB.out⟩
def scholiaref29_Words.l0 : Nat → ByteArray → List ByteArray → Int → Int → Int → Option (List ByteArray)
 | 0, _, _, _, _, _ => none
 | k + 1, x0, x3, x4, x7, x8 => if x8 < x7 then (if 0 ≤ x8 then (if x8 < (x0.size : Int) then (if (bt x0 x8) = 32 then (if 0 ≤ x4 then (if x4 ≤ x8 then (if x8 ≤ (x0.size : Int) then (if x3.length < 8796093022208 then (scholiaref29_Words.l0 k x0 (x3 ++ [x0.extract (x4 : Int).toNat (x8 : Int).toNat]) (wrap64 (x8 + 1)) x7 (wrap64 (x8 + 1))) else (none)) else (none)) else (none)) else (none)) else (scholiaref29_Words.l0 k x0 x3 x4 x7 (wrap64 (x8 + 1)))) else (none)) else (none)) else (if 0 ≤ x4 then (if x4 ≤ (x0.size : Int) then (if x3.length < 8796093022208 then (some (x3 ++ [x0.extract (x4 : Int).toNat x0.size])) else (none)) else (none)) else (none))
def scholiaref29_Words.f (k : Nat) (a0 : ByteArray) : Option (List ByteArray) := scholiaref29_Words.l0 k a0 ([] : List ByteArray) 0 (a0.size : Int) 0
set_option maxHeartbeats 8000000 in
set_option maxRecDepth 100000 in
theorem scholiaref29_Words.calls (k : Nat) (a0 : ByteArray) (r : List ByteArray) (w : World) (h : scholiaref29_Words.f k a0 = some r) :
  Calls Tryd.prog 61 #[.string a0] w fun e w' => ∃ v0_ : Value, e = .returned (v0_) ∧ Kd.R Kd.string 9 w' w.heap.size (fun _ => True) v0_ r ∧ Below w.heap.size w w' := by
 have HB := Aside0.mk (Below.refl w.heap.size w)
 have H : (scholiaref29_Words.l0 k a0 ([] : List ByteArray) 0 (a0.size : Int) 0) = some r := h
 clear h
 have H' := Aside0.mk H
 clear H
 go_enter Tryd.func61, Tryd.ntmps61
 go_wp2
 go_loopg [3, 4, 8] k (fun kq v3 v4 v8 w' => ∃ (x3_1 : List ByteArray) (x4_1 : Int) (x8_1 : Int), v4 = .int .i64 x4_1 ∧ v8 = .int .i64 x8_1 ∧ Aside0 (scholiaref29_Words.l0 kq a0 x3_1 x4_1 (a0.size : Int) x8_1 = some r) ∧ Aside0 (kq ≤ k) ∧ Aside0 (Kd.R Kd.string 9 w' w.heap.size (fun _ => True) v3 x3_1) ∧ Aside0 (Below w.heap.size w w'))
 case atStart => exact ⟨(([] : List ByteArray)), (0), (0), rs_, rs_, H', ⟨Nat.le_refl _⟩, ⟨by first | exact Kd.R_nil _ _ _ _ _ | exact Kd.N_nil _ _ _ _ _ | exact Kd.V_nil _ _ _ _ _ | exact Kd.Q_nil _ _ _ _ _ | exact Kd.S_nil _ _ _ _ _⟩, ⟨bb_ HB.out⟩⟩
 case round =>
  clear H'
  obtain ⟨x3_1, x4_1, x8_1, rfl, rfl, HA, HK1, HO_3, HB⟩ := hrel
  cases gk with
  | zero => exact absurd HA.out (by simp [scholiaref29_Words.l0])
  | succ k1 =>
   have H := HA.out
   clear HA
   simp only [scholiaref29_Words.l0] at H
   by_cases c2 : x8_1 < (a0.size : Int)
   ·rw [if_pos c2] at H
    have c2b0 : decide (x8_1 < (a0.size : Int)) = true := decide_eq_true c2
    clear c2
    by_cases c3 : 0 ≤ x8_1
    ·rw [if_pos c3] at H
     have c3b0 : decide (0 ≤ x8_1) = true := decide_eq_true c3
     clear c3
     by_cases c4 : x8_1 < (a0.size : Int)
     ·rw [if_pos c4] at H
      have c4b0 : decide (x8_1 < (a0.size : Int)) = true := decide_eq_true c4
      clear c4
      by_cases c6 : (bt a0 x8_1) = 32
      ·rw [if_pos c6] at H
       have c6b0 : ((bt a0 x8_1) == 32) = true := beq_iff_eq.mpr c6
       have c6b1 : ((bt a0 x8_1) != 32) = false := bne_eq_false_iff_eq.mpr c6
       clear c6
       by_cases c7 : 0 ≤ x4_1
       ·rw [if_pos c7] at H
        have c7b0 := eq_true c7
        have c7b1 : decide (0 ≤ x4_1) = true := decide_eq_true c7
        clear c7
        by_cases c8 : x4_1 ≤ x8_1
        ·rw [if_pos c8] at H
         have c8b0 := eq_true c8
         have c8b1 : decide (x4_1 ≤ x8_1) = true := decide_eq_true c8
         clear c8
         by_cases c9 : x8_1 ≤ (a0.size : Int)
         ·rw [if_pos c9] at H
          have c9b0 := eq_true c9
          have c9b1 : decide (x8_1 ≤ (a0.size : Int)) = true := decide_eq_true c9
          clear c9
          by_cases c10 : x3_1.length < 8796093022208
          ·rw [if_pos c10] at H
           have LMc10 := Aside0.mk c10
           clear c10
           obtain ⟨y262, hy262⟩ : ∃ y_ : List ByteArray, y_ = (x3_1 ++ [a0.extract (x4_1 : Int).toNat (x8_1 : Int).toNat]) := ⟨_, rfl⟩
           replace H : (scholiaref29_Words.l0 k1 a0 y262 (wrap64 (x8_1 + 1)) (a0.size : Int) (wrap64 (x8_1 + 1))) = some r := by first | (rw [hy262]; with_reducible exact H) | (have H2_ := (Option.bind_some _ _).symm.trans H; rw [hy262]; with_reducible exact H2_) | (have H2_ := (Option.bind_some _ _).symm.trans H; with_reducible exact H2_) | with_reducible exact H | (rw [hy262]; exact H) | exact H
           have Ny262 := Aside0.mk hy262
           clear hy262
           have H' := Aside0.mk H
           clear H
           have p5 : 0 ≤ (x8_1 : Int) := of_decide_eq_true as_
           have q5 : x8_1 < (a0.size : Int) := of_decide_eq_true as_
           have hx5 := bt_at a0 x8_1
           replace p5 := eq_true p5
           replace q5 := eq_true q5
           go_wp2_with (first | ((with_reducible refine gate_builtin (b := .append) (xs := #[.tmp 15, .tmp 20]) rfl ?_); at_builtin; refine Kd.R_append Kd.string (w0 := w) w.heap.size rfl (.tmp 15) (.tmp 20) 77 9 (.string ⟨#[]⟩) 16 rfl Tryd.underlying77 info9 rfl (by decide) (by omega) u3 x3_1 (a0.extract (x4_1 : Int).toNat (x8_1 : Int).toNat) [.string (a0.extract (x4_1 : Int).toNat (x8_1 : Int).toNat)] (fun _ => True) (fun _ => False) rfl rfl ?aP (fun _ hk => hk.elim) ?aF ?aO ?aB ?aS ?aL ?_; (case aP => exact rfl); (case aB => exact (bb_ HB.out)); (case aF => exact (fun _ _ => trivial)); (case aO => exact (kr_ HO_3.out)); (case aS => exact (below_size (bb_ HB.out))); (case aL => have := LMc10.out; omega); intro v263 w11 ho hb hg hat; rw [← Ny262.out] at ho; have n0_ := Aside0.mk (hb); have n1_ := Aside0.mk (ho); clear HB; clear HO_3; have HB := n0_; have HO264 := n1_; clear n0_ n1_; clear ho hb hg hat))
           go_roundg k1
           case measure => have := HK1.out; omega
           case rel => exact ⟨(y262), (wrap64 (x8_1 + 1)), (wrap64 (x8_1 + 1)), rs_, rs_, H', ⟨by have := HK1.out; omega⟩, ⟨kr_ HO264.out⟩, ⟨bb_ HB.out⟩⟩
          ·rw [if_neg c10] at H
           exact absurd H (by simp)
         ·rw [if_neg c9] at H
          exact absurd H (by simp)
        ·rw [if_neg c8] at H
         exact absurd H (by simp)
       ·rw [if_neg c7] at H
        exact absurd H (by simp)
      ·rw [if_neg c6] at H
       have c6b0 : ((bt a0 x8_1) == 32) = false := beq_eq_false_iff_ne.mpr c6
       have c6b1 : ((bt a0 x8_1) != 32) = true := bne_iff_ne.mpr c6
       have H' := Aside0.mk H
       clear H
       have p5 : 0 ≤ (x8_1 : Int) := of_decide_eq_true as_
       have q5 : x8_1 < (a0.size : Int) := of_decide_eq_true as_
       have hx5 := bt_at a0 x8_1
       replace p5 := eq_true p5
       replace q5 := eq_true q5
       go_wp2
       go_roundg k1
       case measure => have := HK1.out; omega
       case rel => exact ⟨(x3_1), (x4_1), (wrap64 (x8_1 + 1)), rs_, rs_, H', ⟨by have := HK1.out; omega⟩, ⟨kr_ HO_3.out⟩, ⟨bb_ HB.out⟩⟩
     ·rw [if_neg c4] at H
      exact absurd H (by simp)
    ·rw [if_neg c3] at H
     exact absurd H (by simp)
   ·rw [if_neg c2] at H
    have c2b0 : decide (x8_1 < (a0.size : Int)) = false := decide_eq_false c2
    clear c2
    by_cases c12 : 0 ≤ x4_1
    ·rw [if_pos c12] at H
     have c12b0 := eq_true c12
     have c12b1 : decide (0 ≤ x4_1) = true := decide_eq_true c12
     clear c12
     by_cases c13 : x4_1 ≤ (a0.size : Int)
     ·rw [if_pos c13] at H
      have c13b0 := eq_true c13
      have c13b1 : decide (x4_1 ≤ (a0.size : Int)) = true := decide_eq_true c13
      clear c13
      by_cases c14 : x3_1.length < 8796093022208
      ·rw [if_pos c14] at H
       have LMc14 := Aside0.mk c14
       clear c14
       obtain ⟨y265, hy265⟩ : ∃ y_ : List ByteArray, y_ = (x3_1 ++ [a0.extract (x4_1 : Int).toNat a0.size]) := ⟨_, rfl⟩
       replace H : (some y265) = some r := by first | (rw [hy265]; with_reducible exact H) | (have H2_ := (Option.bind_some _ _).symm.trans H; rw [hy265]; with_reducible exact H2_) | (have H2_ := (Option.bind_some _ _).symm.trans H; with_reducible exact H2_) | with_reducible exact H | (rw [hy265]; exact H) | exact H
       have Ny265 := Aside0.mk hy265
       clear hy265
       obtain rfl := Option.some.inj H
       go_wp2_with (first | ((with_reducible refine gate_builtin (b := .append) (xs := #[.tmp 25, .tmp 29]) rfl ?_); at_builtin; refine Kd.R_append Kd.string (w0 := w) w.heap.size rfl (.tmp 25) (.tmp 29) 77 9 (.string ⟨#[]⟩) 16 rfl Tryd.underlying77 info9 rfl (by decide) (by omega) u3 x3_1 (a0.extract (x4_1 : Int).toNat a0.size) [.string (a0.extract (x4_1 : Int).toNat a0.size)] (fun _ => True) (fun _ => False) rfl rfl ?aP (fun _ hk => hk.elim) ?aF ?aO ?aB ?aS ?aL ?_; (case aP => exact rfl); (case aB => exact (bb_ HB.out)); (case aF => exact (fun _ _ => trivial)); (case aO => exact (kr_ HO_3.out)); (case aS => exact (below_size (bb_ HB.out))); (case aL => have := LMc14.out; omega); intro v266 w15 ho hb hg hat; rw [← Ny265.out] at ho; have n0_ := Aside0.mk (hb); have n1_ := Aside0.mk (ho); clear HB; clear HO_3; have HB := n0_; have HO267 := n1_; clear n0_ n1_; clear ho hb hg hat))
       go_ret
       exact ⟨_, by first | rfl | (simp [errW_none, errW_some] <;> rfl) | (simp [*, errW_none, errW_some] <;> rfl), by (with_reducible repeat (first | apply Kd.R_alloc | apply Kd.R_drewN | apply Kd.R_drew)); exact HO267.out, bb_ HB.out⟩
      ·rw [if_neg c14] at H
       exact absurd H (by simp)
     ·rw [if_neg c13] at H
      exact absurd H (by simp)
    ·rw [if_neg c12] at H
     exact absurd H (by simp)
end Go.Proofs.YtcgkmomhjincgaaDoor.LibQ
