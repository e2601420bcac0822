/- The reader of parse and its laws, part Rf: contracts by hand. -/
import Derived.Test.YtcgkmomhjincgaaDoorLib0
import Derived.Test.YtcgkmomhjincgaaDoorRc
import Derived.Test.YtcgkmomhjincgaaDoorShelf
namespace Go.Proofs.YtcgkmomhjincgaaDoor.Lib.Scr
open Go.RowKit Go.Proofs.YtcgkmomhjincgaaDoor.Lib Go.Proofs.YtcgkmomhjincgaaDoorW.PrintWords Go.Proofs.YtcgkmomhjincgaaDoorW.PrintLast Go.Proofs.YtcgkmomhjincgaaDoorW.PrintMore
set_option linter.unusedVariables false
set_option linter.unusedSimpArgs false
attribute [local go_sem] max2_int min2_int max_two min_two max_three min_three max_four min_four
/-! ### ParseParts: the walk -/
def cntB (s : ByteArray) : Int := (Lib.countByte s.data.toList 40 : Int) + (Lib.countByte s.data.toList 45 : Int) + (Lib.countByte s.data.toList 58 : Int)
/-- What Parse answered, with the node as a row that is read. -/
theorem parse_at (k : Nat) (s : ByteArray) (w : World) (x : S26) (er : Int) (hG : GL w) (hf : parseF k s = some (x, er)) :
    Calls Tryd.prog 11 #[.string s] w fun e w' => ∃ A2 c2 A3 c3, e = .returned (.tuple #[.agg #[.int .i64 x.f0, .int .i64 x.f1, .slice A2 x.f2.length c2, .slice A3 x.f3.length c3], .int .i64 er]) ∧
      Aside0 (Kd.C k57 w' A2 x.f2.length x.f2 ∧ x.f2.length ≤ c2 ∧ Kd.C k26 w' A3 x.f3.length x.f3 ∧ x.f3.length ≤ c3) ∧ Below w.heap.size w w' := by
  refine (parse_calls k s w x er hG hf).mono ?_
  rintro e w1 ⟨A2, c2, A3, c3, rfl, hN, hb⟩
  obtain ⟨B2, d2, B3, d3, he, l2, g2, l3, g3⟩ := k26_open (Kd.FK_now hN)
  simp only [List.cons.injEq, Value.slice.injEq, true_and, and_true] at he
  obtain ⟨⟨rfl, rfl⟩, rfl, rfl⟩ := he
  exact ⟨A2, c2, A3, c3, rfl, ⟨g2, l2, g3, l3⟩, hb⟩
set_option maxHeartbeats 8000000 in
set_option maxRecDepth 100000 in
theorem parts_err (k : Nat) (s : ByteArray) (w : World) (x : S26) (er : Int) (hG : GL w) (hf : parseF k s = some (x, er)) (he : ¬ er = 0) :
    Calls Tryd.prog 5 #[.string s] w fun e w' => e = .returned (.bool true) ∧ Below w.heap.size w w' := by
  have be : (er != 0) = true := by simpa using he
  have HG := Aside0.mk hG
  have HP := Aside0.mk (parse_at k s w x er hG hf)
  clear hG hf he
  go_enter Tryd.func5, Tryd.ntmps5
  go_wp2_with fail
  refine HP.out.mono ?_
  rintro e w1 ⟨A2, c2, A3, c3, rfl, HC, hb⟩
  have HB := Aside0.mk (below_alloc hb (.cells #[.int .i64 x.f0, .int .i64 x.f1, .slice A2 x.f2.length c2, .slice A3 x.f3.length c3] 26))
  clear hb
  go_wp2_with fail
  refine (awake_calls _ (HG.out.below HB.out)).mono ?_
  rintro e w3 ⟨rfl, hb⟩
  have HB3 := Aside0.mk (HB.out.trans (hb.mono HB.out.size))
  clear hb
  go_wp2
  go_ret
  exact ⟨rfl, HB3.out⟩

theorem countB_le (s : ByteArray) (c : UInt8) : Lib.countByte s.data.toList c ≤ s.size := by
  have := List.count_le_length (a := c) (l := s.data.toList)
  rw [data_length] at this
  exact this
set_option maxHeartbeats 8000000 in
set_option maxRecDepth 100000 in
theorem parts_big (k : Nat) (s : ByteArray) (w : World) (x : S26) (hG : GL w) (hf : parseF k s = some (x, 0)) (hc : 60 < s.size) :
    Calls Tryd.prog 5 #[.string s] w fun e w' => e = .returned (.bool true) ∧ Below w.heap.size w w' := by
  have b1 : decide ((60 : Int) < (s.size : Int)) = true := decide_eq_true (by omega)
  clear hc
  have HG := Aside0.mk hG
  have HP := Aside0.mk (parse_at k s w x 0 hG hf)
  clear hG hf
  go_enter Tryd.func5, Tryd.ntmps5
  go_wp2_with fail
  refine HP.out.mono ?_
  rintro e w1 ⟨A02, c02, A03, c03, rfl, HC0, hb⟩
  have HB1 := Aside0.mk hb
  have HB := Aside0.mk (below_alloc hb (.cells #[.int .i64 x.f0, .int .i64 x.f1, .slice A02 x.f2.length c02, .slice A03 x.f3.length c03] 26))
  clear hb
  go_wp2_with fail
  refine (awake_calls _ (HG.out.below HB.out)).mono ?_
  rintro e w3 ⟨rfl, hb⟩
  have HB3 := Aside0.mk (HB.out.trans (hb.mono HB.out.size))
  clear hb
  go_wp2
  go_ret
  exact ⟨rfl, HB3.out⟩
set_option maxHeartbeats 8000000 in
set_option maxRecDepth 100000 in
theorem parts_many (k : Nat) (s : ByteArray) (w : World) (x : S26) (hG : GL w) (hf : parseF k s = some (x, 0)) (hc : ¬ 60 < s.size) (hn : 6 ≤ cntB s) :
    Calls Tryd.prog 5 #[.string s] w fun e w' => e = .returned (.bool true) ∧ Below w.heap.size w w' := by
  have b1 : decide ((60 : Int) < (s.size : Int)) = false := decide_eq_false (by omega)
  have n0 : Lib.countByte s.data.toList 40 ≤ 1000 := by have := countB_le s 40; omega
  have n1 : Lib.countByte s.data.toList 45 ≤ 1000 := by have := countB_le s 45; omega
  have n2 : Lib.countByte s.data.toList 58 ≤ 1000 := by have := countB_le s 58; omega
  have b2 : decide ((6 : Int) ≤ (Lib.countByte s.data.toList 40 : Int) + (Lib.countByte s.data.toList 45 : Int) + (Lib.countByte s.data.toList 58 : Int)) = true := decide_eq_true hn
  clear hc hn
  have HG := Aside0.mk hG
  have HP := Aside0.mk (parse_at k s w x 0 hG hf)
  clear hG hf
  go_enter Tryd.func5, Tryd.ntmps5
  go_wp2_with fail
  refine HP.out.mono ?_
  rintro e w1 ⟨A02, c02, A03, c03, rfl, HC0, hb⟩
  have HB1 := Aside0.mk hb
  have HB := Aside0.mk (below_alloc hb (.cells #[.int .i64 x.f0, .int .i64 x.f1, .slice A02 x.f2.length c02, .slice A03 x.f3.length c03] 26))
  clear hb
  go_wp2_with fail
  refine (Tryd.strings_Count_one s 40 _).mono ?_
  rintro e w' ⟨rfl, rfl⟩
  go_wp2_with fail
  refine (Tryd.strings_Count_one s 45 _).mono ?_
  rintro e w' ⟨rfl, rfl⟩
  go_wp2_with fail
  refine (Tryd.strings_Count_one s 58 _).mono ?_
  rintro e w' ⟨rfl, rfl⟩
  go_wp2_with fail
  refine (awake_calls _ (HG.out.below HB.out)).mono ?_
  rintro e w3 ⟨rfl, hb⟩
  have HB3 := Aside0.mk (HB.out.trans (hb.mono HB.out.size))
  clear hb
  go_wp2
  go_ret
  exact ⟨rfl, HB3.out⟩

set_option maxHeartbeats 8000000 in
set_option maxRecDepth 100000 in
theorem parts_on (k k2 : Nat) (s : ByteArray) (w : World) (x y : S26) (ey : Int) (hG : GL w) (hf : parseF k s = some (x, 0)) (hc : ¬ 60 < s.size) (hn : ¬ 6 ≤ cntB s) (h1 : parseF k ((⟨#[40]⟩ : ByteArray) ++ s ++ (⟨#[41]⟩ : ByteArray)) = some (x, 0)) (h2 : parseF k ((⟨#[32, 32]⟩ : ByteArray) ++ s ++ (⟨#[32]⟩ : ByteArray)) = some (x, 0)) (h3 : parseF k ((⟨#[45, 40]⟩ : ByteArray) ++ s ++ (⟨#[41]⟩ : ByteArray)) = some (y, ey)) (hs : sameF k2 x x = some true) (hm : 5 ≤ cntB s) :
    Calls Tryd.prog 5 #[.string s] w fun e w' => e = .returned (.bool true) ∧ Below w.heap.size w w' := by
  have b1 : decide ((60 : Int) < (s.size : Int)) = false := decide_eq_false (by omega)
  have n0 : Lib.countByte s.data.toList 40 ≤ 1000 := by have := countB_le s 40; omega
  have n1 : Lib.countByte s.data.toList 45 ≤ 1000 := by have := countB_le s 45; omega
  have n2 : Lib.countByte s.data.toList 58 ≤ 1000 := by have := countB_le s 58; omega
  have b2 : decide ((6 : Int) ≤ (Lib.countByte s.data.toList 40 : Int) + (Lib.countByte s.data.toList 45 : Int) + (Lib.countByte s.data.toList 58 : Int)) = false := decide_eq_false hn
  have b3 : decide ((5 : Int) ≤ (Lib.countByte s.data.toList 40 : Int) + (Lib.countByte s.data.toList 45 : Int) + (Lib.countByte s.data.toList 58 : Int)) = true := decide_eq_true hm
  have HF1 := Aside0.mk h1
  have HF2 := Aside0.mk h2
  have HF3 := Aside0.mk h3
  have HSM := Aside0.mk hs
  have hsz : s.size ≤ 60 := by omega
  clear hc hn hm h1 h2 h3 hs
  have HG := Aside0.mk hG
  have HP := Aside0.mk (parse_at k s w x 0 hG hf)
  clear hG hf
  go_enter Tryd.func5, Tryd.ntmps5
  go_wp2_with fail
  refine HP.out.mono ?_
  rintro e w1 ⟨A02, c02, A03, c03, rfl, HC0, hb⟩
  have HB1 := Aside0.mk hb
  have HB0 := Aside0.mk (below_alloc hb (.cells #[.int .i64 x.f0, .int .i64 x.f1, .slice A02 x.f2.length c02, .slice A03 x.f3.length c03] 26))
  clear hb
  go_wp2_with fail
  refine (Tryd.strings_Count_one s 40 _).mono ?_
  rintro e w' ⟨rfl, rfl⟩
  go_wp2_with fail
  refine (Tryd.strings_Count_one s 45 _).mono ?_
  rintro e w' ⟨rfl, rfl⟩
  go_wp2_with fail
  refine (Tryd.strings_Count_one s 58 _).mono ?_
  rintro e w' ⟨rfl, rfl⟩
  go_wp2_with fail
  refine (parse_at k ((⟨#[40]⟩ : ByteArray) ++ s ++ (⟨#[41]⟩ : ByteArray)) _ x 0 (HG.out.below HB0.out) HF1.out).mono ?_
  rintro e w2 ⟨A12, c12, A13, c13, rfl, HC1, hb⟩
  have HBn1 := Aside0.mk hb
  have HB1 := Aside0.mk (below_alloc (HB0.out.trans (hb.mono HB0.out.size)) (.cells #[.int .i64 x.f0, .int .i64 x.f1, .slice A12 x.f2.length c12, .slice A13 x.f3.length c13] 26))
  clear hb
  go_wp2_with fail
  refine (parse_at k ((⟨#[32, 32]⟩ : ByteArray) ++ s ++ (⟨#[32]⟩ : ByteArray)) _ x 0 (HG.out.below HB1.out) HF2.out).mono ?_
  rintro e w3 ⟨A22, c22, A23, c23, rfl, HC2, hb⟩
  have HBn2 := Aside0.mk hb
  have HB2 := Aside0.mk (below_alloc (HB1.out.trans (hb.mono HB1.out.size)) (.cells #[.int .i64 x.f0, .int .i64 x.f1, .slice A22 x.f2.length c22, .slice A23 x.f3.length c23] 26))
  clear hb
  go_wp2_with fail
  refine (parse_at k ((⟨#[45, 40]⟩ : ByteArray) ++ s ++ (⟨#[41]⟩ : ByteArray)) _ y ey (HG.out.below HB2.out) HF3.out).mono ?_
  rintro e w4 ⟨A32, c32, A33, c33, rfl, HC3, hb⟩
  have HBn3 := Aside0.mk hb
  have HB3 := Aside0.mk (below_alloc (HB2.out.trans (hb.mono HB2.out.size)) (.cells #[.int .i64 y.f0, .int .i64 y.f1, .slice A32 y.f2.length c32, .slice A33 y.f3.length c33] 26))
  clear hb
  have HX0 : Aside0 ((w4.alloc (.cells #[.int .i64 y.f0, .int .i64 y.f1, .slice A32 y.f2.length c32, .slice A33 y.f3.length c33] 26)).heap[w1.heap.size]? = some (.cells #[.int .i64 x.f0, .int .i64 x.f1, .slice A02 x.f2.length c02, .slice A03 x.f3.length c03] 26 (0, 0))) := ⟨(blk_alloc (blk_below (blk_alloc (blk_below (blk_alloc (blk_below (blk_new w1 _) HBn1.out) _) HBn2.out) _) HBn3.out) _)⟩
  obtain ⟨b00, b01, b02, b03, b0z⟩ := box_cells HX0.out
  have HX1 : Aside0 ((w4.alloc (.cells #[.int .i64 y.f0, .int .i64 y.f1, .slice A32 y.f2.length c32, .slice A33 y.f3.length c33] 26)).heap[w2.heap.size]? = some (.cells #[.int .i64 x.f0, .int .i64 x.f1, .slice A12 x.f2.length c12, .slice A13 x.f3.length c13] 26 (0, 0))) := ⟨(blk_alloc (blk_below (blk_alloc (blk_below (blk_new w2 _) HBn2.out) _) HBn3.out) _)⟩
  obtain ⟨b10, b11, b12, b13, b1z⟩ := box_cells HX1.out
  have HX2 : Aside0 ((w4.alloc (.cells #[.int .i64 y.f0, .int .i64 y.f1, .slice A32 y.f2.length c32, .slice A33 y.f3.length c33] 26)).heap[w3.heap.size]? = some (.cells #[.int .i64 x.f0, .int .i64 x.f1, .slice A22 x.f2.length c22, .slice A23 x.f3.length c23] 26 (0, 0))) := ⟨(blk_alloc (blk_below (blk_new w3 _) HBn3.out) _)⟩
  obtain ⟨b20, b21, b22, b23, b2z⟩ := box_cells HX2.out
  have HX3 : Aside0 ((w4.alloc (.cells #[.int .i64 y.f0, .int .i64 y.f1, .slice A32 y.f2.length c32, .slice A33 y.f3.length c33] 26)).heap[w4.heap.size]? = some (.cells #[.int .i64 y.f0, .int .i64 y.f1, .slice A32 y.f2.length c32, .slice A33 y.f3.length c33] 26 (0, 0))) := ⟨(blk_new w4 _)⟩
  obtain ⟨b30, b31, b32, b33, b3z⟩ := box_cells HX3.out
  have HD0 : Aside0 (Below w1.heap.size w1 (w4.alloc (.cells #[.int .i64 y.f0, .int .i64 y.f1, .slice A32 y.f2.length c32, .slice A33 y.f3.length c33] 26))) := ⟨(below_alloc (Below.trans (below_alloc (Below.trans (below_alloc (Below.trans (below_alloc (Below.refl w1.heap.size w1) _) (HBn1.out.mono (Below.size (below_alloc (Below.refl w1.heap.size w1) _)))) _) (HBn2.out.mono (Below.size (below_alloc (Below.trans (below_alloc (Below.refl w1.heap.size w1) _) (HBn1.out.mono (Below.size (below_alloc (Below.refl w1.heap.size w1) _)))) _)))) _) (HBn3.out.mono (Below.size (below_alloc (Below.trans (below_alloc (Below.trans (below_alloc (Below.refl w1.heap.size w1) _) (HBn1.out.mono (Below.size (below_alloc (Below.refl w1.heap.size w1) _)))) _) (HBn2.out.mono (Below.size (below_alloc (Below.trans (below_alloc (Below.refl w1.heap.size w1) _) (HBn1.out.mono (Below.size (below_alloc (Below.refl w1.heap.size w1) _)))) _)))) _)))) _)⟩
  have HD1 : Aside0 (Below w2.heap.size w2 (w4.alloc (.cells #[.int .i64 y.f0, .int .i64 y.f1, .slice A32 y.f2.length c32, .slice A33 y.f3.length c33] 26))) := ⟨(below_alloc (Below.trans (below_alloc (Below.trans (below_alloc (Below.refl w2.heap.size w2) _) (HBn2.out.mono (Below.size (below_alloc (Below.refl w2.heap.size w2) _)))) _) (HBn3.out.mono (Below.size (below_alloc (Below.trans (below_alloc (Below.refl w2.heap.size w2) _) (HBn2.out.mono (Below.size (below_alloc (Below.refl w2.heap.size w2) _)))) _)))) _)⟩
  have HD2 : Aside0 (Below w3.heap.size w3 (w4.alloc (.cells #[.int .i64 y.f0, .int .i64 y.f1, .slice A32 y.f2.length c32, .slice A33 y.f3.length c33] 26))) := ⟨(below_alloc (Below.trans (below_alloc (Below.refl w3.heap.size w3) _) (HBn3.out.mono (Below.size (below_alloc (Below.refl w3.heap.size w3) _)))) _)⟩
  go_wp2_with fail
  refine (Tryd.strings_Count_one s 40 _).mono ?_
  rintro e w' ⟨rfl, rfl⟩
  go_wp2_with fail
  refine (Tryd.strings_Count_one s 45 _).mono ?_
  rintro e w' ⟨rfl, rfl⟩
  go_wp2_with fail
  refine (Tryd.strings_Count_one s 58 _).mono ?_
  rintro e w' ⟨rfl, rfl⟩
  go_wp2_with fail
  refine (same_calls k2 x x true _ A12 c12 A13 c13 A02 c02 A03 c03 (Kd.C_below HC1.out.1 (Below.trans HD1.out ((Below.refl _ _)))) HC1.out.2.1 (Kd.C_below HC1.out.2.2.1 (Below.trans HD1.out ((Below.refl _ _)))) HC1.out.2.2.2 (Kd.C_below HC0.out.1 (Below.trans HD0.out ((Below.refl _ _)))) HC0.out.2.1 (Kd.C_below HC0.out.2.2.1 (Below.trans HD0.out ((Below.refl _ _)))) HC0.out.2.2.2 HSM.out).mono ?_
  rintro e w5 ⟨rfl, hb⟩
  have HS5 := Aside0.mk hb
  clear hb
  obtain ⟨e00, e01, e02, e03, e0z⟩ := box_cells (blk_below HX0.out HS5.out)
  obtain ⟨e20, e21, e22, e23, e2z⟩ := box_cells (blk_below HX2.out HS5.out)
  go_wp2_with fail
  refine (same_calls k2 x x true w5 A22 c22 A23 c23 A02 c02 A03 c03 (Kd.C_below HC2.out.1 (Below.trans HD2.out (HS5.out.mono (Below.size HD2.out)))) HC2.out.2.1 (Kd.C_below HC2.out.2.2.1 (Below.trans HD2.out (HS5.out.mono (Below.size HD2.out)))) HC2.out.2.2.2 (Kd.C_below HC0.out.1 (Below.trans HD0.out (HS5.out.mono (Below.size HD0.out)))) HC0.out.2.1 (Kd.C_below HC0.out.2.2.1 (Below.trans HD0.out (HS5.out.mono (Below.size HD0.out)))) HC0.out.2.2.2 HSM.out).mono ?_
  rintro e w6 ⟨rfl, hb⟩
  have HS6 := Aside0.mk hb
  clear hb
  have HB5 := Aside0.mk (HB3.out.trans (HS5.out.mono HB3.out.size))
  have HB6 := Aside0.mk (HB5.out.trans (HS6.out.mono HB5.out.size))
  go_wp2_with fail
  refine (awake_calls w6 (HG.out.below HB6.out)).mono ?_
  rintro e w7 ⟨rfl, hb⟩
  have HB7 := Aside0.mk (HB6.out.trans (hb.mono HB6.out.size))
  clear hb
  go_wp2
  go_ret
  exact ⟨rfl, HB7.out⟩

/-- The same where the node is a Not of x. -/
theorem parse_not (k : Nat) (s : ByteArray) (w : World) (x : S26) (hG : GL w) (hf : parseF k s = some (⟨7, 0, [], [x]⟩, 0)) :
    Calls Tryd.prog 11 #[.string s] w fun e w' => ∃ A2 c2 A3 c3, e = .returned (.tuple #[.agg #[.int .i64 7, .int .i64 0, .slice A2 0 c2, .slice A3 1 c3], .int .i64 0]) ∧
      Aside0 (Kd.C k57 w' A2 0 [] ∧ 0 ≤ c2 ∧ Kd.C k26 w' A3 ([x] : List S26).length [x] ∧ 1 ≤ c3) ∧ Below w.heap.size w w' := parse_at k s w ⟨7, 0, [], [x]⟩ 0 hG hf
set_option maxHeartbeats 8000000 in
set_option maxRecDepth 100000 in
theorem parts_few (k k2 : Nat) (s : ByteArray) (w : World) (x : S26) (hG : GL w) (hf : parseF k s = some (x, 0)) (hc : ¬ 60 < s.size) (hn : ¬ 6 ≤ cntB s) (h1 : parseF k ((⟨#[40]⟩ : ByteArray) ++ s ++ (⟨#[41]⟩ : ByteArray)) = some (x, 0)) (h2 : parseF k ((⟨#[32, 32]⟩ : ByteArray) ++ s ++ (⟨#[32]⟩ : ByteArray)) = some (x, 0)) (h3 : parseF k ((⟨#[45, 40]⟩ : ByteArray) ++ s ++ (⟨#[41]⟩ : ByteArray)) = some (⟨7, 0, [], [x]⟩, 0)) (hs : sameF k2 x x = some true) (hm : ¬ 5 ≤ cntB s) :
    Calls Tryd.prog 5 #[.string s] w fun e w' => e = .returned (.bool true) ∧ Below w.heap.size w w' := by
  have b1 : decide ((60 : Int) < (s.size : Int)) = false := decide_eq_false (by omega)
  have n0 : Lib.countByte s.data.toList 40 ≤ 1000 := by have := countB_le s 40; omega
  have n1 : Lib.countByte s.data.toList 45 ≤ 1000 := by have := countB_le s 45; omega
  have n2 : Lib.countByte s.data.toList 58 ≤ 1000 := by have := countB_le s 58; omega
  have b2 : decide ((6 : Int) ≤ (Lib.countByte s.data.toList 40 : Int) + (Lib.countByte s.data.toList 45 : Int) + (Lib.countByte s.data.toList 58 : Int)) = false := decide_eq_false hn
  have b3 : decide ((5 : Int) ≤ (Lib.countByte s.data.toList 40 : Int) + (Lib.countByte s.data.toList 45 : Int) + (Lib.countByte s.data.toList 58 : Int)) = false := decide_eq_false hm
  have HF1 := Aside0.mk h1
  have HF2 := Aside0.mk h2
  have HF3 := Aside0.mk h3
  have HSM := Aside0.mk hs
  have hsz : s.size ≤ 60 := by omega
  clear hc hn hm h1 h2 h3 hs
  have HG := Aside0.mk hG
  have HP := Aside0.mk (parse_at k s w x 0 hG hf)
  clear hG hf
  go_enter Tryd.func5, Tryd.ntmps5
  go_wp2_with fail
  refine HP.out.mono ?_
  rintro e w1 ⟨A02, c02, A03, c03, rfl, HC0, hb⟩
  have HB1 := Aside0.mk hb
  have HB0 := Aside0.mk (below_alloc hb (.cells #[.int .i64 x.f0, .int .i64 x.f1, .slice A02 x.f2.length c02, .slice A03 x.f3.length c03] 26))
  clear hb
  go_wp2_with fail
  refine (Tryd.strings_Count_one s 40 _).mono ?_
  rintro e w' ⟨rfl, rfl⟩
  go_wp2_with fail
  refine (Tryd.strings_Count_one s 45 _).mono ?_
  rintro e w' ⟨rfl, rfl⟩
  go_wp2_with fail
  refine (Tryd.strings_Count_one s 58 _).mono ?_
  rintro e w' ⟨rfl, rfl⟩
  go_wp2_with fail
  refine (parse_at k ((⟨#[40]⟩ : ByteArray) ++ s ++ (⟨#[41]⟩ : ByteArray)) _ x 0 (HG.out.below HB0.out) HF1.out).mono ?_
  rintro e w2 ⟨A12, c12, A13, c13, rfl, HC1, hb⟩
  have HBn1 := Aside0.mk hb
  have HB1 := Aside0.mk (below_alloc (HB0.out.trans (hb.mono HB0.out.size)) (.cells #[.int .i64 x.f0, .int .i64 x.f1, .slice A12 x.f2.length c12, .slice A13 x.f3.length c13] 26))
  clear hb
  go_wp2_with fail
  refine (parse_at k ((⟨#[32, 32]⟩ : ByteArray) ++ s ++ (⟨#[32]⟩ : ByteArray)) _ x 0 (HG.out.below HB1.out) HF2.out).mono ?_
  rintro e w3 ⟨A22, c22, A23, c23, rfl, HC2, hb⟩
  have HBn2 := Aside0.mk hb
  have HB2 := Aside0.mk (below_alloc (HB1.out.trans (hb.mono HB1.out.size)) (.cells #[.int .i64 x.f0, .int .i64 x.f1, .slice A22 x.f2.length c22, .slice A23 x.f3.length c23] 26))
  clear hb
  go_wp2_with fail
  refine (parse_not k ((⟨#[45, 40]⟩ : ByteArray) ++ s ++ (⟨#[41]⟩ : ByteArray)) _ x (HG.out.below HB2.out) HF3.out).mono ?_
  rintro e w4 ⟨A32, c32, A33, c33, rfl, HC3, hb⟩
  have HBn3 := Aside0.mk hb
  have HB3 := Aside0.mk (below_alloc (HB2.out.trans (hb.mono HB2.out.size)) (.cells #[.int .i64 7, .int .i64 0, .slice A32 0 c32, .slice A33 1 c33] 26))
  clear hb
  have HX0 : Aside0 ((w4.alloc (.cells #[.int .i64 7, .int .i64 0, .slice A32 0 c32, .slice A33 1 c33] 26)).heap[w1.heap.size]? = some (.cells #[.int .i64 x.f0, .int .i64 x.f1, .slice A02 x.f2.length c02, .slice A03 x.f3.length c03] 26 (0, 0))) := ⟨(blk_alloc (blk_below (blk_alloc (blk_below (blk_alloc (blk_below (blk_new w1 _) HBn1.out) _) HBn2.out) _) HBn3.out) _)⟩
  obtain ⟨b00, b01, b02, b03, b0z⟩ := box_cells HX0.out
  have HX1 : Aside0 ((w4.alloc (.cells #[.int .i64 7, .int .i64 0, .slice A32 0 c32, .slice A33 1 c33] 26)).heap[w2.heap.size]? = some (.cells #[.int .i64 x.f0, .int .i64 x.f1, .slice A12 x.f2.length c12, .slice A13 x.f3.length c13] 26 (0, 0))) := ⟨(blk_alloc (blk_below (blk_alloc (blk_below (blk_new w2 _) HBn2.out) _) HBn3.out) _)⟩
  obtain ⟨b10, b11, b12, b13, b1z⟩ := box_cells HX1.out
  have HX2 : Aside0 ((w4.alloc (.cells #[.int .i64 7, .int .i64 0, .slice A32 0 c32, .slice A33 1 c33] 26)).heap[w3.heap.size]? = some (.cells #[.int .i64 x.f0, .int .i64 x.f1, .slice A22 x.f2.length c22, .slice A23 x.f3.length c23] 26 (0, 0))) := ⟨(blk_alloc (blk_below (blk_new w3 _) HBn3.out) _)⟩
  obtain ⟨b20, b21, b22, b23, b2z⟩ := box_cells HX2.out
  have HX3 : Aside0 ((w4.alloc (.cells #[.int .i64 7, .int .i64 0, .slice A32 0 c32, .slice A33 1 c33] 26)).heap[w4.heap.size]? = some (.cells #[.int .i64 7, .int .i64 0, .slice A32 0 c32, .slice A33 1 c33] 26 (0, 0))) := ⟨(blk_new w4 _)⟩
  obtain ⟨b30, b31, b32, b33, b3z⟩ := box_cells HX3.out
  have HD0 : Aside0 (Below w1.heap.size w1 (w4.alloc (.cells #[.int .i64 7, .int .i64 0, .slice A32 0 c32, .slice A33 1 c33] 26))) := ⟨(below_alloc (Below.trans (below_alloc (Below.trans (below_alloc (Below.trans (below_alloc (Below.refl w1.heap.size w1) _) (HBn1.out.mono (Below.size (below_alloc (Below.refl w1.heap.size w1) _)))) _) (HBn2.out.mono (Below.size (below_alloc (Below.trans (below_alloc (Below.refl w1.heap.size w1) _) (HBn1.out.mono (Below.size (below_alloc (Below.refl w1.heap.size w1) _)))) _)))) _) (HBn3.out.mono (Below.size (below_alloc (Below.trans (below_alloc (Below.trans (below_alloc (Below.refl w1.heap.size w1) _) (HBn1.out.mono (Below.size (below_alloc (Below.refl w1.heap.size w1) _)))) _) (HBn2.out.mono (Below.size (below_alloc (Below.trans (below_alloc (Below.refl w1.heap.size w1) _) (HBn1.out.mono (Below.size (below_alloc (Below.refl w1.heap.size w1) _)))) _)))) _)))) _)⟩
  have HD1 : Aside0 (Below w2.heap.size w2 (w4.alloc (.cells #[.int .i64 7, .int .i64 0, .slice A32 0 c32, .slice A33 1 c33] 26))) := ⟨(below_alloc (Below.trans (below_alloc (Below.trans (below_alloc (Below.refl w2.heap.size w2) _) (HBn2.out.mono (Below.size (below_alloc (Below.refl w2.heap.size w2) _)))) _) (HBn3.out.mono (Below.size (below_alloc (Below.trans (below_alloc (Below.refl w2.heap.size w2) _) (HBn2.out.mono (Below.size (below_alloc (Below.refl w2.heap.size w2) _)))) _)))) _)⟩
  have HD2 : Aside0 (Below w3.heap.size w3 (w4.alloc (.cells #[.int .i64 7, .int .i64 0, .slice A32 0 c32, .slice A33 1 c33] 26))) := ⟨(below_alloc (Below.trans (below_alloc (Below.refl w3.heap.size w3) _) (HBn3.out.mono (Below.size (below_alloc (Below.refl w3.heap.size w3) _)))) _)⟩
  go_wp2_with fail
  refine (Tryd.strings_Count_one s 40 _).mono ?_
  rintro e w' ⟨rfl, rfl⟩
  go_wp2_with fail
  refine (Tryd.strings_Count_one s 45 _).mono ?_
  rintro e w' ⟨rfl, rfl⟩
  go_wp2_with fail
  refine (Tryd.strings_Count_one s 58 _).mono ?_
  rintro e w' ⟨rfl, rfl⟩
  obtain ⟨ad, K2, e2, K3, e3, rfl, q0, q1, q2, q3, l2, g2, l3, g3⟩ := nodeC_at HC3.out.2.2.1 0 (by simp)
  have e0 : ad.add (0 * 4) = ad := by cases ad; simp [Addr.add]
  rw [e0] at q0 q1 q2 q3
  simp only [List.getElem_cons_zero] at q0 q1 q2 q3 l2 g2 l3 g3
  have HCK := Aside0.mk (And.intro g2 (And.intro l2 (And.intro g3 l3)))
  have up : ∀ {q : Addr} {v : Value}, w4.cell? q = some v → (w4.alloc (.cells #[.int .i64 7, .int .i64 0, .slice A32 0 c32, .slice (some ad) 1 c33] 26)).cell? q = some v := fun h => (World.cell?_alloc_lt _ _ _ (World.block_lt_of_cell? _ _ h)).trans h
  replace q0 := up q0
  replace q1 := up q1
  replace q2 := up q2
  replace q3 := up q3
  clear up g2 g3 l2 l3 e0
  have HDK := Aside0.mk (show Below w4.heap.size w4 (w4.alloc (.cells #[.int .i64 7, .int .i64 0, .slice A32 0 c32, .slice (some ad) 1 c33] 26)) from below_alloc (Below.refl _ _) _)
  clear b10 b11 b12 b13 b1z b20 b21 b22 b23 b2z b31 b32
  go_wp2_with fail
  go_region_held3 (fun w' => w'.cell? ⟨w4.heap.size, 0, none⟩ = some (.int .i64 7) ∧ w'.cell? ⟨w4.heap.size, 3, none⟩ = some (.slice (some ad) 1 c33) ∧ w'.cell? ad = some (.int .i64 x.f0) ∧ w'.cell? ⟨ad.block, ad.off + 1, none⟩ = some (.int .i64 x.f1) ∧ w'.cell? ⟨ad.block, ad.off + 2, none⟩ = some (.slice K2 x.f2.length e2) ∧ w'.cell? ⟨ad.block, ad.off + 3, none⟩ = some (.slice K3 x.f3.length e3) ∧ w'.cell? ⟨w1.heap.size, 0, none⟩ = some (.int .i64 x.f0) ∧ w'.cell? ⟨w1.heap.size, 1, none⟩ = some (.int .i64 x.f1) ∧ w'.cell? ⟨w1.heap.size, 2, none⟩ = some (.slice A02 x.f2.length c02) ∧ w'.cell? ⟨w1.heap.size, 3, none⟩ = some (.slice A03 x.f3.length c03)) (go_keep) ((go_at_call 12; refine (same_calls k2 x x true _ K2 e2 K3 e3 A02 c02 A03 c03 (Kd.C_below HCK.out.1 (below_drew HDK.out)) HCK.out.2.1 (Kd.C_below HCK.out.2.2.1 (below_drew HDK.out)) HCK.out.2.2.2 (Kd.C_below HC0.out.1 (below_drew HD0.out)) HC0.out.2.1 (Kd.C_below HC0.out.2.2.1 (below_drew HD0.out)) HC0.out.2.2.2 HSM.out).mono ?_; rintro e w5 ⟨rfl, hb⟩; have z0 := bcell hb b30; have z1 := bcell hb b33; have z2 := pw_cell_below hb q0; have z3 := bcell hb q1; have z4 := bcell hb q2; have z5 := bcell hb q3; have z6 := bcell hb b00; have z7 := bcell hb b01; have z8 := bcell hb b02; have z9 := bcell hb b03))
  have HS4 := Aside0.mk (show Below (w4.alloc (.cells #[.int .i64 7, .int .i64 0, .slice A32 0 c32, .slice (some ad) 1 c33] 26)).heap.size (w4.alloc (.cells #[.int .i64 7, .int .i64 0, .slice A32 0 c32, .slice (some ad) 1 c33] 26)) w5 from (below_drew (Below.refl _ _)).trans (hb.mono (Nat.le_refl _)))
  clear hb z0 z1 z2 z3 z4 z5 z6 z7 z8 z9 q0 q1 q2 q3 b00 b01 b02 b03 b0z b30 b33 b3z
  have HE0 := Aside0.mk (HD0.out.trans (HS4.out.mono (Below.size HD0.out)))
  have HE1 := Aside0.mk (HD1.out.trans (HS4.out.mono (Below.size HD1.out)))
  have HE2 := Aside0.mk (HD2.out.trans (HS4.out.mono (Below.size HD2.out)))
  have HB5 := Aside0.mk (HB3.out.trans (HS4.out.mono HB3.out.size))
  obtain ⟨c00, c01, c02_, c03_, c0z⟩ := box_cells (blk_below HX0.out HS4.out)
  obtain ⟨c10, c11, c12_, c13_, c1z⟩ := box_cells (blk_below HX1.out HS4.out)
  go_wp2_with fail
  refine (same_calls k2 x x true _ A12 c12 A13 c13 A02 c02 A03 c03 (Kd.C_below HC1.out.1 HE1.out) HC1.out.2.1 (Kd.C_below HC1.out.2.2.1 HE1.out) HC1.out.2.2.2 (Kd.C_below HC0.out.1 HE0.out) HC0.out.2.1 (Kd.C_below HC0.out.2.2.1 HE0.out) HC0.out.2.2.2 HSM.out).mono ?_
  rintro e w6 ⟨rfl, hb⟩
  have HS6 := Aside0.mk hb
  clear hb c00 c01 c02_ c03_ c0z c10 c11 c12_ c13_ c1z
  have HF0 := Aside0.mk (HE0.out.trans (HS6.out.mono (Below.size HE0.out)))
  have HF2' := Aside0.mk (HE2.out.trans (HS6.out.mono (Below.size HE2.out)))
  have HB6 := Aside0.mk (HB5.out.trans (HS6.out.mono HB5.out.size))
  obtain ⟨c00, c01, c02_, c03_, c0z⟩ := box_cells (blk_below (blk_below HX0.out HS4.out) HS6.out)
  obtain ⟨c20, c21, c22_, c23_, c2z⟩ := box_cells (blk_below (blk_below HX2.out HS4.out) HS6.out)
  go_wp2_with fail
  refine (same_calls k2 x x true _ A22 c22 A23 c23 A02 c02 A03 c03 (Kd.C_below HC2.out.1 HF2'.out) HC2.out.2.1 (Kd.C_below HC2.out.2.2.1 HF2'.out) HC2.out.2.2.2 (Kd.C_below HC0.out.1 HF0.out) HC0.out.2.1 (Kd.C_below HC0.out.2.2.1 HF0.out) HC0.out.2.2.2 HSM.out).mono ?_
  rintro e w7 ⟨rfl, hb⟩
  have HB7 := Aside0.mk (HB6.out.trans (hb.mono HB6.out.size))
  clear hb c00 c01 c02_ c03_ c0z c20 c21 c22_ c23_ c2z
  go_wp2_with fail
  refine (awake_calls w7 (HG.out.below HB7.out)).mono ?_
  rintro e w8 ⟨rfl, hb⟩
  have HB8 := Aside0.mk (HB7.out.trans (hb.mono HB7.out.size))
  clear hb
  go_wp2
  go_ret
  exact ⟨rfl, HB8.out⟩

end Go.Proofs.YtcgkmomhjincgaaDoor.Lib.Scr
