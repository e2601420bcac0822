/- The reader of parse and its laws, part Sd: contracts by hand. -/
import Derived.Test.YtcgkmomhjincgaaDoorNLib0
import Derived.Test.YtcgkmomhjincgaaDoorNRc
import Derived.Test.YtcgkmomhjincgaaDoorNSa
import Derived.Test.YtcgkmomhjincgaaDoorNSb
import Derived.Test.YtcgkmomhjincgaaDoorNSc
namespace Go.Proofs.YtcgkmomhjincgaaDoor.Lib.Scr
open Go.RowKit Go.Proofs.YtcgkmomhjincgaaDoor.Lib Go.Proofs.YtcgkmomhjincgaaDoorW.PrintWords Go.Proofs.YtcgkmomhjincgaaDoorW.PrintLast Go.Proofs.YtcgkmomhjincgaaDoorW.PrintMore
set_option linter.unusedVariables false
set_option linter.unusedSimpArgs false
attribute [local go_sem] max2_int min2_int max_two min_two max_three min_three max_four min_four
def NodeC (w : World) (x : S26) (A2 : Option Addr) (c2 : Nat) (A3 : Option Addr) (c3 : Nat) : Prop :=
  Kd.C k57 w A2 x.f2.length x.f2 ∧ x.f2.length ≤ c2 ∧ Kd.C k26 w A3 x.f3.length x.f3 ∧ x.f3.length ≤ c3
theorem NodeC.below {w w' : World} {x : S26} {A2 A3 : Option Addr} {c2 c3 : Nat} (h : NodeC w x A2 c2 A3 c3) (hb : Below w.heap.size w w') : NodeC w' x A2 c2 A3 c3 :=
  ⟨Kd.C_below h.1 hb, h.2.1, Kd.C_below h.2.2.1 hb, h.2.2.2⟩
theorem isNode_calls (k : Nat) (x : S26) (r : Bool) (w : World) (A2 : Option Addr) (c2 : Nat) (A3 : Option Addr) (c3 : Nat) (h : NodeC w x A2 c2 A3 c3) (hf : scholiaplain_Node.f k x.f0 x.f1 x.f2 x.f3 = some r) :
    Calls Tryd.prog 14 #[.agg #[.int .i64 x.f0, .int .i64 x.f1, .slice A2 x.f2.length c2, .slice A3 x.f3.length c3]] w fun e w' => e = .returned (.bool r) ∧ Below w.heap.size w w' :=
  scholiaplain_Node.calls k x.f0 x.f1 A2 c2 x.f2 A3 c3 x.f3 r w h.1 h.2.1 h.2.2.1 h.2.2.2 hf
theorem list_of_N {w : World} {base : Nat} {ok : Nat → Prop} {v : Value} {l : List S26} (h : Kd.N k26 26 w base ok v l) : ∃ A c, v = .slice A l.length c ∧ Aside0 (Kd.C k26 w A l.length l ∧ l.length ≤ c) := by
  obtain ⟨A, c, rfl, hl, hf⟩ := Kd.N_V (base' := 0) h
  exact ⟨A, c, rfl, ⟨Kd.F_now hf, hl⟩⟩
theorem leaves_calls (k : Nat) (x : S26) (l : List S26) (w : World) (A2 : Option Addr) (c2 : Nat) (A3 : Option Addr) (c3 : Nat) (h : NodeC w x A2 c2 A3 c3) (hf : parse_Leaves.f k x.f0 x.f1 x.f2 x.f3 = some l) :
    Calls Tryd.prog 15 #[.agg #[.int .i64 x.f0, .int .i64 x.f1, .slice A2 x.f2.length c2, .slice A3 x.f3.length c3]] w fun e w' => ∃ A c, e = .returned (.slice A l.length c) ∧ Aside0 (Kd.C k26 w' A l.length l ∧ l.length ≤ c) ∧ Below w.heap.size w w' := by
  refine (parse_Leaves.calls k x.f0 x.f1 A2 c2 x.f2 A3 c3 x.f3 l w h.1 h.2.1 h.2.2.1 h.2.2.2 hf).mono ?_
  rintro e w' ⟨v, rfl, hN, hb⟩
  obtain ⟨A, c, rfl, hC⟩ := list_of_N hN
  exact ⟨A, c, rfl, hC, hb⟩
theorem refLeaves_calls (k : Nat) (x : S26) (l : List S26) (w : World) (A2 : Option Addr) (c2 : Nat) (A3 : Option Addr) (c3 : Nat) (h : NodeC w x A2 c2 A3 c3) (hf : scholiaref22_Leaves.f k x.f0 x.f1 x.f2 x.f3 = some l) :
    Calls Tryd.prog 16 #[.agg #[.int .i64 x.f0, .int .i64 x.f1, .slice A2 x.f2.length c2, .slice A3 x.f3.length c3]] w fun e w' => ∃ A c, e = .returned (.slice A l.length c) ∧ Aside0 (Kd.C k26 w' A l.length l ∧ l.length ≤ c) ∧ Below w.heap.size w w' := by
  refine (scholiaref22_Leaves.calls k x.f0 x.f1 (fun k => k < w.heap.size) A2 c2 x.f2 (fun k => k < w.heap.size) A3 c3 x.f3 l w (Kd.V_mk h.2.1 (Kd.C_F k57_heap h.1)) (Kd.V_mk h.2.2.2 (Kd.C_F k26_heap h.2.2.1)) hf).mono ?_
  rintro e w' ⟨v, rfl, hN, hb⟩
  obtain ⟨A, c, rfl, hC⟩ := list_of_N hN
  exact ⟨A, c, rfl, hC, hb⟩
theorem refSame_calls (k : Nat) (x y : S26) (r : Bool) (w : World) (A2 : Option Addr) (c2 : Nat) (A3 : Option Addr) (c3 : Nat) (B2 : Option Addr) (d2 : Nat) (B3 : Option Addr) (d3 : Nat) (h : NodeC w x A2 c2 A3 c3) (g : NodeC w y B2 d2 B3 d3)
    (hf : scholiaref22_Same.f k x.f0 x.f1 x.f2 x.f3 y.f0 y.f1 y.f2 y.f3 = some r) :
    Calls Tryd.prog 17 #[.agg #[.int .i64 x.f0, .int .i64 x.f1, .slice A2 x.f2.length c2, .slice A3 x.f3.length c3], .agg #[.int .i64 y.f0, .int .i64 y.f1, .slice B2 y.f2.length d2, .slice B3 y.f3.length d3]] w fun e w' => e = .returned (.bool r) ∧ Below w.heap.size w w' :=
  scholiaref22_Same.calls k x.f0 x.f1 A2 c2 x.f2 A3 c3 x.f3 y.f0 y.f1 B2 d2 y.f2 B3 d3 y.f3 r w h.1 h.2.1 h.2.2.1 h.2.2.2 g.1 g.2.1 g.2.2.1 g.2.2.2 hf
theorem sameN_calls (k : Nat) (x y : S26) (r : Bool) (w : World) (A2 : Option Addr) (c2 : Nat) (A3 : Option Addr) (c3 : Nat) (B2 : Option Addr) (d2 : Nat) (B3 : Option Addr) (d3 : Nat) (h : NodeC w x A2 c2 A3 c3) (g : NodeC w y B2 d2 B3 d3) (hf : sameF k x y = some r) :
    Calls Tryd.prog 12 #[.agg #[.int .i64 x.f0, .int .i64 x.f1, .slice A2 x.f2.length c2, .slice A3 x.f3.length c3], .agg #[.int .i64 y.f0, .int .i64 y.f1, .slice B2 y.f2.length d2, .slice B3 y.f3.length d3]] w fun e w' => e = .returned (.bool r) ∧ Below w.heap.size w w' :=
  same_calls k x y r w A2 c2 A3 c3 B2 d2 B3 d3 h.1 h.2.1 h.2.2.1 h.2.2.2 g.1 g.2.1 g.2.2.1 g.2.2.2 hf
theorem blk_new1 (w : World) (o : Obj) (cs : Array Value) (t : TypeId) : ((w.alloc o).alloc (.cells cs t (0, 0))).heap[w.heap.size + 1]? = some (.cells cs t (0, 0)) := by
  have h := blk_new (w.alloc o) (.cells cs t (0, 0))
  have e : (w.alloc o).heap.size = w.heap.size + 1 := by simp
  rw [e] at h
  exact h
set_option maxHeartbeats 8000000 in
set_option maxRecDepth 100000 in
theorem nodes_one (k : Nat) (x y : S26) (w : World) (A2 : Option Addr) (c2 : Nat) (A3 : Option Addr) (c3 : Nat) (B2 : Option Addr) (d2 : Nat) (B3 : Option Addr) (d3 : Nat) (hG : GL w) (h : NodeC w x A2 c2 A3 c3) (g : NodeC w y B2 d2 B3 d3)
    (hf : scholiaplain_Node.f k x.f0 x.f1 x.f2 x.f3 = some false) :
    Calls Tryd.prog 4 #[.agg #[.int .i64 x.f0, .int .i64 x.f1, .slice A2 x.f2.length c2, .slice A3 x.f3.length c3], .agg #[.int .i64 y.f0, .int .i64 y.f1, .slice B2 y.f2.length d2, .slice B3 y.f3.length d3]] w fun e w' => e = .returned (.bool true) ∧ Below w.heap.size w w' := by
  have HG := Aside0.mk hG
  have HF := Aside0.mk hf
  have HB := Aside0.mk (below_alloc (below_alloc (Below.refl w.heap.size w) (.cells #[.int .i64 x.f0, .int .i64 x.f1, .slice A2 x.f2.length c2, .slice A3 x.f3.length c3] 26)) (.cells #[.int .i64 y.f0, .int .i64 y.f1, .slice B2 y.f2.length d2, .slice B3 y.f3.length d3] 26))
  have HX := Aside0.mk (h.below HB.out)
  clear hG hf h g
  go_enter Tryd.func4, Tryd.ntmps4
  go_wp2_with fail
  refine (isNode_calls k x false _ A2 c2 A3 c3 HX.out HF.out).mono ?_
  rintro e w1 ⟨rfl, hb⟩
  have HB1 := Aside0.mk (HB.out.trans (hb.mono HB.out.size))
  clear hb
  go_wp2_with fail
  refine (awake_calls _ (HG.out.below HB1.out)).mono ?_
  rintro e w3 ⟨rfl, hb⟩
  have HB3 := Aside0.mk (HB1.out.trans (hb.mono HB1.out.size))
  clear hb
  go_wp2
  go_ret
  exact ⟨rfl, HB3.out⟩
set_option maxHeartbeats 8000000 in
set_option maxRecDepth 100000 in
theorem nodes_two (k : Nat) (x y : S26) (w : World) (A2 : Option Addr) (c2 : Nat) (A3 : Option Addr) (c3 : Nat) (B2 : Option Addr) (d2 : Nat) (B3 : Option Addr) (d3 : Nat) (hG : GL w) (h : NodeC w x A2 c2 A3 c3) (g : NodeC w y B2 d2 B3 d3)
    (hf : scholiaplain_Node.f k x.f0 x.f1 x.f2 x.f3 = some true) (hf2 : scholiaplain_Node.f k y.f0 y.f1 y.f2 y.f3 = some false) :
    Calls Tryd.prog 4 #[.agg #[.int .i64 x.f0, .int .i64 x.f1, .slice A2 x.f2.length c2, .slice A3 x.f3.length c3], .agg #[.int .i64 y.f0, .int .i64 y.f1, .slice B2 y.f2.length d2, .slice B3 y.f3.length d3]] w fun e w' => e = .returned (.bool true) ∧ Below w.heap.size w w' := by
  have HG := Aside0.mk hG
  have HF := Aside0.mk hf
  have HF2 := Aside0.mk hf2
  have HB := Aside0.mk (below_alloc (below_alloc (Below.refl w.heap.size w) (.cells #[.int .i64 x.f0, .int .i64 x.f1, .slice A2 x.f2.length c2, .slice A3 x.f3.length c3] 26)) (.cells #[.int .i64 y.f0, .int .i64 y.f1, .slice B2 y.f2.length d2, .slice B3 y.f3.length d3] 26))
  have HX := Aside0.mk (h.below HB.out)
  have HY := Aside0.mk (g.below HB.out)
  have HBX := Aside0.mk (blk_new1 w (.cells #[.int .i64 x.f0, .int .i64 x.f1, .slice A2 x.f2.length c2, .slice A3 x.f3.length c3] 26) #[.int .i64 y.f0, .int .i64 y.f1, .slice B2 y.f2.length d2, .slice B3 y.f3.length d3] 26)
  clear hG hf hf2 h g
  go_enter Tryd.func4, Tryd.ntmps4
  go_wp2_with fail
  refine (isNode_calls k x true _ A2 c2 A3 c3 HX.out HF.out).mono ?_
  rintro e w1 ⟨rfl, hb⟩
  have HB0 := Aside0.mk (HB.out.trans (hb.mono HB.out.size))
  have HY0 := Aside0.mk (HY.out.below hb)
  obtain ⟨b0, b1, b2, b3, bz⟩ := box_cells (blk_below HBX.out hb)
  clear hb
  go_wp2_with fail
  refine (isNode_calls k y false _ B2 d2 B3 d3 HY0.out HF2.out).mono ?_
  rintro e w2 ⟨rfl, hb⟩
  have HB1 := Aside0.mk (HB0.out.trans (hb.mono HB0.out.size))
  clear hb b0 b1 b2 b3 bz
  go_wp2_with fail
  refine (awake_calls _ (HG.out.below HB1.out)).mono ?_
  rintro e w3 ⟨rfl, hb⟩
  have HB3 := Aside0.mk (HB1.out.trans (hb.mono HB1.out.size))
  clear hb
  go_wp2
  go_ret
  exact ⟨rfl, HB3.out⟩
set_option maxHeartbeats 8000000 in
set_option maxRecDepth 100000 in
theorem nodes_on (k ks : Nat) (x y : S26) (l : List S26) (sb : Bool) (w : World) (A2 : Option Addr) (c2 : Nat) (A3 : Option Addr) (c3 : Nat) (B2 : Option Addr) (d2 : Nat) (B3 : Option Addr) (d3 : Nat) (hG : GL w) (h : NodeC w x A2 c2 A3 c3) (g : NodeC w y B2 d2 B3 d3)
    (hf : scholiaplain_Node.f k x.f0 x.f1 x.f2 x.f3 = some true) (hf2 : scholiaplain_Node.f k y.f0 y.f1 y.f2 y.f3 = some true) (hl : parse_Leaves.f k x.f0 x.f1 x.f2 x.f3 = some l) (hl2 : scholiaref22_Leaves.f k x.f0 x.f1 x.f2 x.f3 = some l)
    (hs : sameF k x y = some sb) (hs2 : scholiaref22_Same.f k x.f0 x.f1 x.f2 x.f3 y.f0 y.f1 y.f2 y.f3 = some sb) (hs3 : sameF k x x = some true) (hlen : l.length ≤ 1000000) (he : ∀ z ∈ l, scholiaref22_Same.f ks z.f0 z.f1 z.f2 z.f3 z.f0 z.f1 z.f2 z.f3 = some true) :
    Calls Tryd.prog 4 #[.agg #[.int .i64 x.f0, .int .i64 x.f1, .slice A2 x.f2.length c2, .slice A3 x.f3.length c3], .agg #[.int .i64 y.f0, .int .i64 y.f1, .slice B2 y.f2.length d2, .slice B3 y.f3.length d3]] w fun e w' => e = .returned (.bool true) ∧ Below w.heap.size w w' := by
  have HG := Aside0.mk hG
  have HF := Aside0.mk (And.intro hf hf2)
  have HL := Aside0.mk (And.intro hl hl2)
  have HS := Aside0.mk (And.intro hs (And.intro hs2 hs3))
  have HE := Aside0.mk he
  have HN := Aside0.mk hlen
  have HB := Aside0.mk (below_alloc (below_alloc (Below.refl w.heap.size w) (.cells #[.int .i64 x.f0, .int .i64 x.f1, .slice A2 x.f2.length c2, .slice A3 x.f3.length c3] 26)) (.cells #[.int .i64 y.f0, .int .i64 y.f1, .slice B2 y.f2.length d2, .slice B3 y.f3.length d3] 26))
  have HX := Aside0.mk (h.below HB.out)
  have HY := Aside0.mk (g.below HB.out)
  have HBX := Aside0.mk (blk_alloc (blk_new w (.cells #[.int .i64 x.f0, .int .i64 x.f1, .slice A2 x.f2.length c2, .slice A3 x.f3.length c3] 26)) (.cells #[.int .i64 y.f0, .int .i64 y.f1, .slice B2 y.f2.length d2, .slice B3 y.f3.length d3] 26))
  have HBY := Aside0.mk (blk_new1 w (.cells #[.int .i64 x.f0, .int .i64 x.f1, .slice A2 x.f2.length c2, .slice A3 x.f3.length c3] 26) #[.int .i64 y.f0, .int .i64 y.f1, .slice B2 y.f2.length d2, .slice B3 y.f3.length d3] 26)
  clear hG hf hf2 hl hl2 hs hs2 hs3 hlen he h g
  go_enter Tryd.func4, Tryd.ntmps4
  go_wp2_with fail
  refine (isNode_calls k x true _ A2 c2 A3 c3 HX.out HF.out.1).mono ?_
  rintro e w1 ⟨rfl, hb⟩
  have HB1 := Aside0.mk (HB.out.trans (hb.mono HB.out.size))
  have HX1 := Aside0.mk (HX.out.below hb)
  have HY1 := Aside0.mk (HY.out.below hb)
  have HBX1 := Aside0.mk (blk_below HBX.out hb)
  have HBY1 := Aside0.mk (blk_below HBY.out hb)
  obtain ⟨b0, b1, b2, b3, bz⟩ := box_cells HBY1.out
  clear hb HX HY HBX HBY HB
  go_wp2_with fail
  refine (isNode_calls k y true _ B2 d2 B3 d3 HY1.out HF.out.2).mono ?_
  rintro e w2 ⟨rfl, hb⟩
  have HB2 := Aside0.mk (HB1.out.trans (hb.mono HB1.out.size))
  have HX2 := Aside0.mk (HX1.out.below hb)
  have HY2 := Aside0.mk (HY1.out.below hb)
  have HBX2 := Aside0.mk (blk_below HBX1.out hb)
  have HBY2 := Aside0.mk (blk_below HBY1.out hb)
  clear hb b0 b1 b2 b3 bz HX1 HY1 HBX1 HBY1 HB1
  obtain ⟨b0, b1, b2, b3, bz⟩ := box_cells HBX2.out
  go_wp2_with fail
  go_region_held3 (fun w' => w'.cell? ⟨w.heap.size, 0, none⟩ = some (.int .i64 x.f0) ∧ w'.cell? ⟨w.heap.size, 1, none⟩ = some (.int .i64 x.f1) ∧ w'.cell? ⟨w.heap.size, 2, none⟩ = some (.slice A2 x.f2.length c2) ∧ w'.cell? ⟨w.heap.size, 3, none⟩ = some (.slice A3 x.f3.length c3)) (go_keep) (first | (go_at_call 15; refine (leaves_calls k x l _ A2 c2 A3 c3 (HX2.out.below (below_drew (Below.refl _ _))) HL.out.1).mono ?_; rintro e w3 ⟨Al, cl, rfl, HCL, hb3⟩; have z0 := bcell hb3 b0; have z1 := bcell hb3 b1; have z2 := bcell hb3 b2; have z3 := bcell hb3 b3) | (go_at_call 16; refine (refLeaves_calls k x l _ A2 c2 A3 c3 ((HX2.out.below (below_drew (Below.refl _ _))).below hb3) HL.out.2).mono ?_; rintro e w4 ⟨Ak, ck, rfl, HCK, hb4⟩; have y0 := bcell hb4 z0; have y1 := bcell hb4 z1; have y2 := bcell hb4 z2; have y3 := bcell hb4 z3))
  have HD := Aside0.mk (show Below w2.heap.size w2 w4 from ((below_drew (Below.refl w2.heap.size w2)).trans (hb3.mono (Nat.le_refl _))).trans (hb4.mono (Nat.le_trans (Nat.le_refl w2.heap.size) hb3.size)))
  have HB4 := Aside0.mk (HB2.out.trans (HD.out.mono HB2.out.size))
  have HX4 := Aside0.mk (HX2.out.below HD.out)
  have HY4 := Aside0.mk (HY2.out.below HD.out)
  have HBX4 := Aside0.mk (blk_below HBX2.out HD.out)
  have HBY4 := Aside0.mk (blk_below HBY2.out HD.out)
  have HCL4 := Aside0.mk (And.intro (Kd.C_below HCL.out.1 hb4) HCL.out.2)
  clear hb3 hb4 b0 b1 b2 b3 bz z0 z1 z2 z3 y0 y1 y2 y3 HX2 HY2 HBX2 HBY2 HB2 HD HCL
  obtain ⟨b0, b1, b2, b3, bz⟩ := box_cells HBX4.out
  obtain ⟨a0, a1, a2, a3, az⟩ := box_cells HBY4.out
  have q0 : ((l.length : Int) != (l.length : Int)) = false := by simp
  have q1 : (sb != sb) = false := by cases sb <;> rfl
  go_wp2_with fail
  go_region_held3 (fun w' => w'.cell? ⟨w.heap.size, 0, none⟩ = some (.int .i64 x.f0) ∧ w'.cell? ⟨w.heap.size, 1, none⟩ = some (.int .i64 x.f1) ∧ w'.cell? ⟨w.heap.size, 2, none⟩ = some (.slice A2 x.f2.length c2) ∧ w'.cell? ⟨w.heap.size, 3, none⟩ = some (.slice A3 x.f3.length c3) ∧ w'.cell? ⟨w.heap.size + 1, 0, none⟩ = some (.int .i64 y.f0) ∧ w'.cell? ⟨w.heap.size + 1, 1, none⟩ = some (.int .i64 y.f1) ∧ w'.cell? ⟨w.heap.size + 1, 2, none⟩ = some (.slice B2 y.f2.length d2) ∧ w'.cell? ⟨w.heap.size + 1, 3, none⟩ = some (.slice B3 y.f3.length d3)) (go_keep) (first
    | (go_at_call 12; (with_reducible refine (sameN_calls k x y sb _ A2 c2 A3 c3 B2 d2 B3 d3 (HX4.out.below (below_drew (Below.refl _ _))) (HY4.out.below (below_drew (Below.refl _ _))) HS.out.1).mono ?_); rintro e w5 ⟨rfl, hb5⟩; have e0 := bcell hb5 b0; have e1 := bcell hb5 b1; have e2 := bcell hb5 b2; have e3 := bcell hb5 b3; have e4 := bcell hb5 a0; have e5 := bcell hb5 a1; have e6 := bcell hb5 a2; have e7 := bcell hb5 a3)
    | (go_at_call 17; (with_reducible refine (refSame_calls k x y sb _ A2 c2 A3 c3 B2 d2 B3 d3 ((HX4.out.below (below_drew (Below.refl _ _))).below hb5) ((HY4.out.below (below_drew (Below.refl _ _))).below hb5) HS.out.2.1).mono ?_); rintro e w6 ⟨rfl, hb6⟩; have f0 := bcell hb6 e0; have f1 := bcell hb6 e1; have f2 := bcell hb6 e2; have f3 := bcell hb6 e3; have f4 := bcell hb6 e4; have f5 := bcell hb6 e5; have f6 := bcell hb6 e6; have f7 := bcell hb6 e7)
    | (go_at_call 12; (with_reducible refine (sameN_calls k x x true _ A2 c2 A3 c3 A2 c2 A3 c3 (((HX4.out.below (below_drew (Below.refl _ _))).below hb5).below hb6) (((HX4.out.below (below_drew (Below.refl _ _))).below hb5).below hb6) HS.out.2.2).mono ?_); rintro e w7 ⟨rfl, hb7⟩; have g0 := bcell hb7 f0; have g1 := bcell hb7 f1; have g2 := bcell hb7 f2; have g3 := bcell hb7 f3; have g4 := bcell hb7 f4; have g5 := bcell hb7 f5; have g6 := bcell hb7 f6; have g7 := bcell hb7 f7))
  have HD7 := Aside0.mk (show Below w4.heap.size w4 w7 from (((below_drew (Below.refl w4.heap.size w4)).trans (hb5.mono (Nat.le_refl _))).trans (hb6.mono (Nat.le_trans (Nat.le_refl w4.heap.size) hb5.size))).trans (hb7.mono (Nat.le_trans (Nat.le_trans (Nat.le_refl w4.heap.size) hb5.size) hb6.size)))
  have HB7 := Aside0.mk (HB4.out.trans (HD7.out.mono HB4.out.size))
  have HP := Aside0.mk (And.intro (Kd.C_below HCL4.out.1 HD7.out) (Kd.C_below HCK.out.1 HD7.out))
  clear hb5 hb6 hb7 e0 e1 e2 e3 e4 e5 e6 e7 f0 f1 f2 f3 f4 f5 f6 f7 g0 g1 g2 g3 g4 g5 g6 g7 b0 b1 b2 b3 bz a0 a1 a2 a3 az q0 q1 HX4 HY4 HBX4 HBY4 HB4 HD7 HCL4 HCK HF HL HS
  go_wp2
  go_loopg [44] l.length (fun n v44 wr => ∃ i : Nat, v44 = .int .i64 i ∧ Aside0 (n + i = l.length) ∧ Aside0 (Below w7.heap.size w7 wr))
  case atStart => exact ⟨0, rfl, ⟨rfl⟩, ⟨Below.refl _ _⟩⟩
  case round =>
    obtain ⟨i, rfl, HI, HBW⟩ := hrel
    by_cases hi : i < l.length
    · have hb' : decide (i < l.length) = true := by simpa using hi
      have hnn := HN.out
      obtain ⟨ad, A2, c2, A3, c3, ea, q0, q1, q2, q3, l2, g2, l3, g3⟩ := nodeC_at (Kd.C_below HP.out.1 HBW.out) i hi
      obtain ⟨bd, B2, d2, B3, d3, eb, p0, p1, p2, p3, m2, h2, m3, h3⟩ := nodeC_at (Kd.C_below HP.out.2 HBW.out) i hi
      subst ea eb
      have hz := HE.out l[i] (List.getElem_mem hi)
      obtain ⟨z, hzz⟩ : ∃ z, z = l[i] := ⟨_, rfl⟩
      rw [← hzz] at hz q0 q1 q2 q3 l2 g2 l3 g3 p0 p1 p2 p3 m2 h2 m3 h3
      have HZ := Aside0.mk hz
      have HA := Aside0.mk (show NodeC wr z A2 c2 A3 c3 from ⟨g2, l2, g3, l3⟩)
      have HC := Aside0.mk (show NodeC wr z B2 d2 B3 d3 from ⟨h2, m2, h3, m3⟩)
      clear hz hzz g2 l2 g3 l3 h2 m2 h3 m3
      go_wp2_with fail
      have up : ∀ {q : Addr} {v : Value}, wr.cell? q = some v → (wr.alloc (.cells #[.int .i64 z.f0, .int .i64 z.f1, .slice A2 z.f2.length c2, .slice A3 z.f3.length c3] 26)).cell? q = some v := fun h => (World.cell?_alloc_lt _ _ _ (World.block_lt_of_cell? _ _ h)).trans h
      replace p0 := up p0
      replace p1 := up p1
      replace p2 := up p2
      replace p3 := up p3
      obtain ⟨b0, b1, b2, b3, bz⟩ := box_cells (blk_new wr (.cells #[.int .i64 z.f0, .int .i64 z.f1, .slice A2 z.f2.length c2, .slice A3 z.f3.length c3] 26))
      have HAL := Aside0.mk (show Below wr.heap.size wr (wr.alloc (.cells #[.int .i64 z.f0, .int .i64 z.f1, .slice A2 z.f2.length c2, .slice A3 z.f3.length c3] 26)) from below_alloc (Below.refl _ _) _)
      clear up q0 q1 q2 q3
      go_region_held3 (fun w' => w'.cell? ⟨wr.heap.size, 0, none⟩ = some ((.int .i64 z.f0)) ∧ w'.cell? ⟨wr.heap.size, 1, none⟩ = some ((.int .i64 z.f1)) ∧ w'.cell? ⟨wr.heap.size, 2, none⟩ = some ((.slice A2 z.f2.length c2)) ∧ w'.cell? ⟨wr.heap.size, 3, none⟩ = some ((.slice A3 z.f3.length c3)) ∧ w'.cell? (bd.add (i * 4)) = some (.int .i64 z.f0) ∧ w'.cell? ⟨(bd.add (i * 4)).block, (bd.add (i * 4)).off + 1, none⟩ = some (.int .i64 z.f1) ∧ w'.cell? ⟨(bd.add (i * 4)).block, (bd.add (i * 4)).off + 2, none⟩ = some (.slice B2 z.f2.length d2) ∧ w'.cell? ⟨(bd.add (i * 4)).block, (bd.add (i * 4)).off + 3, none⟩ = some (.slice B3 z.f3.length d3)) (go_keep) ((go_at_call 17; (with_reducible refine (refSame_calls ks z z true _ A2 c2 A3 c3 B2 d2 B3 d3 ((HA.out.below HAL.out).below (below_drew (Below.refl _ _))) ((HC.out.below HAL.out).below (below_drew (Below.refl _ _))) HZ.out).mono ?_); rintro e w9 ⟨rfl, hb9⟩; have e0 := bcell hb9 b0; have e1 := bcell hb9 b1; have e2 := bcell hb9 b2; have e3 := bcell hb9 b3; have e4 := pw_cell_below hb9 p0; have e5 := bcell hb9 p1; have e6 := bcell hb9 p2; have e7 := bcell hb9 p3))
      have HB9 := Aside0.mk (HBW.out.trans (((HAL.out.trans ((below_drew (Below.refl _ _)).mono HAL.out.size)).trans (hb9.mono HAL.out.size)).mono HBW.out.size))
      clear hb9 e0 e1 e2 e3 e4 e5 e6 e7 b0 b1 b2 b3 bz p0 p1 p2 p3
      go_wp2
      go_roundg (gk - 1)
      case measure => have := HI.out; omega
      case rel => exact ⟨i + 1, rfl, ⟨by have := HI.out; omega⟩, HB9⟩
    · have hb' : decide (i < l.length) = false := by simpa using hi
      go_wp2_with fail
      refine (awake_calls wr (HG.out.below (HB7.out.trans (HBW.out.mono HB7.out.size)))).mono ?_
      rintro e w9 ⟨rfl, hb⟩
      have HB8 := Aside0.mk ((HB7.out.trans (HBW.out.mono HB7.out.size)).trans (hb.mono (HB7.out.trans (HBW.out.mono HB7.out.size)).size))
      clear hb
      go_wp2
      go_ret
      exact ⟨rfl, HB8.out⟩
mutual
theorem node_ind1 (P : S26 → Prop) (h : ∀ a f ts kids, (∀ z ∈ kids, P z) → P ⟨a, f, ts, kids⟩) : ∀ x, P x
  | ⟨a, f, ts, kids⟩ => h a f ts kids (node_ind2 P h kids)
theorem node_ind2 (P : S26 → Prop) (h : ∀ a f ts kids, (∀ z ∈ kids, P z) → P ⟨a, f, ts, kids⟩) : ∀ l : List S26, ∀ z ∈ l, P z
  | [], _, hz => by cases hz
  | x :: t, z, hz => by
    rcases List.mem_cons.1 hz with e | hz
    · rw [e]; exact node_ind1 P h x
    · exact node_ind2 P h t z hz
end
mutual
def Good : S26 → Prop
  | ⟨_, _, ts, kids⟩ => ts.length ≤ 20 ∧ kids.length ≤ 20 ∧ GoodL kids
def GoodL : List S26 → Prop
  | [] => True
  | x :: t => Good x ∧ GoodL t
end
theorem goodL_mem : ∀ (l : List S26), GoodL l ↔ ∀ z ∈ l, Good z
  | [] => by simp [GoodL]
  | x :: t => by simp [GoodL, goodL_mem t]
mutual
def leavesF : S26 → List S26
  | ⟨a, f, ts, kids⟩ => if a = 2 ∨ a = 3 ∨ a = 4 then [⟨a, f, ts, []⟩] else if a = 5 ∨ a = 6 then leavesL kids else []
def leavesL : List S26 → List S26
  | [] => []
  | x :: t => leavesF x ++ leavesL t
end
theorem leavesL_drop (l : List S26) (i : Nat) (h : i < l.length) : leavesL (l.drop i) = leavesF l[i] ++ leavesL (l.drop (i + 1)) := by
  rw [List.drop_eq_getElem_cons h, leavesL]
theorem leavesL_mem (l : List S26) (z : S26) (h : z ∈ l) : (leavesF z).length ≤ (leavesL l).length := by
  induction l with
  | nil => cases h
  | cons a t ih =>
    rw [leavesL, List.length_append]
    rcases List.mem_cons.1 h with e | h
    · rw [e]; omega
    · have := ih h; omega
theorem rdN_get (xs : List S26) (i : Nat) (h : i < xs.length) : rd_T26 xs (i : Int) = xs[i] := by simp [rd_T26, List.getD_eq_getElem?_getD, List.getElem?_eq_getElem h]
theorem rdT_get (xs : List S57) (i : Nat) (h : i < xs.length) : rd_T57 xs (i : Int) = xs[i] := by simp [rd_T57, List.getD_eq_getElem?_getD, List.getElem?_eq_getElem h]
theorem wr64 (n : Int) (h0 : -9223372036854775808 ≤ n) (h1 : n ≤ 9223372036854775807) : wrap64 n = n := by unfold wrap64; omega
theorem mn_range (s : Nat) : 0 ≤ mn (s : Int) 1000 / 30 ∧ mn (s : Int) 1000 / 30 ≤ 33 := by
  unfold mn
  split <;> omega
theorem nodes_known : ∀ k,
    (∀ (x : S26) (d r : Int), 0 ≤ d → d ≤ 13 → scholiaplain_nodes.f k x.f0 x.f1 x.f2 x.f3 d = some r → 0 ≤ r ∧ r ≤ 1000 ∧ (r ≤ 100 → Good x ∧ ((leavesF x).length : Int) ≤ r)) ∧
    (∀ (d x5 : Int) (ts : List S57) (i : Nat) (a f : Int) (us : List S57) (kids : List S26) (r : Int), 0 ≤ d → d ≤ 12 → ts.length ≤ 20 → kids.length ≤ 20 → i ≤ ts.length → 0 ≤ x5 → x5 ≤ 21 + 33 * (i : Int) →
      scholiaplain_nodes.l0 k d x5 ts (ts.length : Int) (i : Int) a f us kids = some r → 0 ≤ r ∧ r ≤ 1000 ∧ (r ≤ 100 → (∀ z ∈ kids, Good z) ∧ x5 + ((leavesL kids).length : Int) ≤ r)) ∧
    (∀ (d x5 : Int) (kids : List S26) (i : Nat) (r : Int), 0 ≤ d → d ≤ 12 → kids.length ≤ 20 → i ≤ kids.length → 0 ≤ x5 → x5 ≤ 1000 →
      scholiaplain_nodes.l1 k d x5 kids (kids.length : Int) (i : Int) = some r → 0 ≤ r ∧ r ≤ 1000 ∧ (r ≤ 100 → (∀ z ∈ kids.drop i, Good z) ∧ x5 + ((leavesL (kids.drop i)).length : Int) ≤ r)) := by
  intro k
  induction k using Nat.strongRecOn with
  | _ k ih =>
  refine ⟨?_, ?_, ?_⟩
  · intro x d r h0 h1 h
    cases k with
    | zero => simp [scholiaplain_nodes.f] at h
    | succ k =>
    rw [scholiaplain_nodes.f] at h
    have big : ∀ (k : Nat) (b : Bool), b = true → scholiaplain_nodes.j0 k d b x.f0 x.f1 x.f2 x.f3 = some r → r = 1000 := by
      intro k b hb hj
      cases k with
      | zero => simp [scholiaplain_nodes.j0] at hj
      | succ k =>
        rw [scholiaplain_nodes.j0, if_pos hb] at hj
        exact (Option.some.inj hj).symm
    split at h
    · have := big _ _ rfl h; omega
    · rename_i hd
      split at h
      · have := big _ _ rfl h; omega
      · rename_i hk
        by_cases ht : (x.f2.length : Int) > 20
        · have := big _ _ (decide_eq_true ht) h; omega
        · rw [decide_eq_false ht] at h
          cases k with
          | zero => simp [scholiaplain_nodes.j0] at h
          | succ k =>
          rw [scholiaplain_nodes.j0, if_neg (by simp), wr64 _ (by omega) (by omega)] at h
          have := (ih k (by omega)).2.1 d (1 + (x.f2.length : Int)) x.f2 0 x.f0 x.f1 x.f2 x.f3 r h0 (by omega) (by omega) (by omega) (by omega) (by omega) (by omega) h
          refine ⟨this.1, this.2.1, fun hr => ?_⟩
          obtain ⟨g1, g2⟩ := this.2.2 hr
          obtain ⟨a, f, ts, kids⟩ := x
          refine ⟨⟨by simp only at ht; omega, by simp only at hk; omega, (goodL_mem kids).2 g1⟩, ?_⟩
          simp only [leavesF]
          simp only at g2
          split
          · simp only [List.length_cons, List.length_nil]; omega
          · split
            · omega
            · simp only [List.length_nil]; omega
  · intro d x5 ts i a f us kids r h0 h1 ht hk hi h5 h6 h
    cases k with
    | zero => simp [scholiaplain_nodes.l0] at h
    | succ k =>
    rw [scholiaplain_nodes.l0] at h
    by_cases c : (i : Int) < (ts.length : Int)
    · rw [if_pos c, if_pos (by omega), if_pos c, rdT_get ts i (by omega)] at h
      have hm := mn_range (ts[i].f0.size)
      rw [wr64 _ (by omega) (by omega), wr64 _ (by omega) (by omega)] at h
      have := (ih k (by omega)).2.1 d (x5 + mn (ts[i].f0.size : Int) 1000 / 30) ts (i + 1) a f us kids r h0 h1 ht hk (by omega) (by omega) (by omega) h
      refine ⟨this.1, this.2.1, fun hr => ?_⟩
      obtain ⟨g1, g2⟩ := this.2.2 hr
      exact ⟨g1, by omega⟩
    · rw [if_neg c] at h
      exact (ih k (by omega)).2.2 d x5 kids 0 r h0 h1 hk (by omega) h5 (by omega) h
  · intro d x5 kids i r h0 h1 hk hi h5 h6 h
    cases k with
    | zero => simp [scholiaplain_nodes.l1] at h
    | succ k =>
    rw [scholiaplain_nodes.l1] at h
    by_cases c : (i : Int) < (kids.length : Int)
    · have hi2 : i < kids.length := by omega
      rw [if_pos c, if_pos (by omega), if_pos c, rdN_get kids i hi2, wr64 (d + 1) (by omega) (by omega)] at h
      obtain ⟨t, hf, h⟩ := Option.bind_eq_some_iff.1 h
      obtain ⟨q1, q2, q3⟩ := (ih k (by omega)).1 kids[i] (d + 1) t (by omega) (by omega) hf
      rw [wr64 (x5 + t) (by omega) (by omega)] at h
      by_cases c2 : x5 + t > 100
      · rw [if_pos c2] at h
        have := Option.some.inj h
        omega
      · rw [if_neg c2, wr64 _ (by omega) (by omega)] at h
        have := (ih k (by omega)).2.2 d (x5 + t) kids (i + 1) r h0 h1 hk (by omega) (by omega) (by omega) h
        refine ⟨this.1, this.2.1, fun hr => ?_⟩
        obtain ⟨g1, g2⟩ := this.2.2 hr
        obtain ⟨g3, g4⟩ := q3 (by omega)
        refine ⟨?_, ?_⟩
        · rw [List.drop_eq_getElem_cons hi2]
          intro z hz
          rcases List.mem_cons.1 hz with e | hz
          · rw [e]; exact g3
          · exact g1 z hz
        · rw [leavesL_drop kids i hi2, List.length_append]
          omega
    · rw [if_neg c] at h
      obtain rfl : i = kids.length := by omega
      have := Option.some.inj h
      rw [List.drop_length]
      refine ⟨by omega, by omega, fun hr => ⟨by simp, ?_⟩⟩
      simp only [leavesL, List.length_nil]
      omega
theorem bound_allN {α : Type} (P : Nat → α → Prop) : ∀ l : List α, (∀ y ∈ l, ∃ K, ∀ k, K ≤ k → P k y) → ∃ K, ∀ y ∈ l, ∀ k, K ≤ k → P k y
  | [], _ => ⟨0, fun _ h => by cases h⟩
  | a :: t, h => by
    obtain ⟨K1, h1⟩ := h a (by simp)
    obtain ⟨K2, h2⟩ := bound_allN P t (fun y hy => h y (by simp [hy]))
    refine ⟨max K1 K2, fun y hy k hk => ?_⟩
    rcases List.mem_cons.1 hy with rfl | hy
    · exact h1 k (by omega)
    · exact h2 y hy k (by omega)
theorem nodes_ends (x : S26) : ∃ K, ∀ k, K ≤ k → ∀ d : Int, 0 ≤ d → d ≤ 13 → ∃ r, scholiaplain_nodes.f k x.f0 x.f1 x.f2 x.f3 d = some r := by
  refine node_ind1 (fun x => ∃ K, ∀ k, K ≤ k → ∀ d : Int, 0 ≤ d → d ≤ 13 → ∃ r, scholiaplain_nodes.f k x.f0 x.f1 x.f2 x.f3 d = some r) ?_ x
  intro a f ts kids hkids
  obtain ⟨K, hK⟩ := bound_allN (fun k z => ∀ d : Int, 0 ≤ d → d ≤ 13 → ∃ r, scholiaplain_nodes.f k z.f0 z.f1 z.f2 z.f3 d = some r) kids hkids
  have loop1 : kids.length ≤ 20 → ∀ (d : Int), 0 ≤ d → d ≤ 12 → ∀ m k i (x5 : Int), kids.length - i ≤ m → K + m < k → i ≤ kids.length → 0 ≤ x5 → x5 ≤ 1000 → ∃ r, scholiaplain_nodes.l1 k d x5 kids (kids.length : Int) ((i : Nat) : Int) = some r := by
    intro hk20 d h0 h1 m
    induction m with
    | zero =>
      intro k i x5 hm hk hi _ _
      obtain ⟨k, rfl⟩ : ∃ j, k = j + 1 := ⟨k - 1, by omega⟩
      rw [scholiaplain_nodes.l1, if_neg (by omega)]
      exact ⟨_, rfl⟩
    | succ m ih =>
      intro k i x5 hm hk hi h5 h6
      obtain ⟨k, rfl⟩ : ∃ j, k = j + 1 := ⟨k - 1, by omega⟩
      rw [scholiaplain_nodes.l1]
      by_cases c : (i : Int) < (kids.length : Int)
      · have hi2 : i < kids.length := by omega
        rw [if_pos c, if_pos (by omega), if_pos c, rdN_get kids i hi2, wr64 (d + 1) (by omega) (by omega)]
        obtain ⟨t, ht⟩ := hK kids[i] (List.getElem_mem hi2) k (by omega) (d + 1) (by omega) (by omega)
        obtain ⟨q1, q2, _⟩ := (nodes_known k).1 kids[i] (d + 1) t (by omega) (by omega) ht
        rw [ht]
        simp only [Option.bind_some]
        rw [wr64 (x5 + t) (by omega) (by omega)]
        by_cases c2 : x5 + t > 100
        · rw [if_pos c2]; exact ⟨_, rfl⟩
        · rw [if_neg c2, wr64 _ (by omega) (by omega)]
          exact ih k (i + 1) (x5 + t) (by omega) (by omega) (by omega) (by omega) (by omega)
      · rw [if_neg c]; exact ⟨_, rfl⟩
  have loop0 : kids.length ≤ 20 → ts.length ≤ 20 → ∀ (d : Int), 0 ≤ d → d ≤ 12 → ∀ m k i (x5 : Int), ts.length - i ≤ m → K + 21 + m < k → i ≤ ts.length → 0 ≤ x5 → x5 ≤ 21 + 33 * (i : Int) → ∃ r, scholiaplain_nodes.l0 k d x5 ts (ts.length : Int) ((i : Nat) : Int) a f ts kids = some r := by
    intro hk20 ht20 d h0 h1 m
    induction m with
    | zero =>
      intro k i x5 hm hk hi h5 h6
      obtain ⟨k, rfl⟩ : ∃ j, k = j + 1 := ⟨k - 1, by omega⟩
      rw [scholiaplain_nodes.l0, if_neg (by omega)]
      exact loop1 hk20 d h0 h1 kids.length k 0 x5 (by omega) (by omega) (by omega) h5 (by omega)
    | succ m ih =>
      intro k i x5 hm hk hi h5 h6
      obtain ⟨k, rfl⟩ : ∃ j, k = j + 1 := ⟨k - 1, by omega⟩
      rw [scholiaplain_nodes.l0]
      by_cases c : (i : Int) < (ts.length : Int)
      · rw [if_pos c, if_pos (by omega), if_pos c, rdT_get ts i (by omega)]
        have hm := mn_range (ts[i].f0.size)
        rw [wr64 _ (by omega) (by omega), wr64 _ (by omega) (by omega)]
        exact ih k (i + 1) _ (by omega) (by omega) (by omega) (by omega) (by omega)
      · rw [if_neg c]
        exact loop1 hk20 d h0 h1 kids.length k 0 x5 (by omega) (by omega) (by omega) h5 (by omega)
  refine ⟨K + 50, fun k hk d h0 h1 => ?_⟩
  obtain ⟨k, rfl⟩ : ∃ j, k = j + 2 := ⟨k - 2, by omega⟩
  show ∃ r, scholiaplain_nodes.f (k + 2) a f ts kids d = some r
  rw [scholiaplain_nodes.f]
  split
  · rw [scholiaplain_nodes.j0, if_pos rfl]; exact ⟨_, rfl⟩
  · split
    · rw [scholiaplain_nodes.j0, if_pos rfl]; exact ⟨_, rfl⟩
    · rename_i hd hk20
      by_cases ht : (ts.length : Int) > 20
      · rw [decide_eq_true ht, scholiaplain_nodes.j0, if_pos rfl]; exact ⟨_, rfl⟩
      · rw [decide_eq_false ht, scholiaplain_nodes.j0, if_neg (by simp), wr64 _ (by omega) (by omega)]
        exact loop0 (by omega) (by omega) d h0 (by omega) ts.length k 0 _ (by omega) (by omega) (by omega) (by omega) (by omega)
theorem leaves_ends (x : S26) : Good x → (leavesF x).length ≤ 1000000 → ∃ K, ∀ k, K ≤ k → parse_Leaves.f k x.f0 x.f1 x.f2 x.f3 = some (leavesF x) ∧ scholiaref22_Leaves.f k x.f0 x.f1 x.f2 x.f3 = some (leavesF x) := by
  refine node_ind1 (fun x => Good x → (leavesF x).length ≤ 1000000 → ∃ K, ∀ k, K ≤ k → parse_Leaves.f k x.f0 x.f1 x.f2 x.f3 = some (leavesF x) ∧ scholiaref22_Leaves.f k x.f0 x.f1 x.f2 x.f3 = some (leavesF x)) ?_ x
  intro a f ts kids ih hg hl
  obtain ⟨g1, g2, g3⟩ := hg
  have g4 := (goodL_mem kids).1 g3
  simp only [leavesF] at hl
  show ∃ K, ∀ k, K ≤ k → parse_Leaves.f k a f ts kids = some (leavesF ⟨a, f, ts, kids⟩) ∧ scholiaref22_Leaves.f k a f ts kids = some (leavesF ⟨a, f, ts, kids⟩)
  simp only [leavesF]
  by_cases c1 : a = 2 ∨ a = 3 ∨ a = 4
  · rw [if_pos c1]
    refine ⟨2, fun k hk => ?_⟩
    obtain ⟨k, rfl⟩ : ∃ j, k = j + 2 := ⟨k - 2, by omega⟩
    have hclone : api_Token_42.f ts = some ts := by
      unfold api_Token_42.f
      rw [if_pos (by omega)]
    have j1 : ∀ b, b = true → parse_Leaves.j0 (k + 1) a b a f ts kids = some [⟨a, f, ts, []⟩] := by
      intro b hb
      rw [parse_Leaves.j0, if_pos hb, hclone]; rfl
    have j2 : ∀ b, b = true → scholiaref22_Leaves.j0 (k + 1) b a f ts kids = some [⟨a, f, ts, []⟩] := by
      intro b hb
      rw [scholiaref22_Leaves.j0, if_pos hb]
    refine ⟨?_, ?_⟩
    · rw [parse_Leaves.f]
      split
      · rename_i h; exact j1 _ (by rw [h]; rfl)
      · split
        · rename_i h; exact j1 _ (by rw [h]; rfl)
        · exact j1 _ (by rw [show a = 4 by omega]; rfl)
    · rw [scholiaref22_Leaves.f]
      split
      · exact j2 _ rfl
      · split
        · exact j2 _ rfl
        · exact j2 _ (by rw [show a = 4 by omega]; rfl)
  · rw [if_neg c1]
    rw [if_neg c1] at hl
    have e1 : ∀ k, parse_Leaves.f (k + 2) a f ts kids = if a = 5 then parse_Leaves.j1 k (a == 5) a f ts kids else parse_Leaves.j1 k (a == 6) a f ts kids := by
      intro k
      rw [parse_Leaves.f, if_neg (by omega), if_neg (by omega), parse_Leaves.j0, if_neg (by simp; omega)]
    have e2 : ∀ k, scholiaref22_Leaves.f (k + 2) a f ts kids = if a = 5 then scholiaref22_Leaves.j1 k [] true a f ts kids else scholiaref22_Leaves.j1 k [] (a == 6) a f ts kids := by
      intro k
      rw [scholiaref22_Leaves.f, if_neg (by omega), if_neg (by omega), scholiaref22_Leaves.j0, if_neg (by simp; omega)]
    by_cases c2 : a = 5 ∨ a = 6
    · rw [if_pos c2]
      rw [if_pos c2] at hl
      obtain ⟨K, hK⟩ := bound_allN (fun k z => parse_Leaves.f k z.f0 z.f1 z.f2 z.f3 = some (leavesF z) ∧ scholiaref22_Leaves.f k z.f0 z.f1 z.f2 z.f3 = some (leavesF z)) kids (fun z hz => ih z hz (g4 z hz) (Nat.le_trans (leavesL_mem kids z hz) hl))
      have loop : ∀ m k i (acc : List S26), kids.length - i ≤ m → K + m < k → i ≤ kids.length → acc.length + (leavesL (kids.drop i)).length ≤ 1000000 →
          parse_Leaves.l0 k acc kids (kids.length : Int) ((i : Nat) : Int) = some (acc ++ leavesL (kids.drop i)) ∧ scholiaref22_Leaves.l0 k acc kids (kids.length : Int) ((i : Nat) : Int) = some (acc ++ leavesL (kids.drop i)) := by
        intro m
        induction m with
        | zero =>
          intro k i acc hm hk hi _
          obtain ⟨k, rfl⟩ : ∃ j, k = j + 1 := ⟨k - 1, by omega⟩
          obtain rfl : i = kids.length := by omega
          rw [parse_Leaves.l0, scholiaref22_Leaves.l0, if_neg (by omega), if_neg (by omega), List.drop_length, leavesL, List.append_nil]
          exact ⟨rfl, rfl⟩
        | succ m ihm =>
          intro k i acc hm hk hi ha
          obtain ⟨k, rfl⟩ : ∃ j, k = j + 1 := ⟨k - 1, by omega⟩
          by_cases c : (i : Int) < (kids.length : Int)
          · have hi2 : i < kids.length := by omega
            obtain ⟨q1, q2⟩ := hK kids[i] (List.getElem_mem hi2) k (by omega)
            rw [leavesL_drop kids i hi2, List.length_append] at ha
            have := ihm k (i + 1) (acc ++ leavesF kids[i]) (by omega) (by omega) (by omega) (by rw [List.length_append]; omega)
            rw [leavesL_drop kids i hi2]
            rw [List.append_assoc] at this
            refine ⟨?_, ?_⟩
            · rw [parse_Leaves.l0, if_pos c, if_pos (by omega), if_pos c, rdN_get kids i hi2, q1]
              simp only [Option.bind_some]
              rw [if_pos (by omega), wr64 _ (by omega) (by omega)]
              exact this.1
            · rw [scholiaref22_Leaves.l0, if_pos c, if_pos (by omega), if_pos c, rdN_get kids i hi2, q2]
              simp only [Option.bind_some]
              rw [if_pos (by omega), wr64 _ (by omega) (by omega)]
              exact this.2
          · obtain rfl : i = kids.length := by omega
            rw [parse_Leaves.l0, scholiaref22_Leaves.l0, if_neg (by omega), if_neg (by omega), List.drop_length, leavesL, List.append_nil]
            exact ⟨rfl, rfl⟩
      refine ⟨K + kids.length + 5, fun k hk => ?_⟩
      obtain ⟨k, rfl⟩ : ∃ j, k = j + 3 := ⟨k - 3, by omega⟩
      have := loop kids.length k 0 [] (by omega) (by omega) (by omega) (by simpa using hl)
      rw [List.drop_zero, List.nil_append] at this
      have j1 : ∀ b, b = true → parse_Leaves.j1 (k + 1) b a f ts kids = some (leavesL kids) := by
        intro b hb
        rw [parse_Leaves.j1, if_pos hb]; exact this.1
      have j2 : ∀ b, b = true → scholiaref22_Leaves.j1 (k + 1) [] b a f ts kids = some (leavesL kids) := by
        intro b hb
        rw [scholiaref22_Leaves.j1, if_pos hb]; exact this.2
      refine ⟨?_, ?_⟩
      · rw [e1 (k + 1)]
        split
        · rename_i h; exact j1 _ (by rw [h]; rfl)
        · exact j1 _ (by rw [show a = 6 by omega]; rfl)
      · rw [e2 (k + 1)]
        split
        · exact j2 _ rfl
        · exact j2 _ (by rw [show a = 6 by omega]; rfl)
    · rw [if_neg c2]
      refine ⟨3, fun k hk => ?_⟩
      obtain ⟨k, rfl⟩ : ∃ j, k = j + 3 := ⟨k - 3, by omega⟩
      refine ⟨?_, ?_⟩
      · rw [e1 (k + 1), if_neg (by omega), parse_Leaves.j1, if_neg (by simp; omega)]
      · rw [e2 (k + 1), if_neg (by omega), scholiaref22_Leaves.j1, if_neg (by simp; omega)]
def tokE : List S57 → List S57 → Bool
  | t :: l, u :: m => (t.f0.toList == u.f0.toList && t.f1 == u.f1) && tokE l m
  | _, _ => true
theorem tokE_drop (l m : List S57) (i : Nat) (h : i < l.length) (h2 : i < m.length) : tokE (l.drop i) (m.drop i) = ((l[i].f0.toList == m[i].f0.toList && l[i].f1 == m[i].f1) && tokE (l.drop (i + 1)) (m.drop (i + 1))) := by
  rw [List.drop_eq_getElem_cons h, List.drop_eq_getElem_cons h2, tokE]
theorem tokE_end (l m : List S57) (i : Nat) (h : l.length ≤ i) : tokE (l.drop i) (m.drop i) = true := by
  rw [List.drop_eq_nil_of_le h, tokE]
  intro t l' u m' h _
  cases h
theorem tok_one (l m : List S57) (hlen : l.length = m.length) (h20 : l.length ≤ 20) : ∀ n k i : Nat, l.length - i ≤ n → n < k → api_Token.l0 k l m (l.length : Int) (i : Int) = some (tokE (l.drop i) (m.drop i)) := by
  intro n
  induction n with
  | zero =>
    intro k i hm hk
    obtain ⟨k, rfl⟩ : ∃ j, k = j + 1 := ⟨k - 1, by omega⟩
    rw [api_Token.l0, if_neg (by omega), tokE_end l m i (by omega)]
  | succ n ih =>
    intro k i hm hk
    obtain ⟨k, rfl⟩ : ∃ j, k = j + 1 := ⟨k - 1, by omega⟩
    rw [api_Token.l0]
    by_cases c : (i : Int) < (l.length : Int)
    · rw [if_pos c, if_pos (by omega), if_pos c, if_pos (by omega), rdT_get l i (by omega), rdT_get m i (by omega), tokE_drop l m i (by omega) (by omega)]
      cases hq : (l[i].f0.toList == m[i].f0.toList && l[i].f1 == m[i].f1) with
      | true =>
        rw [if_neg (by simp only [Bool.and_eq_true] at hq; simp [hq.1, hq.2]), wr64 _ (by omega) (by omega)]
        rw [Bool.true_and]
        exact ih k (i + 1) (by omega) (by omega)
      | false =>
        rw [if_pos (by rw [← Bool.not_and, hq]; rfl)]
        rfl
    · rw [if_neg c, tokE_end l m i (by omega)]
theorem tok_two (l : List S57) (h20 : l.length ≤ 20) (a f : Int) (kids : List S26) (a' f' : Int) (m : List S57) (kids' : List S26) (us : List S57) (hlen : l.length = m.length) : ∀ n k i : Nat, l.length - i = n → i ≤ l.length → scholiaref22_Same.l0 (k + n + 1) l (l.length : Int) (i : Int) a f us kids a' f' m kids' = if tokE (l.drop i) (m.drop i) = true then scholiaref22_Same.l1 k kids (kids.length : Int) 0 a' f' m kids' else some false := by
  intro n
  induction n with
  | zero =>
    intro k i hm hi
    rw [Nat.add_zero, scholiaref22_Same.l0, if_neg (by omega), tokE_end l m i (by omega), if_pos rfl]
  | succ n ih =>
    intro k i hm hi
    have c : (i : Int) < (l.length : Int) := by omega
    rw [scholiaref22_Same.l0, if_pos c, if_pos (by omega), if_pos c, if_pos (by omega), rdT_get l i (by omega), rdT_get m i (by omega), tokE_drop l m i (by omega) (by omega)]
    cases hq : (l[i].f0.toList == m[i].f0.toList && l[i].f1 == m[i].f1) with
    | true =>
      have hq2 := hq
      simp only [Bool.and_eq_true, beq_iff_eq] at hq2
      rw [if_neg (by rw [hq2.1, hq2.2]; simp), wr64 _ (by omega) (by omega), Bool.true_and]
      have := ih k (i + 1) (by omega) (by omega)
      rw [show k + (n + 1) = k + n + 1 by omega]
      exact this
    | false =>
      rw [if_pos (by rw [← Bool.not_and, Bool.beq_comm (a := m[i].f0.toList), Bool.beq_comm (a := m[i].f1), hq]; rfl), Bool.false_and, if_neg (by simp)]
theorem same_ends (x : S26) : Good x → ∀ y, Good y → ∃ b K, ∀ k, K ≤ k → sameF k x y = some b ∧ scholiaref22_Same.f k x.f0 x.f1 x.f2 x.f3 y.f0 y.f1 y.f2 y.f3 = some b := by
  refine node_ind1 (fun x => Good x → ∀ y, Good y → ∃ b K, ∀ k, K ≤ k → sameF k x y = some b ∧ scholiaref22_Same.f k x.f0 x.f1 x.f2 x.f3 y.f0 y.f1 y.f2 y.f3 = some b) ?_ x
  intro a f ts kids ih hg y hy
  obtain ⟨a', f', us, ys⟩ := y
  obtain ⟨g1, g2, g3⟩ := hg
  obtain ⟨h1, h2, h3⟩ := hy
  have g4 := (goodL_mem kids).1 g3
  have h4 := (goodL_mem ys).1 h3
  show ∃ b K, ∀ k, K ≤ k → sameF k ⟨a, f, ts, kids⟩ ⟨a', f', us, ys⟩ = some b ∧ scholiaref22_Same.f k a f ts kids a' f' us ys = some b
  have no : ∀ k (b : Bool), b = true → scholiaref22_Same.j0 (k + 1) b a f ts kids a' f' us ys = some false := by
    intro k b hb
    rw [scholiaref22_Same.j0, if_pos hb]
  have tokN : ¬ ts.length = us.length → ∀ k, api_Token.f k ts us = some false := by
    intro h k
    unfold api_Token.f
    rw [if_neg (by omega)]
  by_cases c1 : a = a'
  · by_cases c2 : f = f'
    · by_cases c3 : ts.length = us.length
      · have tok : ∀ k, 21 ≤ k → api_Token.f k ts us = some (tokE ts us) := by
          intro k hk
          unfold api_Token.f
          rw [if_pos (by omega)]
          have := tok_one ts us c3 g1 ts.length k 0 (by omega) (by omega)
          exact this
        by_cases c4 : kids.length = ys.length
        · obtain ⟨K, B, hB⟩ : ∃ (K : Nat) (B : Bool), ∀ k, K ≤ k → sameL k kids ys = some B ∧ scholiaref22_Same.l1 k kids (kids.length : Int) 0 a' f' us ys = some B := by
            have all : ∃ K, ∀ z ∈ kids, ∀ k, K ≤ k → ∀ i (hi : i < kids.length) (hi2 : i < ys.length), z = kids[i] → ∃ b, (∀ k2, k ≤ k2 → sameF k2 z ys[i] = some b ∧ scholiaref22_Same.f k2 z.f0 z.f1 z.f2 z.f3 ys[i].f0 ys[i].f1 ys[i].f2 ys[i].f3 = some b) := by
              refine bound_allN (fun k z => ∀ i (hi : i < kids.length) (hi2 : i < ys.length), z = kids[i] → ∃ b, (∀ k2, k ≤ k2 → sameF k2 z ys[i] = some b ∧ scholiaref22_Same.f k2 z.f0 z.f1 z.f2 z.f3 ys[i].f0 ys[i].f1 ys[i].f2 ys[i].f3 = some b)) kids ?_
              intro z hz
              obtain ⟨K, hK⟩ := bound_allN (fun k u => ∃ b, ∀ k2, k ≤ k2 → sameF k2 z u = some b ∧ scholiaref22_Same.f k2 z.f0 z.f1 z.f2 z.f3 u.f0 u.f1 u.f2 u.f3 = some b) ys (fun u hu => by
                obtain ⟨b, K, hb⟩ := ih z hz (g4 z hz) u (h4 u hu)
                exact ⟨K, fun k hk => ⟨b, fun k2 hk2 => hb k2 (by omega)⟩⟩)
              exact ⟨K, fun k hk i hi hi2 e => hK ys[i] (List.getElem_mem hi2) k hk⟩
            obtain ⟨K, hK⟩ := all
            have run : ∀ n i : Nat, kids.length - i = n → i ≤ kids.length → ∃ B : Bool, ∀ k, K + n + 1 ≤ k → sameL k (kids.drop i) (ys.drop i) = some B ∧ scholiaref22_Same.l1 k kids (kids.length : Int) (i : Int) a' f' us ys = some B := by
              intro n
              induction n with
              | zero =>
                intro i hn hi
                obtain rfl : i = kids.length := by omega
                refine ⟨true, fun k hk => ?_⟩
                obtain ⟨k, rfl⟩ : ∃ j, k = j + 1 := ⟨k - 1, by omega⟩
                rw [List.drop_length, sameL, scholiaref22_Same.l1, if_neg (by omega)]
                exact ⟨rfl, rfl⟩
              | succ n ihn =>
                intro i hn hi
                have hi1 : i < kids.length := by omega
                have hi2 : i < ys.length := by omega
                obtain ⟨B, hB⟩ := ihn (i + 1) (by omega) (by omega)
                obtain ⟨b, hb⟩ := hK kids[i] (List.getElem_mem hi1) K (Nat.le_refl _) i hi1 hi2 rfl
                refine ⟨if b = true then B else false, fun k hk => ?_⟩
                obtain ⟨k, rfl⟩ : ∃ j, k = j + 1 := ⟨k - 1, by omega⟩
                have q1 := hb (k + 1) (by omega)
                have q2 := hb k (by omega)
                have q3 := hB (k + 1) (by omega)
                have q4 := hB k (by omega)
                refine ⟨?_, ?_⟩
                · rw [sameL_drop (k + 1) kids ys i hi1 hi2, q1.1]
                  simp only [Option.bind_some]
                  cases b with
                  | true => rw [if_pos rfl, if_pos rfl]; exact q3.1
                  | false => rw [if_neg (by simp), if_neg (by simp)]
                · rw [scholiaref22_Same.l1, if_pos (by omega), if_pos (by omega), if_pos (by omega), if_pos (by omega), rdN_get kids i hi1, rdN_get ys i hi2, q2.2]
                  simp only [Option.bind_some]
                  cases b with
                  | true => rw [if_pos rfl, if_pos rfl, wr64 _ (by omega) (by omega)]; exact q4.2
                  | false => rw [if_neg (by simp), if_neg (by simp)]
            obtain ⟨B, hB⟩ := run kids.length 0 (by omega) (by omega)
            exact ⟨K + kids.length + 1, B, fun k hk => hB k hk⟩
          refine ⟨if tokE ts us = true then B else false, K + 60, fun k hk => ⟨?_, ?_⟩⟩
          · rw [sameF, if_pos c1, if_pos c2, tok k (by omega)]
            simp only [Option.bind_some]
            cases tokE ts us with
            | true => rw [if_pos rfl, if_pos rfl, if_pos c4]; exact (hB k (by omega)).1
            | false => rw [if_neg (by simp), if_neg (by simp)]
          · obtain ⟨k, rfl⟩ : ∃ j, k = (j + ts.length + 1) + 2 := ⟨k - 3 - ts.length, by omega⟩
            rw [scholiaref22_Same.f, if_pos c1, if_pos c2, if_pos (by omega), scholiaref22_Same.j0, if_neg (by simp; omega)]
            have := tok_two ts g1 a f kids a' f' us ys ts c3 ts.length k 0 (by omega) (by omega)
            rw [List.drop_zero, List.drop_zero] at this
            rw [show ((0 : Nat) : Int) = 0 from rfl] at this
            rw [this]
            cases tokE ts us with
            | true => rw [if_pos rfl, if_pos rfl]; exact (hB k (by omega)).2
            | false => rw [if_neg (by simp), if_neg (by simp)]
        · refine ⟨false, 60, fun k hk => ⟨?_, ?_⟩⟩
          · rw [sameF, if_pos c1, if_pos c2, tok k (by omega)]
            simp only [Option.bind_some]
            rw [if_neg c4]
            split <;> rfl
          · obtain ⟨k, rfl⟩ : ∃ j, k = j + 2 := ⟨k - 2, by omega⟩
            rw [scholiaref22_Same.f, if_pos c1, if_pos c2, if_pos (by omega)]
            exact no k _ (by simp; omega)
      · refine ⟨false, 60, fun k hk => ⟨?_, ?_⟩⟩
        · rw [sameF, if_pos c1, if_pos c2, tokN c3]
          rfl
        · obtain ⟨k, rfl⟩ : ∃ j, k = j + 2 := ⟨k - 2, by omega⟩
          rw [scholiaref22_Same.f, if_pos c1, if_pos c2, if_neg (by omega)]
          exact no k _ rfl
    · refine ⟨false, 60, fun k hk => ⟨?_, ?_⟩⟩
      · rw [sameF, if_pos c1, if_neg c2]
      · obtain ⟨k, rfl⟩ : ∃ j, k = j + 2 := ⟨k - 2, by omega⟩
        rw [scholiaref22_Same.f, if_pos c1, if_neg c2]
        exact no k _ rfl
  · refine ⟨false, 60, fun k hk => ⟨?_, ?_⟩⟩
    · rw [sameF, if_neg c1]
    · obtain ⟨k, rfl⟩ : ∃ j, k = j + 2 := ⟨k - 2, by omega⟩
      rw [scholiaref22_Same.f, if_neg c1]
      exact no k _ rfl
theorem tokE_self : ∀ l : List S57, tokE l l = true
  | [] => rfl
  | t :: l => by simp [tokE, tokE_self l]
theorem same_own (x : S26) : Good x → ∃ K, ∀ k, K ≤ k → sameF k x x = some true := by
  refine node_ind1 (fun x => Good x → ∃ K, ∀ k, K ≤ k → sameF k x x = some true) ?_ x
  intro a f ts kids ih hg
  obtain ⟨g1, g2, g3⟩ := hg
  have g4 := (goodL_mem kids).1 g3
  obtain ⟨K, hK⟩ := bound_allN (fun k z => sameF k z z = some true) kids (fun z hz => ih z hz (g4 z hz))
  refine ⟨K + 30, fun k hk => ?_⟩
  have ht : api_Token.f k ts ts = some true := by
    unfold api_Token.f
    rw [if_pos rfl]
    have := tok_one ts ts rfl g1 ts.length k 0 (by omega) (by omega)
    rw [tokE_self] at this
    exact this
  have hl : ∀ l : List S26, (∀ z ∈ l, sameF k z z = some true) → sameL k l l = some true := by
    intro l
    induction l with
    | nil => intro _; rw [sameL]
    | cons z t iht =>
      intro h
      rw [sameL, h z (by simp)]
      simp only [Option.bind_some, if_true]
      exact iht (fun y hy => h y (by simp [hy]))
  rw [sameF, if_pos rfl, if_pos rfl, ht]
  simp only [Option.bind_some, if_true]
  exact hl kids (fun z hz => hK z hz k (by omega))
theorem leaves_good (x : S26) : Good x → ∀ z ∈ leavesF x, Good z := by
  refine node_ind1 (fun x => Good x → ∀ z ∈ leavesF x, Good z) ?_ x
  intro a f ts kids ih hg z hz
  obtain ⟨g1, g2, g3⟩ := hg
  have g4 := (goodL_mem kids).1 g3
  simp only [leavesF] at hz
  split at hz
  · rw [List.mem_singleton.1 hz]
    exact ⟨g1, by simp, by simp [GoodL]⟩
  · split at hz
    · have : ∀ l : List S26, (∀ u ∈ l, u ∈ kids) → z ∈ leavesL l → Good z := by
        intro l
        induction l with
        | nil => intro _ h; simp [leavesL] at h
        | cons u t iht =>
          intro hs h
          rw [leavesL, List.mem_append] at h
          rcases h with h | h
          · exact ih u (hs u (by simp)) (g4 u (hs u (by simp))) z h
          · exact iht (fun v hv => hs v (by simp [hv])) h
      exact this kids (fun _ h => h) hz
    · cases hz
theorem parseNodes_calls (x y : S26) (w : World) (A2 : Option Addr) (c2 : Nat) (A3 : Option Addr) (c3 : Nat) (B2 : Option Addr) (d2 : Nat) (B3 : Option Addr) (d3 : Nat) (hG : GL w) (h : NodeC w x A2 c2 A3 c3) (g : NodeC w y B2 d2 B3 d3) :
    Calls Tryd.prog 4 #[.agg #[.int .i64 x.f0, .int .i64 x.f1, .slice A2 x.f2.length c2, .slice A3 x.f3.length c3], .agg #[.int .i64 y.f0, .int .i64 y.f1, .slice B2 y.f2.length d2, .slice B3 y.f3.length d3]] w fun e w' => e = .returned (.bool true) ∧ Below w.heap.size w w' := by
  obtain ⟨K1, h1⟩ := nodes_ends x
  obtain ⟨K2, h2⟩ := nodes_ends y
  obtain ⟨r1, e1⟩ := h1 (K1 + K2) (by omega) 0 (by omega) (by omega)
  obtain ⟨r2, e2⟩ := h2 (K1 + K2) (by omega) 0 (by omega) (by omega)
  have n1 : scholiaplain_Node.f (K1 + K2) x.f0 x.f1 x.f2 x.f3 = some (decide (r1 ≤ 100)) := by unfold scholiaplain_Node.f; rw [e1]; rfl
  have n2 : scholiaplain_Node.f (K1 + K2) y.f0 y.f1 y.f2 y.f3 = some (decide (r2 ≤ 100)) := by unfold scholiaplain_Node.f; rw [e2]; rfl
  by_cases c1 : r1 ≤ 100
  · rw [decide_eq_true c1] at n1
    by_cases c2 : r2 ≤ 100
    · rw [decide_eq_true c2] at n2
      obtain ⟨_, _, k1⟩ := (nodes_known _).1 x 0 r1 (by omega) (by omega) e1
      obtain ⟨_, _, k2⟩ := (nodes_known _).1 y 0 r2 (by omega) (by omega) e2
      obtain ⟨gx, lx⟩ := k1 c1
      obtain ⟨gy, _⟩ := k2 c2
      obtain ⟨K3, h3⟩ := leaves_ends x gx (by omega)
      obtain ⟨sb, K4, h4⟩ := same_ends x gx y gy
      obtain ⟨K5, h5⟩ := same_own x gx
      obtain ⟨K6, h6⟩ := bound_allN (fun k z => scholiaref22_Same.f k z.f0 z.f1 z.f2 z.f3 z.f0 z.f1 z.f2 z.f3 = some true) (leavesF x) (fun z hz => by
        have gz := leaves_good x gx z hz
        obtain ⟨b, K7, h7⟩ := same_ends z gz z gz
        obtain ⟨K8, h8⟩ := same_own z gz
        have q := h7 (K7 + K8) (by omega)
        rw [h8 (K7 + K8) (by omega)] at q
        have e : b = true := (Option.some.inj q.1).symm
        subst e
        exact ⟨K7, fun k hk => (h7 k hk).2⟩)
      have up : ∀ (z : S26) j, LeO (scholiaplain_Node.f (K1 + K2) z.f0 z.f1 z.f2 z.f3) (scholiaplain_Node.f (K1 + K2 + j) z.f0 z.f1 z.f2 z.f3) := fun z j => more_rounds (fun k => scholiaplain_Node.mono z.f0 z.f1 z.f2 z.f3 k) _ j
      exact nodes_on (K1 + K2 + (K3 + K4 + K5)) K6 x y (leavesF x) sb w A2 _ A3 _ B2 _ B3 _ hG h g (up x _ _ n1) (up y _ _ n2) (h3 _ (by omega)).1 (h3 _ (by omega)).2 (h4 _ (by omega)).1 (h4 _ (by omega)).2 (h5 _ (by omega)) (by omega) (fun z hz => h6 z hz K6 (Nat.le_refl _))
    · rw [decide_eq_false c2] at n2
      exact nodes_two _ x y w A2 _ A3 _ B2 _ B3 _ hG h g n1 n2
  · rw [decide_eq_false c1] at n1
    exact nodes_one _ x y w A2 _ A3 _ B2 _ B3 _ hG h g n1
end Go.Proofs.YtcgkmomhjincgaaDoor.Lib.Scr
