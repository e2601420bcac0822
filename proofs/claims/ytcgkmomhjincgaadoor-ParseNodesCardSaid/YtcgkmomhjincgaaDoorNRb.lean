/- The reader of parse and its laws, part Rb: contracts by hand. -/
import Derived.Test.YtcgkmomhjincgaaDoorNLib0
import Derived.Test.YtcgkmomhjincgaaDoorNRa
namespace Go.Proofs.YtcgkmomhjincgaaDoor.Lib.Scr
open Go.RowKit Go.Proofs.YtcgkmomhjincgaaDoor.Lib Go.Proofs.YtcgkmomhjincgaaDoorW.PrintWords Go.Proofs.YtcgkmomhjincgaaDoorW.PrintLast Go.Proofs.YtcgkmomhjincgaaDoorW.PrintMore
set_option linter.unusedVariables false
set_option linter.unusedSimpArgs false
attribute [local go_sem] max2_int min2_int max_two min_two max_three min_three max_four min_four
def NP (w0 w : World) (g : Nat) (s : ByteArray) (x : S26) (st' : PSt) (e : Ending) (w' : World) : Prop :=
  ∃ A2 c2 A3 c3, e = .returned (.agg #[.int .i64 x.f0, .int .i64 x.f1, .slice A2 x.f2.length c2, .slice A3 x.f3.length c3]) ∧ NodeAt w' w.heap.size x A2 c2 A3 c3 ∧ RS w0 w' g s st' ∧ BelowBut g w w'
def deeper (st : PSt) : PSt := { st with deep := st.deep + 1 }
def higher (st : PSt) : PSt := { st with deep := st.deep - 1 }
set_option maxHeartbeats 4000000 in
set_option maxRecDepth 100000 in
theorem nest_deep_inner (w0 w : World) (g : Nat) (s : ByteArray) (st : PSt) (h : RS w0 w g s st) (hd : st.deep + 1 ≤ 1000) (hc : 6 < st.deep + 1) :
    Calls Tryd.prog 98 #[.pointer (some ⟨g, 0, none⟩), .func (.func 109) #[.pointer (some ⟨g, 0, none⟩)] #[]] w (NP w0 w g s zN (failF s (deeper st) 14)) := by
  have HS := Aside0.mk h
  have hc2 := h.c2
  have hfr := h.fr 2
  have hlt := h.lt
  have hne : ¬ (g = w.heap.size) := by omega
  have hu := Tryd.underlying26
  have b1 : decide ((6 : Int) < (st.deep : Int) + 1) = true := by simp; omega
  have HV := Aside0.mk (show Value.int .i64 ((st.deep : Int) + 1) = .int .i64 ((st.deep + 1 : Nat) : Int) from congrArg (Value.int .i64) (by omega))
  clear h hc
  go_enter Tryd.func98, Tryd.ntmps98
  go_wp2_with fail
  have HRS2 : Aside0 (∀ o, RS w0 ((w.setCell ⟨g, 2, none⟩ (.int .i64 ((st.deep : Int) + 1))).alloc o) g s (deeper st)) := ⟨fun o => (HS.out.deepen (st.deep + 1) hd _ HV.out).alloc o⟩
  refine (fail_calls w0 _ g s (deeper st) 14 (HRS2.out _)).mono ?_
  rintro e w2 ⟨rfl, hrs, hbb⟩
  have HRS := Aside0.mk hrs
  have HBB := Aside0.mk hbb
  have HBOX : Aside0 (w2.heap[w.heap.size]? = some (.cells #[.int .i64 0, .int .i64 0, .slice none 0 0, .slice none 0 0] 26 (0, 0))) := ⟨(hbb.block _ (by simp) (by omega)).trans (by have := blk_new (w.setCell ⟨g, 2, none⟩ (.int .i64 ((st.deep : Int) + 1))) (.cells #[.int .i64 0, .int .i64 0, .slice none 0 0, .slice none 0 0] 26 (0, 0)); simpa using this)⟩
  have hcl0 := blk_cell HBOX.out 0
  have hcl1 := blk_cell HBOX.out 1
  have hcl2 := blk_cell HBOX.out 2
  have hcl3 := blk_cell HBOX.out 3
  have hfz := blk_frozen HBOX.out
  simp only [List.getElem?_toArray, List.getElem?_cons_zero, List.getElem?_cons_succ] at hcl0 hcl1 hcl2 hcl3
  clear hrs hbb
  go_wp2
  refine bodyPost_ret (results_cell_row rfl _ _ w.heap.size 26 _ (0, 0) _ rfl (putN_blk HBOX.out _ _ _ _) hu rfl (by kernel_rfl)) rfl ⟨none, 0, none, 0, rfl, ?_, ?_, ?_⟩
  · exact NodeAt.zero _ _
  · exact HRS.out.putN hne HS.out.below.size _ _ _ _
  · exact ((((BelowBut.refl g w).set 2 _).alloc _).trans HBB.out).putN (Nat.le_refl _) _ _ _ _
set_option maxHeartbeats 4000000 in
set_option maxRecDepth 100000 in
theorem nest_on_inner (w0 w : World) (g : Nat) (s : ByteArray) (st st1 : PSt) (x : S26) (h : RS w0 w g s st) (hd : st.deep + 1 ≤ 1000) (hc : ¬ 6 < st.deep + 1)
    (hrd : ∀ w1, RS w0 w1 g s (deeper st) → Calls Tryd.prog 109 #[.pointer (some ⟨g, 0, none⟩)] w1 (NP w0 w1 g s x st1)) (h1 : 1 ≤ st1.deep) :
    Calls Tryd.prog 98 #[.pointer (some ⟨g, 0, none⟩), .func (.func 109) #[.pointer (some ⟨g, 0, none⟩)] #[]] w (NP w0 w g s x (higher st1)) := by
  have HS := Aside0.mk h
  have hc2 := h.c2
  have hfr := h.fr 2
  have hlt := h.lt
  have hne : ¬ (g = w.heap.size) := by omega
  have hu := Tryd.underlying26
  have b1 : decide ((6 : Int) < (st.deep : Int) + 1) = false := by simp; omega
  have HV := Aside0.mk (show Value.int .i64 ((st.deep : Int) + 1) = .int .i64 ((st.deep + 1 : Nat) : Int) from congrArg (Value.int .i64) (by omega))
  have HRD := Aside0.mk hrd
  clear h hc hrd
  go_enter Tryd.func98, Tryd.ntmps98
  go_wp2_with fail
  have HRS2 : Aside0 (∀ o, RS w0 ((w.setCell ⟨g, 2, none⟩ (.int .i64 ((st.deep : Int) + 1))).alloc o) g s (deeper st)) := ⟨fun o => (HS.out.deepen (st.deep + 1) hd _ HV.out).alloc o⟩
  refine (HRD.out _ (HRS2.out _)).mono ?_
  rintro e w2 ⟨A2, c2', A3, c3', rfl, hN, hrs, hbb⟩
  have HRS := Aside0.mk hrs
  have HBB := Aside0.mk hbb
  have HN := Aside0.mk hN
  have hz2 : w.heap.size < w2.heap.size := by have := hbb.size; simp at this; omega
  have HBOX : Aside0 (w2.heap[w.heap.size]? = some (.cells #[.int .i64 0, .int .i64 0, .slice none 0 0, .slice none 0 0] 26 (0, 0))) := ⟨(hbb.block _ (by simp) (by omega)).trans (by have := blk_new (w.setCell ⟨g, 2, none⟩ (.int .i64 ((st.deep : Int) + 1))) (.cells #[.int .i64 0, .int .i64 0, .slice none 0 0, .slice none 0 0] 26 (0, 0)); simpa using this)⟩
  have hcl0 := blk_cell HBOX.out 0
  have hcl1 := blk_cell HBOX.out 1
  have hcl2 := blk_cell HBOX.out 2
  have hcl3 := blk_cell HBOX.out 3
  have hfz := blk_frozen HBOX.out
  simp only [List.getElem?_toArray, List.getElem?_cons_zero, List.getElem?_cons_succ] at hcl0 hcl1 hcl2 hcl3
  have hd2 := hrs.c2
  have hdf := hrs.fr 2
  have hdp := hrs.dp
  have hlt2 := hrs.lt
  have hne2 : ¬ (g = w2.heap.size) := by omega
  have HV2 := Aside0.mk (show Value.int .i64 ((st1.deep : Int) - 1) = .int .i64 ((st1.deep - 1 : Nat) : Int) from congrArg (Value.int .i64) (by omega))
  clear hrs hbb hN
  go_wp2
  refine bodyPost_ret (results_cell_row rfl _ _ w.heap.size 26 _ (0, 0) _ rfl (blk_alloc (putN_blk (blk_far HBOX.out (p := ⟨g, 2, none⟩) (Ne.symm hne) _) _ _ _ _) _) hu rfl (by kernel_rfl)) rfl ⟨A2, c2', A3, c3', rfl, ?_, ?_, ?_⟩
  · have hh := ((HN.out.set (p := ⟨g, 2, none⟩) (by simpa using Nat.lt_succ_of_lt hlt) (.int .i64 ((st1.deep : Int) - 1))).putN (b := w.heap.size) (by simp) (.int .i64 x.f0) (.int .i64 x.f1) (.slice A2 x.f2.length c2') (.slice A3 x.f3.length c3'))
    exact (hh.from_ (by simp)).then_ (below_alloc (Below.refl _ _) _)
  · exact ((HRS.out.deepen (st1.deep - 1) (by omega) _ HV2.out).putN hne HS.out.below.size _ _ _ _).alloc _
  · exact ((((((BelowBut.refl g w).set 2 _).alloc _).trans HBB.out).set 2 _).putN (Nat.le_refl _) _ _ _ _).alloc _
set_option maxHeartbeats 4000000 in
set_option maxRecDepth 100000 in
theorem nest_deep_unary (w0 w : World) (g : Nat) (s : ByteArray) (st : PSt) (h : RS w0 w g s st) (hd : st.deep + 1 ≤ 1000) (hc : 6 < st.deep + 1) :
    Calls Tryd.prog 98 #[.pointer (some ⟨g, 0, none⟩), .func (.func 85) #[.pointer (some ⟨g, 0, none⟩)] #[]] w (NP w0 w g s zN (failF s (deeper st) 14)) := by
  have HS := Aside0.mk h
  have hc2 := h.c2
  have hfr := h.fr 2
  have hlt := h.lt
  have hne : ¬ (g = w.heap.size) := by omega
  have hu := Tryd.underlying26
  have b1 : decide ((6 : Int) < (st.deep : Int) + 1) = true := by simp; omega
  have HV := Aside0.mk (show Value.int .i64 ((st.deep : Int) + 1) = .int .i64 ((st.deep + 1 : Nat) : Int) from congrArg (Value.int .i64) (by omega))
  clear h hc
  go_enter Tryd.func98, Tryd.ntmps98
  go_wp2_with fail
  have HRS2 : Aside0 (∀ o, RS w0 ((w.setCell ⟨g, 2, none⟩ (.int .i64 ((st.deep : Int) + 1))).alloc o) g s (deeper st)) := ⟨fun o => (HS.out.deepen (st.deep + 1) hd _ HV.out).alloc o⟩
  refine (fail_calls w0 _ g s (deeper st) 14 (HRS2.out _)).mono ?_
  rintro e w2 ⟨rfl, hrs, hbb⟩
  have HRS := Aside0.mk hrs
  have HBB := Aside0.mk hbb
  have HBOX : Aside0 (w2.heap[w.heap.size]? = some (.cells #[.int .i64 0, .int .i64 0, .slice none 0 0, .slice none 0 0] 26 (0, 0))) := ⟨(hbb.block _ (by simp) (by omega)).trans (by have := blk_new (w.setCell ⟨g, 2, none⟩ (.int .i64 ((st.deep : Int) + 1))) (.cells #[.int .i64 0, .int .i64 0, .slice none 0 0, .slice none 0 0] 26 (0, 0)); simpa using this)⟩
  have hcl0 := blk_cell HBOX.out 0
  have hcl1 := blk_cell HBOX.out 1
  have hcl2 := blk_cell HBOX.out 2
  have hcl3 := blk_cell HBOX.out 3
  have hfz := blk_frozen HBOX.out
  simp only [List.getElem?_toArray, List.getElem?_cons_zero, List.getElem?_cons_succ] at hcl0 hcl1 hcl2 hcl3
  clear hrs hbb
  go_wp2
  refine bodyPost_ret (results_cell_row rfl _ _ w.heap.size 26 _ (0, 0) _ rfl (putN_blk HBOX.out _ _ _ _) hu rfl (by kernel_rfl)) rfl ⟨none, 0, none, 0, rfl, ?_, ?_, ?_⟩
  · exact NodeAt.zero _ _
  · exact HRS.out.putN hne HS.out.below.size _ _ _ _
  · exact ((((BelowBut.refl g w).set 2 _).alloc _).trans HBB.out).putN (Nat.le_refl _) _ _ _ _
set_option maxHeartbeats 4000000 in
set_option maxRecDepth 100000 in
theorem nest_on_unary (w0 w : World) (g : Nat) (s : ByteArray) (st st1 : PSt) (x : S26) (h : RS w0 w g s st) (hd : st.deep + 1 ≤ 1000) (hc : ¬ 6 < st.deep + 1)
    (hrd : ∀ w1, RS w0 w1 g s (deeper st) → Calls Tryd.prog 85 #[.pointer (some ⟨g, 0, none⟩)] w1 (NP w0 w1 g s x st1)) (h1 : 1 ≤ st1.deep) :
    Calls Tryd.prog 98 #[.pointer (some ⟨g, 0, none⟩), .func (.func 85) #[.pointer (some ⟨g, 0, none⟩)] #[]] w (NP w0 w g s x (higher st1)) := by
  have HS := Aside0.mk h
  have hc2 := h.c2
  have hfr := h.fr 2
  have hlt := h.lt
  have hne : ¬ (g = w.heap.size) := by omega
  have hu := Tryd.underlying26
  have b1 : decide ((6 : Int) < (st.deep : Int) + 1) = false := by simp; omega
  have HV := Aside0.mk (show Value.int .i64 ((st.deep : Int) + 1) = .int .i64 ((st.deep + 1 : Nat) : Int) from congrArg (Value.int .i64) (by omega))
  have HRD := Aside0.mk hrd
  clear h hc hrd
  go_enter Tryd.func98, Tryd.ntmps98
  go_wp2_with fail
  have HRS2 : Aside0 (∀ o, RS w0 ((w.setCell ⟨g, 2, none⟩ (.int .i64 ((st.deep : Int) + 1))).alloc o) g s (deeper st)) := ⟨fun o => (HS.out.deepen (st.deep + 1) hd _ HV.out).alloc o⟩
  refine (HRD.out _ (HRS2.out _)).mono ?_
  rintro e w2 ⟨A2, c2', A3, c3', rfl, hN, hrs, hbb⟩
  have HRS := Aside0.mk hrs
  have HBB := Aside0.mk hbb
  have HN := Aside0.mk hN
  have hz2 : w.heap.size < w2.heap.size := by have := hbb.size; simp at this; omega
  have HBOX : Aside0 (w2.heap[w.heap.size]? = some (.cells #[.int .i64 0, .int .i64 0, .slice none 0 0, .slice none 0 0] 26 (0, 0))) := ⟨(hbb.block _ (by simp) (by omega)).trans (by have := blk_new (w.setCell ⟨g, 2, none⟩ (.int .i64 ((st.deep : Int) + 1))) (.cells #[.int .i64 0, .int .i64 0, .slice none 0 0, .slice none 0 0] 26 (0, 0)); simpa using this)⟩
  have hcl0 := blk_cell HBOX.out 0
  have hcl1 := blk_cell HBOX.out 1
  have hcl2 := blk_cell HBOX.out 2
  have hcl3 := blk_cell HBOX.out 3
  have hfz := blk_frozen HBOX.out
  simp only [List.getElem?_toArray, List.getElem?_cons_zero, List.getElem?_cons_succ] at hcl0 hcl1 hcl2 hcl3
  have hd2 := hrs.c2
  have hdf := hrs.fr 2
  have hdp := hrs.dp
  have hlt2 := hrs.lt
  have hne2 : ¬ (g = w2.heap.size) := by omega
  have HV2 := Aside0.mk (show Value.int .i64 ((st1.deep : Int) - 1) = .int .i64 ((st1.deep - 1 : Nat) : Int) from congrArg (Value.int .i64) (by omega))
  clear hrs hbb hN
  go_wp2
  refine bodyPost_ret (results_cell_row rfl _ _ w.heap.size 26 _ (0, 0) _ rfl (blk_alloc (putN_blk (blk_far HBOX.out (p := ⟨g, 2, none⟩) (Ne.symm hne) _) _ _ _ _) _) hu rfl (by kernel_rfl)) rfl ⟨A2, c2', A3, c3', rfl, ?_, ?_, ?_⟩
  · have hh := ((HN.out.set (p := ⟨g, 2, none⟩) (by simpa using Nat.lt_succ_of_lt hlt) (.int .i64 ((st1.deep : Int) - 1))).putN (b := w.heap.size) (by simp) (.int .i64 x.f0) (.int .i64 x.f1) (.slice A2 x.f2.length c2') (.slice A3 x.f3.length c3'))
    exact (hh.from_ (by simp)).then_ (below_alloc (Below.refl _ _) _)
  · exact ((HRS.out.deepen (st1.deep - 1) (by omega) _ HV2.out).putN hne HS.out.below.size _ _ _ _).alloc _
  · exact ((((((BelowBut.refl g w).set 2 _).alloc _).trans HBB.out).set 2 _).putN (Nat.le_refl _) _ _ _ _).alloc _
set_option maxHeartbeats 4000000 in
set_option maxRecDepth 100000 in
theorem nest_deep_atom (w0 w : World) (g : Nat) (s : ByteArray) (st : PSt) (h : RS w0 w g s st) (hd : st.deep + 1 ≤ 1000) (hc : 6 < st.deep + 1) :
    Calls Tryd.prog 98 #[.pointer (some ⟨g, 0, none⟩), .func (.func 97) #[.pointer (some ⟨g, 0, none⟩)] #[]] w (NP w0 w g s zN (failF s (deeper st) 14)) := by
  have HS := Aside0.mk h
  have hc2 := h.c2
  have hfr := h.fr 2
  have hlt := h.lt
  have hne : ¬ (g = w.heap.size) := by omega
  have hu := Tryd.underlying26
  have b1 : decide ((6 : Int) < (st.deep : Int) + 1) = true := by simp; omega
  have HV := Aside0.mk (show Value.int .i64 ((st.deep : Int) + 1) = .int .i64 ((st.deep + 1 : Nat) : Int) from congrArg (Value.int .i64) (by omega))
  clear h hc
  go_enter Tryd.func98, Tryd.ntmps98
  go_wp2_with fail
  have HRS2 : Aside0 (∀ o, RS w0 ((w.setCell ⟨g, 2, none⟩ (.int .i64 ((st.deep : Int) + 1))).alloc o) g s (deeper st)) := ⟨fun o => (HS.out.deepen (st.deep + 1) hd _ HV.out).alloc o⟩
  refine (fail_calls w0 _ g s (deeper st) 14 (HRS2.out _)).mono ?_
  rintro e w2 ⟨rfl, hrs, hbb⟩
  have HRS := Aside0.mk hrs
  have HBB := Aside0.mk hbb
  have HBOX : Aside0 (w2.heap[w.heap.size]? = some (.cells #[.int .i64 0, .int .i64 0, .slice none 0 0, .slice none 0 0] 26 (0, 0))) := ⟨(hbb.block _ (by simp) (by omega)).trans (by have := blk_new (w.setCell ⟨g, 2, none⟩ (.int .i64 ((st.deep : Int) + 1))) (.cells #[.int .i64 0, .int .i64 0, .slice none 0 0, .slice none 0 0] 26 (0, 0)); simpa using this)⟩
  have hcl0 := blk_cell HBOX.out 0
  have hcl1 := blk_cell HBOX.out 1
  have hcl2 := blk_cell HBOX.out 2
  have hcl3 := blk_cell HBOX.out 3
  have hfz := blk_frozen HBOX.out
  simp only [List.getElem?_toArray, List.getElem?_cons_zero, List.getElem?_cons_succ] at hcl0 hcl1 hcl2 hcl3
  clear hrs hbb
  go_wp2
  refine bodyPost_ret (results_cell_row rfl _ _ w.heap.size 26 _ (0, 0) _ rfl (putN_blk HBOX.out _ _ _ _) hu rfl (by kernel_rfl)) rfl ⟨none, 0, none, 0, rfl, ?_, ?_, ?_⟩
  · exact NodeAt.zero _ _
  · exact HRS.out.putN hne HS.out.below.size _ _ _ _
  · exact ((((BelowBut.refl g w).set 2 _).alloc _).trans HBB.out).putN (Nat.le_refl _) _ _ _ _
set_option maxHeartbeats 4000000 in
set_option maxRecDepth 100000 in
theorem nest_on_atom (w0 w : World) (g : Nat) (s : ByteArray) (st st1 : PSt) (x : S26) (h : RS w0 w g s st) (hd : st.deep + 1 ≤ 1000) (hc : ¬ 6 < st.deep + 1)
    (hrd : ∀ w1, RS w0 w1 g s (deeper st) → Calls Tryd.prog 97 #[.pointer (some ⟨g, 0, none⟩)] w1 (NP w0 w1 g s x st1)) (h1 : 1 ≤ st1.deep) :
    Calls Tryd.prog 98 #[.pointer (some ⟨g, 0, none⟩), .func (.func 97) #[.pointer (some ⟨g, 0, none⟩)] #[]] w (NP w0 w g s x (higher st1)) := by
  have HS := Aside0.mk h
  have hc2 := h.c2
  have hfr := h.fr 2
  have hlt := h.lt
  have hne : ¬ (g = w.heap.size) := by omega
  have hu := Tryd.underlying26
  have b1 : decide ((6 : Int) < (st.deep : Int) + 1) = false := by simp; omega
  have HV := Aside0.mk (show Value.int .i64 ((st.deep : Int) + 1) = .int .i64 ((st.deep + 1 : Nat) : Int) from congrArg (Value.int .i64) (by omega))
  have HRD := Aside0.mk hrd
  clear h hc hrd
  go_enter Tryd.func98, Tryd.ntmps98
  go_wp2_with fail
  have HRS2 : Aside0 (∀ o, RS w0 ((w.setCell ⟨g, 2, none⟩ (.int .i64 ((st.deep : Int) + 1))).alloc o) g s (deeper st)) := ⟨fun o => (HS.out.deepen (st.deep + 1) hd _ HV.out).alloc o⟩
  refine (HRD.out _ (HRS2.out _)).mono ?_
  rintro e w2 ⟨A2, c2', A3, c3', rfl, hN, hrs, hbb⟩
  have HRS := Aside0.mk hrs
  have HBB := Aside0.mk hbb
  have HN := Aside0.mk hN
  have hz2 : w.heap.size < w2.heap.size := by have := hbb.size; simp at this; omega
  have HBOX : Aside0 (w2.heap[w.heap.size]? = some (.cells #[.int .i64 0, .int .i64 0, .slice none 0 0, .slice none 0 0] 26 (0, 0))) := ⟨(hbb.block _ (by simp) (by omega)).trans (by have := blk_new (w.setCell ⟨g, 2, none⟩ (.int .i64 ((st.deep : Int) + 1))) (.cells #[.int .i64 0, .int .i64 0, .slice none 0 0, .slice none 0 0] 26 (0, 0)); simpa using this)⟩
  have hcl0 := blk_cell HBOX.out 0
  have hcl1 := blk_cell HBOX.out 1
  have hcl2 := blk_cell HBOX.out 2
  have hcl3 := blk_cell HBOX.out 3
  have hfz := blk_frozen HBOX.out
  simp only [List.getElem?_toArray, List.getElem?_cons_zero, List.getElem?_cons_succ] at hcl0 hcl1 hcl2 hcl3
  have hd2 := hrs.c2
  have hdf := hrs.fr 2
  have hdp := hrs.dp
  have hlt2 := hrs.lt
  have hne2 : ¬ (g = w2.heap.size) := by omega
  have HV2 := Aside0.mk (show Value.int .i64 ((st1.deep : Int) - 1) = .int .i64 ((st1.deep - 1 : Nat) : Int) from congrArg (Value.int .i64) (by omega))
  clear hrs hbb hN
  go_wp2
  refine bodyPost_ret (results_cell_row rfl _ _ w.heap.size 26 _ (0, 0) _ rfl (blk_alloc (putN_blk (blk_far HBOX.out (p := ⟨g, 2, none⟩) (Ne.symm hne) _) _ _ _ _) _) hu rfl (by kernel_rfl)) rfl ⟨A2, c2', A3, c3', rfl, ?_, ?_, ?_⟩
  · have hh := ((HN.out.set (p := ⟨g, 2, none⟩) (by simpa using Nat.lt_succ_of_lt hlt) (.int .i64 ((st1.deep : Int) - 1))).putN (b := w.heap.size) (by simp) (.int .i64 x.f0) (.int .i64 x.f1) (.slice A2 x.f2.length c2') (.slice A3 x.f3.length c3'))
    exact (hh.from_ (by simp)).then_ (below_alloc (Below.refl _ _) _)
  · exact ((HRS.out.deepen (st1.deep - 1) (by omega) _ HV2.out).putN hne HS.out.below.size _ _ _ _).alloc _
  · exact ((((((BelowBut.refl g w).set 2 _).alloc _).trans HBB.out).set 2 _).putN (Nat.le_refl _) _ _ _ _).alloc _
def bump (st : PSt) : PSt := { st with at_ := st.at_ + 1 }
def wordTo (st : PSt) (j : Nat) : PSt := { st with at_ := j }
def nestG (rd : PSt → Option (S26 × PSt)) (s : ByteArray) (st : PSt) : Option (S26 × PSt) :=
  if st.deep + 1 ≤ 1000 then (if 6 < st.deep + 1 then some (zN, failF s (deeper st) 14) else (rd (deeper st)).bind fun r => if 1 ≤ r.2.deep then some (r.1, higher r.2) else none) else none
mutual
def anyF : Nat → ByteArray → PSt → Option (S26 × PSt)
  | 0, _, _ => none
  | k + 1, s, st => (everyF k s st).bind fun r => (anyL k s r.2 [r.1]).bind fun q => some (joinF 6 q.1, q.2)
def anyL : Nat → ByteArray → PSt → List S26 → Option (List S26 × PSt)
  | 0, _, _, _ => none
  | k + 1, s, st, l => if (peekF s st).1 = 124 then (if (peekF s st).2.at_ + 1 ≤ s.size ∧ l.length ≤ 1000000 then (everyF k s (bump (peekF s st).2)).bind fun r => anyL k s r.2 (l ++ [r.1]) else none) else some (l, (peekF s st).2)
def everyF : Nat → ByteArray → PSt → Option (S26 × PSt)
  | 0, _, _ => none
  | k + 1, s, st => (unaryF k s st).bind fun r => (everyL k s (peekF s r.2) [r.1]).bind fun q => some (joinF 5 q.1, q.2)
def everyL : Nat → ByteArray → Int × PSt → List S26 → Option (List S26 × PSt)
  | 0, _, _, _ => none
  | k + 1, s, p, l => if 0 ≤ p.1 ∧ p.1 ≠ 124 ∧ p.1 ≠ 41 then (if l.length ≤ 1000000 then (unaryF k s p.2).bind fun r => everyL k s (peekF s r.2) (l ++ [r.1]) else none) else some (l, p.2)
def unaryF : Nat → ByteArray → PSt → Option (S26 × PSt)
  | 0, _, _ => none
  | k + 1, s, st => if (takeF s (peekF s st).2 45).1 = true then (nestG (fun st => unaryF k s st) s (takeF s (peekF s st).2 45).2).bind fun r => some (⟨7, 0, [], [r.1]⟩, r.2) else atomF k s (takeF s (peekF s st).2 45).2
def atomF : Nat → ByteArray → PSt → Option (S26 × PSt)
  | 0, _, _ => none
  | k + 1, s, st =>
    if (takeF s (peekF s st).2 40).1 = true then nestG (fun st => innerF k s st) s (takeF s (peekF s st).2 40).2
    else if (takeF s (takeF s (peekF s st).2 40).2 34).1 = true then phraseF k s (takeF s (takeF s (peekF s st).2 40).2 34).2
    else (wordGo k s (peekF s st).2.at_).bind fun j =>
      if (s.extract (peekF s st).2.at_ j).size = 0 then some (zN, failF s (wordTo (peekF s st).2 j) 13)
      else if (takeF s (wordTo (peekF s st).2 j) 42).1 = true then (parse_prefix.f k (s.extract (peekF s st).2.at_ j)).bind fun r => some (⟨r.1, r.2.1, r.2.2.1, r.2.2.2⟩, (takeF s (wordTo (peekF s st).2 j) 42).2)
      else if (takeF s (takeF s (wordTo (peekF s st).2 j) 42).2 58).1 = true then (parse_Field.f k (s.extract (peekF s st).2.at_ j)).bind fun f => if f = 0 then some (zN, failF s (takeF s (takeF s (wordTo (peekF s st).2 j) 42).2 58).2 13) else (nestG (fun st => atomF k s st) s (takeF s (takeF s (wordTo (peekF s st).2 j) 42).2 58).2).bind fun r => if maxKids r.1 ≤ 1000000 then some (withinF f r.1, r.2) else none
      else (terms_Text.f k (s.extract (peekF s st).2.at_ j)).bind fun l => (parse_leaf.f k l).bind fun r => some (⟨r.1, r.2.1, r.2.2.1, r.2.2.2⟩, wordTo (peekF s st).2 j)
def innerF : Nat → ByteArray → PSt → Option (S26 × PSt)
  | 0, _, _ => none
  | k + 1, s, st => (anyF k s st).bind fun r => if (peekF s r.2).1 = 41 then (if (peekF s r.2).2.at_ + 1 ≤ s.size then some (r.1, bump (peekF s r.2).2) else none) else some (zN, failF s (peekF s r.2).2 13)
end
def FnOK (fn : Nat) (s : ByteArray) (F : PSt → Option (S26 × PSt)) : Prop := ∀ (w0 w : World) (g : Nat) (st st' : PSt) (x : S26), RS w0 w g s st → F st = some (x, st') → Calls Tryd.prog fn #[.pointer (some ⟨g, 0, none⟩)] w (NP w0 w g s x st')
theorem takeF_false (s : ByteArray) (st : PSt) (c : Int) (h : (takeF s st c).1 = false) : (takeF s st c).2 = st := by
  unfold takeF at h ⊢
  split
  · rename_i hc; rw [if_pos hc] at h; cases h
  · rfl
theorem nest_inner (s : ByteArray) (F : PSt → Option (S26 × PSt)) (hF : FnOK 109 s F) (w0 w : World) (g : Nat) (st st' : PSt) (x : S26) (h : RS w0 w g s st) (hf : nestG F s st = some (x, st')) :
    Calls Tryd.prog 98 #[.pointer (some ⟨g, 0, none⟩), .func (.func 109) #[.pointer (some ⟨g, 0, none⟩)] #[]] w (NP w0 w g s x st') := by
  unfold nestG at hf
  by_cases c1 : st.deep + 1 ≤ 1000
  · rw [if_pos c1] at hf
    by_cases c2 : 6 < st.deep + 1
    · rw [if_pos c2] at hf
      simp only [Option.some.injEq, Prod.mk.injEq] at hf
      obtain ⟨rfl, rfl⟩ := hf
      exact nest_deep_inner w0 w g s st h c1 c2
    · rw [if_neg c2] at hf
      obtain ⟨⟨y, st1⟩, hr, hf⟩ := Option.bind_eq_some_iff.1 hf
      by_cases c3 : 1 ≤ st1.deep
      · simp only [] at hf
        rw [if_pos c3] at hf
        simp only [Option.some.injEq, Prod.mk.injEq] at hf
        obtain ⟨rfl, rfl⟩ := hf
        exact nest_on_inner w0 w g s st st1 y h c1 c2 (fun w1 h1 => hF w0 w1 g (deeper st) st1 y h1 hr) c3
      · simp only [] at hf
        rw [if_neg c3] at hf; cases hf
  · rw [if_neg c1] at hf; cases hf
theorem nest_unary (s : ByteArray) (F : PSt → Option (S26 × PSt)) (hF : FnOK 85 s F) (w0 w : World) (g : Nat) (st st' : PSt) (x : S26) (h : RS w0 w g s st) (hf : nestG F s st = some (x, st')) :
    Calls Tryd.prog 98 #[.pointer (some ⟨g, 0, none⟩), .func (.func 85) #[.pointer (some ⟨g, 0, none⟩)] #[]] w (NP w0 w g s x st') := by
  unfold nestG at hf
  by_cases c1 : st.deep + 1 ≤ 1000
  · rw [if_pos c1] at hf
    by_cases c2 : 6 < st.deep + 1
    · rw [if_pos c2] at hf
      simp only [Option.some.injEq, Prod.mk.injEq] at hf
      obtain ⟨rfl, rfl⟩ := hf
      exact nest_deep_unary w0 w g s st h c1 c2
    · rw [if_neg c2] at hf
      obtain ⟨⟨y, st1⟩, hr, hf⟩ := Option.bind_eq_some_iff.1 hf
      by_cases c3 : 1 ≤ st1.deep
      · simp only [] at hf
        rw [if_pos c3] at hf
        simp only [Option.some.injEq, Prod.mk.injEq] at hf
        obtain ⟨rfl, rfl⟩ := hf
        exact nest_on_unary w0 w g s st st1 y h c1 c2 (fun w1 h1 => hF w0 w1 g (deeper st) st1 y h1 hr) c3
      · simp only [] at hf
        rw [if_neg c3] at hf; cases hf
  · rw [if_neg c1] at hf; cases hf
theorem nest_atom (s : ByteArray) (F : PSt → Option (S26 × PSt)) (hF : FnOK 97 s F) (w0 w : World) (g : Nat) (st st' : PSt) (x : S26) (h : RS w0 w g s st) (hf : nestG F s st = some (x, st')) :
    Calls Tryd.prog 98 #[.pointer (some ⟨g, 0, none⟩), .func (.func 97) #[.pointer (some ⟨g, 0, none⟩)] #[]] w (NP w0 w g s x st') := by
  unfold nestG at hf
  by_cases c1 : st.deep + 1 ≤ 1000
  · rw [if_pos c1] at hf
    by_cases c2 : 6 < st.deep + 1
    · rw [if_pos c2] at hf
      simp only [Option.some.injEq, Prod.mk.injEq] at hf
      obtain ⟨rfl, rfl⟩ := hf
      exact nest_deep_atom w0 w g s st h c1 c2
    · rw [if_neg c2] at hf
      obtain ⟨⟨y, st1⟩, hr, hf⟩ := Option.bind_eq_some_iff.1 hf
      by_cases c3 : 1 ≤ st1.deep
      · simp only [] at hf
        rw [if_pos c3] at hf
        simp only [Option.some.injEq, Prod.mk.injEq] at hf
        obtain ⟨rfl, rfl⟩ := hf
        exact nest_on_atom w0 w g s st st1 y h c1 c2 (fun w1 h1 => hF w0 w1 g (deeper st) st1 y h1 hr) c3
      · simp only [] at hf
        rw [if_neg c3] at hf; cases hf
  · rw [if_neg c1] at hf; cases hf
theorem box_cells {W : World} {b : Nat} {a0 a1 a2 a3 : Value} (h : W.heap[b]? = some (.cells #[a0, a1, a2, a3] 26 (0, 0))) :
    W.cell? ⟨b, 0, none⟩ = some a0 ∧ W.cell? ⟨b, 1, none⟩ = some a1 ∧ W.cell? ⟨b, 2, none⟩ = some a2 ∧ W.cell? ⟨b, 3, none⟩ = some a3 ∧ ∀ j, W.frozen? ⟨b, j, none⟩ = false :=
  ⟨(blk_cell h 0).trans rfl, (blk_cell h 1).trans rfl, (blk_cell h 2).trans rfl, (blk_cell h 3).trans rfl, blk_frozen h⟩
theorem BelowBut.at_ {g : Nat} {w w' : World} (h : BelowBut g w w') {b : Nat} {o : Obj} (hb : w.heap[b]? = some o) (hg : b ≠ g) : w'.heap[b]? = some o := (h.block b (blk_lt hb) hg).trans hb
set_option maxHeartbeats 4000000 in
set_option maxRecDepth 100000 in
theorem inner_step (k : Nat) (s : ByteArray) (hA : FnOK 36 s (fun st => anyF k s st)) : FnOK 109 s (fun st => innerF (k + 1) s st) := by
  intro w0 w g st st' x h hf
  simp only [innerF] at hf
  obtain ⟨⟨y, st1⟩, hr, hf⟩ := Option.bind_eq_some_iff.1 hf
  simp only at hf
  have HS := Aside0.mk h
  have hlt := h.lt
  have hne : ¬ (g = w.heap.size) := by omega
  have hne' : ¬ (w.heap.size = g) := by omega
  have hu := Tryd.underlying26
  have HR := Aside0.mk hr
  have HA := Aside0.mk hA
  clear h hr hA
  have start : ∀ (Q : Ending → World → Prop), (∀ e w2, NP w0 (w.alloc (.cells #[.int .i64 0, .int .i64 0, .slice none 0 0, .slice none 0 0] 26)) g s y st1 e w2 → Q e w2) → Calls Tryd.prog 36 #[.pointer (some ⟨g, 0, none⟩)] (w.alloc (.cells #[.int .i64 0, .int .i64 0, .slice none 0 0, .slice none 0 0] 26)) Q :=
    fun Q hQ => (HA.out w0 _ g st st1 y (HS.out.alloc _) HR.out).mono hQ
  have START := Aside0.mk start
  clear start
  by_cases c1 : (peekF s st1).1 = 41
  · rw [if_pos c1] at hf
    by_cases c2 : (peekF s st1).2.at_ + 1 ≤ s.size
    · rw [if_pos c2] at hf
      simp only [Option.some.injEq, Prod.mk.injEq] at hf
      obtain ⟨rfl, rfl⟩ := hf
      have b1 : ((peekF s st1).1 == 41) = true := by simpa using c1
      go_enter Tryd.func109, Tryd.ntmps109
      go_wp2_with fail
      refine START.out _ ?_
      rintro e w2 ⟨A2, c2', A3, c3', rfl, hN, hrs, hbb⟩
      have HRS := Aside0.mk hrs
      have HBB := Aside0.mk hbb
      have HN := Aside0.mk hN
      have hz2 : w.heap.size < w2.heap.size := by have := hbb.size; simp at this; omega
      have hlt2 := hrs.lt
      clear hrs hbb hN
      go_wp2_with fail
      refine (peek_calls w0 _ g s st1 (HRS.out.alloc _)).mono ?_
      rintro e w3 ⟨rfl, hrs3, hbb3⟩
      have HRS3 := Aside0.mk hrs3
      have HBB3 := Aside0.mk hbb3
      have HBOX : Aside0 (w3.heap[w.heap.size]? = some (.cells #[.int .i64 0, .int .i64 0, .slice none 0 0, .slice none 0 0] 26 (0, 0))) := ⟨hbb3.at_ (blk_alloc (HBB.out.at_ (blk_new w _) hne') _) hne'⟩
      have HBY : Aside0 (w3.heap[w2.heap.size]? = some (.cells #[.int .i64 y.f0, .int .i64 y.f1, .slice A2 y.f2.length c2', .slice A3 y.f3.length c3'] 26 (0, 0))) := ⟨hbb3.at_ (blk_new w2 _) (by omega)⟩
      have HLY := Aside0.mk (show w2.heap.size < w3.heap.size from blk_lt HBY.out)
      obtain ⟨q0, q1, q2, q3, qz⟩ := box_cells HBOX.out
      obtain ⟨p0, p1, p2, p3, pz⟩ := box_cells HBY.out
      have hlt3 := hrs3.lt
      clear hrs3 hbb3
      have hc1 := HRS3.out.c1
      have hfr := HRS3.out.fr 1
      have hsz := HRS3.out.sz
      go_wp2
      refine bodyPost_ret (results_cell_row rfl _ _ w.heap.size 26 _ (0, 0) _ rfl (putN_blk (blk_far HBOX.out (p := ⟨g, 1, none⟩) hne' _) _ _ _ _) hu rfl (by kernel_rfl)) rfl ⟨A2, c2', A3, c3', rfl, ?_, ?_, ?_⟩
      · exact (((((HN.out.then_ (below_alloc (Below.refl _ _) _)).but HBB3.out (by simp; omega)).set (p := ⟨g, 1, none⟩) (by simp; omega) _).putN (b := w.heap.size) (by simp) _ _ _ _)).from_ (by simp)
      · exact ((HRS3.out.at ((peekF s st1).2.at_ + 1) c2 _ (by simp)).putN hne HS.out.below.size _ _ _ _)
      · exact (((((((BelowBut.refl g w).alloc _).trans HBB.out).alloc _).trans HBB3.out).set 1 _).putN (Nat.le_refl _) _ _ _ _)
    · rw [if_neg c2] at hf; cases hf
  · rw [if_neg c1] at hf
    simp only [Option.some.injEq, Prod.mk.injEq] at hf
    obtain ⟨rfl, rfl⟩ := hf
    have b1 : ((peekF s st1).1 == 41) = false := by simpa using c1
    go_enter Tryd.func109, Tryd.ntmps109
    go_wp2_with fail
    refine START.out _ ?_
    rintro e w2 ⟨A2, c2', A3, c3', rfl, hN, hrs, hbb⟩
    have HRS := Aside0.mk hrs
    have HBB := Aside0.mk hbb
    have HN := Aside0.mk hN
    have hz2 : w.heap.size < w2.heap.size := by have := hbb.size; simp at this; omega
    have hlt2 := hrs.lt
    clear hrs hbb hN
    go_wp2_with fail
    refine (peek_calls w0 _ g s st1 (HRS.out.alloc _)).mono ?_
    rintro e w3 ⟨rfl, hrs3, hbb3⟩
    have HRS3 := Aside0.mk hrs3
    have HBB3 := Aside0.mk hbb3
    have HBOX : Aside0 (w3.heap[w.heap.size]? = some (.cells #[.int .i64 0, .int .i64 0, .slice none 0 0, .slice none 0 0] 26 (0, 0))) := ⟨hbb3.at_ (blk_alloc (HBB.out.at_ (blk_new w _) hne') _) hne'⟩
    have HBY : Aside0 (w3.heap[w2.heap.size]? = some (.cells #[.int .i64 y.f0, .int .i64 y.f1, .slice A2 y.f2.length c2', .slice A3 y.f3.length c3'] 26 (0, 0))) := ⟨hbb3.at_ (blk_new w2 _) (by omega)⟩
    have HLY := Aside0.mk (show w2.heap.size < w3.heap.size from blk_lt HBY.out)
    obtain ⟨q0, q1, q2, q3, qz⟩ := box_cells HBOX.out
    obtain ⟨p0, p1, p2, p3, pz⟩ := box_cells HBY.out
    have hlt3 := hrs3.lt
    clear hrs3 hbb3
    go_wp2_with fail
    refine (fail_calls w0 _ g s _ 13 HRS3.out).mono ?_
    rintro e w4 ⟨rfl, hrs4, hbb4⟩
    have HRS4 := Aside0.mk hrs4
    have HBB4 := Aside0.mk hbb4
    have HBOX4 := Aside0.mk (hbb4.at_ HBOX.out hne')
    clear q0 q1 q2 q3 qz p0 p1 p2 p3 pz hrs4 hbb4
    obtain ⟨q0, q1, q2, q3, qz⟩ := box_cells HBOX4.out
    go_wp2
    refine bodyPost_ret (results_cell_row rfl _ _ w.heap.size 26 _ (0, 0) _ rfl (putN_blk HBOX4.out _ _ _ _) hu rfl (by kernel_rfl)) rfl ⟨none, 0, none, 0, rfl, ?_, ?_, ?_⟩
    · exact NodeAt.zero _ _
    · exact HRS4.out.putN hne HS.out.below.size _ _ _ _
    · exact (((((((BelowBut.refl g w).alloc _).trans HBB.out).alloc _).trans HBB3.out).trans HBB4.out).putN (Nat.le_refl _) _ _ _ _)
set_option maxHeartbeats 4000000 in
set_option maxRecDepth 100000 in
theorem unary_step (k : Nat) (s : ByteArray) (hU : FnOK 85 s (fun st => unaryF k s st)) (hA : FnOK 97 s (fun st => atomF k s st)) : FnOK 85 s (fun st => unaryF (k + 1) s st) := by
  intro w0 w g st st' x h hf
  simp only [unaryF] at hf
  have HS := Aside0.mk h
  have hlt := h.lt
  have hne : ¬ (g = w.heap.size) := by omega
  have hne' : ¬ (w.heap.size = g) := by omega
  have hu := Tryd.underlying26
  have HU := Aside0.mk hU
  have HA := Aside0.mk hA
  have start : ∀ (Q : Ending → World → Prop), (∀ w2, RS w0 w2 g s (peekF s st).2 → BelowBut g (w.alloc (.cells #[.int .i64 0, .int .i64 0, .slice none 0 0, .slice none 0 0] 26)) w2 → Q (.returned (.int .i64 (peekF s st).1)) w2) → Calls Tryd.prog 37 #[.pointer (some ⟨g, 0, none⟩)] (w.alloc (.cells #[.int .i64 0, .int .i64 0, .slice none 0 0, .slice none 0 0] 26)) Q :=
    fun Q hQ => (peek_calls w0 _ g s st (h.alloc _)).mono (fun e w2 hh => by obtain ⟨rfl, h1, h2⟩ := hh; exact hQ w2 h1 h2)
  have START := Aside0.mk start
  clear h hU hA start
  obtain ⟨st2, hst2⟩ : ∃ q, q = (peekF s st).2 := ⟨_, rfl⟩
  rw [← hst2] at hf
  have HST2 := Aside0.mk hst2
  clear hst2
  cases ht : (takeF s st2 45).1 with
  | true =>
    rw [ht, if_pos rfl] at hf
    obtain ⟨⟨y, st1⟩, hr, hf⟩ := Option.bind_eq_some_iff.1 hf
    simp only [Option.some.injEq, Prod.mk.injEq] at hf
    obtain ⟨rfl, rfl⟩ := hf
    have HR := Aside0.mk hr
    clear hr
    go_enter Tryd.func85, Tryd.ntmps85
    go_wp2_with fail
    refine START.out _ ?_
    intro w2 hrs hbb
    rw [← HST2.out] at hrs
    have HRS := Aside0.mk hrs
    have HBB := Aside0.mk hbb
    have hlt2 := hrs.lt
    clear hrs hbb
    go_wp2_with fail
    refine (take_calls w0 w2 g s st2 45 HRS.out).mono ?_
    rintro e w3 ⟨rfl, hrs3, hbb3⟩
    have HRS3 := Aside0.mk hrs3
    have HBB3 := Aside0.mk hbb3
    have HBOX : Aside0 (w3.heap[w.heap.size]? = some (.cells #[.int .i64 0, .int .i64 0, .slice none 0 0, .slice none 0 0] 26 (0, 0))) := ⟨hbb3.at_ (HBB.out.at_ (blk_new w _) hne') hne'⟩
    clear hrs3 hbb3
    go_wp2_with fail
    refine (nest_unary s _ HU.out w0 w3 g _ st1 y HRS3.out HR.out).mono ?_
    rintro e w4 ⟨A2, c2', A3, c3', rfl, hN, hrs4, hbb4⟩
    have HRS4 := Aside0.mk hrs4
    have HBB4 := Aside0.mk hbb4
    have HN := Aside0.mk hN
    have HBOX4 := Aside0.mk (hbb4.at_ HBOX.out hne')
    obtain ⟨q0, q1, q2, q3, qz⟩ := box_cells HBOX4.out
    have hz4 : w.heap.size < w4.heap.size := blk_lt HBOX4.out
    have hz3 := Aside0.mk (blk_lt HBOX.out)
    clear hrs4 hbb4 hN
    go_wp2
    refine bodyPost_ret (results_cell_row rfl _ _ w.heap.size 26 _ (0, 0) _ rfl (blk_alloc (blk_alloc (putN_blk HBOX4.out _ _ _ _) _) _) hu rfl (by kernel_rfl)) rfl ⟨none, 0, some ⟨w4.heap.size + 1, 0, none⟩, 1, rfl, ?_, ?_, ?_⟩
    · have hp := ((HN.out.putN (b := w.heap.size) hz3.out (.int .i64 7) (.int .i64 0) (.slice none 0 0) (.slice (some ⟨w4.heap.size + 1, 0, none⟩) 1 1)).then_ (below_alloc (Below.refl _ _) (.cells #[.int .i64 y.f0, .int .i64 y.f1, .slice A2 y.f2.length c2', .slice A3 y.f3.length c3'] 26)))
      have h1 := N_one (base := w.heap.size) (e := 26) (ok := fun k => w.heap.size ≤ k) hp (fun k hk => Nat.le_trans (Nat.le_of_lt hz3.out) hk) (by simp; omega) (by simp; omega)
      have h2 : Kd.F k26 _ (fun k => w.heap.size ≤ k) (some ⟨w4.heap.size + 1, 0, none⟩) 1 [y] := Kd.N_F (by have h3 := h1; simp only [World.size_alloc, World.size_setCell] at h3; exact h3)
      exact k26_mkF _ (fun k => w.heap.size ≤ k) ⟨7, 0, [], [y]⟩ (A2 := none) (c2 := 0) (Nat.le_refl _) (Kd.F_nil _ _ _) (Nat.le_refl _) h2
    · exact ((HRS4.out.putN hne HS.out.below.size _ _ _ _).alloc _).alloc _
    · exact ((((((((BelowBut.refl g w).alloc _).trans HBB.out).trans HBB3.out).trans HBB4.out).putN (Nat.le_refl _) _ _ _ _).alloc _).alloc _)
  | false =>
    rw [ht, if_neg (by simp)] at hf
    have HR := Aside0.mk hf
    have HT2 := Aside0.mk (takeF_false s st2 45 ht)
    clear hf
    go_enter Tryd.func85, Tryd.ntmps85
    go_wp2_with fail
    refine START.out _ ?_
    intro w2 hrs hbb
    rw [← HST2.out] at hrs
    have HRS := Aside0.mk hrs
    have HBB := Aside0.mk hbb
    have hlt2 := hrs.lt
    clear hrs hbb
    go_wp2_with fail
    refine (take_calls w0 w2 g s st2 45 HRS.out).mono ?_
    rintro e w3 ⟨rfl, hrs3, hbb3⟩
    have HRS3 := Aside0.mk hrs3
    have HBB3 := Aside0.mk hbb3
    have HBOX : Aside0 (w3.heap[w.heap.size]? = some (.cells #[.int .i64 0, .int .i64 0, .slice none 0 0, .slice none 0 0] 26 (0, 0))) := ⟨hbb3.at_ (HBB.out.at_ (blk_new w _) hne') hne'⟩
    clear hrs3 hbb3
    go_wp2_with fail
    refine (HA.out w0 w3 g _ st' x HRS3.out HR.out).mono ?_
    rintro e w4 ⟨A2, c2', A3, c3', rfl, hN, hrs4, hbb4⟩
    have HRS4 := Aside0.mk hrs4
    have HBB4 := Aside0.mk hbb4
    have HN := Aside0.mk hN
    have HBOX4 := Aside0.mk (hbb4.at_ HBOX.out hne')
    obtain ⟨q0, q1, q2, q3, qz⟩ := box_cells HBOX4.out
    have hz3 := Aside0.mk (blk_lt HBOX.out)
    clear hrs4 hbb4 hN
    go_wp2
    refine bodyPost_ret (results_cell_row rfl _ _ w.heap.size 26 _ (0, 0) _ rfl (putN_blk HBOX4.out _ _ _ _) hu rfl (by kernel_rfl)) rfl ⟨A2, c2', A3, c3', rfl, ?_, ?_, ?_⟩
    · exact (HN.out.putN (b := w.heap.size) hz3.out _ _ _ _).from_ (Nat.le_of_lt hz3.out)
    · exact HRS4.out.putN hne HS.out.below.size _ _ _ _
    · exact ((((((BelowBut.refl g w).alloc _).trans HBB.out).trans HBB3.out).trans HBB4.out).putN (Nat.le_refl _) _ _ _ _)
theorem bytes_nil_t (a : ByteArray) (h : a.size = 0) : a.toList.isEmpty = true := by
  rw [ByteArray.toList_eq]
  exact List.isEmpty_iff.2 (List.eq_nil_of_length_eq_zero (show a.data.toList.length = 0 from h))
theorem bytes_nil_f (a : ByteArray) (h : ¬ a.size = 0) : a.toList.isEmpty = false := by
  rw [ByteArray.toList_eq]
  cases hb : a.data.toList with
  | nil => exact absurd (show a.data.toList.length = 0 by rw [hb]; rfl) h
  | cons _ _ => rfl
theorem prefix_calls (k : Nat) (s : ByteArray) (x : S26) (w : World) (hG : GL w) (h : parse_prefix.f k s = some (x.f0, x.f1, x.f2, x.f3)) :
    Calls Tryd.prog 112 #[.string s] w fun e w' => ∃ A2 c2 A3 c3, e = .returned (.agg #[.int .i64 x.f0, .int .i64 x.f1, .slice A2 x.f2.length c2, .slice A3 x.f3.length c3]) ∧ NodeAt w' w.heap.size x A2 c2 A3 c3 ∧ Below w.heap.size w w' := by
  refine (parse_prefix.calls k s x.f0 x.f1 x.f2 x.f3 w hG h).mono ?_
  rintro e w' ⟨v2, v3, rfl, h2, h3, hb⟩
  have hM := Kd.FK_mono (Kd.FK_of_M (k26.M_bound (k26_mkM w' w.heap.size (fun _ => True) x h2 (Kd.R_mono h3 (fun _ _ => trivial))))) (ok' := fun k => w.heap.size ≤ k) (fun k hk => hk.2.1)
  obtain ⟨A2, c2, rfl⟩ := Kd.R_slice h2
  obtain ⟨A3, c3, rfl⟩ := Kd.R_slice h3
  exact ⟨A2, c2, A3, c3, rfl, hM, hb⟩
set_option maxHeartbeats 8000000 in
set_option maxRecDepth 100000 in
theorem atom_step (k : Nat) (s : ByteArray) (hI : FnOK 109 s (fun st => innerF k s st)) (hA : FnOK 97 s (fun st => atomF k s st)) : FnOK 97 s (fun st => atomF (k + 1) s st) := by
  intro w0 w g st st' x h hf
  simp only [atomF] at hf
  have HS := Aside0.mk h
  have hlt := h.lt
  have hne : ¬ (g = w.heap.size) := by omega
  have hne' : ¬ (w.heap.size = g) := by omega
  have hu := Tryd.underlying26
  have HI := Aside0.mk hI
  have HAT := Aside0.mk hA
  have start : ∀ (Q : Ending → World → Prop), (∀ w2, RS w0 w2 g s (peekF s st).2 → BelowBut g (w.alloc (.cells #[.int .i64 0, .int .i64 0, .slice none 0 0, .slice none 0 0] 26)) w2 → Q (.returned (.int .i64 (peekF s st).1)) w2) → Calls Tryd.prog 37 #[.pointer (some ⟨g, 0, none⟩)] (w.alloc (.cells #[.int .i64 0, .int .i64 0, .slice none 0 0, .slice none 0 0] 26)) Q :=
    fun Q hQ => (peek_calls w0 _ g s st (h.alloc _)).mono (fun e w2 hh => by obtain ⟨rfl, h1, h2⟩ := hh; exact hQ w2 h1 h2)
  have START := Aside0.mk start
  clear h hI hA start
  obtain ⟨st2, hst2⟩ : ∃ q, q = (peekF s st).2 := ⟨_, rfl⟩
  rw [← hst2] at hf
  have HST2 := Aside0.mk hst2
  clear hst2
  cases t40 : (takeF s st2 40).1 with
  | true =>
    rw [t40, if_pos rfl] at hf
    have HR := Aside0.mk hf
    clear hf
    go_enter Tryd.func97, Tryd.ntmps97
    go_wp2_with fail
    refine START.out _ ?_
    intro w2 hrs hbb
    rw [← HST2.out] at hrs
    have HRS2 := Aside0.mk hrs
    have HBB2 := Aside0.mk hbb
    have hlt2 := hrs.lt
    have HBOX2 : Aside0 (w2.heap[w.heap.size]? = some (.cells #[.int .i64 0, .int .i64 0, .slice none 0 0, .slice none 0 0] 26 (0, 0))) := ⟨hbb.at_ (blk_new w _) hne'⟩
    clear hrs hbb
    go_wp2_with fail
    refine (take_calls w0 w2 g s st2 40 HRS2.out).mono ?_
    rintro e w3 ⟨rfl, hrs, hbb⟩
    skip
    have HRS3 := Aside0.mk hrs
    have HBB3 := Aside0.mk hbb
    have HBOX3 := Aside0.mk (hbb.at_ HBOX2.out hne')
    clear hrs hbb
    go_wp2_with fail
    refine (nest_inner s _ HI.out w0 w3 g _ st' x HRS3.out HR.out).mono ?_
    rintro e w4 ⟨A2, c2', A3, c3', rfl, hN, hrs, hbb⟩
    have HRS4 := Aside0.mk hrs
    have HBB4 := Aside0.mk hbb
    have HN := Aside0.mk hN
    have HBOX4 := Aside0.mk (hbb.at_ HBOX3.out hne')
    have HZ := Aside0.mk (blk_lt HBOX3.out)
    obtain ⟨q0, q1, q2, q3, qz⟩ := box_cells HBOX4.out
    clear hN hrs hbb
    go_wp2
    refine bodyPost_ret (results_cell_row rfl _ _ w.heap.size 26 _ (0, 0) _ rfl (putN_blk HBOX4.out _ _ _ _) hu rfl (by kernel_rfl)) rfl ⟨A2, c2', A3, c3', rfl, ?_, ?_, ?_⟩
    · exact (HN.out.putN (b := w.heap.size) HZ.out _ _ _ _).from_ (Nat.le_of_lt HZ.out)
    · exact HRS4.out.putN hne HS.out.below.size _ _ _ _
    · exact (((((BelowBut.refl g w).alloc _).trans HBB2.out).trans HBB3.out).trans HBB4.out).putN (Nat.le_refl _) _ _ _ _
  | false =>
    rw [t40, if_neg (by simp)] at hf
    have ht := takeF_false s st2 40 t40
    rw [ht] at hf
    have HT40 := Aside0.mk ht
    clear ht
    cases t34 : (takeF s st2 34).1 with
    | true =>
      rw [t34, if_pos rfl] at hf
      have HR := Aside0.mk hf
      clear hf
      go_enter Tryd.func97, Tryd.ntmps97
      go_wp2_with fail
      refine START.out _ ?_
      intro w2 hrs hbb
      rw [← HST2.out] at hrs
      have HRS2 := Aside0.mk hrs
      have HBB2 := Aside0.mk hbb
      have hlt2 := hrs.lt
      have HBOX2 : Aside0 (w2.heap[w.heap.size]? = some (.cells #[.int .i64 0, .int .i64 0, .slice none 0 0, .slice none 0 0] 26 (0, 0))) := ⟨hbb.at_ (blk_new w _) hne'⟩
      clear hrs hbb
      go_wp2_with fail
      refine (take_calls w0 w2 g s st2 40 HRS2.out).mono ?_
      rintro e w3 ⟨rfl, hrs, hbb⟩
      rw [HT40.out] at hrs
      have HRS3 := Aside0.mk hrs
      have HBB3 := Aside0.mk hbb
      have HBOX3 := Aside0.mk (hbb.at_ HBOX2.out hne')
      clear hrs hbb
      go_wp2_with fail
      refine (take_calls w0 w3 g s st2 34 HRS3.out).mono ?_
      rintro e w4 ⟨rfl, hrs, hbb⟩
      skip
      have HRS4 := Aside0.mk hrs
      have HBB4 := Aside0.mk hbb
      have HBOX4 := Aside0.mk (hbb.at_ HBOX3.out hne')
      clear hrs hbb
      go_wp2_with fail
      refine (phrase_calls k w0 w4 g s _ st' x HRS4.out HR.out).mono ?_
      rintro e w5 ⟨A2, c2', A3, c3', rfl, hN, hrs, hbb⟩
      have HRS5 := Aside0.mk hrs
      have HBB5 := Aside0.mk hbb
      have HN := Aside0.mk hN
      have HBOX5 := Aside0.mk (hbb.at_ HBOX4.out hne')
      have HZ := Aside0.mk (blk_lt HBOX4.out)
      obtain ⟨q0, q1, q2, q3, qz⟩ := box_cells HBOX5.out
      clear hN hrs hbb
      go_wp2
      refine bodyPost_ret (results_cell_row rfl _ _ w.heap.size 26 _ (0, 0) _ rfl (putN_blk HBOX5.out _ _ _ _) hu rfl (by kernel_rfl)) rfl ⟨A2, c2', A3, c3', rfl, ?_, ?_, ?_⟩
      · exact (HN.out.putN (b := w.heap.size) HZ.out _ _ _ _).from_ (Nat.le_of_lt HZ.out)
      · exact HRS5.out.putN hne HS.out.below.size _ _ _ _
      · exact ((((((BelowBut.refl g w).alloc _).trans HBB2.out).trans HBB3.out).trans HBB4.out).trans HBB5.out).putN (Nat.le_refl _) _ _ _ _
    | false =>
      rw [t34, if_neg (by simp)] at hf
      have ht := takeF_false s st2 34 t34
      have HT34 := Aside0.mk ht
      clear ht
      obtain ⟨j, hj, hf⟩ := Option.bind_eq_some_iff.1 hf
      have HJ := Aside0.mk hj
      obtain ⟨wd, hwd⟩ : ∃ q, q = s.extract st2.at_ j := ⟨_, rfl⟩
      rw [← hwd] at hf
      have HWD := Aside0.mk hwd
      clear hj hwd
      by_cases c0 : wd.size = 0
      · rw [if_pos c0] at hf
        simp only [Option.some.injEq, Prod.mk.injEq] at hf
        obtain ⟨rfl, rfl⟩ := hf
        have b0 : wd.toList.isEmpty = true := bytes_nil_t wd c0
        clear c0
        go_enter Tryd.func97, Tryd.ntmps97
        go_wp2_with fail
        refine START.out _ ?_
        intro w2 hrs hbb
        rw [← HST2.out] at hrs
        have HRS2 := Aside0.mk hrs
        have HBB2 := Aside0.mk hbb
        have hlt2 := hrs.lt
        have HBOX2 : Aside0 (w2.heap[w.heap.size]? = some (.cells #[.int .i64 0, .int .i64 0, .slice none 0 0, .slice none 0 0] 26 (0, 0))) := ⟨hbb.at_ (blk_new w _) hne'⟩
        clear hrs hbb
        go_wp2_with fail
        refine (take_calls w0 w2 g s st2 40 HRS2.out).mono ?_
        rintro e w3 ⟨rfl, hrs, hbb⟩
        rw [HT40.out] at hrs
        have HRS3 := Aside0.mk hrs
        have HBB3 := Aside0.mk hbb
        have HBOX3 := Aside0.mk (hbb.at_ HBOX2.out hne')
        clear hrs hbb
        go_wp2_with fail
        refine (take_calls w0 w3 g s st2 34 HRS3.out).mono ?_
        rintro e w4 ⟨rfl, hrs, hbb⟩
        rw [HT34.out] at hrs
        have HRS4 := Aside0.mk hrs
        have HBB4 := Aside0.mk hbb
        have HBOX4 := Aside0.mk (hbb.at_ HBOX3.out hne')
        clear hrs hbb
        go_wp2_with fail
        refine (word_calls k w0 w4 g s st2 j HRS4.out HJ.out).mono ?_
        rintro e w5 ⟨rfl, hrs, hbb⟩
        have HRS5 := Aside0.mk (show RS w0 w5 g s (wordTo st2 j) from hrs)
        have HBB5 := Aside0.mk hbb
        have HBOX5 := Aside0.mk (hbb.at_ HBOX4.out hne')
        clear hrs hbb
        rw [← HWD.out]
        go_wp2_with fail
        refine (fail_calls w0 _ g s _ 13 HRS5.out).mono ?_
        rintro e w6 ⟨rfl, hrs, hbb⟩
        have HRS6 := Aside0.mk hrs
        have HBB6 := Aside0.mk hbb
        have HBOX6 := Aside0.mk (hbb.at_ HBOX5.out hne')
        obtain ⟨q0, q1, q2, q3, qz⟩ := box_cells HBOX6.out
        clear hrs hbb
        go_wp2
        refine bodyPost_ret (results_cell_row rfl _ _ w.heap.size 26 _ (0, 0) _ rfl (putN_blk HBOX6.out _ _ _ _) hu rfl (by kernel_rfl)) rfl ⟨none, 0, none, 0, rfl, ?_, ?_, ?_⟩
        · exact NodeAt.zero _ _
        · exact HRS6.out.putN hne HS.out.below.size _ _ _ _
        · exact (((((((BelowBut.refl g w).alloc _).trans HBB2.out).trans HBB3.out).trans HBB4.out).trans HBB5.out).trans HBB6.out).putN (Nat.le_refl _) _ _ _ _
      · rw [if_neg c0] at hf
        have b0 : wd.toList.isEmpty = false := bytes_nil_f wd c0
        clear c0
        cases t42 : (takeF s (wordTo st2 j) 42).1 with
        | true =>
          rw [t42, if_pos rfl] at hf
          obtain ⟨⟨r1, r2, r3, r4⟩, hr, hf⟩ := Option.bind_eq_some_iff.1 hf
          simp only [Option.some.injEq, Prod.mk.injEq] at hf
          obtain ⟨rfl, rfl⟩ := hf
          have HR := Aside0.mk hr
          clear hr
          go_enter Tryd.func97, Tryd.ntmps97
          go_wp2_with fail
          refine START.out _ ?_
          intro w2 hrs hbb
          rw [← HST2.out] at hrs
          have HRS2 := Aside0.mk hrs
          have HBB2 := Aside0.mk hbb
          have hlt2 := hrs.lt
          have HBOX2 : Aside0 (w2.heap[w.heap.size]? = some (.cells #[.int .i64 0, .int .i64 0, .slice none 0 0, .slice none 0 0] 26 (0, 0))) := ⟨hbb.at_ (blk_new w _) hne'⟩
          clear hrs hbb
          go_wp2_with fail
          refine (take_calls w0 w2 g s st2 40 HRS2.out).mono ?_
          rintro e w3 ⟨rfl, hrs, hbb⟩
          rw [HT40.out] at hrs
          have HRS3 := Aside0.mk hrs
          have HBB3 := Aside0.mk hbb
          have HBOX3 := Aside0.mk (hbb.at_ HBOX2.out hne')
          clear hrs hbb
          go_wp2_with fail
          refine (take_calls w0 w3 g s st2 34 HRS3.out).mono ?_
          rintro e w4 ⟨rfl, hrs, hbb⟩
          rw [HT34.out] at hrs
          have HRS4 := Aside0.mk hrs
          have HBB4 := Aside0.mk hbb
          have HBOX4 := Aside0.mk (hbb.at_ HBOX3.out hne')
          clear hrs hbb
          go_wp2_with fail
          refine (word_calls k w0 w4 g s st2 j HRS4.out HJ.out).mono ?_
          rintro e w5 ⟨rfl, hrs, hbb⟩
          have HRS5 := Aside0.mk (show RS w0 w5 g s (wordTo st2 j) from hrs)
          have HBB5 := Aside0.mk hbb
          have HBOX5 := Aside0.mk (hbb.at_ HBOX4.out hne')
          clear hrs hbb
          rw [← HWD.out]
          go_wp2_with fail
          refine (take_calls w0 w5 g s (wordTo st2 j) 42 HRS5.out).mono ?_
          rintro e w6 ⟨rfl, hrs, hbb⟩
          skip
          have HRS6 := Aside0.mk hrs
          have HBB6 := Aside0.mk hbb
          have HBOX6 := Aside0.mk (hbb.at_ HBOX5.out hne')
          clear hrs hbb
          go_wp2_with fail
          refine (prefix_calls k wd ⟨r1, r2, r3, r4⟩ w6 HRS6.out.glw HR.out).mono ?_
          rintro e w7 ⟨A2, c2', A3, c3', rfl, hN, hb⟩
          have HRS7 := Aside0.mk (HRS6.out.then_ hb)
          have HBB7 := Aside0.mk (BelowBut.below (g := g) hb)
          have HN := Aside0.mk hN
          have HBOX7 := Aside0.mk (blk_below HBOX6.out hb)
          have HZ := Aside0.mk (blk_lt HBOX6.out)
          obtain ⟨q0, q1, q2, q3, qz⟩ := box_cells HBOX7.out
          clear hN hb
          go_wp2
          refine bodyPost_ret (results_cell_row rfl _ _ w.heap.size 26 _ (0, 0) _ rfl (putN_blk HBOX7.out _ _ _ _) hu rfl (by kernel_rfl)) rfl ⟨A2, c2', A3, c3', rfl, ?_, ?_, ?_⟩
          · exact (HN.out.putN (b := w.heap.size) HZ.out _ _ _ _).from_ (Nat.le_of_lt HZ.out)
          · exact HRS7.out.putN hne HS.out.below.size _ _ _ _
          · exact ((((((((BelowBut.refl g w).alloc _).trans HBB2.out).trans HBB3.out).trans HBB4.out).trans HBB5.out).trans HBB6.out).trans HBB7.out).putN (Nat.le_refl _) _ _ _ _
        | false =>
          rw [t42, if_neg (by simp)] at hf
          have ht := takeF_false s _ 42 t42
          rw [ht] at hf
          have HT42 := Aside0.mk ht
          clear ht
          cases t58 : (takeF s (wordTo st2 j) 58).1 with
          | true =>
            rw [t58, if_pos rfl] at hf
            obtain ⟨f, hfi, hf⟩ := Option.bind_eq_some_iff.1 hf
            have HFI := Aside0.mk hfi
            clear hfi
            by_cases cf : f = 0
            · rw [if_pos cf] at hf
              simp only [Option.some.injEq, Prod.mk.injEq] at hf
              obtain ⟨rfl, rfl⟩ := hf
              have bf : (f == 0) = true := by simpa using cf
              clear cf
              go_enter Tryd.func97, Tryd.ntmps97
              go_wp2_with fail
              refine START.out _ ?_
              intro w2 hrs hbb
              rw [← HST2.out] at hrs
              have HRS2 := Aside0.mk hrs
              have HBB2 := Aside0.mk hbb
              have hlt2 := hrs.lt
              have HBOX2 : Aside0 (w2.heap[w.heap.size]? = some (.cells #[.int .i64 0, .int .i64 0, .slice none 0 0, .slice none 0 0] 26 (0, 0))) := ⟨hbb.at_ (blk_new w _) hne'⟩
              clear hrs hbb
              go_wp2_with fail
              refine (take_calls w0 w2 g s st2 40 HRS2.out).mono ?_
              rintro e w3 ⟨rfl, hrs, hbb⟩
              rw [HT40.out] at hrs
              have HRS3 := Aside0.mk hrs
              have HBB3 := Aside0.mk hbb
              have HBOX3 := Aside0.mk (hbb.at_ HBOX2.out hne')
              clear hrs hbb
              go_wp2_with fail
              refine (take_calls w0 w3 g s st2 34 HRS3.out).mono ?_
              rintro e w4 ⟨rfl, hrs, hbb⟩
              rw [HT34.out] at hrs
              have HRS4 := Aside0.mk hrs
              have HBB4 := Aside0.mk hbb
              have HBOX4 := Aside0.mk (hbb.at_ HBOX3.out hne')
              clear hrs hbb
              go_wp2_with fail
              refine (word_calls k w0 w4 g s st2 j HRS4.out HJ.out).mono ?_
              rintro e w5 ⟨rfl, hrs, hbb⟩
              have HRS5 := Aside0.mk (show RS w0 w5 g s (wordTo st2 j) from hrs)
              have HBB5 := Aside0.mk hbb
              have HBOX5 := Aside0.mk (hbb.at_ HBOX4.out hne')
              clear hrs hbb
              rw [← HWD.out]
              go_wp2_with fail
              refine (take_calls w0 w5 g s (wordTo st2 j) 42 HRS5.out).mono ?_
              rintro e w6 ⟨rfl, hrs, hbb⟩
              rw [HT42.out] at hrs
              have HRS6 := Aside0.mk hrs
              have HBB6 := Aside0.mk hbb
              have HBOX6 := Aside0.mk (hbb.at_ HBOX5.out hne')
              clear hrs hbb
              go_wp2_with fail
              refine (take_calls w0 w6 g s (wordTo st2 j) 58 HRS6.out).mono ?_
              rintro e w7 ⟨rfl, hrs, hbb⟩
              skip
              have HRS7 := Aside0.mk hrs
              have HBB7 := Aside0.mk hbb
              have HBOX7 := Aside0.mk (hbb.at_ HBOX6.out hne')
              clear hrs hbb
              go_wp2_with fail
              refine (parse_Field.calls k wd f w7 HFI.out).mono ?_
              rintro e w8 ⟨rfl, hb⟩
              have HRS8 := Aside0.mk (HRS7.out.then_ hb)
              have HBB8 := Aside0.mk (BelowBut.below (g := g) hb)
              have HBOX8 := Aside0.mk (blk_below HBOX7.out hb)
              clear hb
              go_wp2_with fail
              refine (fail_calls w0 _ g s _ 13 HRS8.out).mono ?_
              rintro e w9 ⟨rfl, hrs, hbb⟩
              have HRS9 := Aside0.mk hrs
              have HBB9 := Aside0.mk hbb
              have HBOX9 := Aside0.mk (hbb.at_ HBOX8.out hne')
              obtain ⟨q0, q1, q2, q3, qz⟩ := box_cells HBOX9.out
              clear hrs hbb
              go_wp2
              refine bodyPost_ret (results_cell_row rfl _ _ w.heap.size 26 _ (0, 0) _ rfl (putN_blk HBOX9.out _ _ _ _) hu rfl (by kernel_rfl)) rfl ⟨none, 0, none, 0, rfl, ?_, ?_, ?_⟩
              · exact NodeAt.zero _ _
              · exact HRS9.out.putN hne HS.out.below.size _ _ _ _
              · exact ((((((((((BelowBut.refl g w).alloc _).trans HBB2.out).trans HBB3.out).trans HBB4.out).trans HBB5.out).trans HBB6.out).trans HBB7.out).trans HBB8.out).trans HBB9.out).putN (Nat.le_refl _) _ _ _ _
            · rw [if_neg cf] at hf
              obtain ⟨⟨y, sty⟩, hr, hf⟩ := Option.bind_eq_some_iff.1 hf
              simp only at hf
              by_cases cm : maxKids y ≤ 1000000
              · rw [if_pos cm] at hf
                simp only [Option.some.injEq, Prod.mk.injEq] at hf
                obtain ⟨rfl, rfl⟩ := hf
                have HMK := Aside0.mk cm
                have HR := Aside0.mk hr
                have bf : (f == 0) = false := by simpa using cf
                clear cf cm hr
                go_enter Tryd.func97, Tryd.ntmps97
                go_wp2_with fail
                refine START.out _ ?_
                intro w2 hrs hbb
                rw [← HST2.out] at hrs
                have HRS2 := Aside0.mk hrs
                have HBB2 := Aside0.mk hbb
                have hlt2 := hrs.lt
                have HBOX2 : Aside0 (w2.heap[w.heap.size]? = some (.cells #[.int .i64 0, .int .i64 0, .slice none 0 0, .slice none 0 0] 26 (0, 0))) := ⟨hbb.at_ (blk_new w _) hne'⟩
                clear hrs hbb
                go_wp2_with fail
                refine (take_calls w0 w2 g s st2 40 HRS2.out).mono ?_
                rintro e w3 ⟨rfl, hrs, hbb⟩
                rw [HT40.out] at hrs
                have HRS3 := Aside0.mk hrs
                have HBB3 := Aside0.mk hbb
                have HBOX3 := Aside0.mk (hbb.at_ HBOX2.out hne')
                clear hrs hbb
                go_wp2_with fail
                refine (take_calls w0 w3 g s st2 34 HRS3.out).mono ?_
                rintro e w4 ⟨rfl, hrs, hbb⟩
                rw [HT34.out] at hrs
                have HRS4 := Aside0.mk hrs
                have HBB4 := Aside0.mk hbb
                have HBOX4 := Aside0.mk (hbb.at_ HBOX3.out hne')
                clear hrs hbb
                go_wp2_with fail
                refine (word_calls k w0 w4 g s st2 j HRS4.out HJ.out).mono ?_
                rintro e w5 ⟨rfl, hrs, hbb⟩
                have HRS5 := Aside0.mk (show RS w0 w5 g s (wordTo st2 j) from hrs)
                have HBB5 := Aside0.mk hbb
                have HBOX5 := Aside0.mk (hbb.at_ HBOX4.out hne')
                clear hrs hbb
                rw [← HWD.out]
                go_wp2_with fail
                refine (take_calls w0 w5 g s (wordTo st2 j) 42 HRS5.out).mono ?_
                rintro e w6 ⟨rfl, hrs, hbb⟩
                rw [HT42.out] at hrs
                have HRS6 := Aside0.mk hrs
                have HBB6 := Aside0.mk hbb
                have HBOX6 := Aside0.mk (hbb.at_ HBOX5.out hne')
                clear hrs hbb
                go_wp2_with fail
                refine (take_calls w0 w6 g s (wordTo st2 j) 58 HRS6.out).mono ?_
                rintro e w7 ⟨rfl, hrs, hbb⟩
                skip
                have HRS7 := Aside0.mk hrs
                have HBB7 := Aside0.mk hbb
                have HBOX7 := Aside0.mk (hbb.at_ HBOX6.out hne')
                clear hrs hbb
                go_wp2_with fail
                refine (parse_Field.calls k wd f w7 HFI.out).mono ?_
                rintro e w8 ⟨rfl, hb⟩
                have HRS8 := Aside0.mk (HRS7.out.then_ hb)
                have HBB8 := Aside0.mk (BelowBut.below (g := g) hb)
                have HBOX8 := Aside0.mk (blk_below HBOX7.out hb)
                clear hb
                go_wp2_with fail
                refine (nest_atom s _ HAT.out w0 w8 g _ sty y HRS8.out HR.out).mono ?_
                rintro e w9 ⟨A2, c2', A3, c3', rfl, hN, hrs, hbb⟩
                have HRS9 := Aside0.mk hrs
                have HBB9 := Aside0.mk hbb
                have HN9 := Aside0.mk hN
                have HBOX9 := Aside0.mk (hbb.at_ HBOX8.out hne')
                have HZ8 := Aside0.mk (blk_lt HBOX8.out)
                clear hN hrs hbb
                go_wp2_with fail
                refine (within_calls f y w9 _ A2 c2' A3 c3' HN9.out HMK.out).mono ?_
                rintro e w10 ⟨B2, d2, B3, d3, rfl, hN, hb⟩
                have HN := Aside0.mk hN
                have HRS10 := Aside0.mk (HRS9.out.then_ hb)
                have HBB10 := Aside0.mk (BelowBut.below (g := g) hb)
                have HBOX10 := Aside0.mk (blk_below HBOX9.out hb)
                obtain ⟨q0, q1, q2, q3, qz⟩ := box_cells HBOX10.out
                have HZ : Aside0 (w.heap.size < w8.heap.size) := HZ8
                have HS9 := Aside0.mk HBB9.out.size
                have HN := Aside0.mk (show NodeAt w10 w8.heap.size (withinF f y) B2 d2 B3 d3 from Kd.FK_mono HN.out (fun k hk => by rcases hk with hk | hk; exact hk.1; exact Nat.le_trans HS9.out hk))
                clear hN hb
                go_wp2
                refine bodyPost_ret (results_cell_row rfl _ _ w.heap.size 26 _ (0, 0) _ rfl (putN_blk HBOX10.out _ _ _ _) hu rfl (by kernel_rfl)) rfl ⟨B2, d2, B3, d3, rfl, ?_, ?_, ?_⟩
                · exact (HN.out.putN (b := w.heap.size) HZ.out _ _ _ _).from_ (Nat.le_of_lt HZ.out)
                · exact HRS10.out.putN hne HS.out.below.size _ _ _ _
                · exact (((((((((((BelowBut.refl g w).alloc _).trans HBB2.out).trans HBB3.out).trans HBB4.out).trans HBB5.out).trans HBB6.out).trans HBB7.out).trans HBB8.out).trans HBB9.out).trans HBB10.out).putN (Nat.le_refl _) _ _ _ _
              · rw [if_neg cm] at hf; cases hf
          | false =>
            rw [t58, if_neg (by simp)] at hf
            have ht := takeF_false s _ 58 t58
            have HT58 := Aside0.mk ht
            clear ht
            obtain ⟨l, hl, hf⟩ := Option.bind_eq_some_iff.1 hf
            obtain ⟨⟨r1, r2, r3, r4⟩, hr, hf⟩ := Option.bind_eq_some_iff.1 hf
            simp only [Option.some.injEq, Prod.mk.injEq] at hf
            obtain ⟨rfl, rfl⟩ := hf
            have HL := Aside0.mk hl
            have HR := Aside0.mk hr
            clear hl hr
            go_enter Tryd.func97, Tryd.ntmps97
            go_wp2_with fail
            refine START.out _ ?_
            intro w2 hrs hbb
            rw [← HST2.out] at hrs
            have HRS2 := Aside0.mk hrs
            have HBB2 := Aside0.mk hbb
            have hlt2 := hrs.lt
            have HBOX2 : Aside0 (w2.heap[w.heap.size]? = some (.cells #[.int .i64 0, .int .i64 0, .slice none 0 0, .slice none 0 0] 26 (0, 0))) := ⟨hbb.at_ (blk_new w _) hne'⟩
            clear hrs hbb
            go_wp2_with fail
            refine (take_calls w0 w2 g s st2 40 HRS2.out).mono ?_
            rintro e w3 ⟨rfl, hrs, hbb⟩
            rw [HT40.out] at hrs
            have HRS3 := Aside0.mk hrs
            have HBB3 := Aside0.mk hbb
            have HBOX3 := Aside0.mk (hbb.at_ HBOX2.out hne')
            clear hrs hbb
            go_wp2_with fail
            refine (take_calls w0 w3 g s st2 34 HRS3.out).mono ?_
            rintro e w4 ⟨rfl, hrs, hbb⟩
            rw [HT34.out] at hrs
            have HRS4 := Aside0.mk hrs
            have HBB4 := Aside0.mk hbb
            have HBOX4 := Aside0.mk (hbb.at_ HBOX3.out hne')
            clear hrs hbb
            go_wp2_with fail
            refine (word_calls k w0 w4 g s st2 j HRS4.out HJ.out).mono ?_
            rintro e w5 ⟨rfl, hrs, hbb⟩
            have HRS5 := Aside0.mk (show RS w0 w5 g s (wordTo st2 j) from hrs)
            have HBB5 := Aside0.mk hbb
            have HBOX5 := Aside0.mk (hbb.at_ HBOX4.out hne')
            clear hrs hbb
            rw [← HWD.out]
            go_wp2_with fail
            refine (take_calls w0 w5 g s (wordTo st2 j) 42 HRS5.out).mono ?_
            rintro e w6 ⟨rfl, hrs, hbb⟩
            rw [HT42.out] at hrs
            have HRS6 := Aside0.mk hrs
            have HBB6 := Aside0.mk hbb
            have HBOX6 := Aside0.mk (hbb.at_ HBOX5.out hne')
            clear hrs hbb
            go_wp2_with fail
            refine (take_calls w0 w6 g s (wordTo st2 j) 58 HRS6.out).mono ?_
            rintro e w7 ⟨rfl, hrs, hbb⟩
            rw [HT58.out] at hrs
            have HRS7 := Aside0.mk hrs
            have HBB7 := Aside0.mk hbb
            have HBOX7 := Aside0.mk (hbb.at_ HBOX6.out hne')
            clear hrs hbb
            go_wp2_with fail
            refine (text_calls k wd l w7 HRS7.out.glw HL.out).mono ?_
            rintro e w8 ⟨A, c, rfl, hlc, hC, hb⟩
            have HRS8 := Aside0.mk (HRS7.out.then_ hb)
            have HBB8 := Aside0.mk (BelowBut.below (g := g) hb)
            have HBOX8 := Aside0.mk (blk_below HBOX7.out hb)
            have HC := Aside0.mk hC
            have HLC := Aside0.mk hlc
            clear hb hC hlc
            go_wp2_with fail
            refine (leaf_calls k A c l ⟨r1, r2, r3, r4⟩ w8 HC.out HLC.out HR.out).mono ?_
            rintro e w9 ⟨A2, c2', A3, c3', rfl, hN, hb⟩
            have HRS9 := Aside0.mk (HRS8.out.then_ hb)
            have HBB9 := Aside0.mk (BelowBut.below (g := g) hb)
            have HBOX9 := Aside0.mk (blk_below HBOX8.out hb)
            have HN := Aside0.mk hN
            have HZ := Aside0.mk (blk_lt HBOX8.out)
            obtain ⟨q0, q1, q2, q3, qz⟩ := box_cells HBOX9.out
            clear hN hb
            go_wp2
            refine bodyPost_ret (results_cell_row rfl _ _ w.heap.size 26 _ (0, 0) _ rfl (putN_blk HBOX9.out _ _ _ _) hu rfl (by kernel_rfl)) rfl ⟨A2, c2', A3, c3', rfl, ?_, ?_, ?_⟩
            · exact (HN.out.putN (b := w.heap.size) HZ.out _ _ _ _).from_ (Nat.le_of_lt HZ.out)
            · exact HRS9.out.putN hne HS.out.below.size _ _ _ _
            · exact ((((((((((BelowBut.refl g w).alloc _).trans HBB2.out).trans HBB3.out).trans HBB4.out).trans HBB5.out).trans HBB6.out).trans HBB7.out).trans HBB8.out).trans HBB9.out).putN (Nat.le_refl _) _ _ _ _
end Go.Proofs.YtcgkmomhjincgaaDoor.Lib.Scr
