/- Proved: ParseEnds: whatever the text, the law scholialaw22.ParseEnds answers true. Conditions: none but those of the given card (what the tables of package level hold is tied to the text of the program). -/
import Derived.Test.YtcgkmomhjincgaaDoorNLib0
import Derived.Test.YtcgkmomhjincgaaDoorNRd
import Derived.Test.YtcgkmomhjincgaaDoorRows
import Derived.Test.YtcgkmomhjincgaaDoorCards
import Derived.Test.YtcgkmomhjincgaaDoorTie
import Derived.ProofKit
import Derived.OpenShut
import Derived.ShutString
import Derived.ChangeOld
import Derived.Below
import Derived.SizedLaws
import Derived.WalkKit
import Derived.LaidMore
import Derived.Lay
import Derived.SevenTiedAt
import Derived.Stop.Joined
namespace Go.Proofs.YtcgkmomhjincgaaDoor.Lib.Scr
open Go.RowKit Go.Proofs.YtcgkmomhjincgaaDoor.Lib Go.Proofs.YtcgkmomhjincgaaDoorW.PrintWords Go.Proofs.YtcgkmomhjincgaaDoorW.PrintLast Go.Proofs.YtcgkmomhjincgaaDoorW.PrintMore
set_option linter.unusedVariables false
set_option linter.unusedSimpArgs false
attribute [local go_sem] max2_int min2_int max_two min_two max_three min_three max_four min_four
open Go.ChangeShapes Go.WideShapes Go.ChangeAt
theorem tab_cells {α : Type} (c : Nat) (f : α → List Value) : ∀ (tab : List α) (cs : List Value), cs.length = tab.length * c → (∀ (i : Nat) (h : i < tab.length), (cs.drop (i * c)).take c = f (tab[i]'h)) → cs = tab.flatMap f
  | [], cs, hl, _ => by
    have : cs.length = 0 := by simpa using hl
    exact List.eq_nil_of_length_eq_zero this
  | a :: t, cs, hl, hi => by
    have h0 := hi 0 (by simp)
    rw [Nat.zero_mul, List.drop_zero] at h0
    have ht := tab_cells c f t (cs.drop c) (by rw [List.length_drop, hl, List.length_cons, Nat.add_mul]; omega) (fun i h => by
      have := hi (i + 1) (by simpa using h)
      rw [List.drop_drop]
      rw [show (i + 1) * c = c + i * c by rw [Nat.add_mul]; omega] at this
      simpa using this)
    rw [List.flatMap_cons, ← ht, ← show cs.take c = f a from h0, List.take_append_drop]
theorem var_cells {P : Program} {W : World} {n : String} {g : Nat} {cs : Array Value} (hg : P.globalNamed n = some g) (hv : W.var? P n = some cs) : ∃ t fr, W.heap[g]? = some (.cells cs t fr) := by
  unfold World.var? at hv
  rw [hg] at hv
  simp only [Option.bind_some] at hv
  split at hv
  · rename_i c t fr he
    cases hv
    exact ⟨t, fr, he⟩
  · cases hv
theorem rows_dat : (Rows.laid_scholia_fold_rows : DataW Unit) = .agg (rowsTab.map fun t => .agg [.lit (.int .i64 t.1), .lit (.int .i64 t.2.1), .lit (.int .i64 t.2.2.1), .lit (.int .i64 t.2.2.2)]) := by kernel_rfl
theorem rows_cells : rowsCells.toList = rowsTab.flatMap fun t => [.int .i64 t.1, .int .i64 t.2.1, .int .i64 t.2.2.1, .int .i64 t.2.2.2] := by kernel_rfl
theorem short_dat : (Rows.laid_scholia_stem_short : DataW Unit) = .agg (shortTab.map fun t => .lit (.string t.data.toList)) := by kernel_rfl
theorem short_cells : shortCells.toList = shortTab.flatMap fun t => [.string t] := by kernel_rfl
theorem ends_dat : (Rows.laid_scholia_stem_ends : DataW Unit) = .agg (endsTab.map fun t => .agg [.lit (.string t.1.data.toList), .lit (.string t.2.data.toList)]) := by kernel_rfl
theorem ends_cells : endsCells.toList = endsTab.flatMap fun t => [.string t.1, .string t.2] := by kernel_rfl
theorem c3 : Tryd.prog.cellsOf 3 = 1 := by kernel_rfl
theorem c9 : Tryd.prog.cellsOf 9 = 1 := by kernel_rfl
theorem c167 : Tryd.prog.cellsOf 167 = 16 := by kernel_rfl
theorem c177 : Tryd.prog.cellsOf 177 = 2 := by kernel_rfl
theorem c178 : Tryd.prog.cellsOf 178 = 14 := by kernel_rfl
theorem c180 : Tryd.prog.cellsOf 180 = 4 := by kernel_rfl
theorem c181 : Tryd.prog.cellsOf 181 = 52 := by kernel_rfl
theorem bytes_of {a b : ByteArray} (h : a.data.toList = b.data.toList) : a = b := by
  cases a with
  | mk d => cases b with
    | mk e => congr; exact Array.toList_inj.1 h
theorem len4 {α : Type} (l : List α) (h : l.length = 4) : ∃ a b c d, l = [a, b, c, d] := by
  match l, h with
  | [a, b, c, d], _ => exact ⟨a, b, c, d, rfl⟩
theorem len2 {α : Type} (l : List α) (h : l.length = 2) : ∃ a b, l = [a, b] := by
  match l, h with
  | [a, b], _ => exact ⟨a, b, rfl⟩
theorem row_of {w : World} {fuel : Nat} {cs : List Value} {x : DataW Unit × List MemPlace} {a b c d : Int} (h : DataW.trod (fun _ => ()) Tryd.prog w 0 (fun _ => true) false fuel 180 cs = some x) (hx : x.1 = .agg [.lit (.int .i64 a), .lit (.int .i64 b), .lit (.int .i64 c), .lit (.int .i64 d)]) :
    cs = [.int .i64 a, .int .i64 b, .int .i64 c, .int .i64 d] := by
  obtain ⟨xs, n, _, rfl, hl, hlen, hf⟩ := DataW.trod_struct Tryd.underlying180 h
  rw [c180] at hl
  obtain ⟨v0, v1, v2, v3, rfl⟩ := len4 cs hl
  obtain ⟨x0, x1, x2, x3, rfl⟩ := len4 xs hlen
  have k0 : DataW.trod (fun _ => ()) Tryd.prog w 0 (fun _ => true) false n 3 ((([v0, v1, v2, v3] : List Value).drop 0).take (Tryd.prog.cellsOf 3)) = some x0 := hf 0 _ rfl
  have k1 : DataW.trod (fun _ => ()) Tryd.prog w 0 (fun _ => true) false n 3 ((([v0, v1, v2, v3] : List Value).drop 1).take (Tryd.prog.cellsOf 3)) = some x1 := hf 1 _ rfl
  have k2 : DataW.trod (fun _ => ()) Tryd.prog w 0 (fun _ => true) false n 3 ((([v0, v1, v2, v3] : List Value).drop 2).take (Tryd.prog.cellsOf 3)) = some x2 := hf 2 _ rfl
  have k3 : DataW.trod (fun _ => ()) Tryd.prog w 0 (fun _ => true) false n 3 ((([v0, v1, v2, v3] : List Value).drop 3).take (Tryd.prog.cellsOf 3)) = some x3 := hf 3 _ rfl
  rw [c3] at k0 k1 k2 k3
  obtain ⟨z0, a0, b0, _⟩ := DataW.trod_int Tryd.underlying3 k0
  obtain ⟨z1, a1, b1, _⟩ := DataW.trod_int Tryd.underlying3 k1
  obtain ⟨z2, a2, b2, _⟩ := DataW.trod_int Tryd.underlying3 k2
  obtain ⟨z3, a3, b3, _⟩ := DataW.trod_int Tryd.underlying3 k3
  subst b0; subst b1; subst b2; subst b3
  simp at a0 a1 a2 a3 hx
  obtain ⟨rfl, rfl, rfl, rfl⟩ := hx
  rw [a0, a1, a2, a3]
theorem end_of {w : World} {fuel : Nat} {cs : List Value} {x : DataW Unit × List MemPlace} {a b : ByteArray} (h : DataW.trod (fun _ => ()) Tryd.prog w 0 (fun _ => true) false fuel 177 cs = some x) (hx : x.1 = .agg [.lit (.string a.data.toList), .lit (.string b.data.toList)]) :
    cs = [.string a, .string b] := by
  obtain ⟨xs, n, _, rfl, hl, hlen, hf⟩ := DataW.trod_struct Tryd.underlying177 h
  rw [c177] at hl
  obtain ⟨v0, v1, rfl⟩ := len2 cs hl
  obtain ⟨x0, x1, rfl⟩ := len2 xs hlen
  have k0 : DataW.trod (fun _ => ()) Tryd.prog w 0 (fun _ => true) false n 9 ((([v0, v1] : List Value).drop 0).take (Tryd.prog.cellsOf 9)) = some x0 := hf 0 _ rfl
  have k1 : DataW.trod (fun _ => ()) Tryd.prog w 0 (fun _ => true) false n 9 ((([v0, v1] : List Value).drop 1).take (Tryd.prog.cellsOf 9)) = some x1 := hf 1 _ rfl
  rw [c9] at k0 k1
  obtain ⟨z0, a0, b0, _⟩ := DataW.trod_string Tryd.underlying9 k0
  obtain ⟨z1, a1, b1, _⟩ := DataW.trod_string Tryd.underlying9 k1
  subst b0; subst b1
  simp only [List.map_cons, List.map_nil, DataW.agg.injEq, List.cons.injEq, DataW.lit.injEq, Lit.string.injEq, and_true] at hx
  obtain rfl := bytes_of hx.1
  obtain rfl := bytes_of hx.2
  simp at a0 a1
  rw [a0, a1]
theorem gl_of {W : World} (h : laidMetH Tryd.prog Rows.parseEndsRow.laid W) : GL W := by
  rw [MakeChecks.laidMetH_plain _ _ _ (by kernel_rfl)] at h
  obtain ⟨ps, h, _, _⟩ := h
  obtain ⟨g, t, cs, fuel, p, q, hg, ht, hv, hd, ⟨g2, t2, cs2, fuel2, p2, q2, hg2, ht2, hv2, hd2, ⟨g3, t3, cs3, fuel3, p3, q3, hg3, ht3, hv3, hd3, _, _⟩, _⟩, _⟩ := h
  obtain rfl := Option.some.inj ((show Tryd.prog.globalNamed "scholia/fold.rows" = some 10 by kernel_rfl).symm.trans hg)
  obtain rfl := Option.some.inj ((show (Tryd.prog.globals[10]?).map (·.type) = some 181 by kernel_rfl).symm.trans ht)
  obtain rfl := Option.some.inj ((show Tryd.prog.globalNamed "scholia/stem.short" = some 6 by kernel_rfl).symm.trans hg2)
  obtain rfl := Option.some.inj ((show (Tryd.prog.globals[6]?).map (·.type) = some 167 by kernel_rfl).symm.trans ht2)
  obtain rfl := Option.some.inj ((show Tryd.prog.globalNamed "scholia/stem.ends" = some 9 by kernel_rfl).symm.trans hg3)
  obtain rfl := Option.some.inj ((show (Tryd.prog.globals[9]?).map (·.type) = some 178 by kernel_rfl).symm.trans ht3)
  refine ⟨?_, ?_, ?_⟩
  · obtain ⟨t, fr, he⟩ := var_cells hg hv
    obtain ⟨xs, m, _, ex, hlen, hl, hel⟩ := DataW.trod_array Tryd.underlying181 hd
    rw [rows_dat] at ex
    have e3 := DataW.agg.inj (Prod.mk.inj ex).1
    have hc : cs.toList = rowsCells.toList := by
      rw [rows_cells]
      refine tab_cells 4 _ rowsTab cs.toList (by rw [hlen, c181]; rfl) (fun i hi => ?_)
      have hi13 : i < 13 := hi
      have k := hel i hi13
      rw [c180, List.getElem?_eq_getElem (by omega)] at k
      refine row_of k ?_
      have e4 : (xs.map (·.1))[i]? = (rowsTab.map fun t => (DataW.agg [.lit (.int .i64 t.1), .lit (.int .i64 t.2.1), .lit (.int .i64 t.2.2.1), .lit (.int .i64 t.2.2.2)] : DataW Unit))[i]? := by rw [e3]
      rw [List.getElem?_map, List.getElem?_map, List.getElem?_eq_getElem (by omega : i < xs.length), List.getElem?_eq_getElem hi] at e4
      exact Option.some.inj e4
    exact ⟨t, fr, by rw [he, Array.toList_inj.1 hc]⟩
  · obtain ⟨t, fr, he⟩ := var_cells hg2 hv2
    obtain ⟨xs, m, _, ex, hlen, hl, hel⟩ := DataW.trod_array Tryd.underlying167 hd2
    rw [short_dat] at ex
    have e3 := DataW.agg.inj (Prod.mk.inj ex).1
    have hc : cs2.toList = shortCells.toList := by
      rw [short_cells]
      refine tab_cells 1 _ shortTab cs2.toList (by rw [hlen, c167]; rfl) (fun i hi => ?_)
      have hi13 : i < 16 := hi
      have k := hel i hi13
      rw [c9, List.getElem?_eq_getElem (by omega)] at k
      obtain ⟨z, a0, b0, _⟩ := DataW.trod_string Tryd.underlying9 k
      have e4 : (xs.map (·.1))[i]? = (shortTab.map fun t => (DataW.lit (.string t.data.toList) : DataW Unit))[i]? := by rw [e3]
      rw [List.getElem?_map, List.getElem?_map, List.getElem?_eq_getElem (by omega : i < xs.length), List.getElem?_eq_getElem hi, b0] at e4
      simp only [Option.map_some, Option.some.injEq, DataW.lit.injEq, Lit.string.injEq] at e4
      rw [a0, bytes_of e4]
    exact ⟨t, fr, by rw [he, Array.toList_inj.1 hc]⟩
  · obtain ⟨t, fr, he⟩ := var_cells hg3 hv3
    obtain ⟨xs, m, _, ex, hlen, hl, hel⟩ := DataW.trod_array Tryd.underlying178 hd3
    rw [ends_dat] at ex
    have e3 := DataW.agg.inj (Prod.mk.inj ex).1
    have hc : cs3.toList = endsCells.toList := by
      rw [ends_cells]
      refine tab_cells 2 _ endsTab cs3.toList (by rw [hlen, c178]; rfl) (fun i hi => ?_)
      have hi13 : i < 7 := hi
      have k := hel i hi13
      rw [c177, List.getElem?_eq_getElem (by omega)] at k
      refine end_of k ?_
      have e4 : (xs.map (·.1))[i]? = (endsTab.map fun t => (DataW.agg [.lit (.string t.1.data.toList), .lit (.string t.2.data.toList)] : DataW Unit))[i]? := by rw [e3]
      rw [List.getElem?_map, List.getElem?_map, List.getElem?_eq_getElem (by omega : i < xs.length), List.getElem?_eq_getElem hi] at e4
      exact Option.some.inj e4
    exact ⟨t, fr, by rw [he, Array.toList_inj.1 hc]⟩
open Go.ChangeShapes Go.WideShapes Go.ChangeAt Go.ChangeMaps
theorem parseEnds_calls (s : ByteArray) (w : World) (hG : GL w) : Calls Tryd.prog 3 #[.string s] w fun e w' => e = .returned (.bool true) ∧ Below w.heap.size w w' := by
  by_cases c : 4096 < s.size
  · exact ends_long s w hG c
  · obtain ⟨x, er, hf, h⟩ := parse_total s 1660 (by omega)
    rcases h with ⟨rfl, hF⟩ | ⟨he, rfl⟩
    · obtain ⟨K, hK⟩ := fine_all 15 x hF
      exact ends_ok 1660 K s w x hG c hf (hK K (Nat.le_refl _) 0 (by omega))
    · exact ends_bad 1660 2 s w zN er hG c hf he (same_zero 2 (Nat.le_refl _))
theorem own : ownKnob Tryd.prog.godebug = none := by kernel_rfl
set_option maxRecDepth 100000 in
theorem ends_lifted (os : Os) (started : os.Started) (H : Type) (enc : TypeId × Value → H) :
    ReturnsInHanded {} Tryd.checked os 3 .any (fun w args => (Rows.parseEndsSpec.pre enc Tryd.prog Tryd.f3 Rows.parseEndsRow.domain false w args ∧ laidMetH Tryd.prog Rows.parseEndsRow.laid w) ∧ sizedMet enc Tryd.prog Tryd.f3 (OpenSpec.ofChange Rows.parseEndsSpec) false w args)
      (Rows.parseEndsSpec.post enc Tryd.prog Tryd.f3 false true false false) := by
  refine returnsInHanded_of_change_and (C := Tryd.checked) (X := fun w _ => laidMetH Tryd.prog Rows.parseEndsRow.laid w) (fun _ _ _ hh h => h.of_heap hh) own started (by kernel_rfl) Tryd.func3
    (ChangeSpec.witness_shaped (enc := enc) (C := Tryd.checked) (os := os) (X := fun w _ => laidMetH Tryd.prog Rows.parseEndsRow.laid w) false (World.laidAll Tryd.prog os Rows.parseEndsRow.laid) #[.string ByteArray.empty] 8 (World.laidAll_os _ _ _)
      (World.shaped_of_ZipB (by kernel_rfl) (by kernel_rfl)) (by kernel_rfl) (by kernel_rfl) (by kernel_rfl)
      (by rw [MakeChecks.laidMetH_plain _ _ _ (by kernel_rfl)]; exact laidMet_laidAll _ (by kernel_rfl) (by kernel_rfl))) ?_
  intro W base args ds gs before hval0 hW hc _ hL _
  have hval : ∀ (j : Nat) t v, Tryd.f3.params[j]? = some t → args[j]? = some v → Value.okWide Tryd.prog W .any base t v := hval0
  have hW' := hW
  obtain ⟨p, q, hA0, hV, rfl, _, _⟩ := hW
  have hA : DataW.TrodAll enc Tryd.prog W 0 (fun _ => true) true Tryd.f3.params.toList args.toList ds p := hA0
  rw [Tryd.params3] at hA hval
  obtain ⟨v0, d0, rfl, rfl, h0⟩ := trodAll_one hA
  obtain ⟨rfl, rfl⟩ := trodVars_none hV
  obtain ⟨a0, rfl, rfl, rfl, y0⟩ := open_string Tryd.underlying9 (hval 0 9 v0 rfl rfl) h0
  refine (parseEnds_calls a0 W (gl_of hL)).mono fun e W' ⟨he, bel⟩ => ?_
  subst he
  exact ⟨_, rfl, _, _, _, [], _, [], hW', trodAll_mk1 (shut_bool Tryd.underlying4 _), trodAll_mk1 (shut_string Tryd.underlying9 y0), rfl, bel.frame _, fun h => by cases h⟩
theorem ends_holds : Rows.ParseEndsSaid :=
  OpenClaim.holds_of_wide 3 Tryd.f3 rfl rfl rfl rfl rfl rfl rfl ⟨rfl, rfl, rfl, rfl, rfl⟩ rfl rfl rfl rfl rfl (by kernel_rfl) Tryd.func3 (by kernel_rfl)
    (of_decide_eq_true (by kernel_rfl)) (by unfold Func.isWrapper; first | (rw [if_pos (by decide +kernel)]; kernel_rfl) | (rw [if_neg (by decide +kernel)]; exact ⟨rfl, rfl⟩))
    (fun os started H enc _ => ends_lifted os started H enc)
theorem parseEnds_card : Rows.ParseEndsCardSaid :=
  Claim7.holds_tied_plain_at .later [] [.data, .data, .data] true (true, "4639ac278c7bcf710fa1c2773640cf42c3d06fa9e7e3ad51cbc76ce6e75a525e") true ends_holds (fun _ h => by cases h) (by kernel_rfl) (fun _ h => by cases h) parseEnds_row_tie rfl ⟨rfl, rfl⟩ (by kernel_rfl) rfl
    (fun f fn hf hfn => by
      obtain rfl : f = 3 := Option.some.inj ((show Tryd.prog.funcNamed "scholia/scholialaw22.ParseEnds" = some 3 by kernel_rfl).symm.trans hf) |>.symm
      obtain rfl : fn = Tryd.f3 := (Option.some.inj (Tryd.func3.symm.trans hfn)).symm
      exact ⟨by kernel_rfl, fun j t ht => by
        rw [Tryd.params3] at ht
        have hm : t ∈ [9] := by simpa using Array.mem_of_getElem? ht
        have hall : ([9].all fun u => !Tryd.prog.wantsStandIn u) = true := by kernel_rfl
        exact (show Tryd.prog.wantsStandIn t = false by simpa using List.all_eq_true.1 hall t hm)⟩)
    (by kernel_rfl)
#print axioms parseEnds_card
end Go.Proofs.YtcgkmomhjincgaaDoor.Lib.Scr
