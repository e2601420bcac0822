/- Proved: ParseNodes: whatever two nodes, the law scholialaw22.ParseNodes answers true. Conditions: none but those of the given card (what the tables of package level hold is tied to the text of the program). -/
import Derived.Test.YtcgkmomhjincgaaDoorNLib0
import Derived.Test.YtcgkmomhjincgaaDoorNRe
import Derived.Test.YtcgkmomhjincgaaDoorNSd
import Derived.Test.YtcgkmomhjincgaaDoorRows
import Derived.Test.YtcgkmomhjincgaaDoorCards
import Derived.Test.YtcgkmomhjincgaaDoorTie
import Derived.ProofKit
import Derived.OpenShut
import Derived.ShutString
import Derived.ChangeOld
import Derived.Below
import Derived.SizedLaws
import Derived.WalkKit
import Derived.LaidMore
import Derived.Lay
import Derived.SevenTiedAt
import Derived.Stop.Joined
import Derived.Carry
namespace Go.Proofs.YtcgkmomhjincgaaDoor.Lib.Scr
open Go.RowKit Go.Proofs.YtcgkmomhjincgaaDoor.Lib Go.Proofs.YtcgkmomhjincgaaDoorW.PrintWords Go.Proofs.YtcgkmomhjincgaaDoorW.PrintLast Go.Proofs.YtcgkmomhjincgaaDoorW.PrintMore
set_option linter.unusedVariables false
set_option linter.unusedSimpArgs false
attribute [local go_sem] max2_int min2_int max_two min_two max_three min_three max_four min_four
open Go.ChangeShapes Go.WideShapes Go.ChangeAt Go.ChangeMaps
theorem add_addN (a : Addr) (m n : Nat) : (a.add m).add n = a.add (m + n) := by
  unfold Addr.add
  by_cases h1 : m = 0
  · subst h1; simp
  · by_cases h2 : n = 0
    · subst h2; simp [h1]
    · rw [if_neg h1, if_neg h2, if_neg (by omega)]
      simp [Nat.add_assoc]
theorem rows_of {α H : Type} {enc : TypeId × Value → H} {P : Program} {w : World} {sp : Nat → Bool} {held : Bool} (d : Kd α) {e t : TypeId} (ht : P.underlying t = some (.slice e)) (hc : P.cellsOf e = d.sz) {fuel : Nat}
    (open1 : ∀ n, n < fuel → ∀ (cs : List Value) (y : DataW H × List MemPlace), DataW.trod enc P w 0 sp held n e cs = some y → ∃ x, d.K w x cs) {cs : List Value} {y : DataW H × List MemPlace} (h : DataW.trod enc P w 0 sp held fuel t cs = some y) :
    ∃ (xs : List α) (A : Option Addr) (c : Nat), cs = [.slice A xs.length c] ∧ xs.length ≤ c ∧ d.C w A xs.length xs := by
  rcases DataW.trod_slice ht h with ⟨rfl, _⟩ | ⟨a, len, cap, elems, rest, n, hn, rfl, _, _, hl, hm, hlen, hel, _, _⟩
  · exact ⟨[], none, 0, rfl, Nat.le_refl _, Kd.C_nil _ _⟩
  · have each : ∀ i : Fin len, ∃ (x : α) (c : List Value), c.length = d.sz ∧ d.K w x c ∧ ∀ j u, c[j]? = some u → w.cell? (a.add (i.1 * d.sz + j)) = some u := by
      intro i
      have hi := hel i.1 i.2
      rw [List.getElem?_eq_getElem (by omega)] at hi
      obtain ⟨c, hcs, hy⟩ := Option.bind_eq_some_iff.1 hi
      obtain ⟨x, hx⟩ := open1 n (by omega) c _ hy
      obtain ⟨_, hcl, hcell⟩ := World.cells?_some hcs
      rw [hc] at hcl hcell
      refine ⟨x, c, hcl, hx, fun j u hj => ?_⟩
      have hjl : j < d.sz := by
        have := (List.getElem?_eq_some_iff.1 hj).1
        omega
      have := hcell j hjl
      rw [add_addN] at this
      rw [this, hj]
    have hz : (List.ofFn fun i => Classical.choose (each i)).length = len := by simp
    refine ⟨List.ofFn fun i => Classical.choose (each i), some a, cap, by rw [hz], by rw [hz]; exact hl, ?_⟩
    rw [hz]
    refine ⟨hz, ?_, fun _ => ⟨a, rfl, fun j p hj => ?_⟩⟩
    · have : maxLen ≤ 9223372036854775807 := by decide
      omega
    · have hjl : j < len := by
        have := (List.getElem?_eq_some_iff.1 hj).1
        omega
      have e : p = Classical.choose (each ⟨j, hjl⟩) := by
        rw [List.getElem?_ofFn] at hj
        simp only [hjl, dif_pos] at hj
        exact (Option.some.inj hj).symm
      subst e
      exact Classical.choose_spec (each ⟨j, hjl⟩)
theorem n26 : Tryd.prog.cellsOf 26 = 4 := by kernel_rfl
theorem n57 : Tryd.prog.cellsOf 57 = 2 := by kernel_rfl
theorem n3 : Tryd.prog.cellsOf 3 = 1 := by kernel_rfl
theorem n9 : Tryd.prog.cellsOf 9 = 1 := by kernel_rfl
theorem n23 : Tryd.prog.cellsOf 23 = 1 := by kernel_rfl
theorem n24 : Tryd.prog.cellsOf 24 = 1 := by kernel_rfl
theorem li4 {α : Type} (l : List α) (h : l.length = 4) : ∃ a b c d, l = [a, b, c, d] := by
  match l, h with
  | [a, b, c, d], _ => exact ⟨a, b, c, d, rfl⟩
theorem li2 {α : Type} (l : List α) (h : l.length = 2) : ∃ a b, l = [a, b] := by
  match l, h with
  | [a, b], _ => exact ⟨a, b, rfl⟩
section
variable {H : Type} {enc : TypeId × Value → H} {w : World} {sp : Nat → Bool} {held : Bool}
theorem tok_in (fuel : Nat) (cs : List Value) (y : DataW H × List MemPlace) (h : DataW.trod enc Tryd.prog w 0 sp held fuel 57 cs = some y) : ∃ x, k57.K w x cs := by
  obtain ⟨xs, n, _, rfl, hl, hlen, hf⟩ := DataW.trod_struct Tryd.underlying57 h
  rw [n57] at hl
  obtain ⟨v0, v1, rfl⟩ := li2 cs hl
  obtain ⟨x0, x1, rfl⟩ := li2 xs hlen
  have k0 : DataW.trod enc Tryd.prog w 0 sp held n 9 ((([v0, v1] : List Value).drop 0).take (Tryd.prog.cellsOf 9)) = some x0 := hf 0 _ rfl
  have k1 : DataW.trod enc Tryd.prog w 0 sp held n 3 ((([v0, v1] : List Value).drop 1).take (Tryd.prog.cellsOf 3)) = some x1 := hf 1 _ rfl
  rw [n9] at k0
  rw [n3] at k1
  obtain ⟨z0, a0, _⟩ := DataW.trod_string Tryd.underlying9 k0
  obtain ⟨z1, a1, _⟩ := DataW.trod_int Tryd.underlying3 k1
  simp at a0 a1
  rw [a0, a1]
  exact ⟨⟨z0, z1⟩, k57_mk w ⟨z0, z1⟩⟩
theorem node_in : ∀ (fuel : Nat) (cs : List Value) (y : DataW H × List MemPlace), DataW.trod enc Tryd.prog w 0 sp held fuel 26 cs = some y → ∃ x, k26.K w x cs := by
  intro fuel
  induction fuel using Nat.strongRecOn with
  | _ fuel ih =>
  intro cs y h
  obtain ⟨xs, n, hn, rfl, hl, hlen, hf⟩ := DataW.trod_struct Tryd.underlying26 h
  rw [n26] at hl
  obtain ⟨v0, v1, v2, v3, rfl⟩ := li4 cs hl
  obtain ⟨x0, x1, x2, x3, rfl⟩ := li4 xs hlen
  have k0 : DataW.trod enc Tryd.prog w 0 sp held n 3 ((([v0, v1, v2, v3] : List Value).drop 0).take (Tryd.prog.cellsOf 3)) = some x0 := hf 0 _ rfl
  have k1 : DataW.trod enc Tryd.prog w 0 sp held n 3 ((([v0, v1, v2, v3] : List Value).drop 1).take (Tryd.prog.cellsOf 3)) = some x1 := hf 1 _ rfl
  have k2 : DataW.trod enc Tryd.prog w 0 sp held n 23 ((([v0, v1, v2, v3] : List Value).drop 2).take (Tryd.prog.cellsOf 23)) = some x2 := hf 2 _ rfl
  have k3 : DataW.trod enc Tryd.prog w 0 sp held n 24 ((([v0, v1, v2, v3] : List Value).drop 3).take (Tryd.prog.cellsOf 24)) = some x3 := hf 3 _ rfl
  rw [n3] at k0 k1
  rw [n23] at k2
  rw [n24] at k3
  obtain ⟨z0, a0, _⟩ := DataW.trod_int Tryd.underlying3 k0
  obtain ⟨z1, a1, _⟩ := DataW.trod_int Tryd.underlying3 k1
  obtain ⟨ts, A2, c2, a2, l2, g2⟩ := rows_of k57 Tryd.underlying23 n57 (fun n _ cs y h => tok_in n cs y h) k2
  obtain ⟨kids, A3, c3, a3, l3, g3⟩ := rows_of k26 Tryd.underlying24 n26 (fun m hm cs y h => ih m (by omega) cs y h) k3
  simp at a0 a1 a2 a3
  rw [a0, a1, a2, a3]
  exact ⟨⟨z0, z1, ts, kids⟩, k26_mk w ⟨z0, z1, ts, kids⟩ l2 g2 l3 g3⟩
theorem node_arg {v : Value} {d : DataW H} {p : List MemPlace} (h : DataW.Trod enc Tryd.prog w 0 sp held 26 v d p) : ∃ (x : S26) (A2 : Option Addr) (c2 : Nat) (A3 : Option Addr) (c3 : Nat), v = .agg #[.int .i64 x.f0, .int .i64 x.f1, .slice A2 x.f2.length c2, .slice A3 x.f3.length c3] ∧ NodeC w x A2 c2 A3 c3 := by
  obtain ⟨fuel, hf⟩ := h
  obtain ⟨x, hx⟩ := node_in fuel _ _ hf
  obtain ⟨A2, c2, A3, c3, he, l2, g2, l3, g3⟩ := k26_open hx
  refine ⟨x, A2, c2, A3, c3, ?_, g2, l2, g3, l3⟩
  have one : ∀ u : Value, u.cells = #[u] → u = v → False := by
    rintro u hu rfl
    rw [hu] at he
    simp at he
  cases v with
  | agg cs =>
    have e : cs.toList = [.int .i64 x.f0, .int .i64 x.f1, .slice A2 x.f2.length c2, .slice A3 x.f3.length c3] := he
    rw [show cs = cs.toList.toArray by simp, e]
  | _ => exact (one _ rfl rfl).elim
end
theorem ownN : ownKnob Tryd.prog.godebug = none := by kernel_rfl
theorem laidOutN : laidOutB Tryd.prog = true := by kernel_rfl
set_option maxRecDepth 100000 in
theorem nodes_lifted (os : Os) (started : os.Started) (H : Type) (enc : TypeId × Value → H) :
    ReturnsInHanded {} Tryd.checked os 4 .any (fun w args => (Rows.parseNodesSpec.pre enc Tryd.prog Tryd.f4 Rows.parseNodesRow.domain false w args ∧ laidMetH Tryd.prog Rows.parseNodesRow.laid w) ∧ sizedMet enc Tryd.prog Tryd.f4 (OpenSpec.ofChange Rows.parseNodesSpec) false w args)
      (Rows.parseNodesSpec.post enc Tryd.prog Tryd.f4 false true false false) := by
  refine returnsInHanded_of_change_and (C := Tryd.checked) (X := fun w _ => laidMetH Tryd.prog Rows.parseNodesRow.laid w) (fun _ _ _ hh h => h.of_heap hh) ownN started (by kernel_rfl) Tryd.func4
    (ChangeSpec.witness_shaped (enc := enc) (C := Tryd.checked) (os := os) (X := fun w _ => laidMetH Tryd.prog Rows.parseNodesRow.laid w) false (World.laidAll Tryd.prog os Rows.parseNodesRow.laid) #[.agg #[.int .i64 0, .int .i64 0, .slice none 0 0, .slice none 0 0], .agg #[.int .i64 0, .int .i64 0, .slice none 0 0, .slice none 0 0]] 8 (World.laidAll_os _ _ _)
      (World.shaped_of_ZipB (by kernel_rfl) (by kernel_rfl)) (by kernel_rfl) (by kernel_rfl) (by kernel_rfl)
      (by rw [MakeChecks.laidMetH_plain _ _ _ (by kernel_rfl)]; exact laidMet_laidAll _ (by kernel_rfl) (by kernel_rfl))) ?_
  intro W base args ds gs before hval0 hW hc _ hL _
  have hW' := hW
  obtain ⟨p, q, hA0, hV, rfl, _, _⟩ := hW
  have hA : DataW.TrodAll enc Tryd.prog W 0 (fun _ => true) true Tryd.f4.params.toList args.toList ds p := hA0
  rw [Tryd.params4] at hA
  obtain ⟨v0, v1, d0, d1, p0, p1, rfl, rfl, rfl, h0, h1⟩ := trodAll_two hA
  obtain ⟨rfl, rfl⟩ := trodVars_none hV
  obtain ⟨x, A2, c2, A3, c3, rfl, hx⟩ := node_arg h0
  obtain ⟨y, B2, e2, B3, e3, rfl, hy⟩ := node_arg h1
  have lt0 : ∀ z ∈ p0, z.block < W.heap.size := by obtain ⟨m, hm⟩ := h0; exact DataW.trod_lt m _ _ _ hm
  have lt1 : ∀ z ∈ p1, z.block < W.heap.size := by obtain ⟨m, hm⟩ := h1; exact DataW.trod_lt m _ _ _ hm
  refine (parseNodes_calls x y W A2 c2 A3 c3 B2 e2 B3 e3 (gl_of hL) hx hy).mono fun e W' ⟨he, bel⟩ => ?_
  subst he
  exact ⟨_, rfl, _, _, _, [], _, [], hW', trodAll_mk1 (shut_bool Tryd.underlying4 _), trodAll_mk2 (Below.trod laidOutN (by kernel_rfl) (of_decide_eq_true (by kernel_rfl)) h0 bel lt0) (Below.trod laidOutN (by kernel_rfl) (of_decide_eq_true (by kernel_rfl)) h1 bel lt1), rfl, bel.frame _, fun h => by cases h⟩
theorem nodes_holds : Rows.ParseNodesSaid :=
  OpenClaim.holds_of_wide 4 Tryd.f4 rfl rfl rfl rfl rfl rfl rfl ⟨rfl, rfl, rfl, rfl, rfl⟩ rfl rfl rfl rfl rfl (by kernel_rfl) Tryd.func4 (by kernel_rfl)
    (of_decide_eq_true (by kernel_rfl)) (by unfold Func.isWrapper; first | (rw [if_pos (by decide +kernel)]; kernel_rfl) | (rw [if_neg (by decide +kernel)]; exact ⟨rfl, rfl⟩))
    (fun os started H enc _ => nodes_lifted os started H enc)
theorem parseNodes_card : Rows.ParseNodesCardSaid :=
  Claim7.holds_tied_plain_at .later [] [.data, .data, .data] true (true, "4639ac278c7bcf710fa1c2773640cf42c3d06fa9e7e3ad51cbc76ce6e75a525e") true nodes_holds (fun _ h => by cases h) (by kernel_rfl) (fun _ h => by cases h) parseNodes_row_tie rfl ⟨rfl, rfl⟩ (by kernel_rfl) rfl
    (fun f fn hf hfn => by
      obtain rfl : f = 4 := Option.some.inj ((show Tryd.prog.funcNamed "scholia/scholialaw22.ParseNodes" = some 4 by kernel_rfl).symm.trans hf) |>.symm
      obtain rfl : fn = Tryd.f4 := (Option.some.inj (Tryd.func4.symm.trans hfn)).symm
      exact ⟨by kernel_rfl, fun j t ht => by
        rw [Tryd.params4] at ht
        have hm : t ∈ [26, 26] := by simpa using Array.mem_of_getElem? ht
        have hall : ([26, 26].all fun u => !Tryd.prog.wantsStandIn u) = true := by kernel_rfl
        exact (show Tryd.prog.wantsStandIn t = false by simpa using List.all_eq_true.1 hall t hm)⟩)
    (by kernel_rfl)
#print axioms parseNodes_card
end Go.Proofs.YtcgkmomhjincgaaDoor.Lib.Scr
