/- The lines of script and their laws, part Ql: contracts by hand. -/
import Derived.Test.YtcgkmomhjincgaaDoorBLibQ0
import Derived.Test.YtcgkmomhjincgaaDoorBQk
import Derived.Test.YtcgkmomhjincgaaDoorRows
import Derived.Test.YtcgkmomhjincgaaDoorCards
import Derived.Test.YtcgkmomhjincgaaDoorTie
import Derived.RangeFuncNested
import Derived.RangeFuncBound
import Derived.RangeFuncCalls
import Derived.RangeFuncLeaves
import Derived.WalkKit
import Derived.OwnWalkIn
import Derived.TacticsInMore
import Derived.LoopNIn
import Derived.LoopIn
import Derived.Shelf.RegionOpen
import Derived.IntWalk
import Derived.Lib.Hide
import Derived.Maps.AppendAt
import Derived.Lib.AppendStr
import Derived.Lib.UnsafeStr
import Derived.Lib.Builder
import Derived.Laws.Externs
import Derived.HandedShaped
import Derived.Shelf.Vars
import Derived.Deep.DeepHandedRow
import Derived.Carry
import Derived.ProofKit
import Derived.OpenShut
import Derived.ShutString
import Derived.ChangeOld
import Derived.SizedLaws
import Derived.LaidMore
import Derived.Lay
import Derived.SevenTiedAt
import Derived.Stop.Joined
namespace Go.Proofs.YtcgkmomhjincgaaDoor.LibQ.Scr
open Go.RowKit Go.Proofs.YtcgkmomhjincgaaDoor.LibQ Go.Proofs.YtcgkmomhjincgaaDoorW.PrintWords Go.Proofs.YtcgkmomhjincgaaDoorW.PrintLast Go.Proofs.YtcgkmomhjincgaaDoorW.PrintMore
set_option linter.unusedVariables false
set_option linter.unusedSimpArgs false
attribute [local go_sem] max2_int min2_int max_two min_two max_three min_three max_four min_four
open Go.ChangeShapes Go.WideShapes Go.ChangeAt Go.ChangeMaps
theorem add_addN (a : Addr) (m n : Nat) : (a.add m).add n = a.add (m + n) := by
  unfold Addr.add
  by_cases h1 : m = 0
  · subst h1; simp
  · by_cases h2 : n = 0
    · subst h2; simp [h1]
    · rw [if_neg h1, if_neg h2, if_neg (by omega)]
      simp [Nat.add_assoc]
theorem tab_cells {α : Type} (c : Nat) (f : α → List Value) : ∀ (tab : List α) (cs : List Value), cs.length = tab.length * c → (∀ (i : Nat) (h : i < tab.length), (cs.drop (i * c)).take c = f (tab[i]'h)) → cs = tab.flatMap f
  | [], cs, hl, _ => by
    have : cs.length = 0 := by simpa using hl
    exact List.eq_nil_of_length_eq_zero this
  | a :: t, cs, hl, hi => by
    have h0 := hi 0 (by simp)
    rw [Nat.zero_mul, List.drop_zero] at h0
    have ht := tab_cells c f t (cs.drop c) (by rw [List.length_drop, hl, List.length_cons, Nat.add_mul]; omega) (fun i h => by
      have := hi (i + 1) (by simpa using h)
      rw [List.drop_drop]
      rw [show (i + 1) * c = c + i * c by rw [Nat.add_mul]; omega] at this
      simpa using this)
    rw [List.flatMap_cons, ← ht, ← show cs.take c = f a from h0, List.take_append_drop]
theorem var_cells {P : Program} {W : World} {n : String} {g : Nat} {cs : Array Value} (hg : P.globalNamed n = some g) (hv : W.var? P n = some cs) : ∃ t fr, W.heap[g]? = some (.cells cs t fr) := by
  unfold World.var? at hv
  rw [hg] at hv
  simp only [Option.bind_some] at hv
  split at hv
  · rename_i c t fr he
    cases hv
    exact ⟨t, fr, he⟩
  · cases hv
theorem pow_dat : (Rows.laid_internal_strconv_uint64pow10 : DataW Unit) = .agg (Lib.pow10Tab.map fun z => .lit (.int .u64 z)) := by kernel_rfl
theorem cu64 : Tryd.prog.cellsOf 129 = 1 := by kernel_rfl
theorem cpow : Tryd.prog.cellsOf 143 = 20 := by kernel_rfl
theorem trod_iface_cell {P : Program} {w : World} {fuel : Nat} {t : TypeId} {cs : List Value} {x : DataW Unit × List MemPlace} {m : _} (ht : P.underlying t = some (.interface m)) (h : DataW.trod (fun _ => ()) P w 0 (fun _ => true) false fuel t cs = some x) :
    ∃ v, cs = [v] ∧ (v = .nilIface ∨ ∃ te pe, v = .iface te pe) := by
  cases fuel with
  | zero => simp [DataW.trod] at h
  | succ n =>
    unfold DataW.trod at h
    rw [ht] at h
    split at h
    all_goals first | (exact ⟨_, rfl, .inl rfl⟩) | (exact ⟨_, rfl, .inr ⟨_, _, rfl⟩⟩) | simp_all
theorem iface_cell {P : Program} {w : World} {n : String} {g t : Nat} {fuel : Nat} {cs : Array Value} {x : DataW Unit × List MemPlace} {m : _} (hg : P.globalNamed n = some g) (hv : w.var? P n = some cs) (ht : P.underlying t = some (.interface m)) (h : DataW.trod (fun _ => ()) P w 0 (fun _ => true) false fuel t cs.toList = some x) :
    ∃ ev, w.cell? ⟨g, 0, none⟩ = some ev ∧ (ev = .nilIface ∨ ∃ te pe, ev = .iface te pe) := by
  obtain ⟨v, hc, hv2⟩ := trod_iface_cell ht h
  obtain ⟨u, fr, he⟩ := var_cells hg hv
  obtain rfl : cs = #[v] := Array.toList_inj.1 hc
  exact ⟨v, by simp [World.cell?, he], hv2⟩
theorem gl_of {W : World} (h : laidMetH Tryd.prog Rows.scriptLinesUptoRow.laid W) (hs : W.ShapedOpen Tryd.prog) : GL W := by
  rw [MakeChecks.laidMetH_plain _ _ _ (by kernel_rfl)] at h
  obtain ⟨ps, h, _, _⟩ := h
  obtain ⟨g0, t0, cs0, fuel0, p0, q0, hg0, ht0, hv0, hd0, ⟨g1, t1, cs1, fuel1, p1, q1, hg1, ht1, hv1, hd1, ⟨g, t, cs, fuel, p, q, hg, ht, hv, hd, ⟨g3, t3, cs3, fuel3, p3, q3, hg3, ht3, hv3, hd3, ⟨g4, t4, cs4, fuel4, p4, q4, hg4, ht4, hv4, hd4, ⟨g5, t5, cs5, fuel5, p5, q5, hg5, ht5, hv5, hd5, _, _⟩, _⟩, _⟩, _⟩, _⟩, _⟩ := h
  obtain rfl := Option.some.inj ((show Tryd.prog.globalNamed "internal/strconv.uint64pow10" = some 1 by kernel_rfl).symm.trans hg)
  obtain rfl := Option.some.inj ((show (Tryd.prog.globals[1]?).map (·.type) = some 143 by kernel_rfl).symm.trans ht)
  refine ⟨?_, ?_, ?_, ?_⟩
  · exact cell_of_shapedOpen_int (t := 3) (zero := #[.int .i64 0]) hs (of_decide_eq_true (by kernel_rfl)) (by kernel_rfl) rfl (by kernel_rfl) (by kernel_rfl) Tryd.underlying3
  · show W.var? _ _ = _
    rw [hv]
    obtain ⟨xs, m, _, ex, hlen, hl, hel⟩ := DataW.trod_array Tryd.underlying143 hd
    rw [pow_dat] at ex
    have e3 := DataW.agg.inj (Prod.mk.inj ex).1
    have hc : cs.toList = Lib.pow10Tab.flatMap fun z => [.int .u64 z] := by
      refine tab_cells 1 _ Lib.pow10Tab cs.toList (by rw [hlen, cpow]; rfl) (fun i hi => ?_)
      have hi20 : i < 20 := hi
      have k := hel i hi20
      rw [cu64, List.getElem?_eq_getElem (by omega)] at k
      obtain ⟨z, a0, b0, _⟩ := DataW.trod_int Tryd.underlying129 k
      have e4 : (xs.map (·.1))[i]? = (Lib.pow10Tab.map fun z => (DataW.lit (.int .u64 z) : DataW Unit))[i]? := by rw [e3]
      rw [List.getElem?_map, List.getElem?_map, List.getElem?_eq_getElem (by omega : i < xs.length), List.getElem?_eq_getElem hi, b0] at e4
      simp only [Option.map_some, Option.some.injEq, DataW.lit.injEq, Lit.int.injEq, true_and] at e4
      rw [a0, e4]
    rw [show cs = (Lib.pow10Tab.map fun z => Value.int .u64 z).toArray from Array.toList_inj.1 (by rw [hc]; rfl)]
  · obtain rfl := Option.some.inj ((show Tryd.prog.globalNamed "strconv.ErrSyntax" = some 4 by kernel_rfl).symm.trans hg5)
    obtain rfl := Option.some.inj ((show (Tryd.prog.globals[4]?).map (·.type) = some 104 by kernel_rfl).symm.trans ht5)
    exact iface_cell hg5 hv5 Tryd.underlying104 hd5
  · obtain rfl := Option.some.inj ((show Tryd.prog.globalNamed "strconv.ErrRange" = some 5 by kernel_rfl).symm.trans hg4)
    obtain rfl := Option.some.inj ((show (Tryd.prog.globals[5]?).map (·.type) = some 104 by kernel_rfl).symm.trans ht4)
    exact iface_cell hg4 hv4 Tryd.underlying104 hd4
theorem n42 : Tryd.prog.cellsOf 42 = 10 := by kernel_rfl
theorem n3 : Tryd.prog.cellsOf 3 = 1 := by kernel_rfl
theorem n9 : Tryd.prog.cellsOf 9 = 1 := by kernel_rfl
theorem n40 : Tryd.prog.cellsOf 40 = 1 := by kernel_rfl
theorem li10 {α : Type} (l : List α) (h : l.length = 10) : ∃ a b c d e f g i j k, l = [a, b, c, d, e, f, g, i, j, k] := by
  match l, h with
  | [a, b, c, d, e, f, g, i, j, k], _ => exact ⟨a, b, c, d, e, f, g, i, j, k, rfl⟩
section
variable {H : Type} {enc : TypeId × Value → H} {w : World} {sp : Nat → Bool} {held : Bool}
theorem wf_in {n : Int} (h : (Lit.int .i64 n).wf = true) : inI n := by
  have h2 : (decide (-9223372036854775808 ≤ n) && decide (n ≤ 9223372036854775807)) = true := h
  rw [Bool.and_eq_true] at h2
  exact ⟨of_decide_eq_true h2.1, of_decide_eq_true h2.2⟩
theorem bulk_one (d : DataW H) : 1 ≤ Rows.uptoBulk d := by
  cases d with
  | lit l => cases l <;> simp [Rows.uptoBulk]
  | nil => simp [Rows.uptoBulk]
  | ptr d => simp [Rows.uptoBulk]
  | slice elems spare => simp [Rows.uptoBulk]
  | agg parts => simp [Rows.uptoBulk]
  | iface t d => simp [Rows.uptoBulk]
  | map entries => simp [Rows.uptoBulk]
  | held h => simp [Rows.uptoBulk]
theorem bulk_len (l : List (DataW H)) : l.length ≤ Rows.uptoBulkAll l := by
  induction l with
  | nil => simp
  | cons x r ih => have := bulk_one x; simp only [Rows.uptoBulkAll, List.length_cons]; omega
theorem ints_of {fuel : Nat} {cs : List Value} {y : DataW H × List MemPlace} (h : DataW.trod enc Tryd.prog w 0 sp held fuel 40 cs = some y) :
    ∃ (xs : List Int) (A : Option Addr) (c : Nat), cs = [.slice A xs.length c] ∧ xs.length ≤ c ∧ (Kd.int .i64).C w A xs.length xs ∧ (∀ n ∈ xs, inI n) ∧ xs.length ≤ Rows.uptoBulk y.1 := by
  rcases DataW.trod_slice Tryd.underlying40 h with ⟨rfl, _⟩ | ⟨a, len, cap, elems, rest, n, hn, rfl, hy, _, hl, hm, hlen, hel, _, _⟩
  · exact ⟨[], none, 0, rfl, Nat.le_refl _, Kd.C_nil _ _, (fun n hn => (by cases hn)), Nat.zero_le _⟩
  · have each : ∀ i : Fin len, ∃ x : Int, inI x ∧ w.cell? (a.add i.1) = some (.int .i64 x) := by
      intro i
      have hi := hel i.1 i.2
      rw [List.getElem?_eq_getElem (by omega)] at hi
      obtain ⟨c, hcs, hy⟩ := Option.bind_eq_some_iff.1 hi
      obtain ⟨x, hx, _, hwf⟩ := DataW.trod_int Tryd.underlying3 hy
      obtain ⟨_, hcl, hcell⟩ := World.cells?_some hcs
      rw [n3] at hcl hcell
      have h0 := hcell 0 (by omega)
      rw [add_addN, Nat.mul_one, Nat.add_zero, hx] at h0
      exact ⟨x, wf_in hwf, h0⟩
    have hz : (List.ofFn fun i => Classical.choose (each i)).length = len := by simp
    refine ⟨List.ofFn fun i => Classical.choose (each i), some a, cap, by rw [hz], by rw [hz]; exact hl, ?_, ?_, ?_⟩
    · rw [hz]
      refine ⟨hz, ?_, fun _ => ⟨a, rfl, fun j p hj => ?_⟩⟩
      · have : maxLen ≤ 9223372036854775807 := by decide
        omega
      · have hjl : j < len := by
          have := (List.getElem?_eq_some_iff.1 hj).1
          omega
        have e : p = Classical.choose (each ⟨j, hjl⟩) := by
          rw [List.getElem?_ofFn] at hj
          simp only [hjl, dif_pos] at hj
          exact (Option.some.inj hj).symm
        subst e
        have h2 := (Classical.choose_spec (each ⟨j, hjl⟩)).2
        refine ⟨[.int .i64 _], rfl, rfl, fun i u hu => ?_⟩
        have hi : i = 0 := by
          have := (List.getElem?_eq_some_iff.1 hu).1
          simp only [List.length_cons, List.length_nil] at this
          omega
        subst hi
        obtain rfl := Option.some.inj hu
        simpa [Kd.int, Kd.scalar] using h2
    · intro n hn
      obtain ⟨i, rfl⟩ := List.mem_ofFn.1 hn
      exact (Classical.choose_spec (each i)).1
    · rw [hz, hy]
      simp only [Rows.uptoBulk]
      have := bulk_len (elems.map (·.1))
      rw [List.length_map] at this
      omega
theorem step_in (fuel : Nat) (cs : List Value) (y : DataW H × List MemPlace) (h : DataW.trod enc Tryd.prog w 0 sp held fuel 42 cs = some y) : ∃ (x : S42) (A : Option Addr) (c : Nat), cs = (SC x (.slice A x.f9.length c)).toList ∧ x.f9.length ≤ c ∧ (Kd.int .i64).C w A x.f9.length x.f9 ∧ inI x.f1 ∧ inI x.f2 ∧ inI x.f3 ∧ inI x.f4 ∧ inI x.f5 ∧ inI x.f7 ∧ (∀ n ∈ x.f9, inI n) ∧ x.f6.size + x.f8.size + x.f9.length ≤ Rows.uptoBulk y.1 := by
  obtain ⟨xs, n, _, rfl, hl, hlen, hf⟩ := DataW.trod_struct Tryd.underlying42 h
  rw [n42] at hl
  obtain ⟨v0, v1, v2, v3, v4, v5, v6, v7, v8, v9, rfl⟩ := li10 cs hl
  obtain ⟨x0, x1, x2, x3, x4, x5, x6, x7, x8, x9, rfl⟩ := li10 xs hlen
  obtain ⟨cs0, hcs0⟩ : ∃ l : List Value, l = [v0, v1, v2, v3, v4, v5, v6, v7, v8, v9] := ⟨_, rfl⟩
  rw [← hcs0] at hf
  have k0 : DataW.trod enc Tryd.prog w 0 sp held n 3 (((cs0).drop 0).take (Tryd.prog.cellsOf 3)) = some x0 := hf 0 _ rfl
  have k1 : DataW.trod enc Tryd.prog w 0 sp held n 3 (((cs0).drop 1).take (Tryd.prog.cellsOf 3)) = some x1 := hf 1 _ rfl
  have k2 : DataW.trod enc Tryd.prog w 0 sp held n 3 (((cs0).drop 2).take (Tryd.prog.cellsOf 3)) = some x2 := hf 2 _ rfl
  have k3 : DataW.trod enc Tryd.prog w 0 sp held n 3 (((cs0).drop 3).take (Tryd.prog.cellsOf 3)) = some x3 := hf 3 _ rfl
  have k4 : DataW.trod enc Tryd.prog w 0 sp held n 3 (((cs0).drop 4).take (Tryd.prog.cellsOf 3)) = some x4 := hf 4 _ rfl
  have k5 : DataW.trod enc Tryd.prog w 0 sp held n 3 (((cs0).drop 5).take (Tryd.prog.cellsOf 3)) = some x5 := hf 5 _ rfl
  have k6 : DataW.trod enc Tryd.prog w 0 sp held n 9 (((cs0).drop 6).take (Tryd.prog.cellsOf 9)) = some x6 := hf 6 _ rfl
  have k7 : DataW.trod enc Tryd.prog w 0 sp held n 3 (((cs0).drop 7).take (Tryd.prog.cellsOf 3)) = some x7 := hf 7 _ rfl
  have k8 : DataW.trod enc Tryd.prog w 0 sp held n 9 (((cs0).drop 8).take (Tryd.prog.cellsOf 9)) = some x8 := hf 8 _ rfl
  have k9 : DataW.trod enc Tryd.prog w 0 sp held n 40 (((cs0).drop 9).take (Tryd.prog.cellsOf 40)) = some x9 := hf 9 _ rfl
  rw [n3] at k0 k1 k2 k3 k4 k5 k7
  rw [n9] at k6 k8
  rw [n40] at k9
  subst hcs0
  obtain ⟨z0, a0, b0, g0⟩ := DataW.trod_int Tryd.underlying3 k0
  obtain ⟨z1, a1, b1, g1⟩ := DataW.trod_int Tryd.underlying3 k1
  obtain ⟨z2, a2, b2, g2⟩ := DataW.trod_int Tryd.underlying3 k2
  obtain ⟨z3, a3, b3, g3⟩ := DataW.trod_int Tryd.underlying3 k3
  obtain ⟨z4, a4, b4, g4⟩ := DataW.trod_int Tryd.underlying3 k4
  obtain ⟨z5, a5, b5, g5⟩ := DataW.trod_int Tryd.underlying3 k5
  obtain ⟨z6, a6, b6, g6⟩ := DataW.trod_string Tryd.underlying9 k6
  obtain ⟨z7, a7, b7, g7⟩ := DataW.trod_int Tryd.underlying3 k7
  obtain ⟨z8, a8, b8, g8⟩ := DataW.trod_string Tryd.underlying9 k8
  obtain ⟨z9, A, c, a9, l9, r9, i9, u9⟩ := ints_of k9
  simp at a0 a1 a2 a3 a4 a5 a6 a7 a8 a9
  rw [a0, a1, a2, a3, a4, a5, a6, a7, a8, a9]
  refine ⟨⟨z0, z1, z2, z3, z4, z5, z6, z7, z8, z9⟩, A, c, rfl, l9, r9, wf_in g1, wf_in g2, wf_in g3, wf_in g4, wf_in g5, wf_in g7, i9, ?_⟩
  show z6.size + z8.size + z9.length ≤ _
  simp only [List.map_cons, List.map_nil, Rows.uptoBulk, Rows.uptoBulkAll, b6, b8]
  have e6 : z6.data.toList.length = z6.size := data_length z6
  have e8 : z8.data.toList.length = z8.size := data_length z8
  omega
theorem bulk_mem : ∀ (l : List (DataW H)) (d : DataW H), d ∈ l → Rows.uptoBulk d ≤ Rows.uptoBulkAll l
  | [], _, h => by cases h
  | x :: t, d, h => by
    rcases List.mem_cons.1 h with rfl | h
    · simp only [Rows.uptoBulkAll]; omega
    · have := bulk_mem t d h
      simp only [Rows.uptoBulkAll]; omega
theorem steps_of {fuel : Nat} {cs : List Value} {y : DataW H × List MemPlace} (h : DataW.trod enc Tryd.prog w 0 sp held fuel 44 cs = some y) :
    ∃ (xs : List S42) (A : Option Addr) (c : Nat), cs = [.slice A xs.length c] ∧ xs.length ≤ c ∧ Kd.C k42 w A xs.length xs ∧ xs.length ≤ Rows.uptoBulk y.1 ∧ (Rows.uptoBulk y.1 ≤ 1048576 → ∀ x ∈ xs, OkS x) := by
  rcases DataW.trod_slice Tryd.underlying44 h with ⟨rfl, _⟩ | ⟨a, len, cap, elems, rest, n, hn, rfl, hy, _, hl, hm, hlen, hel, _, _⟩
  · exact ⟨[], none, 0, rfl, Nat.le_refl _, Kd.C_nil _ _, Nat.zero_le _, fun _ x hx => (by cases hx)⟩
  · have each : ∀ i : Fin len, ∃ (x : S42) (c : List Value), c.length = k42.sz ∧ k42.K w x c ∧ (∀ j u, c[j]? = some u → w.cell? (a.add (i.1 * k42.sz + j)) = some u) ∧ (Rows.uptoBulk y.1 ≤ 1048576 → OkS x) := by
      intro i
      have hi := hel i.1 i.2
      rw [List.getElem?_eq_getElem (by omega)] at hi
      obtain ⟨c, hcs, hyc⟩ := Option.bind_eq_some_iff.1 hi
      obtain ⟨x, A9, c9, ec, l9, r9, i1, i2, i3, i4, i5, i7, i9, ux⟩ := step_in n c _ hyc
      obtain ⟨_, hcl, hcell⟩ := World.cells?_some hcs
      rw [n42] at hcl hcell
      have hb : Rows.uptoBulk (elems[i.1]'(by omega)).1 ≤ Rows.uptoBulk y.1 := by
        rw [hy]
        have := bulk_mem (elems.map (·.1)) _ (List.mem_map.2 ⟨elems[i.1]'(by omega), List.getElem_mem _, rfl⟩)
        simp only [Rows.uptoBulk]
        omega
      refine ⟨x, c, hcl, ?_, fun j u hj => ?_, fun hB => ⟨i1, i2, i3, i4, i5, i7, i9, by omega⟩⟩
      · rw [ec]
        exact k42_mk w x l9 r9
      · have hjl : j < 10 := by
          have := (List.getElem?_eq_some_iff.1 hj).1
          omega
        have := hcell j hjl
        rw [add_addN] at this
        rw [show k42.sz = 10 from rfl, this, hj]
    have hz : (List.ofFn fun i => Classical.choose (each i)).length = len := by simp
    refine ⟨List.ofFn fun i => Classical.choose (each i), some a, cap, by rw [hz], by rw [hz]; exact hl, ?_, ?_, ?_⟩
    · rw [hz]
      refine ⟨hz, ?_, fun _ => ⟨a, rfl, fun j p hj => ?_⟩⟩
      · have : maxLen ≤ 9223372036854775807 := by decide
        omega
      · have hjl : j < len := by
          have := (List.getElem?_eq_some_iff.1 hj).1
          omega
        have e : p = Classical.choose (each ⟨j, hjl⟩) := by
          rw [List.getElem?_ofFn] at hj
          simp only [hjl, dif_pos] at hj
          exact (Option.some.inj hj).symm
        subst e
        obtain ⟨c, h1, h2, h3, _⟩ := Classical.choose_spec (each ⟨j, hjl⟩)
        exact ⟨c, h1, h2, h3⟩
    · rw [hz, hy]
      simp only [Rows.uptoBulk]
      have := bulk_len (elems.map (·.1))
      rw [List.length_map] at this
      omega
    · intro hB x hx
      obtain ⟨i, rfl⟩ := List.mem_ofFn.1 hx
      obtain ⟨c, _, _, _, h4⟩ := Classical.choose_spec (each i)
      exact h4 hB
set_option maxRecDepth 100000 in
theorem steps_arg {r : Reach} {b0 : Nat} {v : Value} {d : DataW H} {p : List MemPlace} (hv : Value.okWide Tryd.prog w r b0 44 v) (h : DataW.Trod enc Tryd.prog w 0 sp held 44 v d p) : ∃ (xs : List S42) (A : Option Addr) (c : Nat), v = .slice A xs.length c ∧ xs.length ≤ c ∧ Kd.C k42 w A xs.length xs ∧ xs.length ≤ Rows.uptoBulk d ∧ (Rows.uptoBulk d ≤ 1048576 → ∀ x ∈ xs, OkS x) := by
  obtain ⟨fuel, hf⟩ := h
  obtain ⟨xs, A, c, he, rest⟩ := steps_of hf
  obtain ⟨a, n, k, rfl⟩ := okWide_slice Tryd.underlying44 hv
  have e2 : [Value.slice a n k] = [Value.slice A xs.length c] := he
  exact ⟨xs, A, c, (List.cons.inj e2).1, rest⟩
end
theorem ownR : ownKnob Tryd.prog.godebug = none := by kernel_rfl
theorem laidOutR : laidOutB Tryd.prog = true := by kernel_rfl
end Go.Proofs.YtcgkmomhjincgaaDoor.LibQ.Scr
