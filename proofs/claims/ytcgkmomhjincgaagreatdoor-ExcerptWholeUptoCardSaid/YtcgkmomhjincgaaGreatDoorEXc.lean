/- Proved: ExcerptWhole: whatever the text, the query and the field, the law scholialaw31.ExcerptWhole answers true. Conditions: those of the given card of the second form: what is read holds at most 1048576 values and letters (what the tables of package level hold is tied to the text of the program). -/
import Derived.Test.YtcgkmomhjincgaaGreatDoorELibX0
import Derived.Test.YtcgkmomhjincgaaGreatDoorEXb
import Derived.Test.YtcgkmomhjincgaaGreatDoorRows
import Derived.Test.YtcgkmomhjincgaaGreatDoorCards
import Derived.Test.YtcgkmomhjincgaaGreatDoorTie
import Derived.ProofKit
import Derived.OpenShut
import Derived.ShutString
import Derived.ChangeOld
import Derived.Below
import Derived.SizedLaws
import Derived.WalkKit
import Derived.LaidMore
import Derived.Lay
import Derived.SevenTiedAt
import Derived.Stop.Joined
import Derived.HandedShaped
import Derived.Shelf.Vars
import Derived.Deep.DeepHandedRow
import Derived.Carry
namespace Go.Proofs.YtcgkmomhjincgaaGreatDoor.LibX.Scr
open Go.RowKit Go.Proofs.YtcgkmomhjincgaaGreatDoor.LibX Go.Proofs.YtcgkmomhjincgaaGreatDoorW.PrintWords Go.Proofs.YtcgkmomhjincgaaGreatDoorW.PrintLast Go.Proofs.YtcgkmomhjincgaaGreatDoorW.PrintMore
set_option linter.unusedVariables false
set_option linter.unusedSimpArgs false
attribute [local go_sem] max2_int min2_int max_two min_two max_three min_three max_four min_four
open Go.ChangeShapes Go.WideShapes Go.ChangeAt Go.ChangeMaps
theorem tab_cells {α : Type} (c : Nat) (f : α → List Value) : ∀ (tab : List α) (cs : List Value), cs.length = tab.length * c → (∀ (i : Nat) (h : i < tab.length), (cs.drop (i * c)).take c = f (tab[i]'h)) → cs = tab.flatMap f
 | [], cs, hl, _ => by
  have : cs.length = 0 := by simpa using hl
  exact List.eq_nil_of_length_eq_zero this
 | a :: t, cs, hl, hi => by
  have h0 := hi 0 (by simp)
  rw [Nat.zero_mul, List.drop_zero] at h0
  have ht := tab_cells c f t (cs.drop c) (by rw [List.length_drop, hl, List.length_cons, Nat.add_mul]; omega) (fun i h => by
   have := hi (i + 1) (by simpa using h)
   rw [List.drop_drop]
   rw [show (i + 1) * c = c + i * c by rw [Nat.add_mul]; omega] at this
   simpa using this)
  rw [List.flatMap_cons, ← ht, ← show cs.take c = f a from h0, List.take_append_drop]
theorem var_cells {P : Program} {W : World} {n : String} {g : Nat} {cs : Array Value} (hg : P.globalNamed n = some g) (hv : W.var? P n = some cs) : ∃ t fr, W.heap[g]? = some (.cells cs t fr) := by
 unfold World.var? at hv
 rw [hg] at hv
 simp only [Option.bind_some] at hv
 split at hv
 ·rename_i c t fr he
  cases hv
  exact ⟨t, fr, he⟩
 ·cases hv
theorem rows_dat : (Rows.laid_scholia_fold_rows : DataW Unit) = .agg (rowsTab.map fun t => .agg [.lit (.int .i64 t.1), .lit (.int .i64 t.2.1), .lit (.int .i64 t.2.2.1), .lit (.int .i64 t.2.2.2)]) := by kernel_rfl
theorem rows_cells : rowsCells.toList = rowsTab.flatMap fun t => [.int .i64 t.1, .int .i64 t.2.1, .int .i64 t.2.2.1, .int .i64 t.2.2.2] := by kernel_rfl
theorem short_dat : (Rows.laid_scholia_stem_short : DataW Unit) = .agg (shortTab.map fun t => .lit (.string t.data.toList)) := by kernel_rfl
theorem short_cells : shortCells.toList = shortTab.flatMap fun t => [.string t] := by kernel_rfl
theorem ends_dat : (Rows.laid_scholia_stem_ends : DataW Unit) = .agg (endsTab.map fun t => .agg [.lit (.string t.1.data.toList), .lit (.string t.2.data.toList)]) := by kernel_rfl
theorem ends_cells : endsCells.toList = endsTab.flatMap fun t => [.string t.1, .string t.2] := by kernel_rfl
theorem c3 : Tryz.prog.cellsOf 3 = 1 := by kernel_rfl
theorem c9 : Tryz.prog.cellsOf 9 = 1 := by kernel_rfl
theorem c167 : Tryz.prog.cellsOf 97 = 16 := by kernel_rfl
theorem c177 : Tryz.prog.cellsOf 124 = 2 := by kernel_rfl
theorem c178 : Tryz.prog.cellsOf 125 = 14 := by kernel_rfl
theorem c180 : Tryz.prog.cellsOf 134 = 4 := by kernel_rfl
theorem c181 : Tryz.prog.cellsOf 135 = 52 := by kernel_rfl
theorem bytes_of {a b : ByteArray} (h : a.data.toList = b.data.toList) : a = b := by
 cases a with
 | mk d => cases b with
  | mk e => congr; exact Array.toList_inj.1 h
theorem len4 {α : Type} (l : List α) (h : l.length = 4) : ∃ a b c d, l = [a, b, c, d] := by
 match l, h with
 | [a, b, c, d], _ => exact ⟨a, b, c, d, rfl⟩
theorem len2 {α : Type} (l : List α) (h : l.length = 2) : ∃ a b, l = [a, b] := by
 match l, h with
 | [a, b], _ => exact ⟨a, b, rfl⟩
theorem row_of {w : World} {fuel : Nat} {cs : List Value} {x : DataW Unit × List MemPlace} {a b c d : Int} (h : DataW.trod (fun _ => ()) Tryz.prog w 0 (fun _ => true) false fuel 134 cs = some x) (hx : x.1 = .agg [.lit (.int .i64 a), .lit (.int .i64 b), .lit (.int .i64 c), .lit (.int .i64 d)]) :
  cs = [.int .i64 a, .int .i64 b, .int .i64 c, .int .i64 d] := by
 obtain ⟨xs, n, _, rfl, hl, hlen, hf⟩ := DataW.trod_struct Tryz.underlying134 h
 rw [c180] at hl
 obtain ⟨v0, v1, v2, v3, rfl⟩ := len4 cs hl
 obtain ⟨x0, x1, x2, x3, rfl⟩ := len4 xs hlen
 have k0 : DataW.trod (fun _ => ()) Tryz.prog w 0 (fun _ => true) false n 3 ((([v0, v1, v2, v3] : List Value).drop 0).take (Tryz.prog.cellsOf 3)) = some x0 := hf 0 _ rfl
 have k1 : DataW.trod (fun _ => ()) Tryz.prog w 0 (fun _ => true) false n 3 ((([v0, v1, v2, v3] : List Value).drop 1).take (Tryz.prog.cellsOf 3)) = some x1 := hf 1 _ rfl
 have k2 : DataW.trod (fun _ => ()) Tryz.prog w 0 (fun _ => true) false n 3 ((([v0, v1, v2, v3] : List Value).drop 2).take (Tryz.prog.cellsOf 3)) = some x2 := hf 2 _ rfl
 have k3 : DataW.trod (fun _ => ()) Tryz.prog w 0 (fun _ => true) false n 3 ((([v0, v1, v2, v3] : List Value).drop 3).take (Tryz.prog.cellsOf 3)) = some x3 := hf 3 _ rfl
 rw [c3] at k0 k1 k2 k3
 obtain ⟨z0, a0, b0, _⟩ := DataW.trod_int Tryz.underlying3 k0
 obtain ⟨z1, a1, b1, _⟩ := DataW.trod_int Tryz.underlying3 k1
 obtain ⟨z2, a2, b2, _⟩ := DataW.trod_int Tryz.underlying3 k2
 obtain ⟨z3, a3, b3, _⟩ := DataW.trod_int Tryz.underlying3 k3
 subst b0; subst b1; subst b2; subst b3
 simp at a0 a1 a2 a3 hx
 obtain ⟨rfl, rfl, rfl, rfl⟩ := hx
 rw [a0, a1, a2, a3]
theorem end_of {w : World} {fuel : Nat} {cs : List Value} {x : DataW Unit × List MemPlace} {a b : ByteArray} (h : DataW.trod (fun _ => ()) Tryz.prog w 0 (fun _ => true) false fuel 124 cs = some x) (hx : x.1 = .agg [.lit (.string a.data.toList), .lit (.string b.data.toList)]) :
  cs = [.string a, .string b] := by
 obtain ⟨xs, n, _, rfl, hl, hlen, hf⟩ := DataW.trod_struct Tryz.underlying124 h
 rw [c177] at hl
 obtain ⟨v0, v1, rfl⟩ := len2 cs hl
 obtain ⟨x0, x1, rfl⟩ := len2 xs hlen
 have k0 : DataW.trod (fun _ => ()) Tryz.prog w 0 (fun _ => true) false n 9 ((([v0, v1] : List Value).drop 0).take (Tryz.prog.cellsOf 9)) = some x0 := hf 0 _ rfl
 have k1 : DataW.trod (fun _ => ()) Tryz.prog w 0 (fun _ => true) false n 9 ((([v0, v1] : List Value).drop 1).take (Tryz.prog.cellsOf 9)) = some x1 := hf 1 _ rfl
 rw [c9] at k0 k1
 obtain ⟨z0, a0, b0, _⟩ := DataW.trod_string Tryz.underlying9 k0
 obtain ⟨z1, a1, b1, _⟩ := DataW.trod_string Tryz.underlying9 k1
 subst b0; subst b1
 simp only [List.map_cons, List.map_nil, DataW.agg.injEq, List.cons.injEq, DataW.lit.injEq, Lit.string.injEq, and_true] at hx
 obtain rfl := bytes_of hx.1
 obtain rfl := bytes_of hx.2
 simp at a0 a1
 rw [a0, a1]
theorem gl_of {W : World} (h : laidMetH Tryz.prog Rows.excerptWholeUptoRow.laid W) (hs : W.ShapedOpen Tryz.prog) : GL W := by
 rw [MakeChecks.laidMetH_plain _ _ _ (by kernel_rfl)] at h
 obtain ⟨ps, h, _, _⟩ := h
 obtain ⟨g, t, cs, fuel, p, q, hg, ht, hv, hd, ⟨g9, t9, cs9, fuel9, p9, q9, hg9, ht9, hv9, hd9, ⟨g2, t2, cs2, fuel2, p2, q2, hg2, ht2, hv2, hd2, ⟨g3, t3, cs3, fuel3, p3, q3, hg3, ht3, hv3, hd3, ⟨g8, t8, cs8, fuel8, p8, q8, hg8, ht8, hv8, hd8, _, _⟩, _⟩, _⟩, _⟩, _⟩ := h
 obtain rfl := Option.some.inj ((show Tryz.prog.globalNamed "scholia/fold.rows" = some 5 by kernel_rfl).symm.trans hg)
 obtain rfl := Option.some.inj ((show (Tryz.prog.globals[5]?).map (·.type) = some 135 by kernel_rfl).symm.trans ht)
 obtain rfl := Option.some.inj ((show Tryz.prog.globalNamed "scholia/stem.short" = some 1 by kernel_rfl).symm.trans hg2)
 obtain rfl := Option.some.inj ((show (Tryz.prog.globals[1]?).map (·.type) = some 97 by kernel_rfl).symm.trans ht2)
 obtain rfl := Option.some.inj ((show Tryz.prog.globalNamed "scholia/stem.ends" = some 4 by kernel_rfl).symm.trans hg3)
 obtain rfl := Option.some.inj ((show (Tryz.prog.globals[4]?).map (·.type) = some 125 by kernel_rfl).symm.trans ht3)
 refine ⟨?_, ?_, ?_, ?_⟩
 ·obtain ⟨t, fr, he⟩ := var_cells hg hv
  obtain ⟨xs, m, _, ex, hlen, hl, hel⟩ := DataW.trod_array Tryz.underlying135 hd
  rw [rows_dat] at ex
  have e3 := DataW.agg.inj (Prod.mk.inj ex).1
  have hc : cs.toList = rowsCells.toList := by
   rw [rows_cells]
   refine tab_cells 4 _ rowsTab cs.toList (by rw [hlen, c181]; rfl) (fun i hi => ?_)
   have hi13 : i < 13 := hi
   have k := hel i hi13
   rw [c180, List.getElem?_eq_getElem (by omega)] at k
   refine row_of k ?_
   have e4 : (xs.map (·.1))[i]? = (rowsTab.map fun t => (DataW.agg [.lit (.int .i64 t.1), .lit (.int .i64 t.2.1), .lit (.int .i64 t.2.2.1), .lit (.int .i64 t.2.2.2)] : DataW Unit))[i]? := by rw [e3]
   rw [List.getElem?_map, List.getElem?_map, List.getElem?_eq_getElem (by omega : i < xs.length), List.getElem?_eq_getElem hi] at e4
   exact Option.some.inj e4
  exact ⟨t, fr, by rw [he, Array.toList_inj.1 hc]⟩
 ·obtain ⟨t, fr, he⟩ := var_cells hg2 hv2
  obtain ⟨xs, m, _, ex, hlen, hl, hel⟩ := DataW.trod_array Tryz.underlying97 hd2
  rw [short_dat] at ex
  have e3 := DataW.agg.inj (Prod.mk.inj ex).1
  have hc : cs2.toList = shortCells.toList := by
   rw [short_cells]
   refine tab_cells 1 _ shortTab cs2.toList (by rw [hlen, c167]; rfl) (fun i hi => ?_)
   have hi13 : i < 16 := hi
   have k := hel i hi13
   rw [c9, List.getElem?_eq_getElem (by omega)] at k
   obtain ⟨z, a0, b0, _⟩ := DataW.trod_string Tryz.underlying9 k
   have e4 : (xs.map (·.1))[i]? = (shortTab.map fun t => (DataW.lit (.string t.data.toList) : DataW Unit))[i]? := by rw [e3]
   rw [List.getElem?_map, List.getElem?_map, List.getElem?_eq_getElem (by omega : i < xs.length), List.getElem?_eq_getElem hi, b0] at e4
   simp only [Option.map_some, Option.some.injEq, DataW.lit.injEq, Lit.string.injEq] at e4
   rw [a0, bytes_of e4]
  exact ⟨t, fr, by rw [he, Array.toList_inj.1 hc]⟩
 ·obtain ⟨t, fr, he⟩ := var_cells hg3 hv3
  obtain ⟨xs, m, _, ex, hlen, hl, hel⟩ := DataW.trod_array Tryz.underlying125 hd3
  rw [ends_dat] at ex
  have e3 := DataW.agg.inj (Prod.mk.inj ex).1
  have hc : cs3.toList = endsCells.toList := by
   rw [ends_cells]
   refine tab_cells 2 _ endsTab cs3.toList (by rw [hlen, c178]; rfl) (fun i hi => ?_)
   have hi13 : i < 7 := hi
   have k := hel i hi13
   rw [c177, List.getElem?_eq_getElem (by omega)] at k
   refine end_of k ?_
   have e4 : (xs.map (·.1))[i]? = (endsTab.map fun t => (DataW.agg [.lit (.string t.1.data.toList), .lit (.string t.2.data.toList)] : DataW Unit))[i]? := by rw [e3]
   rw [List.getElem?_map, List.getElem?_map, List.getElem?_eq_getElem (by omega : i < xs.length), List.getElem?_eq_getElem hi] at e4
   exact Option.some.inj e4
  exact ⟨t, fr, by rw [he, Array.toList_inj.1 hc]⟩
 ·exact cell_of_shapedOpen_int (t := 3) (zero := #[.int .i64 0]) hs (of_decide_eq_true (by kernel_rfl)) (by kernel_rfl) rfl (by kernel_rfl) (by kernel_rfl) Tryz.underlying3
def NodeC (w : World) (x : S25) (A2 : Option Addr) (c2 : Nat) (A3 : Option Addr) (c3 : Nat) : Prop :=
 Kd.C k40 w A2 x.f2.length x.f2 ∧ x.f2.length ≤ c2 ∧ Kd.C k25 w A3 x.f3.length x.f3 ∧ x.f3.length ≤ c3
theorem add_addN (a : Addr) (m n : Nat) : (a.add m).add n = a.add (m + n) := by
 unfold Addr.add
 by_cases h1 : m = 0
 ·subst h1; simp
 ·by_cases h2 : n = 0
  ·subst h2; simp [h1]
  ·rw [if_neg h1, if_neg h2, if_neg (by omega)]
   simp [Nat.add_assoc]
theorem rows_of {α H : Type} {enc : TypeId × Value → H} {P : Program} {w : World} {sp : Nat → Bool} {held : Bool} (d : Kd α) {e t : TypeId} (ht : P.underlying t = some (.slice e)) (hc : P.cellsOf e = d.sz) {fuel : Nat}
  (open1 : ∀ n, n < fuel → ∀ (cs : List Value) (y : DataW H × List MemPlace), DataW.trod enc P w 0 sp held n e cs = some y → ∃ x, d.K w x cs) {cs : List Value} {y : DataW H × List MemPlace} (h : DataW.trod enc P w 0 sp held fuel t cs = some y) :
  ∃ (xs : List α) (A : Option Addr) (c : Nat), cs = [.slice A xs.length c] ∧ xs.length ≤ c ∧ d.C w A xs.length xs := by
 rcases DataW.trod_slice ht h with ⟨rfl, _⟩ | ⟨a, len, cap, elems, rest, n, hn, rfl, _, _, hl, hm, hlen, hel, _, _⟩
 ·exact ⟨[], none, 0, rfl, Nat.le_refl _, Kd.C_nil _ _⟩
 ·have each : ∀ i : Fin len, ∃ (x : α) (c : List Value), c.length = d.sz ∧ d.K w x c ∧ ∀ j u, c[j]? = some u → w.cell? (a.add (i.1 * d.sz + j)) = some u := by
   intro i
   have hi := hel i.1 i.2
   rw [List.getElem?_eq_getElem (by omega)] at hi
   obtain ⟨c, hcs, hy⟩ := Option.bind_eq_some_iff.1 hi
   obtain ⟨x, hx⟩ := open1 n (by omega) c _ hy
   obtain ⟨_, hcl, hcell⟩ := World.cells?_some hcs
   rw [hc] at hcl hcell
   refine ⟨x, c, hcl, hx, fun j u hj => ?_⟩
   have hjl : j < d.sz := by
    have := (List.getElem?_eq_some_iff.1 hj).1
    omega
   have := hcell j hjl
   rw [add_addN] at this
   rw [this, hj]
  have hz : (List.ofFn fun i => Classical.choose (each i)).length = len := by simp
  refine ⟨List.ofFn fun i => Classical.choose (each i), some a, cap, by rw [hz], by rw [hz]; exact hl, ?_⟩
  rw [hz]
  refine ⟨hz, ?_, fun _ => ⟨a, rfl, fun j p hj => ?_⟩⟩
  ·have : maxLen ≤ 9223372036854775807 := by decide
   omega
  ·have hjl : j < len := by
    have := (List.getElem?_eq_some_iff.1 hj).1
    omega
   have e : p = Classical.choose (each ⟨j, hjl⟩) := by
    rw [List.getElem?_ofFn] at hj
    simp only [hjl, dif_pos] at hj
    exact (Option.some.inj hj).symm
   subst e
   exact Classical.choose_spec (each ⟨j, hjl⟩)
theorem n26 : Tryz.prog.cellsOf 25 = 4 := by kernel_rfl
theorem n57 : Tryz.prog.cellsOf 40 = 2 := by kernel_rfl
theorem n3 : Tryz.prog.cellsOf 3 = 1 := by kernel_rfl
theorem n9 : Tryz.prog.cellsOf 9 = 1 := by kernel_rfl
theorem n23 : Tryz.prog.cellsOf 22 = 1 := by kernel_rfl
theorem n24 : Tryz.prog.cellsOf 23 = 1 := by kernel_rfl
theorem li4 {α : Type} (l : List α) (h : l.length = 4) : ∃ a b c d, l = [a, b, c, d] := by
 match l, h with
 | [a, b, c, d], _ => exact ⟨a, b, c, d, rfl⟩
theorem li2 {α : Type} (l : List α) (h : l.length = 2) : ∃ a b, l = [a, b] := by
 match l, h with
 | [a, b], _ => exact ⟨a, b, rfl⟩
section
variable {H : Type} {enc : TypeId × Value → H} {w : World} {sp : Nat → Bool} {held : Bool}
theorem tok_in (fuel : Nat) (cs : List Value) (y : DataW H × List MemPlace) (h : DataW.trod enc Tryz.prog w 0 sp held fuel 40 cs = some y) : ∃ x, k40.K w x cs := by
 obtain ⟨xs, n, _, rfl, hl, hlen, hf⟩ := DataW.trod_struct Tryz.underlying40 h
 rw [n57] at hl
 obtain ⟨v0, v1, rfl⟩ := li2 cs hl
 obtain ⟨x0, x1, rfl⟩ := li2 xs hlen
 have k0 : DataW.trod enc Tryz.prog w 0 sp held n 9 ((([v0, v1] : List Value).drop 0).take (Tryz.prog.cellsOf 9)) = some x0 := hf 0 _ rfl
 have k1 : DataW.trod enc Tryz.prog w 0 sp held n 3 ((([v0, v1] : List Value).drop 1).take (Tryz.prog.cellsOf 3)) = some x1 := hf 1 _ rfl
 rw [n9] at k0
 rw [n3] at k1
 obtain ⟨z0, a0, _⟩ := DataW.trod_string Tryz.underlying9 k0
 obtain ⟨z1, a1, _⟩ := DataW.trod_int Tryz.underlying3 k1
 simp at a0 a1
 rw [a0, a1]
 exact ⟨⟨z0, z1⟩, k40_mk w ⟨z0, z1⟩⟩
theorem node_in : ∀ (fuel : Nat) (cs : List Value) (y : DataW H × List MemPlace), DataW.trod enc Tryz.prog w 0 sp held fuel 25 cs = some y → ∃ x, k25.K w x cs := by
 intro fuel
 induction fuel using Nat.strongRecOn with
 | _ fuel ih =>
 intro cs y h
 obtain ⟨xs, n, hn, rfl, hl, hlen, hf⟩ := DataW.trod_struct Tryz.underlying25 h
 rw [n26] at hl
 obtain ⟨v0, v1, v2, v3, rfl⟩ := li4 cs hl
 obtain ⟨x0, x1, x2, x3, rfl⟩ := li4 xs hlen
 have k0 : DataW.trod enc Tryz.prog w 0 sp held n 3 ((([v0, v1, v2, v3] : List Value).drop 0).take (Tryz.prog.cellsOf 3)) = some x0 := hf 0 _ rfl
 have k1 : DataW.trod enc Tryz.prog w 0 sp held n 3 ((([v0, v1, v2, v3] : List Value).drop 1).take (Tryz.prog.cellsOf 3)) = some x1 := hf 1 _ rfl
 have k2 : DataW.trod enc Tryz.prog w 0 sp held n 22 ((([v0, v1, v2, v3] : List Value).drop 2).take (Tryz.prog.cellsOf 22)) = some x2 := hf 2 _ rfl
 have k3 : DataW.trod enc Tryz.prog w 0 sp held n 23 ((([v0, v1, v2, v3] : List Value).drop 3).take (Tryz.prog.cellsOf 23)) = some x3 := hf 3 _ rfl
 rw [n3] at k0 k1
 rw [n23] at k2
 rw [n24] at k3
 obtain ⟨z0, a0, _⟩ := DataW.trod_int Tryz.underlying3 k0
 obtain ⟨z1, a1, _⟩ := DataW.trod_int Tryz.underlying3 k1
 obtain ⟨ts, A2, c2, a2, l2, g2⟩ := rows_of k40 Tryz.underlying22 n57 (fun n _ cs y h => tok_in n cs y h) k2
 obtain ⟨kids, A3, c3, a3, l3, g3⟩ := rows_of k25 Tryz.underlying23 n26 (fun m hm cs y h => ih m (by omega) cs y h) k3
 simp at a0 a1 a2 a3
 rw [a0, a1, a2, a3]
 exact ⟨⟨z0, z1, ts, kids⟩, k25_mk w ⟨z0, z1, ts, kids⟩ l2 g2 l3 g3⟩
theorem node_arg {v : Value} {d : DataW H} {p : List MemPlace} (h : DataW.Trod enc Tryz.prog w 0 sp held 25 v d p) : ∃ (x : S25) (A2 : Option Addr) (c2 : Nat) (A3 : Option Addr) (c3 : Nat), v = .agg #[.int .i64 x.f0, .int .i64 x.f1, .slice A2 x.f2.length c2, .slice A3 x.f3.length c3] ∧ NodeC w x A2 c2 A3 c3 := by
 obtain ⟨fuel, hf⟩ := h
 obtain ⟨x, hx⟩ := node_in fuel _ _ hf
 obtain ⟨A2, c2, A3, c3, he, l2, g2, l3, g3⟩ := k25_open hx
 refine ⟨x, A2, c2, A3, c3, ?_, g2, l2, g3, l3⟩
 have one : ∀ u : Value, u.cells = #[u] → u = v → False := by
  rintro u hu rfl
  rw [hu] at he
  simp at he
 cases v with
 | agg cs =>
  have e : cs.toList = [.int .i64 x.f0, .int .i64 x.f1, .slice A2 x.f2.length c2, .slice A3 x.f3.length c3] := he
  rw [show cs = cs.toList.toArray by simp, e]
 | _ => exact (one _ rfl rfl).elim
end
theorem ownX : ownKnob Tryz.prog.godebug = none := by kernel_rfl
theorem laidOutX : laidOutB Tryz.prog = true := by kernel_rfl
set_option maxRecDepth 100000 in
theorem whole_lifted (os : Os) (started : os.Started) (H : Type) (enc : TypeId × Value → H) (F : Stop.Interp) :
  ReturnsInHanded {} Tryz.checked os 3 .any ((Rows.OpenSpec.upto Rows.excerptWholeSpec).preRow enc Tryz.prog Tryz.f3 Rows.excerptWholeUptoRow.domain false Rows.excerptWholeUptoRow.laid) (((Rows.OpenSpec.upto Rows.excerptWholeSpec).at F).post enc Tryz.prog Tryz.f3 false true false false) := by
 have hx : ∃ places, DataW.whole enc Tryz.prog ((World.laidAll Tryz.prog os Rows.excerptWholeUptoRow.laid).forCall (fun _ _ => 0) ⟨#[], #[.string ByteArray.empty, .agg #[.int .i64 0, .int .i64 0, .slice none 0 0, .slice none 0 0], .int .i64 0], []⟩).memory Tryz.f3.params.toList Rows.excerptWholeSpec.vars false #[.string ByteArray.empty, .agg #[.int .i64 0, .int .i64 0, .slice none 0 0, .slice none 0 0], .int .i64 0].toList 8 = some ([.lit (.string []), .agg [.lit (.int .i64 0), .lit (.int .i64 0), .nil, .nil], .lit (.int .i64 0)], [], places) := ⟨[], by kernel_rfl⟩
 obtain ⟨places, hx⟩ := hx
 refine returnsInHanded_of_row (C := Tryz.checked) (s := Rows.OpenSpec.upto Rows.excerptWholeSpec) ownX started (by kernel_rfl) Tryz.func3
  (witness_row_at (enc := enc) (C := Tryz.checked) false (World.laidAll Tryz.prog os Rows.excerptWholeUptoRow.laid) #[.string ByteArray.empty, .agg #[.int .i64 0, .int .i64 0, .slice none 0 0, .slice none 0 0], .int .i64 0] (World.laidAll_os _ _ _) (by kernel_rfl) (by kernel_rfl) (by kernel_rfl)
   (OpenSpec.preRow_of_cond 8 hx (by kernel_rfl) (fun k hk => by cases hk; kernel_rfl) (by kernel_rfl) (by rw [MakeChecks.laidMetH_plain _ _ _ (by kernel_rfl)]; exact laidMet_laidAll _ (by kernel_rfl) (by kernel_rfl)))) ?_
 intro W base args ds gs before hval0 hW _ hcond _ hL hsh _
 have hval : ∀ (j : Nat) t v, Tryz.f3.params[j]? = some t → args[j]? = some v → Value.okWide Tryz.prog W .any base t v := hval0
 have hW' := hW
 obtain ⟨p, q, hA0, hV, rfl, _, _⟩ := hW
 have hA : DataW.TrodAll enc Tryz.prog W 0 (fun _ => true) true Tryz.f3.params.toList args.toList ds p := hA0
 rw [Tryz.params3] at hA hval
 obtain ⟨v0, v1, v2, d0, d1, d2, p0, p1, p2, rfl, rfl, rfl, h0, h1, h2⟩ := trodAll_three hA
 obtain ⟨rfl, rfl⟩ := trodVars_none hV
 have hbk : Rows.uptoSmall H [d0, d1, d2] = true := by simpa using hcond _ rfl
 have hbk2 : Rows.uptoBulkAll [d0, d1, d2] ≤ 1048576 := of_decide_eq_true hbk
 simp only [Rows.uptoBulkAll] at hbk2
 obtain ⟨s, rfl, rfl, rfl, y0⟩ := open_string Tryz.underlying9 (hval 0 9 v0 rfl rfl) h0
 obtain ⟨x, A2, c2, A3, c3, rfl, hx1⟩ := node_arg h1
 obtain ⟨fld, rfl, rfl, rfl, y2⟩ := open_int Tryz.underlying3 (hval 2 3 v2 rfl rfl) h2
 have us : s.size + 1 ≤ Rows.uptoBulk (.lit (.string s.data.toList) : DataW H) := by
  simp only [Rows.uptoBulk]
  have e6 : s.data.toList.length = s.size := by rw [Array.length_toList]; rfl
  omega
 have lt1 : ∀ z ∈ p1, z.block < W.heap.size := by obtain ⟨m, hm⟩ := h1; exact DataW.trod_lt m _ _ _ hm
 obtain ⟨k, hk⟩ := whole_plain s (by omega) x fld
 obtain ⟨g2, l2, g3, l3⟩ := hx1
 refine (scholialaw31_ExcerptWhole.calls k s x.f0 x.f1 A2 c2 x.f2 A3 c3 x.f3 fld true W (gl_of hL hsh) g2 l2 g3 l3 hk).mono fun e W' ⟨he, bel⟩ => ?_
 subst he
 exact ⟨_, rfl, _, _, _, [], _, [], hW', trodAll_mk1 (shut_bool Tryz.underlying4 _), trodAll_mk3 (shut_string Tryz.underlying9 y0) (Below.trod laidOutX (by kernel_rfl) (of_decide_eq_true (by kernel_rfl)) h1 bel lt1) (shut_int Tryz.underlying3 y2), rfl, bel.frame _, fun h => by cases h⟩
theorem whole_holds : Rows.ExcerptWholeUptoSaid :=
 OpenClaim.holds_of_cond 3 Tryz.f3 rfl rfl rfl rfl rfl rfl rfl ⟨rfl, rfl, rfl, rfl, rfl⟩ rfl rfl rfl rfl rfl (by kernel_rfl) Tryz.func3 (by kernel_rfl)
  (of_decide_eq_true (by kernel_rfl)) (by unfold Func.isWrapper; first | (rw [if_pos (by decide +kernel)]; kernel_rfl) | (rw [if_neg (by decide +kernel)]; exact ⟨rfl, rfl⟩))
  (fun os started H enc _ F => by rw [OpenClaim.pre_eq_preRow]; exact whole_lifted os started H enc F)
theorem excerptWhole_card : Rows.ExcerptWholeUptoCardSaid :=
 Claim7.holds_tied_plain_at .later [] _ _ _ _ whole_holds (fun _ h => by cases h) (by kernel_rfl) (fun _ h => by cases h) excerptWholeUpto_row_tie rfl ⟨rfl, rfl⟩ (by kernel_rfl) rfl
  (fun f fn hf hfn => by
   obtain rfl : f = 3 := Option.some.inj ((show Tryz.prog.funcNamed "scholia/scholialaw31.ExcerptWhole" = some 3 by kernel_rfl).symm.trans hf) |>.symm
   obtain rfl : fn = Tryz.f3 := (Option.some.inj (Tryz.func3.symm.trans hfn)).symm
   exact ⟨by kernel_rfl, fun j t ht => by
    rw [Tryz.params3] at ht
    have hm : t ∈ [9, 25, 3] := by simpa using Array.mem_of_getElem? ht
    have hall : ([9, 25, 3].all fun u => !Tryz.prog.wantsStandIn u) = true := by kernel_rfl
    exact (show Tryz.prog.wantsStandIn t = false by simpa using List.all_eq_true.1 hall t hm)⟩)
  (by kernel_rfl)
#print axioms excerptWhole_card
end Go.Proofs.YtcgkmomhjincgaaGreatDoor.LibX.Scr
