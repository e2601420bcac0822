import Derived.Test.YtcgkmomhjincgaaDoorProg
import Derived.Below
import Derived.Deep.Draws
import Derived.Deep.AppendLies
import Derived.Maps.AppendAt
import Derived.OwnWalk
import Derived.Laws.BytesArg
import Derived.Laws.MakeOwn
import Derived.Laws.OwnMore
import Derived.Deep.OwnRows
import Derived.Tactics
import Derived.Lib.ConvBytes
import Derived.Laws.Slices
import Derived.WalkKit
import Derived.KernelRfl
import Derived.RowKit3
import Derived.Deep.LoopGhost
import Derived.Deep.QuietTactic
import Derived.BigQuiet
import Derived.WideLaws
import Derived.Deep.DeepCutAuto
import Derived.Deep.CutBlock
import Derived.Deep.RegionHeld3
import Derived.Laws.Rows
import Derived.Lib.AppendStr
import Derived.ArgAppend
import Derived.Laws.IdiomCopy
import Derived.OrdersHeld
import Derived.Laws.BitsLemmas
import Derived.RowKit
import Derived.WalkSpells
import Derived.Lib.SliceRun
import Derived.Deep.RegionHeld3
import Derived.Deep.AppendLies
import Derived.Lib.SplitLaws
import Derived.Lib.AppendIntMem
import Derived.Test.YtcgkmomhjincgaaDoorBShelg
import Derived.Test.YtcgkmomhjincgaaDoorBWWords
import Derived.Test.YtcgkmomhjincgaaDoorBWLast
import Derived.Test.YtcgkmomhjincgaaDoorBWTab
import Derived.Test.YtcgkmomhjincgaaDoorBWFour
import Derived.Test.YtcgkmomhjincgaaDoorBWQPut
import Derived.Test.YtcgkmomhjincgaaDoorBWApart
import Derived.Test.YtcgkmomhjincgaaDoorBWArr
import Derived.Test.YtcgkmomhjincgaaDoorBWZeros
import Derived.Test.YtcgkmomhjincgaaDoorBWFoot
import Derived.Test.YtcgkmomhjincgaaDoorBWKept
import Derived.Test.YtcgkmomhjincgaaDoorBWShare
import Derived.Test.YtcgkmomhjincgaaDoorBWN
import Derived.Test.YtcgkmomhjincgaaDoorBWFootNe
import Derived.Test.YtcgkmomhjincgaaDoorBWAt
import Derived.Test.YtcgkmomhjincgaaDoorBWEqStruct
import Derived.Test.YtcgkmomhjincgaaDoorBWRepsOne
import Derived.Test.YtcgkmomhjincgaaDoorBWInv
import Derived.Test.YtcgkmomhjincgaaDoorBWInvWords
import Derived.Test.YtcgkmomhjincgaaDoorBWGuard
import Derived.Test.YtcgkmomhjincgaaDoorBWNEv
import Derived.Test.YtcgkmomhjincgaaDoorBWMore
namespace Go.Proofs.YtcgkmomhjincgaaDoor.LibQ
open Go.RowKit Go.Proofs.YtcgkmomhjincgaaDoorW.PrintWords Go.Proofs.YtcgkmomhjincgaaDoorW.PrintLast Go.Proofs.YtcgkmomhjincgaaDoorW.PrintMore
attribute [local go_sem] max2_int min2_int max_two min_two max_three min_three max_four min_four   -- for this text's walks alone
set_option linter.unusedVariables false
set_option linter.unusedSimpArgs false
def errW : Option Int → Value
 | none => .nilIface
 | some c => .iface 146 (.int .i64 c)
theorem errW_none : errW none = .nilIface := rfl
theorem errW_some (c : Int) : errW (some c) = .iface 146 (.int .i64 c) := rfl
theorem info3 : (Tryd.prog.info? 3).map (fun i => (i.zero, i.size, i.bytes)) = some (some (.int .i64 0), 1, 8) := by kernel_rfl
theorem info5 : (Tryd.prog.info? 5).map (fun i => (i.zero, i.size, i.bytes)) = some (some (.int .u8 0), 1, 1) := by kernel_rfl
theorem info9 : (Tryd.prog.info? 9).map (fun i => (i.zero, i.size, i.bytes)) = some (some (.string ⟨#[]⟩), 1, 16) := by kernel_rfl
structure S42 where
 f0 : Int
 f1 : Int
 f2 : Int
 f3 : Int
 f4 : Int
 f5 : Int
 f6 : ByteArray
 f7 : Int
 f8 : ByteArray
 f9 : (List Int)
def z42 : S42 := ⟨(0 : Int), (0 : Int), (0 : Int), (0 : Int), (0 : Int), (0 : Int), (⟨#[]⟩ : ByteArray), (0 : Int), (⟨#[]⟩ : ByteArray), ([] : List Int)⟩
def k42 : Kd S42 := Kd.iso (Kd.pair (Kd.int .i64) (Kd.pair (Kd.int .i64) (Kd.pair (Kd.int .i64) (Kd.pair (Kd.int .i64) (Kd.pair (Kd.int .i64) (Kd.pair (Kd.int .i64) (Kd.pair Kd.string (Kd.pair (Kd.int .i64) (Kd.pair Kd.string (Kd.slice 3 (Kd.int .i64))))))))))) (fun x : S42 => (x.f0, x.f1, x.f2, x.f3, x.f4, x.f5, x.f6, x.f7, x.f8, x.f9))
theorem k42_open {w : World} {x : S42} {cs : List Value} (h : k42.K w x cs) : ∃ A9 c9, cs = [.int .i64 x.f0, .int .i64 x.f1, .int .i64 x.f2, .int .i64 x.f3, .int .i64 x.f4, .int .i64 x.f5, .string x.f6, .int .i64 x.f7, .string x.f8, .slice A9 x.f9.length c9] ∧ x.f9.length ≤ c9 ∧ (Kd.int .i64).C w A9 x.f9.length x.f9 := by
 obtain ⟨_, _, rfl, rfl, ⟨_, _, rfl, rfl, ⟨_, _, rfl, rfl, ⟨_, _, rfl, rfl, ⟨_, _, rfl, rfl, ⟨_, _, rfl, rfl, ⟨_, _, rfl, rfl, ⟨_, _, rfl, rfl, ⟨_, _, rfl, rfl, ⟨A9, c9, rfl, l9, g9⟩⟩⟩⟩⟩⟩⟩⟩⟩⟩ := h
 exact ⟨A9, c9, rfl, l9, g9⟩
theorem k42_mk (w : World) (x : S42) {A9 : Option Addr} {c9 : Nat} (l9 : x.f9.length ≤ c9) (g9 : (Kd.int .i64).C w A9 x.f9.length x.f9) : k42.K w x [.int .i64 x.f0, .int .i64 x.f1, .int .i64 x.f2, .int .i64 x.f3, .int .i64 x.f4, .int .i64 x.f5, .string x.f6, .int .i64 x.f7, .string x.f8, .slice A9 x.f9.length c9] := ⟨[.int .i64 x.f0], [.int .i64 x.f1, .int .i64 x.f2, .int .i64 x.f3, .int .i64 x.f4, .int .i64 x.f5, .string x.f6, .int .i64 x.f7, .string x.f8, .slice A9 x.f9.length c9], rfl, rfl, ⟨[.int .i64 x.f1], [.int .i64 x.f2, .int .i64 x.f3, .int .i64 x.f4, .int .i64 x.f5, .string x.f6, .int .i64 x.f7, .string x.f8, .slice A9 x.f9.length c9], rfl, rfl, ⟨[.int .i64 x.f2], [.int .i64 x.f3, .int .i64 x.f4, .int .i64 x.f5, .string x.f6, .int .i64 x.f7, .string x.f8, .slice A9 x.f9.length c9], rfl, rfl, ⟨[.int .i64 x.f3], [.int .i64 x.f4, .int .i64 x.f5, .string x.f6, .int .i64 x.f7, .string x.f8, .slice A9 x.f9.length c9], rfl, rfl, ⟨[.int .i64 x.f4], [.int .i64 x.f5, .string x.f6, .int .i64 x.f7, .string x.f8, .slice A9 x.f9.length c9], rfl, rfl, ⟨[.int .i64 x.f5], [.string x.f6, .int .i64 x.f7, .string x.f8, .slice A9 x.f9.length c9], rfl, rfl, ⟨[.string x.f6], [.int .i64 x.f7, .string x.f8, .slice A9 x.f9.length c9], rfl, rfl, ⟨[.int .i64 x.f7], [.string x.f8, .slice A9 x.f9.length c9], rfl, rfl, ⟨[.string x.f8], [.slice A9 x.f9.length c9], rfl, rfl, ⟨A9, c9, rfl, l9, g9⟩⟩⟩⟩⟩⟩⟩⟩⟩⟩
theorem k42_mkM (w : World) (base : Nat) (ok : Nat → Prop) (x : S42) {v9 : Value} (g9 : (Kd.int .i64).R 3 w base ok v9 x.f9) : k42.M w base ok x [.int .i64 x.f0, .int .i64 x.f1, .int .i64 x.f2, .int .i64 x.f3, .int .i64 x.f4, .int .i64 x.f5, .string x.f6, .int .i64 x.f7, .string x.f8, v9] := ⟨[.int .i64 x.f0], [.int .i64 x.f1, .int .i64 x.f2, .int .i64 x.f3, .int .i64 x.f4, .int .i64 x.f5, .string x.f6, .int .i64 x.f7, .string x.f8, v9], rfl, rfl, ⟨[.int .i64 x.f1], [.int .i64 x.f2, .int .i64 x.f3, .int .i64 x.f4, .int .i64 x.f5, .string x.f6, .int .i64 x.f7, .string x.f8, v9], rfl, rfl, ⟨[.int .i64 x.f2], [.int .i64 x.f3, .int .i64 x.f4, .int .i64 x.f5, .string x.f6, .int .i64 x.f7, .string x.f8, v9], rfl, rfl, ⟨[.int .i64 x.f3], [.int .i64 x.f4, .int .i64 x.f5, .string x.f6, .int .i64 x.f7, .string x.f8, v9], rfl, rfl, ⟨[.int .i64 x.f4], [.int .i64 x.f5, .string x.f6, .int .i64 x.f7, .string x.f8, v9], rfl, rfl, ⟨[.int .i64 x.f5], [.string x.f6, .int .i64 x.f7, .string x.f8, v9], rfl, rfl, ⟨[.string x.f6], [.int .i64 x.f7, .string x.f8, v9], rfl, rfl, ⟨[.int .i64 x.f7], [.string x.f8, v9], rfl, rfl, ⟨[.string x.f8], [v9], rfl, rfl, ⟨v9, rfl, g9⟩⟩⟩⟩⟩⟩⟩⟩⟩⟩
def rd_T42 (xs : List S42) (i : Int) : S42 := xs.getD i.toNat z42
theorem at_T42 {w : World} {A : Option Addr} {n : Nat} {xs : List S42} (h : Kd.C k42 w A n xs) (i : Int) (h0 : 0 ≤ i) (h1 : i < n) : ∃ ad A9 c9, A = some ad ∧ w.cell? (ad.add (i.toNat * 10)) = some (.int .i64 (rd_T42 xs i).f0) ∧ w.cell? ⟨(ad.add (i.toNat * 10)).block, (ad.add (i.toNat * 10)).off + 1, none⟩ = some (.int .i64 (rd_T42 xs i).f1) ∧ w.cell? ⟨(ad.add (i.toNat * 10)).block, (ad.add (i.toNat * 10)).off + 2, none⟩ = some (.int .i64 (rd_T42 xs i).f2) ∧ w.cell? ⟨(ad.add (i.toNat * 10)).block, (ad.add (i.toNat * 10)).off + 3, none⟩ = some (.int .i64 (rd_T42 xs i).f3) ∧ w.cell? ⟨(ad.add (i.toNat * 10)).block, (ad.add (i.toNat * 10)).off + 4, none⟩ = some (.int .i64 (rd_T42 xs i).f4) ∧ w.cell? ⟨(ad.add (i.toNat * 10)).block, (ad.add (i.toNat * 10)).off + 5, none⟩ = some (.int .i64 (rd_T42 xs i).f5) ∧ w.cell? ⟨(ad.add (i.toNat * 10)).block, (ad.add (i.toNat * 10)).off + 6, none⟩ = some (.string (rd_T42 xs i).f6) ∧ w.cell? ⟨(ad.add (i.toNat * 10)).block, (ad.add (i.toNat * 10)).off + 7, none⟩ = some (.int .i64 (rd_T42 xs i).f7) ∧ w.cell? ⟨(ad.add (i.toNat * 10)).block, (ad.add (i.toNat * 10)).off + 8, none⟩ = some (.string (rd_T42 xs i).f8) ∧ w.cell? ⟨(ad.add (i.toNat * 10)).block, (ad.add (i.toNat * 10)).off + 9, none⟩ = some (.slice A9 (rd_T42 xs i).f9.length c9) ∧ (rd_T42 xs i).f9.length ≤ c9 ∧ (Kd.int .i64).C w A9 (rd_T42 xs i).f9.length (rd_T42 xs i).f9 := by
 obtain ⟨ad, c, e, _, hK, hc0⟩ := Kd.C_get h z42 i h0 h1
 have hc : ∀ j u, c[j]? = some u → w.cell? (ad.add (i.toNat * 10 + j)) = some u := hc0
 obtain ⟨A9, c9, rfl, l9, g9⟩ := k42_open hK
 exact ⟨ad, A9, c9, e, hc 0 _ rfl, by rw [← add_field _ _ 1 (by omega)]; exact hc 1 _ rfl, by rw [← add_field _ _ 2 (by omega)]; exact hc 2 _ rfl, by rw [← add_field _ _ 3 (by omega)]; exact hc 3 _ rfl, by rw [← add_field _ _ 4 (by omega)]; exact hc 4 _ rfl, by rw [← add_field _ _ 5 (by omega)]; exact hc 5 _ rfl, by rw [← add_field _ _ 6 (by omega)]; exact hc 6 _ rfl, by rw [← add_field _ _ 7 (by omega)]; exact hc 7 _ rfl, by rw [← add_field _ _ 8 (by omega)]; exact hc 8 _ rfl, by rw [← add_field _ _ 9 (by omega)]; exact hc 9 _ rfl, l9, g9⟩
structure GL (w : World) : Prop where
 len : ∃ m : Int, w.cell? ⟨0, 0, none⟩ = some (.int .i64 m)
 pow : Lib.TabIs Tryd.prog w "internal/strconv.uint64pow10" .u64 Lib.pow10Tab
 syn : ∃ ev : Value, w.cell? ⟨4, 0, none⟩ = some ev ∧ (ev = .nilIface ∨ ∃ te pe, ev = .iface te pe)
 rng : ∃ ev : Value, w.cell? ⟨5, 0, none⟩ = some ev ∧ (ev = .nilIface ∨ ∃ te pe, ev = .iface te pe)
theorem gl_block {w W : World} {k : Nat} {o : Obj} (hb : Below w.heap.size w W) (h : w.heap[k]? = some o) : W.heap[k]? = some o := by
 have hk := (Array.getElem?_eq_some_iff.1 h).1
 rw [hb.block k hk]; exact h
theorem gl_cell {w W : World} {a : Addr} {v : Value} (hb : Below w.heap.size w W) (h : w.cell? a = some v) : W.cell? a = some v := (hb.cell (World.block_lt_of_cell? w _ h)).trans h
theorem GL.below {w W : World} (h : GL w) (hb : Below w.heap.size w W) : GL W := by
 obtain ⟨m, hm⟩ := h.len
 obtain ⟨e1, h1, q1⟩ := h.syn
 obtain ⟨e2, h2, q2⟩ := h.rng
 refine ⟨⟨m, gl_cell hb hm⟩, ?_, ⟨e1, gl_cell hb h1, q1⟩, ⟨e2, gl_cell hb h2, q2⟩⟩
 have hp := h.pow
 unfold Lib.TabIs World.var? at hp ⊢
 revert hp
 cases hg : Tryd.prog.globalNamed "internal/strconv.uint64pow10" with
 | none => intro hp; simp at hp
 | some g =>
  simp only [Option.bind_some]
  intro hp
  cases hk : w.heap[g]? with
  | none => rw [hk] at hp; simp at hp
  | some o => rw [gl_block hb hk]; rw [hk] at hp; exact hp
theorem ret_str {a b : ByteArray} (h : a = b) : Ending.returned (.string a) = .returned (.string b) := by rw [h]
theorem ret_bool {a b : Bool} (h : a = b) : Ending.returned (.bool a) = .returned (.bool b) := by rw [h]
theorem wpList_bytes {P : Program} {ops : Array Oper} {rest : List Oper} {o : Oper} {a : Act} {W : World} {Q : Exit → Act → World → Prop} (hgd : o.guard = none) (src dst e : TypeId) (x : Operand) (ho : o.op = .convert src dst x)
  {u : TypeDesc} (hs : P.underlying src = some u) (hd : P.underlying dst = some (.slice e)) (he : P.underlying e = some (.int .u8)) (s : ByteArray) (hx : a.eval x = .string s) (hsz : s.size ≤ 9223372036854775807)
  (h : ∀ (W1 : World) (A1 : Option Addr) (c1 : Nat), Below W.heap.size W W1 → ReadsInt W1 .u8 A1 s.size (bytesOf s) → s.size ≤ c1 → wpList P ops Q rest (a.put o.dst (.slice A1 s.size c1)) W1) : wpList P ops Q (o :: rest) a W :=
 wpList_plain hgd fun _ hK => by
  unfold Oper.wp execOp
  have hr := print_bytes (P := P) src dst e hs hd he s W
  simp only [ho, hx, Sem.run_bind, hr, Result.andThen_ok, Sem.run_pure]
  exact hK _ _ (h _ _ _ (bytes_below (Below.refl _ _) (Nat.le_refl _) e s) (bytes_reads W e s hsz) (by simp only [grownCap, Question.cut]; exact Nat.le_add_right _ _))
theorem plain_step (s : ByteArray) (k : Nat) (h : k < s.size) : (bytesOf s).drop k = rd (bytesOf s) (k : Int) :: (bytesOf s).drop (k + 1) := by
 have hl : k < (bytesOf s).length := by rw [bytesOf_length]; exact h
 rw [List.drop_eq_getElem_cons hl]
 simp [rd, List.getD_eq_getElem?_getD, List.getElem?_eq_getElem hl]
theorem bytes_at {w : World} {A : Option Addr} {s : ByteArray} (h : ReadsInt w .u8 A s.size (bytesOf s)) (k : Nat) (hk : k < s.size) : ∃ ad, A = some ad ∧ w.cell? (ad.add k) = some (.int .u8 (rd (bytesOf s) (k : Int))) := by
 obtain ⟨ad, e, hc⟩ := h.at_ (k : Int) (by omega) (by omega)
 exact ⟨ad, e, by simpa using hc⟩
def hexD (n : Int) : Int := bt (⟨#[48, 49, 50, 51, 52, 53, 54, 55, 56, 57, 97, 98, 99, 100, 101, 102]⟩ : ByteArray) n
def quote1 (c : Int) : List Int := if 32 < c ∧ c < 127 ∧ c ≠ 37 then [c] else [37, hexD (c / 16), hexD (c % 16)]
def quoteL (l : List Int) : List Int := l.flatMap quote1
theorem quoteL_take (s : ByteArray) (k : Nat) (h : k < s.size) : quoteL ((bytesOf s).take (k + 1)) = quoteL ((bytesOf s).take k) ++ quote1 (rd (bytesOf s) (k : Int)) := by
 have hl : k < (bytesOf s).length := by rw [bytesOf_length]; exact h
 unfold quoteL
 rw [List.take_add_one, List.getElem?_eq_getElem hl]
 rw [show rd (bytesOf s) (k : Int) = (bytesOf s)[k] by simp [rd, List.getD_eq_getElem?_getD, List.getElem?_eq_getElem hl]]
 rw [Option.toList_some, List.flatMap_append, List.flatMap_cons, List.flatMap_nil, List.append_nil]
theorem quote1_len (c : Int) : (quote1 c).length ≤ 3 := by unfold quote1; split <;> simp
theorem quoteL_len : ∀ l : List Int, (quoteL l).length ≤ 3 * l.length
 | [] => by simp [quoteL]
 | c :: t => by
  have h1 := quote1_len c
  have h2 := quoteL_len t
  simp only [quoteL, List.flatMap_cons, List.length_append, List.length_cons] at h2 ⊢
  omega
theorem empty_of (s : ByteArray) (h : s.size = 0) : s.toList.isEmpty = true := by
 rw [ByteArray.toList_eq]
 have h2 : s.data.toList.length = 0 := by rw [data_length]; exact h
 rw [List.eq_nil_of_length_eq_zero h2]; rfl
theorem empty_not (s : ByteArray) (h : ¬ s.size = 0) : s.toList.isEmpty = false := by
 rw [ByteArray.toList_eq]
 cases hd : s.data.toList with
 | nil => exact absurd (by rw [← data_length, hd]; rfl) h
 | cons a t => rfl
theorem bk_ {Q P : Prop} (x : Q) (h : Q → P := by intro hh; (with_reducible repeat (first | refine blk_drewN ?_ _ | refine blk_drew ?_ | refine blk_alloc ?_ _)); exact hh) : P := h x
theorem kr_ {Q P : Prop} (x : Q) (h : Q → P := by intro hh; (with_reducible repeat (first | apply Kd.R_alloc | apply Kd.R_drewN | apply Kd.R_drew)); exact hh) : P := h x
theorem bb_ {Q P : Prop} (x : Q) (h : Q → P := by intro hh; repeat (first | (with_reducible first | exact hh | apply below_alloc | apply pw_below_drewN | apply below_drew1) | exact hh)) : P := h x
theorem bb1_ {Q R P : Prop} (x : Q) (y : R) (h : Q → R → P := by intro hh h1; repeat (first | (with_reducible first | exact hh | apply below_alloc | apply pw_below_drewN | apply below_drew1 | refine below_set ?_ h1) | exact hh)) : P := h x y
theorem bb2_ {Q R S P : Prop} (x : Q) (y : R) (z : S) (h : Q → R → S → P := by intro hh h1 h2; repeat (first | (with_reducible first | exact hh | apply below_alloc | apply pw_below_drewN | apply below_drew1 | refine below_set ?_ h1 | refine below_set ?_ h2) | exact hh)) : P := h x y z
theorem as_ {P : Prop} (h : P := by first | (with_reducible assumption) | assumption) : P := h
theorem ar_ {P : Prop} (h : P := by (try simp only [List.map_toArray, List.map_cons, List.map_nil]); first | done | rfl | (simp only [List.length_drop, List.length_take]; rfl)) : P := h
theorem rs_ {P : Prop} (h : P := by first | rfl | (simp; done) | (simp [*]; done)) : P := h
end Go.Proofs.YtcgkmomhjincgaaDoor.LibQ
