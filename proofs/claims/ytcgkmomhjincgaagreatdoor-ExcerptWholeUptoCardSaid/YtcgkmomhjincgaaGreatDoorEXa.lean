/- The excerpt of a text and its law, part Xa: the plain law. -/
import Derived.Test.YtcgkmomhjincgaaGreatDoorELibX0
import Derived.Test.YtcgkmomhjincgaaGreatDoorELibX15
import Derived.Lib.QuoteBits
namespace Go.Proofs.YtcgkmomhjincgaaGreatDoor.LibX.Scr
open Go.RowKit Go.Proofs.YtcgkmomhjincgaaGreatDoor.LibX Go.Proofs.YtcgkmomhjincgaaGreatDoorW.PrintWords Go.Proofs.YtcgkmomhjincgaaGreatDoorW.PrintLast Go.Proofs.YtcgkmomhjincgaaGreatDoorW.PrintMore
set_option linter.unusedVariables false
set_option linter.unusedSimpArgs false
attribute [local go_sem] max2_int min2_int max_two min_two max_three min_three max_four min_four
def refB (r : Int) : List Int :=
 if 0 ≤ r ∧ r ≤ 1114111 ∧ (r < 55296 ∨ 57343 < r) then
  (if r ≤ 127 then [r] else if r ≤ 2047 then [192 + r / 64, 128 + r % 64] else if r ≤ 65535 then [224 + r / 4096, 128 + r / 64 % 64, 128 + r % 64] else [240 + r / 262144, 128 + r / 4096 % 64, 128 + r / 64 % 64, 128 + r % 64])
 else []
theorem w64x (n : Int) (h0 : -9223372036854775808 ≤ n) (h1 : n ≤ 9223372036854775807) : wrap64 n = n := by unfold wrap64; omega
theorem refSign_eq (r : Int) (h0 : 0 ≤ r) : scholiaref03_Sign.f r = some (decide (0 ≤ r ∧ r ≤ 1114111 ∧ (r < 55296 ∨ 57343 < r))) := by
 unfold scholiaref03_Sign.f
 rw [if_pos h0]
 by_cases c1 : r < 55296
 ·rw [if_pos c1]; congr 1; symm; rw [decide_eq_true_eq]; omega
 ·rw [if_neg c1]
  by_cases c2 : r > 57343
  ·rw [if_pos c2]; congr 1; rw [decide_eq_decide]; omega
  ·rw [if_neg c2]; congr 1; symm; rw [decide_eq_false_iff_not]; omega
theorem refBytes_eq (r : Int) (h0 : 0 ≤ r) (h1 : r ≤ 2097151) : scholiaref03_Bytes.f r = some (refB r) := by
 unfold scholiaref03_Bytes.f refB
 rw [refSign_eq r h0]
 simp only [Option.bind_some, decide_eq_true_eq]
 by_cases c : 0 ≤ r ∧ r ≤ 1114111 ∧ (r < 55296 ∨ 57343 < r)
 ·rw [if_pos c, if_pos c]
  have d1 : Int.tdiv r 64 = r / 64 := Int.tdiv_eq_ediv_of_nonneg h0
  have d2 : Int.tdiv r 4096 = r / 4096 := Int.tdiv_eq_ediv_of_nonneg h0
  have d3 : Int.tdiv r 262144 = r / 262144 := Int.tdiv_eq_ediv_of_nonneg h0
  have m1 : Int.tmod r 64 = r % 64 := Int.tmod_eq_emod_of_nonneg h0
  have q1 : wrap64 (r / 64) = r / 64 := w64x _ (by omega) (by omega)
  have q2 : wrap64 (r / 4096) = r / 4096 := w64x _ (by omega) (by omega)
  have q3 : wrap64 (r / 262144) = r / 262144 := w64x _ (by omega) (by omega)
  have m2 : Int.tmod (r / 64) 64 = r / 64 % 64 := Int.tmod_eq_emod_of_nonneg (by omega)
  have m3 : Int.tmod (r / 4096) 64 = r / 4096 % 64 := Int.tmod_eq_emod_of_nonneg (by omega)
  rw [d1, d2, d3, m1, q1, q2, q3, m2, m3]
  rw [w64x (192 + r / 64) (by omega) (by omega), w64x (128 + r % 64) (by omega) (by omega), w64x (224 + r / 4096) (by omega) (by omega), w64x (128 + r / 64 % 64) (by omega) (by omega), w64x (240 + r / 262144) (by omega) (by omega), w64x (128 + r / 4096 % 64) (by omega) (by omega)]
  by_cases c1 : r ≤ 127
  ·rw [if_pos c1, if_pos c1, Int.emod_eq_of_lt h0 (by omega)]
  ·rw [if_neg c1, if_neg c1]
   by_cases c2 : r ≤ 2047
   ·rw [if_pos c2, if_pos c2, Int.emod_eq_of_lt (a := 192 + r / 64) (by omega) (by omega), Int.emod_eq_of_lt (a := 128 + r % 64) (by omega) (by omega)]
   ·rw [if_neg c2, if_neg c2]
    by_cases c3 : r ≤ 65535
    ·rw [if_pos c3, if_pos c3, Int.emod_eq_of_lt (a := 224 + r / 4096) (by omega) (by omega), Int.emod_eq_of_lt (a := 128 + r / 64 % 64) (by omega) (by omega), Int.emod_eq_of_lt (a := 128 + r % 64) (by omega) (by omega)]
    ·rw [if_neg c3, if_neg c3, Int.emod_eq_of_lt (a := 240 + r / 262144) (by omega) (by omega), Int.emod_eq_of_lt (a := 128 + r / 4096 % 64) (by omega) (by omega), Int.emod_eq_of_lt (a := 128 + r / 64 % 64) (by omega) (by omega), Int.emod_eq_of_lt (a := 128 + r % 64) (by omega) (by omega)]
 ·rw [if_neg c, if_neg c]
theorem t1 (c0 : Int) (h0 : 0 ≤ c0) (h1 : c0 ≤ 255) : refB c0 = [c0] ↔ c0 < 128 := by
 unfold refB
 rw [if_pos (by omega)]
 by_cases c : c0 ≤ 127
 ·rw [if_pos c]; simp; omega
 ·rw [if_neg c, if_pos (by omega)]; simp; omega
theorem t2 (c0 c1 : Int) (h0 : 0 ≤ c0) (h1 : c0 ≤ 255) (g0 : 0 ≤ c1) (g1 : c1 ≤ 255) : refB (c0 % 32 * 64 + c1 % 64) = [c0, c1] ↔ (192 ≤ c0 ∧ c0 < 224 ∧ 128 ≤ c1 ∧ c1 < 192 ∧ 128 ≤ c0 % 32 * 64 + c1 % 64) := by
 unfold refB
 rw [if_pos (by omega)]
 by_cases c : c0 % 32 * 64 + c1 % 64 ≤ 127
 ·rw [if_pos c]; simp; omega
 ·rw [if_neg c, if_pos (by omega)]
  simp only [List.cons.injEq, and_true]
  omega
theorem t3 (c0 c1 c2 : Int) (h0 : 0 ≤ c0) (h1 : c0 ≤ 255) (g0 : 0 ≤ c1) (g1 : c1 ≤ 255) (e0 : 0 ≤ c2) (e1 : c2 ≤ 255) (r : Int) (hr : r = c0 % 16 * 4096 + c1 % 64 * 64 + c2 % 64) : refB r = [c0, c1, c2] ↔ (224 ≤ c0 ∧ c0 < 240 ∧ 128 ≤ c1 ∧ c1 < 192 ∧ 128 ≤ c2 ∧ c2 < 192 ∧ 2048 ≤ r ∧ (r < 55296 ∨ 57343 < r)) := by
 unfold refB
 by_cases cs : 0 ≤ r ∧ r ≤ 1114111 ∧ (r < 55296 ∨ 57343 < r)
 ·rw [if_pos cs]
  by_cases c : r ≤ 127
  ·rw [if_pos c]; simp; omega
  ·rw [if_neg c]
   by_cases c' : r ≤ 2047
   ·rw [if_pos c']; simp; omega
   ·rw [if_neg c', if_pos (by omega)]
    simp only [List.cons.injEq, and_true]
    omega
 ·rw [if_neg cs]
  constructor
  ·intro h; cases h
  ·omega
theorem t4 (c0 c1 c2 c3 : Int) (h0 : 0 ≤ c0) (h1 : c0 ≤ 255) (g0 : 0 ≤ c1) (g1 : c1 ≤ 255) (e0 : 0 ≤ c2) (e1 : c2 ≤ 255) (f0 : 0 ≤ c3) (f1 : c3 ≤ 255) (r : Int) (hr : r = c0 % 8 * 262144 + c1 % 64 * 4096 + c2 % 64 * 64 + c3 % 64) :
  refB r = [c0, c1, c2, c3] ↔ (240 ≤ c0 ∧ c0 < 248 ∧ 128 ≤ c1 ∧ c1 < 192 ∧ 128 ≤ c2 ∧ c2 < 192 ∧ 128 ≤ c3 ∧ c3 < 192 ∧ 65536 ≤ r ∧ r ≤ 1114111) := by
 unfold refB
 by_cases cs : 0 ≤ r ∧ r ≤ 1114111 ∧ (r < 55296 ∨ 57343 < r)
 ·rw [if_pos cs]
  by_cases c : r ≤ 127
  ·rw [if_pos c]; simp; omega
  ·rw [if_neg c]
   by_cases c' : r ≤ 2047
   ·rw [if_pos c']; simp; omega
   ·rw [if_neg c']
    by_cases c'' : r ≤ 65535
    ·rw [if_pos c'']; simp; omega
    ·rw [if_neg c'']
     simp only [List.cons.injEq, and_true]
     omega
 ·rw [if_neg cs]
  constructor
  ·intro h; cases h
  ·omega
theorem ext_strOf (s : ByteArray) (a b : Nat) : s.extract a b = strOfNums (((bytesOf s).take b).drop a) := by
 apply ByteArray.ext
 apply Array.toList_inj.1
 rw [ByteArray.data_extract, Array.toList_extract, List.extract_eq_take_drop]
 show _ = (((s.data.toList.map fun b => (b.toNat : Int)).take b).drop a).map fun n => UInt8.ofNat n.toNat
 rw [← List.map_take, ← List.map_drop, List.map_map, List.drop_take]
 exact ((List.map_congr_left (g := id) (fun b _ => by simp)).trans (List.map_id _)).symm
theorem bytes_strOf (l : List Int) (h : ∀ c ∈ l, 0 ≤ c ∧ c ≤ 255) : bytesOf (strOfNums l) = l := by
 show ((l.map fun n => UInt8.ofNat n.toNat).map fun b => (b.toNat : Int)) = l
 rw [List.map_map]
 refine (List.map_congr_left (g := id) (fun c hc => ?_)).trans (List.map_id _)
 have := h c hc
 show (((UInt8.ofNat c.toNat).toNat : Nat) : Int) = c
 rw [UInt8.toNat_ofNat']
 omega
theorem refB_range (r : Int) : ∀ c ∈ refB r, 0 ≤ c ∧ c ≤ 255 := by
 unfold refB
 intro c hc
 split at hc
 ·split at hc
  ·simp at hc; omega
  ·split at hc
   ·simp at hc; omega
   ·split at hc <;> (simp at hc; omega)
 ·simp at hc
theorem bytes_range (s : ByteArray) : ∀ c ∈ bytesOf s, 0 ≤ c ∧ c ≤ 255 := by
 intro c hc
 unfold bytesOf at hc
 obtain ⟨b, _, rfl⟩ := List.mem_map.1 hc
 have := b.toNat_lt
 omega
theorem bytes_get (s : ByteArray) (j : Nat) (h : j < s.size) : (bytesOf s)[j]? = some (bt s j) := by
 have e : s.data.toList[j]? = some s[j] := by
  rw [Array.getElem?_toList, Array.getElem?_eq_getElem h]
  rfl
 unfold bytesOf
 rw [List.getElem?_map, e]
 simp [bt, h]
theorem test_eq (x : ByteArray) (l : List Int) (n : Nat) (hl : ∀ c ∈ l, 0 ≤ c ∧ c ≤ 255) : ((strOfNums l).toList = (x.extract 0 n).toList) ↔ l = (bytesOf x).take n := by
 rw [ext_strOf x 0 n, List.drop_zero, ByteArray.toList_eq, ByteArray.toList_eq]
 constructor
 ·intro h
  have h2 : strOfNums l = strOfNums ((bytesOf x).take n) := ByteArray.ext (Array.toList_inj.1 h)
  rw [← bytes_strOf l hl, h2, bytes_strOf _ (fun c hc => bytes_range x c (List.mem_of_mem_take hc))]
 ·intro h
  rw [h]
theorem take1 (x : ByteArray) (h : 1 ≤ x.size) : (bytesOf x).take 1 = [bt x 0] := by
 have h0 := bytes_get x 0 (by omega)
 cases hb : bytesOf x with
 | nil => rw [hb] at h0; cases h0
 | cons a t => rw [hb] at h0; simp at h0; simp [h0]
theorem take2 (x : ByteArray) (h : 2 ≤ x.size) : (bytesOf x).take 2 = [bt x 0, bt x 1] := by
 rw [List.take_add_one (i := 1), take1 x (by omega), show (bytesOf x)[1]? = some (bt x 1) from bytes_get x 1 (by omega)]; rfl
theorem take3 (x : ByteArray) (h : 3 ≤ x.size) : (bytesOf x).take 3 = [bt x 0, bt x 1, bt x 2] := by
 rw [List.take_add_one (i := 2), take2 x (by omega), show (bytesOf x)[2]? = some (bt x 2) from bytes_get x 2 (by omega)]; rfl
theorem take4 (x : ByteArray) (h : 4 ≤ x.size) : (bytesOf x).take 4 = [bt x 0, bt x 1, bt x 2, bt x 3] := by
 rw [List.take_add_one (i := 3), take3 x (by omega), show (bytesOf x)[3]? = some (bt x 3) from bytes_get x 3 (by omega)]; rfl
theorem val_eq (c : Int) (h0 : 0 ≤ c) (h1 : c ≤ 255) : scholiaref03_value.f c = some (c % 64) := by
 unfold scholiaref03_value.f
 rw [w64x c (by omega) (by omega), Int.tmod_eq_emod_of_nonneg h0]
theorem round_end (x : ByteArray) (k : Nat) (n : Nat) (r i : Int) (hn : n ≤ x.size) (h0 : 0 ≤ r) (h1 : r ≤ 2097151) :
  ((scholiaref03_Bytes.f r).bind fun t => if 0 ≤ (n : Int) then (if (n : Int) ≤ (x.size : Int) then (if (strOfNums t).toList = (x.extract 0 (n : Int).toNat).toList then some (r, (n : Int)) else scholiaref03_Next.l0 k x i) else none) else none) =
  if refB r = (bytesOf x).take n then some (r, (n : Int)) else scholiaref03_Next.l0 k x i := by
 rw [refBytes_eq r h0 h1]
 simp only [Option.bind_some]
 rw [if_pos (by omega), if_pos (by omega), Int.toNat_natCast]
 by_cases c : refB r = (bytesOf x).take n
 ·rw [if_pos c, if_pos ((test_eq x _ n (refB_range r)).2 c)]
 ·rw [if_neg c, if_neg (fun h => c ((test_eq x _ n (refB_range r)).1 h))]
theorem wr1 : wrap64 (0 + 1) = 1 := by unfold wrap64; omega
theorem wr2 : wrap64 (1 + 1) = 2 := by unfold wrap64; omega
theorem wr3 : wrap64 (2 + 1) = 3 := by unfold wrap64; omega
theorem wr4 : wrap64 (3 + 1) = 4 := by unfold wrap64; omega
theorem round1 (x : ByteArray) (k : Nat) (h : 1 ≤ x.size) : scholiaref03_Next.l0 (k + 4) x 0 = if bt x 0 < 128 then some (bt x 0, 1) else scholiaref03_Next.l0 k x 1 := by
 have b0 := bt_range x 0
 rw [scholiaref03_Next.l0, if_pos (by omega), wr1, if_neg (by omega), if_pos rfl, if_pos (by omega), scholiaref03_Next.j2, if_neg (by omega), scholiaref03_Next.j3, if_neg (by omega), scholiaref03_Next.j4, if_neg (by omega), w64x (bt x 0) (by omega) (by omega)]
 have q := round_end x k 1 (bt x 0) (wrap64 (0 + 1)) h b0.1 (by omega)
 rw [show ((1 : Nat) : Int) = 1 from rfl] at q
 rw [q, take1 x h, wr1]
 by_cases c : bt x 0 < 128
 ·rw [if_pos c, if_pos ((t1 _ b0.1 b0.2).2 c)]
 ·rw [if_neg c, if_neg (fun h => c ((t1 _ b0.1 b0.2).1 h))]
theorem mul_mod (c : Int) (h0 : 0 ≤ c) (h1 : c ≤ 255) (m : Int) (hm : 0 < m) : Int.tmod (wrap64 c) m = c % m := by
 rw [w64x c (by omega) (by omega), Int.tmod_eq_emod_of_nonneg h0]
theorem round2 (x : ByteArray) (k : Nat) : scholiaref03_Next.l0 (k + 4) x 1 = if (x.size : Int) < 2 then some (-1, 1) else
  if 192 ≤ bt x 0 ∧ bt x 0 < 224 ∧ 128 ≤ bt x 1 ∧ bt x 1 < 192 ∧ 128 ≤ bt x 0 % 32 * 64 + bt x 1 % 64 then some (bt x 0 % 32 * 64 + bt x 1 % 64, 2) else scholiaref03_Next.l0 k x 2 := by
 have b0 := bt_range x 0
 have b1 := bt_range x 1
 rw [scholiaref03_Next.l0, if_pos (by omega), wr2]
 by_cases c : (x.size : Int) < 2
 ·rw [if_pos (by omega), if_pos c]
 ·rw [if_neg (by omega), if_neg c, if_neg (by omega), scholiaref03_Next.j2, if_pos rfl, if_pos (by omega), if_pos (by omega), val_eq _ b1.1 b1.2]
  simp only [Option.bind_some]
  rw [mul_mod _ b0.1 b0.2 32 (by omega), w64x (bt x 0 % 32 * 64) (by omega) (by omega), w64x (bt x 0 % 32 * 64 + bt x 1 % 64) (by omega) (by omega), scholiaref03_Next.j3, if_neg (by omega), scholiaref03_Next.j4, if_neg (by omega)]
  have q := round_end x k 2 (bt x 0 % 32 * 64 + bt x 1 % 64) (wrap64 (1 + 1)) (by omega) (by omega) (by omega)
  rw [show ((2 : Nat) : Int) = 2 from rfl] at q
  rw [q, take2 x (by omega), wr2]
  have t := t2 _ _ b0.1 b0.2 b1.1 b1.2
  by_cases c2 : 192 ≤ bt x 0 ∧ bt x 0 < 224 ∧ 128 ≤ bt x 1 ∧ bt x 1 < 192 ∧ 128 ≤ bt x 0 % 32 * 64 + bt x 1 % 64
  ·rw [if_pos c2, if_pos (t.2 c2)]
  ·rw [if_neg c2, if_neg (fun h => c2 (t.1 h))]
theorem round3 (x : ByteArray) (k : Nat) (r : Int) (hr : r = bt x 0 % 16 * 4096 + bt x 1 % 64 * 64 + bt x 2 % 64) : scholiaref03_Next.l0 (k + 4) x 2 = if (x.size : Int) < 3 then some (-1, 1) else
  if 224 ≤ bt x 0 ∧ bt x 0 < 240 ∧ 128 ≤ bt x 1 ∧ bt x 1 < 192 ∧ 128 ≤ bt x 2 ∧ bt x 2 < 192 ∧ 2048 ≤ r ∧ (r < 55296 ∨ 57343 < r) then some (r, 3) else scholiaref03_Next.l0 k x 3 := by
 have b0 := bt_range x 0
 have b1 := bt_range x 1
 have b2 := bt_range x 2
 rw [scholiaref03_Next.l0, if_pos (by omega), wr3]
 by_cases c : (x.size : Int) < 3
 ·rw [if_pos (by omega), if_pos c]
 ·rw [if_neg (by omega), if_neg c, if_neg (by omega), scholiaref03_Next.j2, if_neg (by omega), scholiaref03_Next.j3, if_pos rfl, if_pos (by omega), if_pos (by omega), val_eq _ b1.1 b1.2]
  simp only [Option.bind_some]
  rw [if_pos (by omega), val_eq _ b2.1 b2.2]
  simp only [Option.bind_some]
  rw [mul_mod _ b0.1 b0.2 16 (by omega), w64x (bt x 0 % 16 * 4096) (by omega) (by omega), w64x (bt x 1 % 64 * 64) (by omega) (by omega), w64x (bt x 0 % 16 * 4096 + bt x 1 % 64 * 64) (by omega) (by omega), ← hr, w64x r (by omega) (by omega), scholiaref03_Next.j4, if_neg (by omega)]
  have q := round_end x k 3 r (wrap64 (2 + 1)) (by omega) (by omega) (by omega)
  rw [show ((3 : Nat) : Int) = 3 from rfl] at q
  rw [q, take3 x (by omega), wr3]
  have t := t3 _ _ _ b0.1 b0.2 b1.1 b1.2 b2.1 b2.2 r hr
  by_cases c2 : 224 ≤ bt x 0 ∧ bt x 0 < 240 ∧ 128 ≤ bt x 1 ∧ bt x 1 < 192 ∧ 128 ≤ bt x 2 ∧ bt x 2 < 192 ∧ 2048 ≤ r ∧ (r < 55296 ∨ 57343 < r)
  ·rw [if_pos c2, if_pos (t.2 c2)]
  ·rw [if_neg c2, if_neg (fun h => c2 (t.1 h))]
theorem round4 (x : ByteArray) (k : Nat) (r : Int) (hr : r = bt x 0 % 8 * 262144 + bt x 1 % 64 * 4096 + bt x 2 % 64 * 64 + bt x 3 % 64) : scholiaref03_Next.l0 (k + 5) x 3 = if (x.size : Int) < 4 then some (-1, 1) else
  if 240 ≤ bt x 0 ∧ bt x 0 < 248 ∧ 128 ≤ bt x 1 ∧ bt x 1 < 192 ∧ 128 ≤ bt x 2 ∧ bt x 2 < 192 ∧ 128 ≤ bt x 3 ∧ bt x 3 < 192 ∧ 65536 ≤ r ∧ r ≤ 1114111 then some (r, 4) else some (-1, 1) := by
 have b0 := bt_range x 0
 have b1 := bt_range x 1
 have b2 := bt_range x 2
 have b3 := bt_range x 3
 rw [scholiaref03_Next.l0, if_pos (by omega), wr4]
 by_cases c : (x.size : Int) < 4
 ·rw [if_pos (by omega), if_pos c]
 ·rw [if_neg (by omega), if_neg c, if_neg (by omega), scholiaref03_Next.j2, if_neg (by omega), scholiaref03_Next.j3, if_neg (by omega), scholiaref03_Next.j4, if_pos rfl, if_pos (by omega), if_pos (by omega), val_eq _ b1.1 b1.2]
  simp only [Option.bind_some]
  rw [if_pos (by omega), val_eq _ b2.1 b2.2]
  simp only [Option.bind_some]
  rw [if_pos (by omega), val_eq _ b3.1 b3.2]
  simp only [Option.bind_some]
  rw [mul_mod _ b0.1 b0.2 8 (by omega), w64x (bt x 0 % 8 * 262144) (by omega) (by omega), w64x (bt x 1 % 64 * 4096) (by omega) (by omega), w64x (bt x 2 % 64 * 64) (by omega) (by omega), w64x (bt x 0 % 8 * 262144 + bt x 1 % 64 * 4096) (by omega) (by omega), w64x (bt x 0 % 8 * 262144 + bt x 1 % 64 * 4096 + bt x 2 % 64 * 64) (by omega) (by omega), ← hr, w64x r (by omega) (by omega)]
  have q := round_end x (k + 1) 4 r (wrap64 (3 + 1)) (by omega) (by omega) (by omega)
  rw [show ((4 : Nat) : Int) = 4 from rfl] at q
  rw [q, take4 x (by omega), wr4]
  have t := t4 _ _ _ _ b0.1 b0.2 b1.1 b1.2 b2.1 b2.2 b3.1 b3.2 r hr
  by_cases c2 : 240 ≤ bt x 0 ∧ bt x 0 < 248 ∧ 128 ≤ bt x 1 ∧ bt x 1 < 192 ∧ 128 ≤ bt x 2 ∧ bt x 2 < 192 ∧ 128 ≤ bt x 3 ∧ bt x 3 < 192 ∧ 65536 ≤ r ∧ r ≤ 1114111
  ·rw [if_pos c2, if_pos (t.2 c2)]
  ·rw [if_neg c2, if_neg (fun h => c2 (t.1 h)), scholiaref03_Next.l0, if_neg (by omega)]
theorem and_mask (a : Int) (h0 : 0 ≤ a) (h1 : a ≤ 255) (n : Nat) (hn : n ≤ 8) : Go.bits .and .u8 a ((2 ^ n - 1 : Nat) : Int) = a % ((2 ^ n : Nat) : Int) := by
 have hp : 2 ^ n ≤ 2 ^ 8 := Nat.pow_le_pow_right (by omega) hn
 obtain ⟨A, rfl⟩ := Int.eq_ofNat_of_zero_le h0
 rw [Go.u8_and_nat A (2 ^ n - 1) (by omega) (by omega), Nat.and_two_pow_sub_one_eq_mod]
 rfl
set_option maxRecDepth 100000 in
theorem and_192 (c : Int) (h0 : 0 ≤ c) (h1 : c ≤ 255) : Go.bits .and .u8 c 192 = 128 ↔ (128 ≤ c ∧ c < 192) := by
 obtain ⟨C, rfl⟩ := Int.eq_ofNat_of_zero_le h0
 have hC : C < 256 := by omega
 rw [show (192 : Int) = ((192 : Nat) : Int) from rfl, Go.u8_and_nat C 192 hC (by omega)]
 have key : ∀ x : Fin 256, (x.val &&& 192 = 128) ↔ (128 ≤ x.val ∧ x.val < 192) := by decide
 have := key ⟨C, hC⟩
 simp only at this
 omega
theorem or_64 (r c : Int) (h0 : 0 ≤ r) (h1 : r ≤ 16777216) (g0 : 0 ≤ c) (g1 : c < 64) : Go.bits .or .i64 (r * 64) c = r * 64 + c := by
 obtain ⟨R, rfl⟩ := Int.eq_ofNat_of_zero_le h0
 obtain ⟨C, rfl⟩ := Int.eq_ofNat_of_zero_le g0
 rw [show (R : Int) * 64 = ((R * 64 : Nat) : Int) by omega]
 show Go.IntKind.i64.wrap ((BitVec.ofInt 64 ((R * 64 : Nat) : Int) ||| BitVec.ofInt 64 ((C : Nat) : Int)).toNat : Int) = _
 have e : R * 64 ||| C = R * 64 + C := by
  have q := Nat.two_pow_add_eq_or_of_lt (i := 6) (b := C) (by omega) R
  rw [Nat.mul_comm R 64]
  exact q.symm
 rw [BitVec.toNat_or, Go.ofInt_u64 (R * 64) (by omega), Go.ofInt_u64 C (by omega), e]
 rw [Go.Lib.wrap_i64_small _ (by omega)]
 omega
theorem nextGo_cons (c : Int) (t : List Int) (r : Int) (h0 : 0 ≤ r) (h1 : r ≤ 262144) (g0 : 0 ≤ c) (g1 : c ≤ 255) : nextGo (c :: t) r = if 128 ≤ c ∧ c < 192 then nextGo t (r * 64 + c % 64) else none := by
 rw [nextGo]
 have m := and_mask c g0 g1 6 (by omega)
 rw [show ((2 ^ 6 - 1 : Nat) : Int) = 63 from rfl, show ((2 ^ 6 : Nat) : Int) = 64 from rfl] at m
 by_cases q : 128 ≤ c ∧ c < 192
 ·rw [if_pos q, if_pos ((and_192 c g0 g1).2 q), m, w64x (r * 64) (by omega) (by omega), w64x (c % 64) (by omega) (by omega), or_64 r (c % 64) h0 (by omega) (by omega) (by omega)]
 ·rw [if_neg q, if_neg (fun h => q ((and_192 c g0 g1).1 h))]
theorem bytes_ext (s : ByteArray) (a b : Nat) : bytesOf (s.extract a b) = ((bytesOf s).take b).drop a := by
 rw [ext_strOf, bytes_strOf _ (fun c hc => bytes_range s c (List.mem_of_mem_take (List.mem_of_mem_drop hc)))]
theorem drop_bt (s : ByteArray) (a : Nat) (h : a < s.size) : (bytesOf s).drop a = bt s a :: (bytesOf s).drop (a + 1) := by
 have hl : a < (bytesOf s).length := by rw [bytesOf_length]; exact h
 rw [List.drop_eq_getElem_cons hl]
 have := bytes_get s a h
 rw [List.getElem?_eq_getElem hl] at this
 rw [Option.some.inj this]
theorem ext_0 (s : ByteArray) (a : Nat) : bytesOf (s.extract a a) = [] := by
 rw [bytes_ext, List.drop_take]; simp
theorem ext_1 (s : ByteArray) (a : Nat) (h : a < s.size) : bytesOf (s.extract a (a + 1)) = [bt s a] := by
 rw [bytes_ext, List.drop_take, drop_bt s a h, show a + 1 - a = 1 by omega]; rfl
theorem ext_2 (s : ByteArray) (a : Nat) (h : a + 1 < s.size) : bytesOf (s.extract a (a + 2)) = [bt s a, bt s ((a + 1 : Nat) : Int)] := by
 rw [bytes_ext, List.drop_take, drop_bt s a (by omega), drop_bt s (a + 1) h, show a + 2 - a = 2 by omega]; rfl
theorem ext_3 (s : ByteArray) (a : Nat) (h : a + 2 < s.size) : bytesOf (s.extract a (a + 3)) = [bt s a, bt s ((a + 1 : Nat) : Int), bt s ((a + 2 : Nat) : Int)] := by
 rw [bytes_ext, List.drop_take, drop_bt s a (by omega), drop_bt s (a + 1) (by omega), drop_bt s (a + 2) h, show a + 3 - a = 3 by omega]; rfl
theorem ext_bt (s : ByteArray) (i j : Nat) : bt (s.extract i s.size) (j : Int) = bt s ((i + j : Nat) : Int) := by
 unfold bt
 simp only [Int.toNat_natCast, ByteArray.size_extract, Nat.min_self]
 by_cases h : j < s.size - i
 ·rw [dif_pos h, dif_pos (by omega)]
  have e : (s.extract i s.size)[j]'(by rw [ByteArray.size_extract, Nat.min_self]; exact h) = s[i + j]'(by omega) := by
   simp [ByteArray.getElem_extract]
  rw [e]
 ·rw [dif_neg h, dif_neg (by omega)]
def Sg (r : Int) : Prop := 0 ≤ r ∧ r ≤ 1114111 ∧ (r < 55296 ∨ 57343 < r)
instance (r : Int) : Decidable (Sg r) := inferInstanceAs (Decidable (0 ≤ r ∧ r ≤ 1114111 ∧ (r < 55296 ∨ 57343 < r)))
def refN (c0 c1 c2 c3 m : Int) : Int × Int :=
 if c0 < 128 then (c0, 1) else if m < 2 then (-1, 1)
 else if 192 ≤ c0 ∧ c0 < 224 ∧ 128 ≤ c1 ∧ c1 < 192 ∧ 128 ≤ c0 % 32 * 64 + c1 % 64 then (c0 % 32 * 64 + c1 % 64, 2)
 else if m < 3 then (-1, 1)
 else if 224 ≤ c0 ∧ c0 < 240 ∧ 128 ≤ c1 ∧ c1 < 192 ∧ 128 ≤ c2 ∧ c2 < 192 ∧ 2048 ≤ c0 % 16 * 4096 + c1 % 64 * 64 + c2 % 64 ∧ (c0 % 16 * 4096 + c1 % 64 * 64 + c2 % 64 < 55296 ∨ 57343 < c0 % 16 * 4096 + c1 % 64 * 64 + c2 % 64) then (c0 % 16 * 4096 + c1 % 64 * 64 + c2 % 64, 3)
 else if m < 4 then (-1, 1)
 else if 240 ≤ c0 ∧ c0 < 248 ∧ 128 ≤ c1 ∧ c1 < 192 ∧ 128 ≤ c2 ∧ c2 < 192 ∧ 128 ≤ c3 ∧ c3 < 192 ∧ 65536 ≤ c0 % 8 * 262144 + c1 % 64 * 4096 + c2 % 64 * 64 + c3 % 64 ∧ c0 % 8 * 262144 + c1 % 64 * 4096 + c2 % 64 * 64 + c3 % 64 ≤ 1114111 then (c0 % 8 * 262144 + c1 % 64 * 4096 + c2 % 64 * 64 + c3 % 64, 4)
 else (-1, 1)
theorem ref_l0 (x : ByteArray) (k : Nat) (h : 1 ≤ x.size) : scholiaref03_Next.l0 (k + 17) x 0 = some (refN (bt x 0) (bt x 1) (bt x 2) (bt x 3) x.size) := by
 unfold refN
 rw [show k + 17 = (k + 13) + 4 by omega, round1 x _ h]
 split
 ·rfl
 ·rw [show k + 13 = (k + 9) + 4 by omega, round2 x]
  split
  ·rfl
  ·split
   ·rfl
   ·rw [show k + 9 = (k + 5) + 4 by omega, round3 x _ _ rfl]
    split
    ·rfl
    ·split
     ·rfl
     ·rw [round4 x _ _ rfl]
      split
      ·rfl
      ·split <;> rfl
theorem refNext_eq (s : ByteArray) (i : Nat) (hi : i < s.size) (k : Nat) : scholiaref03_Next.f (k + 18) s (i : Int) = some (refN (bt s i) (bt s ((i + 1 : Nat) : Int)) (bt s ((i + 2 : Nat) : Int)) (bt s ((i + 3 : Nat) : Int)) ((s.size : Int) - i)) := by
 unfold scholiaref03_Next.f
 rw [if_neg (by omega), scholiaref03_Next.j0, if_neg (by simpa using hi), if_pos (by omega), if_pos (by omega), Int.toNat_natCast]
 have hx : (s.extract i s.size).size = s.size - i := by rw [ByteArray.size_extract, Nat.min_self]
 rw [ref_l0 _ k (by omega), hx]
 have e0 := ext_bt s i 0
 have e1 := ext_bt s i 1
 have e2 := ext_bt s i 2
 have e3 := ext_bt s i 3
 rw [show ((0 : Nat) : Int) = 0 from rfl, Nat.add_zero] at e0
 rw [show ((1 : Nat) : Int) = 1 from rfl] at e1
 rw [show ((2 : Nat) : Int) = 2 from rfl] at e2
 rw [show ((3 : Nat) : Int) = 3 from rfl] at e3
 rw [e0, e1, e2, e3, show ((s.size - i : Nat) : Int) = (s.size : Int) - i by omega]
theorem sign_eq (r : Int) : utf_Sign.f r = some (decide (Sg r)) := by
 unfold utf_Sign.f
 have hd : ∀ b : Bool, (b = true ↔ Sg r) → some b = some (decide (Sg r)) := fun b h => by
  congr 1; cases b with
  | true => symm; exact decide_eq_true (h.1 rfl)
  | false => symm; exact decide_eq_false (fun c => by have := h.2 c; cases this)
 split
 ·split
  ·split
   ·exact hd _ ⟨fun _ => by unfold Sg; omega, fun _ => rfl⟩
   ·exact hd _ ⟨fun h => by have := of_decide_eq_true h; unfold Sg; omega, fun h => by unfold Sg at h; exact decide_eq_true (by omega)⟩
  ·exact hd _ ⟨fun h => (by cases h), fun h => (by unfold Sg at h; omega)⟩
 ·exact hd _ ⟨fun h => (by cases h), fun h => (by unfold Sg at h; omega)⟩
theorem nextEnd_some (r sz least : Int) : nextEnd (some r) sz least = some (if r < least then (-1, 1) else if Sg r then (r, sz) else (-1, 1)) := by
 unfold nextEnd
 simp only [sign_eq, Option.bind_some, decide_eq_true_eq]
 split
 ·rfl
 ·split <;> rfl
theorem utfNext_eq (s : ByteArray) (i : Nat) (hi : i < s.size) (hs : s.size ≤ 140737488351232) : utf_Next.f s (i : Int) = some (refN (bt s i) (bt s ((i + 1 : Nat) : Int)) (bt s ((i + 2 : Nat) : Int)) (bt s ((i + 3 : Nat) : Int)) ((s.size : Int) - i)) := by
 have b0 := bt_range s i
 have b1 := bt_range s ((i + 1 : Nat) : Int)
 have b2 := bt_range s ((i + 2 : Nat) : Int)
 have b3 := bt_range s ((i + 3 : Nat) : Int)
 have x1 := ext_1 s (i + 1)
 have x2 := ext_2 s (i + 1)
 have x3 := ext_3 s (i + 1)
 rw [show i + 1 + 1 = i + 2 by omega] at x1 x2 x3
 rw [show i + 1 + 2 = i + 3 by omega] at x2 x3
 rw [show i + 1 + 3 = i + 4 by omega] at x3
 unfold utf_Next.f
 rw [if_pos hs, if_neg (by omega), if_neg (by omega)]
 generalize bt s (i : Int) = c0 at *
 generalize bt s ((i + 1 : Nat) : Int) = c1 at *
 generalize bt s ((i + 2 : Nat) : Int) = c2 at *
 generalize bt s ((i + 3 : Nat) : Int) = c3 at *
 unfold utf_first.f refN
 by_cases q1 : c0 < 128
 ·rw [if_pos q1, if_pos q1]
  simp only [Option.bind_some]
  rw [if_neg (by omega), if_neg (by omega), if_pos (by omega), show ((i : Int) + 1).toNat = i + 1 by omega, ext_0, nextGo, nextEnd_some, w64x c0 (by omega) (by omega), if_neg (by omega), if_pos (by unfold Sg; omega)]
 ·rw [if_neg q1, if_neg q1]
  by_cases q2 : c0 < 192
  ·rw [if_pos q2]
   simp only [Option.bind_some]
   rw [if_pos trivial]
   split <;> (try rfl)
   rw [if_neg (by omega)]
   split <;> (try rfl)
   rw [if_neg (by omega)]
   split <;> (try rfl)
   rw [if_neg (by omega)]
  ·rw [if_neg q2]
   by_cases q3 : c0 < 224
   ·rw [if_pos q3]
    simp only [Option.bind_some]
    rw [if_neg (by omega)]
    by_cases m : (s.size : Int) - i < 2
    ·rw [if_pos (by omega), if_pos m]
    ·rw [if_neg (by omega), if_neg m, if_pos (by omega), show ((i : Int) + 1).toNat = i + 1 by omega, show ((i : Int) + 2).toNat = i + 2 by omega, x1 (by omega)]
     have a := and_mask c0 b0.1 b0.2 5 (by omega)
     rw [show ((2 ^ 5 - 1 : Nat) : Int) = 31 from rfl, show ((2 ^ 5 : Nat) : Int) = 32 from rfl] at a
     rw [a, w64x (c0 % 32) (by omega) (by omega), nextGo_cons _ _ _ (by omega) (by omega) b1.1 b1.2]
     by_cases g1 : 128 ≤ c1 ∧ c1 < 192
     ·rw [if_pos g1, nextGo, nextEnd_some]
      by_cases l : c0 % 32 * 64 + c1 % 64 < 128
      ·rw [if_pos l, if_neg (by omega)]
       split <;> (try rfl)
       rw [if_neg (by omega)]
       split <;> (try rfl)
       rw [if_neg (by omega)]
      ·rw [if_neg l, if_pos (by unfold Sg; omega), if_pos (by omega)]
     ·rw [if_neg g1, if_neg (by omega)]
      unfold nextEnd
      simp only
      split <;> (try rfl)
      rw [if_neg (by omega)]
      split <;> (try rfl)
      rw [if_neg (by omega)]
   ·rw [if_neg q3]
    by_cases q4 : c0 < 240
    ·rw [if_pos q4]
     simp only [Option.bind_some]
     rw [if_neg (by omega)]
     by_cases m2 : (s.size : Int) - i < 2
     ·rw [if_pos (by omega), if_pos m2]
     ·rw [if_neg m2, if_neg (show ¬ (192 ≤ c0 ∧ c0 < 224 ∧ 128 ≤ c1 ∧ c1 < 192 ∧ 128 ≤ c0 % 32 * 64 + c1 % 64) by omega)]
      by_cases m : (s.size : Int) - i < 3
      ·rw [if_pos (by omega), if_pos m]
      ·rw [if_neg (by omega), if_neg m, if_pos (by omega), show ((i : Int) + 1).toNat = i + 1 by omega, show ((i : Int) + 3).toNat = i + 3 by omega, x2 (by omega)]
       have a := and_mask c0 b0.1 b0.2 4 (by omega)
       rw [show ((2 ^ 4 - 1 : Nat) : Int) = 15 from rfl, show ((2 ^ 4 : Nat) : Int) = 16 from rfl] at a
       rw [a, w64x (c0 % 16) (by omega) (by omega), nextGo_cons _ _ _ (by omega) (by omega) b1.1 b1.2]
       have er : (c0 % 16 * 64 + c1 % 64) * 64 + c2 % 64 = c0 % 16 * 4096 + c1 % 64 * 64 + c2 % 64 := by omega
       by_cases g1 : 128 ≤ c1 ∧ c1 < 192
       ·rw [if_pos g1, nextGo_cons _ _ _ (by omega) (by omega) b2.1 b2.2]
        by_cases g2 : 128 ≤ c2 ∧ c2 < 192
        ·rw [if_pos g2, nextGo, nextEnd_some, er]
         by_cases l : c0 % 16 * 4096 + c1 % 64 * 64 + c2 % 64 < 2048
         ·rw [if_pos l, if_neg (by omega)]
          split <;> (try rfl)
          rw [if_neg (by omega)]
         ·rw [if_neg l]
          by_cases g : Sg (c0 % 16 * 4096 + c1 % 64 * 64 + c2 % 64)
          ·rw [if_pos g, if_pos (by unfold Sg at g; omega)]
          ·rw [if_neg g, if_neg (by unfold Sg at g; omega)]
           split <;> (try rfl)
           rw [if_neg (by omega)]
        ·rw [if_neg g2, if_neg (by omega)]
         unfold nextEnd
         simp only
         split <;> (try rfl)
         rw [if_neg (by omega)]
       ·rw [if_neg g1, if_neg (by omega)]
        unfold nextEnd
        simp only
        split <;> (try rfl)
        rw [if_neg (by omega)]
    ·rw [if_neg q4]
     by_cases q5 : c0 < 248
     ·rw [if_pos q5]
      simp only [Option.bind_some]
      rw [if_neg (by omega)]
      by_cases m2 : (s.size : Int) - i < 2
      ·rw [if_pos (by omega), if_pos m2]
      ·rw [if_neg m2, if_neg (show ¬ (192 ≤ c0 ∧ c0 < 224 ∧ 128 ≤ c1 ∧ c1 < 192 ∧ 128 ≤ c0 % 32 * 64 + c1 % 64) by omega)]
       by_cases m3 : (s.size : Int) - i < 3
       ·rw [if_pos (by omega), if_pos m3]
       ·rw [if_neg m3, if_neg (show ¬ (224 ≤ c0 ∧ c0 < 240 ∧ 128 ≤ c1 ∧ c1 < 192 ∧ 128 ≤ c2 ∧ c2 < 192 ∧ 2048 ≤ c0 % 16 * 4096 + c1 % 64 * 64 + c2 % 64 ∧ (c0 % 16 * 4096 + c1 % 64 * 64 + c2 % 64 < 55296 ∨ 57343 < c0 % 16 * 4096 + c1 % 64 * 64 + c2 % 64)) by omega)]
        by_cases m : (s.size : Int) - i < 4
        ·rw [if_pos (by omega), if_pos m]
        ·rw [if_neg (by omega), if_neg m, if_pos (by omega), show ((i : Int) + 1).toNat = i + 1 by omega, show ((i : Int) + 4).toNat = i + 4 by omega, x3 (by omega)]
         have a := and_mask c0 b0.1 b0.2 3 (by omega)
         rw [show ((2 ^ 3 - 1 : Nat) : Int) = 7 from rfl, show ((2 ^ 3 : Nat) : Int) = 8 from rfl] at a
         rw [a, w64x (c0 % 8) (by omega) (by omega), nextGo_cons _ _ _ (by omega) (by omega) b1.1 b1.2]
         have er : ((c0 % 8 * 64 + c1 % 64) * 64 + c2 % 64) * 64 + c3 % 64 = c0 % 8 * 262144 + c1 % 64 * 4096 + c2 % 64 * 64 + c3 % 64 := by omega
         by_cases g1 : 128 ≤ c1 ∧ c1 < 192
         ·rw [if_pos g1, nextGo_cons _ _ _ (by omega) (by omega) b2.1 b2.2]
          by_cases g2 : 128 ≤ c2 ∧ c2 < 192
          ·rw [if_pos g2, nextGo_cons _ _ _ (by omega) (by omega) b3.1 b3.2]
           by_cases g3 : 128 ≤ c3 ∧ c3 < 192
           ·rw [if_pos g3, nextGo, nextEnd_some, er]
            by_cases l : c0 % 8 * 262144 + c1 % 64 * 4096 + c2 % 64 * 64 + c3 % 64 < 65536
            ·rw [if_pos l, if_neg (by omega)]
            ·rw [if_neg l]
             by_cases g : Sg (c0 % 8 * 262144 + c1 % 64 * 4096 + c2 % 64 * 64 + c3 % 64)
             ·rw [if_pos g, if_pos (by unfold Sg at g; omega)]
             ·rw [if_neg g, if_neg (by unfold Sg at g; omega)]
           ·rw [if_neg g3, if_neg (by omega)]; rfl
          ·rw [if_neg g2, if_neg (by omega)]; rfl
         ·rw [if_neg g1, if_neg (by omega)]; rfl
     ·rw [if_neg q5]
      simp only [Option.bind_some]
      rw [if_pos trivial]
      split <;> (try rfl)
      rw [if_neg (by omega)]
      split <;> (try rfl)
      rw [if_neg (by omega)]
      split <;> (try rfl)
      rw [if_neg (by omega)]
def isL (r : Int) : Prop := (65 ≤ r ∧ r ≤ 90) ∨ (97 ≤ r ∧ r ≤ 122) ∨ (192 ≤ r ∧ r ≤ 591 ∧ r ≠ 215 ∧ r ≠ 247) ∨ (880 ≤ r ∧ r ≤ 1327 ∧ r ≠ 894 ∧ r ≠ 903)
def isW (r : Int) : Prop := isL r ∨ (48 ≤ r ∧ r ≤ 57)
instance (r : Int) : Decidable (isL r) := by unfold isL; infer_instance
instance (r : Int) : Decidable (isW r) := by unfold isW; infer_instance
theorem some_dec {p : Prop} [Decidable p] (b : Bool) (h : b = true ↔ p) : some b = some (decide p) := by
 congr 1
 cases b with
 | true => symm; exact decide_eq_true (h.1 rfl)
 | false => symm; exact decide_eq_false (fun c => by have := h.2 c; cases this)
theorem in_eq (r a b : Int) : scholiaref04_in.f r a b = some (decide (a ≤ r ∧ r ≤ b)) := by
 unfold scholiaref04_in.f
 split
 ·exact some_dec _ ⟨fun h => (by have := of_decide_eq_true h; omega), fun h => decide_eq_true h.2⟩
 ·exact some_dec _ ⟨fun h => (by cases h), fun h => (by omega)⟩
set_option maxRecDepth 100000 in
theorem low_letter (r : Int) (h0 : 0 ≤ r) (h1 : r < 192) : (97 ≤ Go.bits .or .i64 r 32 ∧ Go.bits .or .i64 r 32 ≤ 122 ∧ 0 < r) ↔ ((65 ≤ r ∧ r ≤ 90) ∨ (97 ≤ r ∧ r ≤ 122)) := by
 obtain ⟨R, rfl⟩ := Int.eq_ofNat_of_zero_le h0
 have hR : R < 192 := by omega
 have hle : R ||| 32 < 2 ^ 8 := Nat.or_lt_two_pow (by omega) (by omega)
 have e : Go.bits .or .i64 (R : Int) 32 = ((R ||| 32 : Nat) : Int) := by
  show Go.IntKind.i64.wrap ((BitVec.ofInt 64 (R : Int) ||| BitVec.ofInt 64 ((32 : Nat) : Int)).toNat : Int) = _
  rw [BitVec.toNat_or, Go.ofInt_u64 R (by omega), Go.ofInt_u64 32 (by omega)]
  exact Go.Lib.wrap_i64_small _ (by omega)
 have key : ∀ x : Fin 192, (97 ≤ (x.val ||| 32) ∧ (x.val ||| 32) ≤ 122 ∧ 0 < x.val) ↔ ((65 ≤ x.val ∧ x.val ≤ 90) ∨ (97 ≤ x.val ∧ x.val ≤ 122)) := by decide
 have := key ⟨R, hR⟩
 simp only at this
 rw [e]
 omega
theorem letter_eq (k : Nat) (r : Int) (h0 : 0 ≤ r) : fold_Letter.f (k + 1) r = some (decide (isL r)) := by
 unfold fold_Letter.f
 by_cases c : r < 192
 ·rw [if_pos c]
  have q := low_letter r h0 c
  split
  ·split
   ·exact some_dec _ ⟨fun h => (by have := of_decide_eq_true h; unfold isL; omega), fun h => decide_eq_true (by unfold isL at h; omega)⟩
   ·exact some_dec _ ⟨fun h => (by cases h), fun h => (by unfold isL at h; omega)⟩
  ·exact some_dec _ ⟨fun h => (by cases h), fun h => (by unfold isL at h; omega)⟩
 ·rw [if_neg c]
  have key : ∀ b : Bool, b = (r == 215 || r == 247) → fold_Letter.j0 (k + 1) r b = some (decide (isL r)) := by
   intro b hb
   rw [fold_Letter.j0]
   have hb2 : b = true ↔ (r = 215 ∨ r = 247) := by rw [hb]; simp
   by_cases cb : b = true
   ·rw [if_pos cb]
    exact some_dec _ ⟨fun h => (by cases h), fun h => (by have := hb2.1 cb; unfold isL at h; omega)⟩
   ·rw [if_neg cb]
    have hn : ¬ (r = 215 ∨ r = 247) := fun h => cb (hb2.2 h)
    split
    ·exact some_dec _ ⟨fun _ => (by unfold isL; omega), fun _ => rfl⟩
    ·split
     ·exact some_dec _ ⟨fun h => (by cases h), fun h => (by unfold isL at h; omega)⟩
     ·split
      ·split
       ·exact some_dec _ ⟨fun h => (by cases h), fun h => (by unfold isL at h; omega)⟩
       ·exact some_dec _ ⟨fun h => (by have q : r ≠ 903 := (by simpa using h); unfold isL; omega), fun h => (by have q : r ≠ 903 := (by unfold isL at h; omega); simpa using q)⟩
      ·exact some_dec _ ⟨fun h => (by cases h), fun h => (by unfold isL at h; omega)⟩
  split
  ·rename_i c2
   exact key _ (by simp [c2])
  ·rename_i c2
   exact key _ (by simp [c2])
theorem refLetter_eq (k : Nat) (r : Int) : scholiaref04_Letter.f (k + 1) r = some (decide (isL r)) := by
 have kt : scholiaref04_Letter.j0 (k + 1) r true = some false := by rw [scholiaref04_Letter.j0, if_pos rfl]
 unfold scholiaref04_Letter.f
 split
 ·rw [kt]; exact some_dec _ ⟨fun h => (by cases h), fun h => (by unfold isL at h; omega)⟩
 ·split
  ·rw [kt]; exact some_dec _ ⟨fun h => (by cases h), fun h => (by unfold isL at h; omega)⟩
  ·split
   ·rw [kt]; exact some_dec _ ⟨fun h => (by cases h), fun h => (by unfold isL at h; omega)⟩
   ·by_cases c : r = 903
    ·rw [show (r == 903) = true by simpa using c, kt]
     exact some_dec _ ⟨fun h => (by cases h), fun h => (by unfold isL at h; omega)⟩
    ·rw [show (r == 903) = false by simpa using c, scholiaref04_Letter.j0, if_neg (by decide), in_eq, in_eq, in_eq, in_eq]
     simp only [Option.bind_some, decide_eq_true_eq]
     split
     ·exact some_dec _ ⟨fun _ => (by unfold isL; omega), fun _ => rfl⟩
     ·split
      ·exact some_dec _ ⟨fun _ => (by unfold isL; omega), fun _ => rfl⟩
      ·split
       ·exact some_dec _ ⟨fun _ => (by unfold isL; omega), fun _ => rfl⟩
       ·exact some_dec _ ⟨fun h => (by have := of_decide_eq_true h; unfold isL; omega), fun h => decide_eq_true (by unfold isL at h; omega)⟩
theorem word_eq (k : Nat) (r : Int) (h0 : 0 ≤ r) : fold_Word.f (k + 1) r = some (decide (isW r)) := by
 unfold fold_Word.f fold_Digit.f
 rw [letter_eq k r h0]
 simp only [Option.bind_some, decide_eq_true_eq]
 split
 ·exact some_dec _ ⟨fun _ => Or.inl (by assumption), fun _ => rfl⟩
 ·rename_i hn
  split
  ·exact some_dec _ ⟨fun h => Or.inr ⟨by omega, of_decide_eq_true h⟩, fun h => decide_eq_true (by rcases h with h | h; exact absurd h hn; exact h.2)⟩
  ·exact some_dec _ ⟨fun h => (by cases h), fun h => (by rcases h with h | h; exact absurd h hn; omega)⟩
theorem refWord_eq (k : Nat) (r : Int) : scholiaref04_Word.f (k + 1) r = some (decide (isW r)) := by
 unfold scholiaref04_Word.f scholiaref04_Digit.f
 rw [refLetter_eq k r, in_eq]
 simp only [Option.bind_some, decide_eq_true_eq]
 split
 ·exact some_dec _ ⟨fun _ => Or.inl (by assumption), fun _ => rfl⟩
 ·rename_i hn
  exact some_dec _ ⟨fun h => Or.inr (of_decide_eq_true h), fun h => decide_eq_true (by rcases h with h | h; exact absurd h hn; exact h)⟩
theorem refN_len (c0 c1 c2 c3 m : Int) (h : 1 ≤ m) : 1 ≤ (refN c0 c1 c2 c3 m).2 ∧ (refN c0 c1 c2 c3 m).2 ≤ m ∧ (refN c0 c1 c2 c3 m).2 ≤ 4 := by
 unfold refN
 repeat' split
 all_goals (simp only; omega)
def nx (s : ByteArray) (i : Nat) : Int × Int := refN (bt s i) (bt s ((i + 1 : Nat) : Int)) (bt s ((i + 2 : Nat) : Int)) (bt s ((i + 3 : Nat) : Int)) ((s.size : Int) - i)
def nxL (s : ByteArray) (i : Nat) : Nat := (nx s i).2.toNat
def nxW (s : ByteArray) (i : Nat) : Bool := decide (0 ≤ (nx s i).1 ∧ isW (nx s i).1)
theorem nxL_ok (s : ByteArray) (i : Nat) (hi : i < s.size) : 1 ≤ nxL s i ∧ i + nxL s i ≤ s.size ∧ (nx s i).2 = (nxL s i : Int) := by
 have := refN_len (bt s i) (bt s ((i + 1 : Nat) : Int)) (bt s ((i + 2 : Nat) : Int)) (bt s ((i + 3 : Nat) : Int)) ((s.size : Int) - i) (by omega)
 unfold nxL nx
 omega
def steps (s : ByteArray) : Nat → Nat → List (Nat × Bool)
 | 0, _ => []
 | d + 1, i => if i < s.size then (i + nxL s i, nxW s i) :: steps s d (i + nxL s i) else []
theorem ends_skip (s : ByteArray) (hs : s.size ≤ 40000000) : ∀ (j k i : Nat) (l : List Int), i + j ≤ s.size → scholiaref03_Ends.l0 (k + j) s l (j : Int) (s.size : Int) (i : Int) = scholiaref03_Ends.l0 k s l 0 (s.size : Int) ((i + j : Nat) : Int) := by
 intro j
 induction j with
 | zero => intro k i l _; rfl
 | succ j ih =>
  intro k i l h
  rw [show k + (j + 1) = (k + j) + 1 by omega, scholiaref03_Ends.l0, if_pos (by omega), if_pos (by omega), w64x (((j + 1 : Nat) : Int) - 1) (by omega) (by omega), w64x ((i : Int) + 1) (by omega) (by omega),
   show ((j + 1 : Nat) : Int) - 1 = (j : Int) by omega, show (i : Int) + 1 = ((i + 1 : Nat) : Int) by omega, ih k (i + 1) l (by omega), show i + 1 + j = i + (j + 1) by omega]
theorem ends_eq (s : ByteArray) (hs : s.size ≤ 40000000) : ∀ (d k i : Nat) (l : List Int), s.size - i ≤ d → i ≤ s.size → l.length ≤ i → 4 * d + 20 ≤ k →
  scholiaref03_Ends.l0 k s l 0 (s.size : Int) (i : Int) = some (l ++ (steps s d i).map fun x => (x.1 : Int)) := by
 intro d
 induction d with
 | zero =>
  intro k i l h hi hl hk
  obtain ⟨k, rfl⟩ : ∃ j, k = j + 1 := ⟨k - 1, by omega⟩
  rw [scholiaref03_Ends.l0, if_neg (by omega), steps]
  simp
 | succ d ih =>
  intro k i l h hi hl hk
  by_cases c : i < s.size
  ·have q := nxL_ok s i c
   obtain ⟨k, rfl⟩ : ∃ j, k = (j + (nxL s i - 1)) + 1 := ⟨k - 1 - (nxL s i - 1), by have := refN_len (bt s i) (bt s ((i + 1 : Nat) : Int)) (bt s ((i + 2 : Nat) : Int)) (bt s ((i + 3 : Nat) : Int)) ((s.size : Int) - i) (by omega); have q3 := q.2.2; unfold nx at q3; omega⟩
   have h4 : nxL s i ≤ 4 := by have := refN_len (bt s i) (bt s ((i + 1 : Nat) : Int)) (bt s ((i + 2 : Nat) : Int)) (bt s ((i + 3 : Nat) : Int)) ((s.size : Int) - i) (by omega); have q3 := q.2.2; unfold nx at q3; omega
   rw [scholiaref03_Ends.l0, if_pos (by omega), if_neg (by omega)]
   obtain ⟨k2, hk2⟩ : ∃ j, k + (nxL s i - 1) = j + 18 := ⟨k + (nxL s i - 1) - 18, by omega⟩
   have hn := refNext_eq s i c k2
   rw [hk2, hn, ← hk2]
   simp only [Option.bind_some]
   change (if l.length < 17592186044416 then scholiaref03_Ends.l0 (k + (nxL s i - 1)) s (l ++ [wrap64 ((i : Int) + (nx s i).2)]) (wrap64 ((nx s i).2 - 1)) (s.size : Int) (wrap64 ((i : Int) + 1)) else none) = _
   rw [if_pos (by omega), q.2.2, w64x ((i : Int) + (nxL s i : Int)) (by omega) (by omega), w64x ((nxL s i : Int) - 1) (by omega) (by omega), w64x ((i : Int) + 1) (by omega) (by omega),
    show (nxL s i : Int) - 1 = ((nxL s i - 1 : Nat) : Int) by omega, show (i : Int) + 1 = ((i + 1 : Nat) : Int) by omega, ends_skip s hs (nxL s i - 1) k (i + 1) _ (by omega),
    show i + 1 + (nxL s i - 1) = i + nxL s i by omega, ih k (i + nxL s i) _ (by omega) (by omega) (by simp; omega) (by omega)]
   conv => rhs; rw [steps, if_pos c]
   simp
  ·obtain ⟨k, rfl⟩ : ∃ j, k = j + 1 := ⟨k - 1, by omega⟩
   rw [scholiaref03_Ends.l0, if_neg (by omega), steps, if_neg c]
   simp
def addSp (l : List S58) (b : Bool) (i e : Nat) (wd : Bool) : List S58 :=
 if wd then (if b then (match l.getLast? with | none => l | some x => l.dropLast ++ [⟨x.f0, (e : Int)⟩]) else l ++ [⟨(i : Int), (e : Int)⟩]) else l
def spG (l : List S58) (b : Bool) : Nat → List (Nat × Bool) → List S58
 | _, [] => l
 | i, (e, wd) :: t => spG (addSp l b i e wd) wd e t
theorem set_last (l : List S58) (x y : S58) : (l ++ [x]).set ((l ++ [x]).length - 1) y = l ++ [y] := by
 rw [List.length_append]
 simp
theorem addSp_len (l : List S58) (b : Bool) (i e : Nat) (wd : Bool) : (addSp l b i e wd).length ≤ l.length + 1 := by
 unfold addSp
 split
 ·split
  ·cases h : l.getLast? with
   | none => simp
   | some x => simp only [List.length_append, List.length_dropLast, List.length_cons, List.length_nil]; omega
  ·simp
 ·omega
theorem spans_eq (s : ByteArray) (hs : s.size ≤ 40000000) : ∀ (d k i : Nat) (l : List S58) (b : Bool), s.size - i ≤ d → i ≤ s.size → l.length ≤ i → (b = true → l ≠ []) → 3 * d + 4 ≤ k →
  token_spans.l0 k s l b (i : Int) = some (spG l b i (steps s d i)) := by
 intro d
 induction d with
 | zero =>
  intro k i l b h hi hl hb hk
  obtain ⟨k, rfl⟩ : ∃ j, k = j + 1 := ⟨k - 1, by omega⟩
  rw [token_spans.l0, if_neg (by omega), steps, spG]
 | succ d ih =>
  intro k i l b h hi hl hb hk
  obtain ⟨k, rfl⟩ : ∃ j, k = j + 3 := ⟨k - 3, by omega⟩
  by_cases c : i < s.size
  ·have q := nxL_ok s i c
   rw [token_spans.l0, if_pos (by omega), utfNext_eq s i c (by omega)]
   simp only [Option.bind_some]
   change (if (nx s i).1 ≥ 0 then (fold_Word.f (k + 2) (nx s i).1).bind fun t181 => token_spans.j1 (k + 2) s l b (i : Int) (nx s i).2 t181 else token_spans.j1 (k + 2) s l b (i : Int) (nx s i).2 false) = _
   have e1 : (if (nx s i).1 ≥ 0 then (fold_Word.f (k + 2) (nx s i).1).bind fun t181 => token_spans.j1 (k + 2) s l b (i : Int) (nx s i).2 t181 else token_spans.j1 (k + 2) s l b (i : Int) (nx s i).2 false) = token_spans.j1 (k + 2) s l b (i : Int) (nx s i).2 (nxW s i) := by
    unfold nxW
    by_cases c2 : (nx s i).1 ≥ 0
    ·rw [if_pos c2, show k + 2 = (k + 1) + 1 by omega, word_eq (k + 1) _ c2]
     simp only [Option.bind_some]
     congr 1
     rw [decide_eq_decide]
     exact ⟨fun h => ⟨c2, h⟩, fun h => h.2⟩
    ·rw [if_neg c2]
     congr 1
     symm
     exact decide_eq_false (fun h => c2 h.1)
   rw [e1, q.2.2]
   have w1 : wrap64 ((i : Int) + (nxL s i : Int)) = ((i + nxL s i : Nat) : Int) := by rw [w64x _ (by omega) (by omega)]; omega
   have hst : steps s (d + 1) i = (i + nxL s i, nxW s i) :: steps s d (i + nxL s i) := by rw [steps, if_pos c]
   rw [hst, spG]
   have hle := addSp_len l b i (i + nxL s i) (nxW s i)
   cases hw : nxW s i with
   | false =>
    rw [token_spans.j1, if_neg (by decide), token_spans.j2, if_neg (by decide), if_neg (by decide), w1, ih k (i + nxL s i) l false (by omega) (by omega) (by omega) (by simp) (by omega)]
    simp [addSp]
   | true =>
    rw [token_spans.j1, if_pos rfl]
    cases b with
    | false =>
     rw [token_spans.j2, if_pos (by decide), if_pos (by omega), w1, ih k (i + nxL s i) _ true (by omega) (by omega) (by simp; omega) (by simp) (by omega)]
     simp [addSp]
    | true =>
     have hne := hb rfl
     obtain ⟨l', x, rfl⟩ : ∃ l' x, l = l' ++ [x] := ⟨l.dropLast, l.getLast hne, (List.dropLast_concat_getLast hne).symm⟩
     have hlen : (l' ++ [x]).length = l'.length + 1 := by simp
     have wl : wrap64 (((l' ++ [x]).length : Int) - 1) = (((l' ++ [x]).length - 1 : Nat) : Int) := by rw [w64x _ (by omega) (by omega)]; omega
     have hrd : rd_T58 (l' ++ [x]) (((l' ++ [x]).length - 1 : Nat) : Int) = x := by
      simp [rd_T58, List.getD_eq_getElem?_getD]
     rw [token_spans.j2, if_neg (by decide), if_pos rfl, wl, if_pos (by omega), if_pos (by omega), hrd, Int.toNat_natCast, set_last, w1, ih k (i + nxL s i) _ true (by omega) (by omega) (by simp; omega) (by simp) (by omega)]
     simp [addSp]
  ·obtain ⟨k, rfl⟩ : ∃ j, k = j + 1 := ⟨k - 1, by omega⟩
   rw [token_spans.l0, if_neg (by omega), steps, if_neg c, spG]
def addPc (l : List S33) (t : ByteArray) (wd : Bool) : List S33 :=
 match l.getLast? with
 | none => l ++ [⟨t, wd⟩]
 | some x => if x.f1 = wd then l.dropLast ++ [⟨x.f0 ++ t, x.f1⟩] else l ++ [⟨t, wd⟩]
def pcG (s : ByteArray) (l : List S33) : Nat → List (Nat × Bool) → List S33
 | _, [] => l
 | i, (e, wd) :: t => pcG s (addPc l (s.extract i e) wd) e t
theorem addPc_len (l : List S33) (t : ByteArray) (wd : Bool) : (addPc l t wd).length ≤ l.length + 1 := by
 unfold addPc
 cases h : l.getLast? with
 | none => simp
 | some x =>
  simp only
  split
  ·simp only [List.length_append, List.length_dropLast, List.length_cons, List.length_nil]; omega
  ·simp
theorem addPc_size (l : List S33) (t : ByteArray) (wd : Bool) (m : Nat) (h : ∀ x ∈ l, x.f0.size ≤ m) : ∀ x ∈ addPc l t wd, x.f0.size ≤ m + t.size := by
 intro x hx
 unfold addPc at hx
 cases hl : l.getLast? with
 | none =>
  rw [hl] at hx
  rcases List.mem_append.1 hx with hx | hx
  ·have := h x hx; omega
  ·rw [List.mem_singleton.1 hx]; simp
 | some y =>
  rw [hl] at hx
  have hy : y ∈ l := List.mem_of_getLast? hl
  simp only at hx
  split at hx
  ·rcases List.mem_append.1 hx with hx | hx
   ·have := h x (List.dropLast_subset l hx); omega
   ·rw [List.mem_singleton.1 hx]
    have := h y hy
    simp only [ByteArray.size_append]
    omega
  ·rcases List.mem_append.1 hx with hx | hx
   ·have := h x hx; omega
   ·rw [List.mem_singleton.1 hx]; simp
theorem addPc_concat (l' : List S33) (x : S33) (t : ByteArray) (wd : Bool) : addPc (l' ++ [x]) t wd = if x.f1 = wd then l' ++ [⟨x.f0 ++ t, x.f1⟩] else l' ++ [x] ++ [⟨t, wd⟩] := by
 simp [addPc]
theorem set_last33 (l : List S33) (x y : S33) : (l ++ [x]).set ((l ++ [x]).length - 1) y = l ++ [y] := by
 rw [List.length_append]
 simp
theorem rd_get (l : List Int) (j : Nat) (x : Int) (h : l[j]? = some x) : rd l (j : Int) = x := by
 simp [rd, List.getD_eq_getElem?_getD, h]
def pcStep (k : Nat) (x0 : ByteArray) (x3 : List S33) (x4 : Int) (x12 : List Int) (x13 x14 : Int) (t144 : Bool) : Option (List S33) := (if (x3.length : Int) > 0 then (if 0 ≤ (wrap64 ((x3.length : Int) - 1)) then (if (wrap64 ((x3.length : Int) - 1)) < (x3.length : Int) then (if (((rd_T33 x3 (wrap64 ((x3.length : Int) - 1))).f1) == t144) = true then (if 0 ≤ x4 then (if x4 ≤ (rd x12 x14) then (if (rd x12 x14) ≤ (x0.size : Int) then (if ((rd_T33 x3 (wrap64 ((x3.length : Int) - 1))).f0).size + (x0.extract (x4 : Int).toNat ((rd x12 x14) : Int).toNat).size ≤ 9223372036854775807 then (scholiaref15_Pieces.l0 k x0 (x3.set ((wrap64 ((x3.length : Int) - 1)) : Int).toNat (⟨((rd_T33 x3 (wrap64 ((x3.length : Int) - 1))).f0) ++ (x0.extract (x4 : Int).toNat ((rd x12 x14) : Int).toNat), (rd_T33 x3 (wrap64 ((x3.length : Int) - 1))).f1⟩ : S33)) (rd x12 x14) x12 x13 (wrap64 (x14 + 1))) else (none)) else (none)) else (none)) else (none)) else (if 0 ≤ x4 then (if x4 ≤ (rd x12 x14) then (if (rd x12 x14) ≤ (x0.size : Int) then (if x3.length < 5864062014805 then (scholiaref15_Pieces.l0 k x0 (x3 ++ [(⟨x0.extract (x4 : Int).toNat ((rd x12 x14) : Int).toNat, t144⟩ : S33)]) (rd x12 x14) x12 x13 (wrap64 (x14 + 1))) else (none)) else (none)) else (none)) else (none))) else (none)) else (none)) else (if 0 ≤ x4 then (if x4 ≤ (rd x12 x14) then (if (rd x12 x14) ≤ (x0.size : Int) then (if x3.length < 5864062014805 then (scholiaref15_Pieces.l0 k x0 (x3 ++ [(⟨x0.extract (x4 : Int).toNat ((rd x12 x14) : Int).toNat, t144⟩ : S33)]) (rd x12 x14) x12 x13 (wrap64 (x14 + 1))) else (none)) else (none)) else (none)) else (none)))
theorem pieces_round (k : Nat) (x0 : ByteArray) (x3 : List S33) (x4 : Int) (x12 : List Int) (x13 x14 : Int) : scholiaref15_Pieces.l0 (k + 1) x0 x3 x4 x12 x13 x14 = if x14 < x13 then (if 0 ≤ x14 then (if x14 < (x12.length : Int) then ((scholiaref03_Next.f k x0 x4).bind fun bt142 => (if bt142.1 ≥ 0 then ((scholiaref04_Word.f k bt142.1).bind fun t144 => (pcStep k x0 x3 x4 x12 x13 x14 t144)) else (pcStep k x0 x3 x4 x12 x13 x14 false))) else (none)) else (none)) else (some x3) := by
 rw [scholiaref15_Pieces.l0]
 rfl
theorem pcStep_eq (k : Nat) (s : ByteArray) (l : List S33) (i e j : Nat) (ends : List Int) (n : Int) (wd : Bool) (hs : s.size ≤ 40000000) (hi : i < e) (he : e ≤ s.size) (hj : j ≤ 1000000000) (hr : rd ends (j : Int) = (e : Int)) (hl : l.length ≤ 1000000000) (hz : ∀ x ∈ l, x.f0.size ≤ i) :
  pcStep k s l (i : Int) ends n (j : Int) wd = scholiaref15_Pieces.l0 k s (addPc l (s.extract i e) wd) (e : Int) ends n ((j + 1 : Nat) : Int) := by
 unfold pcStep
 have hw1 : wrap64 ((j : Int) + 1) = ((j + 1 : Nat) : Int) := by rw [w64x _ (by omega) (by omega)]; omega
 rw [hr, hw1, Int.toNat_natCast, Int.toNat_natCast]
 have hxs : (s.extract i e).size = e - i := by rw [ByteArray.size_extract]; omega
 by_cases hn : l = []
 ·subst hn
  rw [if_neg (by simp), if_pos (by omega), if_pos (by omega), if_pos (by omega), if_pos (by simp)]
  rfl
 ·obtain ⟨l', x, rfl⟩ : ∃ l' x, l = l' ++ [x] := ⟨l.dropLast, l.getLast hn, (List.dropLast_concat_getLast hn).symm⟩
  have hlen : (l' ++ [x]).length = l'.length + 1 := by simp
  have wl : wrap64 (((l' ++ [x]).length : Int) - 1) = (((l' ++ [x]).length - 1 : Nat) : Int) := by rw [w64x _ (by omega) (by omega)]; omega
  have hrx : rd_T33 (l' ++ [x]) (((l' ++ [x]).length - 1 : Nat) : Int) = x := by
   simp [rd_T33, List.getD_eq_getElem?_getD]
  have hxz := hz x (by simp)
  rw [wl, hrx, if_pos (by omega), if_pos (by omega), if_pos (by omega), addPc_concat]
  by_cases hb : x.f1 = wd
  ·rw [if_pos (by simpa using hb), if_pos hb, if_pos (by omega), if_pos (by omega), if_pos (by omega), if_pos (by omega), Int.toNat_natCast, set_last33]
  ·rw [if_neg (by simpa using hb), if_neg hb, if_pos (by omega), if_pos (by omega), if_pos (by omega), if_pos (by omega)]
theorem pieces_eq (s : ByteArray) (hs : s.size ≤ 40000000) (ends : List Int) (hE : ends.length ≤ s.size) : ∀ (d k i j : Nat) (l : List S33), s.size - i ≤ d → i ≤ s.size → ends.drop j = (steps s d i).map (fun x => (x.1 : Int)) → j ≤ ends.length → l.length ≤ i → (∀ x ∈ l, x.f0.size ≤ i) → d + 30 ≤ k →
  scholiaref15_Pieces.l0 k s l (i : Int) ends (ends.length : Int) (j : Int) = some (pcG s l i (steps s d i)) := by
 intro d
 induction d with
 | zero =>
  intro k i j l h hi he hj hl hz hk
  obtain ⟨k, rfl⟩ : ∃ q, k = q + 1 := ⟨k - 1, by omega⟩
  have hjl : ends.length ≤ j := List.drop_eq_nil_iff.1 (by rw [he]; rfl)
  rw [pieces_round, if_neg (by omega)]
  rfl
 | succ d ih =>
  intro k i j l h hi he hj hl hz hk
  by_cases c : i < s.size
  ·have q := nxL_ok s i c
   have hst : steps s (d + 1) i = (i + nxL s i, nxW s i) :: steps s d (i + nxL s i) := by rw [steps, if_pos c]
   obtain ⟨k, rfl⟩ : ∃ z, k = (z + 18) + 1 := ⟨k - 19, by omega⟩
   have hjl : j < ends.length := by
    rcases Nat.lt_or_ge j ends.length with h1 | h1
    ·exact h1
    ·rw [List.drop_eq_nil_of_le h1, hst] at he; cases he
   rw [List.drop_eq_getElem_cons hjl, hst, List.map_cons] at he
   injection he with he1 he2
   have hrd : rd ends (j : Int) = ((i + nxL s i : Nat) : Int) := by rw [rd_get ends j _ (List.getElem?_eq_getElem hjl), he1]
   have hxs : (s.extract i (i + nxL s i)).size = nxL s i := by rw [ByteArray.size_extract]; omega
   have go : ∀ wd, pcStep (k + 18) s l (i : Int) ends (ends.length : Int) (j : Int) wd = some (pcG s (addPc l (s.extract i (i + nxL s i)) wd) (i + nxL s i) (steps s d (i + nxL s i))) := by
    intro wd
    rw [pcStep_eq (k + 18) s l i (i + nxL s i) j ends _ wd hs (by omega) q.2.1 (by omega) hrd (by omega) hz]
    have e1 := addPc_len l (s.extract i (i + nxL s i)) wd
    have e2 := addPc_size l (s.extract i (i + nxL s i)) wd i hz
    rw [hxs] at e2
    exact ih (k + 18) (i + nxL s i) (j + 1) _ (by omega) (by omega) he2 (by omega) (by omega) e2 (by omega)
   rw [pieces_round, if_pos (by omega), if_pos (by omega), if_pos (by omega), refNext_eq s i c k]
   simp only [Option.bind_some]
   rw [hst, pcG]
   change (if (nx s i).1 ≥ 0 then (scholiaref04_Word.f (k + 18) (nx s i).1).bind _ else _) = _
   by_cases c2 : (nx s i).1 ≥ 0
   ·rw [if_pos c2, show k + 18 = (k + 17) + 1 by omega, refWord_eq (k + 17)]
    simp only [Option.bind_some]
    have e : nxW s i = decide (isW (nx s i).1) := by
     unfold nxW; rw [decide_eq_decide]; exact ⟨fun h => h.2, fun h => ⟨c2, h⟩⟩
    rw [e]
    exact go _
   ·rw [if_neg c2]
    have e : nxW s i = false := by unfold nxW; exact decide_eq_false (fun h => c2 h.1)
    rw [e]
    exact go false
  ·obtain ⟨k, rfl⟩ : ∃ q, k = q + 1 := ⟨k - 1, by omega⟩
   rw [steps, if_neg c] at he ⊢
   have hjl : ends.length ≤ j := List.drop_eq_nil_iff.1 (by rw [he]; rfl)
   rw [pieces_round, if_neg (by omega)]
   rfl
theorem idx_cons_ne (b c : UInt8) (l : List UInt8) (h : b ≠ c) : Lib.indexByte (b :: l) c = if Lib.indexByte l c == -1 then -1 else Lib.indexByte l c + 1 := by
 have hb : (b == c) = false := by simpa using h
 simp only [Lib.indexByte, hb]
 simp
theorem replK_one (c : UInt8) : ∀ s : List UInt8, Lib.replaceK [c] [] (Lib.count s [c]) s = s.filter (fun b => b != c) := by
 intro s
 induction s with
 | nil => rw [Lib.count_one]; rfl
 | cons b l ih =>
  by_cases h : b = c
  ·subst h
   rw [Lib.count_cons_eq, Nat.add_comm, Lib.replaceK_hit [b] [] _ _ 0 (by rw [Lib.index_one]; simp [Lib.indexByte])]
   simpa using ih
  ·rw [Lib.count_cons_ne b c l h]
   rw [List.filter_cons, if_pos (by simpa using h)]
   cases hk : Lib.count l [c] with
   | zero =>
    rw [hk] at ih
    rw [← ih]
    rfl
   | succ k =>
    obtain ⟨i, hi⟩ := Lib.index_of_count (s := l) (old := [c]) (by omega)
    have h2 : Lib.index (b :: l) [c] = ((i + 1 : Nat) : Int) := by
     rw [Lib.index_one, idx_cons_ne b c l h, ← Lib.index_one, hi]
     rw [if_neg (by simp <;> omega)]
     omega
    rw [Lib.replaceK_hit [c] [] k _ _ h2]
    rw [hk, Lib.replaceK_hit [c] [] k _ _ hi] at ih
    rw [← ih, show i + 1 + [c].length = (i + [c].length) + 1 by simp, List.drop_succ_cons, List.take_succ_cons]
    simp
theorem replAll_one (c : UInt8) (s : List UInt8) : Lib.replaceAll s [c] [] = s.filter (fun b => b != c) := by
 unfold Lib.replaceAll Lib.replace
 rw [if_neg (by simp), show Lib.replaceNum s [c] (-1) = Lib.count s [c] by simp [Lib.replaceNum]]
 exact replK_one c s
theorem idx_none (c : UInt8) : ∀ l : List UInt8, decide (0 ≤ Lib.indexByte l c) = false → ∀ b ∈ l, (b != c) = true := by
 intro l
 induction l with
 | nil => intro _ b hb; cases hb
 | cons x l ih =>
  intro h b hb
  by_cases e : x = c
  ·subst e
   simp [Lib.indexByte] at h
  ·rw [idx_cons_ne x c l e] at h
   rcases List.mem_cons.1 hb with rfl | hb
   ·simpa using e
   ·refine ih ?_ b hb
    have hge := Lib.index_ge l [c]
    rw [Lib.index_one] at hge
    split at h
    ·rename_i q
     have := beq_iff_eq.1 q
     simp [this]
    ·have := of_decide_eq_false h
     omega
def lawS (σ : Int × Int × Int) (p : S33) : Int × Int × Int :=
 ((if p.f1 = true ∧ σ.1 < 0 then σ.2.2 else σ.1), (if p.f1 = true then σ.2.2 + p.f0.size else σ.2.1), σ.2.2 + p.f0.size)
def lawG (l : List S33) : Int × Int × Int := l.foldl lawS (-1, 0, 0)
def firstS (l : List S58) : Int := match l.head? with | none => -1 | some x => x.f0
def lastS (l : List S58) : Int := match l.getLast? with | none => 0 | some x => x.f1
def lastW (p : List S33) : Bool := match p.getLast? with | none => false | some x => x.f1
def wordsN (p : List S33) : Nat := (p.filter (fun x => x.f1)).length
def AscTo : Int → List S58 → Int → Prop
 | a, [], z => a ≤ z
 | a, x :: t, z => a ≤ x.f0 ∧ x.f0 ≤ x.f1 ∧ AscTo x.f1 t z
theorem asc_up : ∀ (l : List S58) (a z z2 : Int), AscTo a l z → z ≤ z2 → AscTo a l z2
 | [], _, _, _, h, h2 => Int.le_trans h h2
 | x :: t, _, z, z2, h, h2 => ⟨h.1, h.2.1, asc_up t x.f1 z z2 h.2.2 h2⟩
theorem asc_snoc : ∀ (l : List S58) (a z : Int) (x : S58), AscTo a (l ++ [x]) z ↔ (AscTo a l x.f0 ∧ x.f0 ≤ x.f1 ∧ x.f1 ≤ z)
 | [], a, z, x => by simp [AscTo]
 | y :: t, a, z, x => by simp [AscTo, asc_snoc t y.f1 z x, and_assoc]
theorem asc_le : ∀ (l : List S58) (a z : Int), AscTo a l z → a ≤ z
 | [], _, _, h => h
 | x :: t, a, z, h => by have := asc_le t x.f1 z h.2.2; have h1 := h.1; have h2 := h.2.1; omega
theorem lawG_snoc (p : List S33) (x : S33) : lawG (p ++ [x]) = lawS (lawG p) x := by simp [lawG]
theorem wordsN_snoc (p : List S33) (x : S33) : wordsN (p ++ [x]) = wordsN p + (if x.f1 = true then 1 else 0) := by
 unfold wordsN
 rw [List.filter_append]
 cases h : x.f1 <;> simp [h]
theorem lastW_snoc (p : List S33) (x : S33) : lastW (p ++ [x]) = x.f1 := by simp [lastW]
theorem lastS_snoc (l : List S58) (x : S58) : lastS (l ++ [x]) = x.f1 := by simp [lastS]
theorem firstS_snoc (l : List S58) (x y : S58) (h : x.f0 = y.f0) : firstS (l ++ [x]) = firstS (l ++ [y]) := by
 cases l with
 | nil => simpa [firstS] using h
 | cons a t => simp [firstS]
theorem firstS_more (l : List S58) (x : S58) (h : l ≠ []) : firstS (l ++ [x]) = firstS l := by
 cases l with
 | nil => exact absurd rfl h
 | cons a t => simp [firstS]
structure PInv (i : Nat) (l : List S58) (b : Bool) (p : List S33) : Prop where
 law : lawG p = (firstS l, lastS l, (i : Int))
 lw : lastW p = b
 n : wordsN p = l.length
 asc : AscTo 0 l i
 go : b = true → ∃ l' x, l = l' ++ [x] ∧ x.f1 = (i : Int)
theorem first_neg (l : List S58) (z : Int) (h : AscTo 0 l z) : firstS l < 0 ↔ l = [] := by
 cases l with
 | nil => simp [firstS]
 | cons x t => have h1 := h.1; simp only [firstS, List.head?_cons, reduceCtorEq, iff_false]; omega
theorem addPc_same (p : List S33) (x : S33) (t : ByteArray) (wd : Bool) (h : x.f1 = wd) : addPc (p ++ [x]) t wd = p ++ [⟨x.f0 ++ t, x.f1⟩] := by rw [addPc_concat, if_pos h]
theorem addPc_diff (p : List S33) (t : ByteArray) (wd : Bool) (h : p = [] ∨ lastW p ≠ wd) : addPc p t wd = p ++ [⟨t, wd⟩] := by
 by_cases hn : p = []
 ·subst hn; rfl
 ·obtain ⟨l', x, rfl⟩ : ∃ l' x, p = l' ++ [x] := ⟨p.dropLast, p.getLast hn, (List.dropLast_concat_getLast hn).symm⟩
  rw [addPc_concat, if_neg]
  rcases h with h | h
  ·simp at h
  ·rwa [lastW_snoc] at h
theorem pinv_step (s : ByteArray) (i e : Nat) (wd b : Bool) (l : List S58) (p : List S33) (h : PInv i l b p) (h1 : i < e) (h2 : e ≤ s.size) : PInv e (addSp l b i e wd) wd (addPc p (s.extract i e) wd) := by
 have hz : (s.extract i e).size = e - i := by rw [ByteArray.size_extract]; omega
 have hlw := h.lw
 have hlaw := h.law
 have hn := h.n
 have hneg := first_neg l _ h.asc
 cases wd with
 | false =>
  have el : addSp l b i e false = l := by simp [addSp]
  rw [el]
  have hasc := asc_up l 0 i e h.asc (by omega)
  by_cases c : p = [] ∨ b = true
  ·have hd : addPc p (s.extract i e) false = p ++ [⟨s.extract i e, false⟩] := addPc_diff p _ _ (by
    rcases c with c | c
    ·exact .inl c
    ·right; rw [hlw, c]; simp)
   rw [hd]
   refine ⟨?_, by rw [lastW_snoc], by rw [wordsN_snoc]; simpa using hn, hasc, by simp⟩
   rw [lawG_snoc, hlaw]
   simp only [lawS, hz]
   simp
   omega
  ·have hb : b = false := by cases b <;> simp_all
   have hp : p ≠ [] := fun q => c (.inl q)
   obtain ⟨l', x, rfl⟩ : ∃ l' x, p = l' ++ [x] := ⟨p.dropLast, p.getLast hp, (List.dropLast_concat_getLast hp).symm⟩
   rw [lastW_snoc, hb] at hlw
   rw [addPc_same _ _ _ _ hlw]
   rw [wordsN_snoc, hlw] at hn
   rw [lawG_snoc] at hlaw
   refine ⟨?_, by rw [lastW_snoc]; exact hlw, by rw [wordsN_snoc]; simpa [hlw] using hn, hasc, by simp⟩
   rw [lawG_snoc]
   simp only [lawS, hlw] at hlaw ⊢
   simp only [Bool.false_eq_true, false_and, if_false, Prod.mk.injEq] at hlaw ⊢
   refine ⟨hlaw.1, hlaw.2.1, ?_⟩
   rw [ByteArray.size_append, hz]
   omega
 | true =>
  cases b with
  | false =>
   have el : addSp l false i e true = l ++ [⟨(i : Int), (e : Int)⟩] := by simp [addSp]
   have hd : addPc p (s.extract i e) true = p ++ [⟨s.extract i e, true⟩] := addPc_diff p _ _ (by right; rw [hlw]; simp)
   rw [el, hd]
   refine ⟨?_, by rw [lastW_snoc], by rw [wordsN_snoc]; simp [hn], ?_, fun _ => ⟨l, _, rfl, rfl⟩⟩
   ·rw [lawG_snoc, hlaw, lastS_snoc]
    simp only [lawS, hz, true_and, if_true, Prod.mk.injEq]
    refine ⟨?_, by omega, by omega⟩
    by_cases c : l = []
    ·subst c; simp [firstS]
    ·rw [if_neg (fun q => c (hneg.1 q)), firstS_more l _ c]
   ·rw [asc_snoc]
    exact ⟨h.asc, by simp only; omega, by simp⟩
  | true =>
   obtain ⟨l', y, rfl, hy⟩ := h.go rfl
   have hp : p ≠ [] := by rintro rfl; simp [lastW] at hlw
   obtain ⟨p', x, rfl⟩ : ∃ l' x, p = l' ++ [x] := ⟨p.dropLast, p.getLast hp, (List.dropLast_concat_getLast hp).symm⟩
   have el : addSp (l' ++ [y]) true i e true = l' ++ [⟨y.f0, (e : Int)⟩] := by simp [addSp]
   rw [lastW_snoc] at hlw
   rw [el, addPc_same _ _ _ _ hlw]
   rw [lawG_snoc, lastS_snoc] at hlaw
   rw [wordsN_snoc] at hn
   have hasc := (asc_snoc l' 0 i y).1 h.asc
   refine ⟨?_, by rw [lastW_snoc]; exact hlw, by rw [wordsN_snoc]; simp [hlw] at hn ⊢; omega, ?_, fun _ => ⟨l', _, rfl, rfl⟩⟩
   ·rw [lawG_snoc, lastS_snoc, firstS_snoc l' ⟨y.f0, (e : Int)⟩ y rfl]
    simp only [lawS, hlw, true_and, if_true, Prod.mk.injEq] at hlaw ⊢
    rw [ByteArray.size_append, hz]
    refine ⟨hlaw.1, by omega, by omega⟩
   ·rw [asc_snoc]
    exact ⟨hasc.1, by simp only; omega, by simp⟩
def stepsEnd : Nat → List (Nat × Bool) → Nat
 | i, [] => i
 | _, (e, _) :: t => stepsEnd e t
def lastB : Bool → List (Nat × Bool) → Bool
 | b, [] => b
 | _, (_, wd) :: t => lastB wd t
def StepsOK (n : Nat) : Nat → List (Nat × Bool) → Prop
 | i, [] => i ≤ n
 | i, (e, _) :: t => i < e ∧ e ≤ n ∧ StepsOK n e t
theorem steps_ok (s : ByteArray) : ∀ (d i : Nat), i ≤ s.size → StepsOK s.size i (steps s d i) := by
 intro d
 induction d with
 | zero => intro i h; exact h
 | succ d ih =>
  intro i h
  rw [steps]
  by_cases c : i < s.size
  ·rw [if_pos c]
   have q := nxL_ok s i c
   exact ⟨by omega, q.2.1, ih _ q.2.1⟩
  ·rw [if_neg c]; exact h
theorem pinv_all (s : ByteArray) : ∀ (st : List (Nat × Bool)) (i : Nat) (l : List S58) (b : Bool) (p : List S33), PInv i l b p → StepsOK s.size i st →
  PInv (stepsEnd i st) (spG l b i st) (lastB b st) (pcG s p i st) ∧ stepsEnd i st ≤ s.size
 | [], i, l, b, p, h, ho => ⟨h, ho⟩
 | (e, wd) :: t, i, l, b, p, h, ho => pinv_all s t e _ wd _ (pinv_step s i e wd b l p h ho.1 ho.2.1) ho.2.2
theorem pinv_zero : PInv 0 [] false [] := ⟨rfl, rfl, rfl, by simp [AscTo], by simp⟩
def stp (s : ByteArray) : List (Nat × Bool) := steps s s.size 0
def spL (s : ByteArray) : List S58 := spG [] false 0 (stp s)
def pcL (s : ByteArray) : List S33 := pcG s [] 0 (stp s)
theorem stp_len (s : ByteArray) : ∀ (d i : Nat), i ≤ s.size → (steps s d i).length ≤ s.size - i := by
 intro d
 induction d with
 | zero => intro i _; simp [steps]
 | succ d ih =>
  intro i hi
  rw [steps]
  by_cases c : i < s.size
  ·rw [if_pos c, List.length_cons]
   have q := nxL_ok s i c
   have := ih (i + nxL s i) q.2.1
   omega
  ·rw [if_neg c]; simp
theorem pinv_text (s : ByteArray) : PInv (stepsEnd 0 (stp s)) (spL s) (lastB false (stp s)) (pcL s) ∧ stepsEnd 0 (stp s) ≤ s.size :=
 pinv_all s (stp s) 0 [] false [] pinv_zero (steps_ok s s.size 0 (Nat.zero_le _))
theorem endsF (s : ByteArray) (hs : s.size ≤ 40000000) (k : Nat) (hk : 4 * s.size + 20 ≤ k) : scholiaref03_Ends.f k s = some ((stp s).map fun x => (x.1 : Int)) := by
 unfold scholiaref03_Ends.f
 have := ends_eq s hs s.size k 0 [] (by omega) (by omega) (by simp) hk
 simpa [stp] using this
theorem piecesF (s : ByteArray) (hs : s.size ≤ 40000000) (k : Nat) (hk : 4 * s.size + 40 ≤ k) : scholiaref15_Pieces.f k s = some (pcL s) := by
 unfold scholiaref15_Pieces.f
 rw [endsF s hs k (by omega)]
 simp only [Option.bind_some]
 have hl := stp_len s s.size 0 (Nat.zero_le _)
 exact pieces_eq s hs _ (by rw [List.length_map]; exact hl) s.size k 0 0 [] (by omega) (by omega) rfl (Nat.zero_le _) (by simp) (by simp) (by omega)
theorem spansF (s : ByteArray) (hs : s.size ≤ 40000000) (k : Nat) (hk : 3 * s.size + 4 ≤ k) : token_spans.f k s = some (spL s) := by
 unfold token_spans.f
 exact spans_eq s hs s.size k 0 [] false (by omega) (by omega) (by simp) (by simp) hk
theorem pcG_len (s : ByteArray) : ∀ (st : List (Nat × Bool)) (i : Nat) (p : List S33), (pcG s p i st).length ≤ p.length + st.length
 | [], i, p => by simp [pcG]
 | (e, wd) :: t, i, p => by
  rw [pcG]
  have h1 := pcG_len s t e (addPc p (s.extract i e) wd)
  have h2 := addPc_len p (s.extract i e) wd
  simp only [List.length_cons]
  omega
theorem spG_len : ∀ (st : List (Nat × Bool)) (i : Nat) (l : List S58) (b : Bool), (spG l b i st).length ≤ l.length + st.length
 | [], i, l, b => by simp [spG]
 | (e, wd) :: t, i, l, b => by
  rw [spG]
  have h1 := spG_len t e (addSp l b i e wd) wd
  have h2 := addSp_len l b i e wd
  simp only [List.length_cons]
  omega
theorem pcL_len (s : ByteArray) : (pcL s).length ≤ s.size := by
 have h1 := pcG_len s (stp s) 0 []
 have h2 := stp_len s s.size 0 (Nat.zero_le _)
 unfold stp at h1
 unfold pcL stp
 simp at h1
 omega
theorem spL_len (s : ByteArray) : (spL s).length ≤ s.size := by
 have h1 := spG_len (stp s) 0 [] false
 have h2 := stp_len s s.size 0 (Nat.zero_le _)
 unfold stp at h1
 unfold spL stp
 simp at h1
 omega
theorem rd33_get (xs : List S33) (i : Nat) (h : i < xs.length) : rd_T33 xs (i : Int) = xs[i] := by simp [rd_T33, List.getD_eq_getElem?_getD, List.getElem?_eq_getElem h]
theorem rd58_get (xs : List S58) (i : Nat) (h : i < xs.length) : rd_T58 xs (i : Int) = xs[i] := by simp [rd_T58, List.getD_eq_getElem?_getD, List.getElem?_eq_getElem h]
theorem rd60_get (xs : List S60) (i : Nat) (h : i < xs.length) : rd_T60 xs (i : Int) = xs[i] := by simp [rd_T60, List.getD_eq_getElem?_getD, List.getElem?_eq_getElem h]
theorem wordsN_cons (x : S33) (t : List S33) : wordsN (x :: t) = (if x.f1 = true then 1 else 0) + wordsN t := by
 unfold wordsN
 rw [List.filter_cons]
 split <;> simp <;> omega
theorem count_go (ps : List S33) (hp : ps.length ≤ 1000000000) : ∀ (d k j : Nat) (c : Nat), ps.length - j ≤ d → j ≤ ps.length → c ≤ j → d + 1 ≤ k →
  scholiaref15_Count.l0 k (c : Int) ps (ps.length : Int) (j : Int) = some ((c + wordsN (ps.drop j) : Nat) : Int) := by
 intro d
 induction d with
 | zero =>
  intro k j c h hj hc hk
  obtain ⟨k, rfl⟩ : ∃ q, k = q + 1 := ⟨k - 1, by omega⟩
  rw [scholiaref15_Count.l0, if_neg (by omega), List.drop_eq_nil_of_le (by omega)]
  simp [wordsN]
 | succ d ih =>
  intro k j c h hj hc hk
  obtain ⟨k, rfl⟩ : ∃ q, k = q + 1 := ⟨k - 1, by omega⟩
  by_cases c1 : j < ps.length
  ·rw [scholiaref15_Count.l0, if_pos (by omega), if_pos (by omega), if_pos (by omega), rd33_get ps j c1, List.drop_eq_getElem_cons c1, w64x ((j : Int) + 1) (by omega) (by omega), w64x ((c : Int) + 1) (by omega) (by omega),
    show (j : Int) + 1 = ((j + 1 : Nat) : Int) by omega, show (c : Int) + 1 = ((c + 1 : Nat) : Int) by omega]
   by_cases hb : ps[j].f1 = true
   ·rw [if_pos hb, ih k (j + 1) (c + 1) (by omega) (by omega) (by omega) (by omega)]
    congr 2
    rw [wordsN_cons, if_pos hb]
    omega
   ·rw [if_neg hb, ih k (j + 1) c (by omega) (by omega) (by omega) (by omega)]
    congr 2
    rw [wordsN_cons, if_neg hb]
    omega
  ·rw [scholiaref15_Count.l0, if_neg (by omega), List.drop_eq_nil_of_le (by omega)]
   simp [wordsN]
theorem countF (s : ByteArray) (hs : s.size ≤ 40000000) (k : Nat) (hk : 4 * s.size + 40 ≤ k) : scholiaref15_Count.f k s = some ((spL s).length : Int) := by
 unfold scholiaref15_Count.f
 rw [piecesF s hs k hk]
 simp only [Option.bind_some]
 have hl := pcL_len s
 have := count_go (pcL s) (by omega) (pcL s).length k 0 0 (by omega) (by omega) (by omega) (by omega)
 rw [show ((0 : Nat) : Int) = 0 from rfl] at this
 rw [this, List.drop_zero, (pinv_text s).1.n, Nat.zero_add]
theorem Spans_go (sp : List S58) (hp : sp.length ≤ 1000000000) : ∀ (d k j : Nat) (l : List S60), sp.length - j ≤ d → j ≤ sp.length → l.length ≤ j → d + 1 ≤ k →
  token_Spans.l0 k l sp (sp.length : Int) (j : Int) = some (l ++ (sp.drop j).map fun x => (⟨x.f0, x.f1⟩ : S60)) := by
 intro d
 induction d with
 | zero =>
  intro k j l h hj hc hk
  obtain ⟨k, rfl⟩ : ∃ q, k = q + 1 := ⟨k - 1, by omega⟩
  rw [token_Spans.l0, if_neg (by omega), List.drop_eq_nil_of_le (by omega)]
  simp
 | succ d ih =>
  intro k j l h hj hc hk
  obtain ⟨k, rfl⟩ : ∃ q, k = q + 1 := ⟨k - 1, by omega⟩
  by_cases c1 : j < sp.length
  ·rw [token_Spans.l0, if_pos (by omega), if_pos (by omega), if_pos (by omega), if_pos (by omega), rd58_get sp j c1, w64x ((j : Int) + 1) (by omega) (by omega),
    show (j : Int) + 1 = ((j + 1 : Nat) : Int) by omega, ih k (j + 1) _ (by omega) (by omega) (by simp; omega) (by omega), List.drop_eq_getElem_cons c1, List.map_cons, List.append_assoc]
   rfl
  ·rw [token_Spans.l0, if_neg (by omega), List.drop_eq_nil_of_le (by omega)]
   simp
def spA (s : ByteArray) : List S60 := (spL s).map fun x => ⟨x.f0, x.f1⟩
theorem SpansF (s : ByteArray) (hs : s.size ≤ 40000000) (k : Nat) (hk : 3 * s.size + 4 ≤ k) : token_Spans.f k s = some (spA s) := by
 unfold token_Spans.f
 rw [spansF s hs k hk]
 simp only [Option.bind_some]
 have hl := spL_len s
 have := Spans_go (spL s) (by omega) (spL s).length k 0 [] (by omega) (by omega) (by simp) (by omega)
 rw [show ((0 : Nat) : Int) = 0 from rfl] at this
 rw [this, List.drop_zero]
 rfl
end Go.Proofs.YtcgkmomhjincgaaGreatDoor.LibX.Scr
