/- What strconv.FormatUint answers at bases 16 and 10 for small numbers. Conditions: base 16 and a number below 65536, or base 10 and a number below 256. -/
import Derived.Test.YtaekcldkfkiekaaDoorXStr
import Derived.Deep.QuietTactic
import Derived.BigQuiet
import Derived.KernelRfl
import Derived.Lib.AppendIntMem
import Derived.Lib.ItoaLen
namespace Go.Proofs.YtaekcldkfkiekaaDoor
open Go.RowKit Go.Sort Go.Proofs.YtaekcldkfkiekaaDoorW.PrintWords

set_option maxRecDepth 100000 in
set_option maxHeartbeats 1000000 in
theorem tz16 (w : World) (hG : GV w) : Calls Tryd.prog 69 #[.int .u64 16] w fun e w' => e = .returned (.int .i64 4) ∧ w = w' := by
  have hc : w.cell? ⟨5, (IntKind.u64.wrap (bits BinOp.and IntKind.u64 16 (IntKind.u64.wrap (-16)) * 285870213051353865) / 288230376151711744).toNat, none⟩ = some (.int .u8 4) := by
    have := hG.four
    rwa [show (IntKind.u64.wrap (bits BinOp.and IntKind.u64 16 (IntKind.u64.wrap (-16)) * 285870213051353865) / 288230376151711744).toNat = 15 from by decide +kernel]
  clear hG
  go_enter Tryd.func69, Tryd.ntmps69
  go_wp2
  all_goals go_ret
  all_goals exact ⟨rfl, rfl⟩

/-- a digit's byte -/
def hexd (d : Int) : Int := if d < 10 then 48 + d else 87 + d

theorem index_hex (x : Int) (h0 : 0 ≤ x) (h1 : x < 16) (w : World) :
    (Instr.index 9 (.string ⟨#[48, 49, 50, 51, 52, 53, 54, 55, 56, 57, 97, 98, 99, 100, 101, 102, 103, 104, 105, 106, 107, 108, 109, 110, 111, 112, 113, 114, 115, 116, 117, 118, 119, 120, 121, 122]⟩) (.int .u64 x)).run Tryd.prog w = .ok (.int .u8 (hexd x)) w := by
  rcases (by omega : x = 0 ∨ x = 1 ∨ x = 2 ∨ x = 3 ∨ x = 4 ∨ x = 5 ∨ x = 6 ∨ x = 7 ∨ x = 8 ∨ x = 9 ∨ x = 10 ∨ x = 11 ∨ x = 12 ∨ x = 13 ∨ x = 14 ∨ x = 15) with rfl | rfl | rfl | rfl | rfl | rfl | rfl | rfl | rfl | rfl | rfl | rfl | rfl | rfl | rfl | rfl
  all_goals kernel_rfl


def hexn (n : Nat) : Nat → List Int
  | 0 => []
  | k + 1 => hexd ((n / 16 ^ k % 16 : Nat) : Int) :: hexn n k

def rowOf (n k : Nat) : Array Value := (List.replicate (65 - k) (Value.int .u8 0) ++ (hexn n k).map (Value.int .u8)).toArray

theorem hexn_length (n : Nat) : ∀ k, (hexn n k).length = k
  | 0 => rfl
  | k + 1 => by simp [hexn, hexn_length n k]

theorem rowOf_set (n k : Nat) (h : k < 65) : (rowOf n k).setIfInBounds (64 - k) (Value.int .u8 (hexd ((n / 16 ^ k % 16 : Nat) : Int))) = rowOf n (k + 1) := by
  unfold rowOf
  apply Array.ext'
  simp only [Array.toList_setIfInBounds, hexn, List.map_cons]
  have e : 65 - k = (64 - k) + 1 := by omega
  have e2 : 65 - (k + 1) = 64 - k := by omega
  rw [e, e2, List.replicate_succ', List.append_assoc, List.set_append_right _ _ (by simp)]
  simp

theorem and15 (u : Int) (h0 : 0 ≤ u) (h1 : u < 65536) : bits .and .u64 u 15 = u % 16 := by
  obtain ⟨m, rfl⟩ := Int.eq_ofNat_of_zero_le h0
  rw [show (15 : Int) = ((15 : Nat) : Int) from rfl, u64_and_nat m 15 (by omega) (by omega)]
  have := Nat.and_two_pow_sub_one_eq_mod m 4
  simp only [show 2 ^ 4 - 1 = 15 from rfl, show 2 ^ 4 = 16 from rfl] at this
  rw [this]
  rfl

theorem div_step (n k : Nat) : n / 16 ^ (k + 1) = n / 16 ^ k / 16 := by rw [Nat.pow_succ, Nat.div_div_eq_div_mul]

/-- what one round of the loop does -/
theorem step16 (n k : Nat) (u : Int) (hk : k < 3) (hu : u = ((n / 16 ^ k : Nat) : Int)) (hge : 16 ≤ u) (hm : bits .and .u64 u 15 = u % 16) :
    (u / 16 = ((n / 16 ^ (k + 1) : Nat) : Int) ∧ (k + 1 = 0 ∨ 16 ^ (k + 1) ≤ n)) ∧
    (rowOf n k).setIfInBounds (64 - k) (Value.int .u8 (hexd (bits .and .u64 u 15))) = rowOf n (k + 1) := by
  have hd := div_step n k
  refine ⟨⟨by rw [hd, hu]; rfl, .inr ?_⟩, ?_⟩
  · have h16 : 16 ≤ n / 16 ^ k := by omega
    have := (Nat.le_div_iff_mul_le (Nat.pow_pos (by omega : 0 < 16))).1 h16
    rw [Nat.pow_succ, Nat.mul_comm]
    exact this
  · rw [hm, ← rowOf_set n k (by omega)]
    congr 3
    rw [hu]
    rfl

theorem rowOf_cell (n k i : Nat) (hi : i < k) (_hk : k ≤ 65) (w : World) :
    (w.alloc (.cells (rowOf n k) 98)).cell? ⟨w.heap.size, 65 - k + i, none⟩ = some (.int .u8 ((hexn n k).getD i 0)) := by
  have hl := hexn_length n k
  have e : (w.alloc (.cells (rowOf n k) 98)).heap[w.heap.size]? = some (.cells (rowOf n k) 98) := by
    show (w.heap.push _)[w.heap.size]? = _
    simp
  unfold World.cell?
  rw [e]
  simp only [Option.isSome_none, Bool.false_eq_true, if_false]
  unfold rowOf
  rw [List.getElem?_toArray, List.getElem?_append_right (by simp), List.length_replicate]
  rw [show 65 - k + i - (65 - k) = i by omega, List.getElem?_map, List.getElem?_eq_getElem (by omega)]
  simp [List.getD, List.getElem?_eq_getElem (show i < (hexn n k).length by omega)]

theorem conv16 (n k : Nat) (u : Int) (hk : k < 4) (w : World) (hu : u = ((n / 16 ^ k : Nat) : Int)) (hlt : u < 16) :
    (convert 30 9 (.slice (some ⟨w.heap.size, 64 - k, none⟩) (k + 1) (k + 1))).run Tryd.prog (w.alloc (.cells ((rowOf n k).setIfInBounds (64 - k) (Value.int .u8 (hexd u))) 98))
      = .ok (.string (strOfNums (hexn n (k + 1)))) (w.alloc (.cells ((rowOf n k).setIfInBounds (64 - k) (Value.int .u8 (hexd u))) 98)) := by
  have e : (rowOf n k).setIfInBounds (64 - k) (Value.int .u8 (hexd u)) = rowOf n (k + 1) := by
    rw [← rowOf_set n k (by omega)]
    congr 3
    rw [hu, Nat.mod_eq_of_lt (by omega)]
  rw [e]
  refine run_convert_bytes_arg _ 30 5 Tryd.underlying30 Tryd.underlying5 w.heap.size (64 - k) (k + 1) (k + 1) (hexn n (k + 1)) (hexn_length n _) (fun i hi => ?_) 9 Tryd.underlying9
  have := rowOf_cell n (k + 1) i hi (by omega) w
  rwa [show 65 - (k + 1) = 64 - k by omega] at this

/-- a number below 65536 in digits of base 16 -/
def hexS (n : Nat) : ByteArray := strOfNums (hexn n (if n < 16 then 1 else if n < 256 then 2 else if n < 4096 then 3 else 4))

theorem hexS_eq (n k : Nat) (u : Int) (hk : k < 4) (hu : u = ((n / 16 ^ k : Nat) : Int)) (hlt : u < 16) (hu2 : k = 0 ∨ 16 ^ k ≤ n) : strOfNums (hexn n (k + 1)) = hexS n := by
  unfold hexS
  rcases (by omega : k = 0 ∨ k = 1 ∨ k = 2 ∨ k = 3) with rfl | rfl | rfl | rfl
  · rw [if_pos (by simp at hu; omega)]
  · simp at hu hu2
    rw [if_neg (by omega), if_pos (by omega)]
  · simp at hu hu2
    rw [if_neg (by omega), if_neg (by omega), if_pos (by omega)]
  · simp at hu hu2
    rw [if_neg (by omega), if_neg (by omega), if_neg (by omega)]

set_option maxRecDepth 100000 in
set_option maxHeartbeats 1000000 in
theorem fb16 (n : Nat) (h1 : n < 65536) (w : World) (hG : GV w) :
    Calls Tryd.prog 56 #[.slice none 0 0, .int .u64 n, .int .i64 16, .bool false, .bool false] w fun e w' => e = .returned (.tuple #[.slice none 0 0, .string (hexS n)]) ∧ Below w.heap.size w w' := by
  have HG := Lib.hid hG
  clear hG
  have hz : Tryd.zeroCells98 = rowOf n 0 := by kernel_rfl
  go_enter Tryd.func56, Tryd.ntmps56
  go_wp2_with (first | (go_at_call 69; refine (tz16 _ (HG.out.below ((Below.refl _ _).alloc (Nat.le_refl _) _))).mono ?_; rintro e w' ⟨rfl, rfl⟩) | (go_at_call 68; go_in))
  go_loopw [1, 13] (fun vu vi wr => ∃ (k : Nat) (u : Int), k ≤ 3 ∧ vu = .int .u64 u ∧ vi = .int .i64 (65 - (k : Int)) ∧ Hid (u = ((n / 16 ^ k : Nat) : Int) ∧ (k = 0 ∨ 16 ^ k ≤ n)) ∧ Hid (wr = w.alloc (.cells (rowOf n k) 98))) (fun vu _ _ => (intOf vu).toNat)
  case atStart => exact ⟨0, n, by omega, rfl, rfl, Lib.hid ⟨by simp, .inl rfl⟩, Lib.hid rfl⟩
  case round =>
    obtain ⟨k, u, hk, rfl, rfl, hu, hw⟩ := hrel
    have hw1 := hw.out
    clear hw
    subst hw1
    clear hz
    obtain ⟨hu1, hu2⟩ := hu.out
    have hdv : n / 16 ^ k ≤ n := Nat.div_le_self _ _
    have u0 : 0 ≤ u := by rw [hu1]; exact Int.natCast_nonneg _
    have u1 : u < 65536 := by rw [hu1]; exact Int.ofNat_lt.2 (Nat.lt_of_le_of_lt hdv h1)
    have hmod := and15 u u0 u1
    have hm0 : 0 ≤ bits .and .u64 u 15 := by rw [hmod]; omega
    have hm1 : bits .and .u64 u 15 < 16 := by rw [hmod]; omega
    have hix := fun w => index_hex (bits .and .u64 u 15) hm0 hm1 w
    have HM := Lib.hid hmod
    clear hmod
    by_cases hge : 16 ≤ u
    · have hlt : k = 0 ∨ k = 1 ∨ k = 2 := by
        rcases (by omega : k = 0 ∨ k = 1 ∨ k = 2 ∨ k = 3) with rfl | rfl | rfl | rfl
        · exact .inl rfl
        · exact .inr (.inl rfl)
        · exact .inr (.inr rfl)
        · exfalso; simp only [show (16 : Nat) ^ 3 = 4096 from rfl] at hu1; omega
      have hk4 : k < 3 := by omega
      have HS := Lib.hid (step16 n k u hk4 hu1 hge HM.out)
      clear hu1 hu2 hdv hu
      rcases hlt with rfl | rfl | rfl
      all_goals
        go_wp2_with fail
        go_roundw
        case rel => exact ⟨_, u / 16, by omega, rfl, by first | rfl | (congr 1), Lib.hid HS.out.1, Lib.hid (by rw [← HS.out.2])⟩
        case measure => simp [intOf]; omega
    · have hlt : u < 16 := by omega
      have hix2 := fun w => index_hex u u0 hlt w
      have hk4 : k < 4 := by omega
      have HE := Lib.hid (hexS_eq n k u hk4 hu1 hlt hu2)
      have hcv := conv16 n k u hk4 w hu1 hlt
      rcases (by omega : k = 0 ∨ k = 1 ∨ k = 2 ∨ k = 3) with rfl | rfl | rfl | rfl
      all_goals
        simp only [Nat.reduceSub, Nat.reduceAdd, Nat.sub_zero, Nat.zero_add] at hcv
        clear hu1 hu2 hdv hu
        go_wp2_with fail
        go_ret2
        exact ⟨by rw [← HE.out]; rfl, (Below.refl _ _).alloc (Nat.le_refl _) _⟩

set_option maxRecDepth 100000 in
set_option maxHeartbeats 1000000 in
theorem fu16 (n : Nat) (h1 : n < 65536) (w : World) (hG : GV w) :
    Calls Tryd.prog 46 #[.int .u64 n, .int .i64 16] w fun e w' => e = .returned (.string (hexS n)) ∧ Below w.heap.size w w' := by
  have HG := Lib.hid hG
  clear hG
  go_enter Tryd.func46, Tryd.ntmps46
  go_wp2_with (go_at_call 56; refine (fb16 n h1 _ HG.out).mono ?_; rintro e w' ⟨rfl, hb⟩; have HB := Lib.hid hb; clear hb)
  go_ret
  exact ⟨rfl, HB.out⟩

theorem below_grown (w : World) (k : Nat) (os : Array Obj) : Below w.heap.size w (grow (w.drewN k) os) := by
  refine ⟨rfl, rfl, rfl, ?_, fun j hj => Lib.heap_grow_old w k os j hj⟩
  show w.heap.size ≤ (w.heap ++ os).size
  simp

/-- a number in decimal digits -/
def decS (n : Nat) : ByteArray := ofL (Lib.decDigits n)

set_option maxRecDepth 100000 in
set_option maxHeartbeats 1000000 in
theorem fu10s (n : Nat) (h1 : n < 100) (w : World) :
    Calls Tryd.prog 46 #[.int .u64 n, .int .i64 10] w fun e w' => e = .returned (.string (decS n)) ∧ Below w.heap.size w w' := by
  go_enter Tryd.func46, Tryd.ntmps46
  go_wp2_with (go_at_call 53; refine (Tryd.internal_strconv_small n h1 _).mono ?_; rintro e w' ⟨rfl, rfl⟩)
  go_ret
  exact ⟨rfl, Below.refl _ _⟩

set_option maxRecDepth 100000 in
set_option maxHeartbeats 1000000 in
theorem fu10b (n : Nat) (h1 : 100 ≤ n) (h2 : n < 18446744073709551616) (w : World) (hG : GV w) :
    Calls Tryd.prog 46 #[.int .u64 n, .int .i64 10] w fun e w' => e = .returned (.string (decS n)) ∧ Below w.heap.size w w' := by
  have hu1 : 1 ≤ n := by omega
  have hnd20 : Lib.nDigits n ≤ 20 := Lib.nDigits_le20 n h2
  have hal : Tryd.prog.arrayLen 85 = 24 := by kernel_rfl
  have hsl1 : ∀ W, (Instr.sliceAt 85 (.pointer (some ⟨w.heap.size, 0, none⟩)) none (some (.int .i64 (Lib.nDigits n : Int))) none).run Tryd.prog W = .ok (.slice (some ⟨w.heap.size, 0, none⟩) (Lib.nDigits n) 24) W := fun W => by
    rw [run_sliceAt_array_h W 85 ⟨w.heap.size, 0, none⟩ (by simp [Program.arrayLen, Program.elem, Tryd.underlying85]) .i64 (Lib.nDigits n : Int) (by omega) (by rw [hal]; omega)]
    go_simp
  have hH0 := Lib.holds_zero0 w 85 (Lib.nDigits n) (by omega)
  have hfmt := Tryd.internal_strconv_formatBase10 w.heap.size 0 24 n (Array.replicate (Lib.nDigits n) 0) (w.alloc (.cells Lib.zeros24 85)) hH0 (by rw [Array.size_replicate]; exact Lib.lt_pow_nDigits n) h2 (by rw [Array.size_replicate]; omega)
  rw [Array.size_replicate] at hfmt
  have HH0 := Lib.hid hH0
  have htab := hG.pow
  clear hH0 hal hG
  go_enter Tryd.func46, Tryd.ntmps46
  go_wp2_with (go_at_call 54; refine (Tryd.internal_strconv_numDigits n hu1 h2 _ (Lib.tabIs_alloc htab _)).mono ?_; rintro e w' ⟨rfl, rfl⟩)
  go_at_call 55
  refine hfmt.mono ?_
  rintro e w' ⟨rfl, k, v', dk, rfl, hF⟩
  have hcv : (convert 30 9 (.slice (some ⟨w.heap.size, 0, none⟩) (Lib.nDigits n) 24)).run Tryd.prog ((putRow (fun (b : UInt8) => Value.int .u8 (b.toNat : Int)) (w.alloc (.cells Lib.zeros24 85)) w.heap.size 0 dk).drewN k) = .ok (.string ⟨(Lib.decDigits n).toArray⟩) ((putRow (fun (b : UInt8) => Value.int .u8 (b.toNat : Int)) (w.alloc (.cells Lib.zeros24 85)) w.heap.size 0 dk).drewN k) := by
    have h := run_convert_bytes_back (P := Tryd.prog) ((putRow (fun (b : UInt8) => Value.int .u8 (b.toNat : Int)) (w.alloc (.cells Lib.zeros24 85)) w.heap.size 0 dk).drewN k) 30 9 5 ⟨w.heap.size, 0, none⟩ 24 (Lib.decDigits n) Tryd.underlying30 Tryd.underlying5 Tryd.underlying9 (fun j hj => by
      rw [Lib.row_is_numeral hF j hj, Lib.add_plain, World.cell?_drewN]
      exact cell?_putRow (fun (b : UInt8) => Value.int .u8 (b.toNat : Int)) _ w.heap.size 0 _ dk HH0.out (by rw [hF.size, Array.size_replicate]) j (by rw [hF.size]; rw [Lib.decDigits_length] at hj; exact hj))
    rw [Lib.decDigits_length] at h
    exact h
  obtain ⟨os, eo⟩ := Lib.fin_at w (.cells Lib.zeros24 85) dk k 0
  have HO := Lib.hid eo
  clear eo hF
  go_wp2
  go_ret
  exact ⟨rfl, by rw [HO.out]; exact below_grown w k os⟩

def strconv_FormatUint_32.f (a0 : Int) (a1 : Int) : Option (ByteArray) :=
  if a1 = 16 ∧ 0 ≤ a0 ∧ a0 < 65536 then some (hexS a0.toNat)
  else if a1 = 10 ∧ 0 ≤ a0 ∧ a0 < 18446744073709551616 then some (decS a0.toNat) else none

set_option maxRecDepth 100000 in
set_option maxHeartbeats 1000000 in
theorem strconv_FormatUint_32.calls (a0 : Int) (a1 : Int) (r : ByteArray) (w : World) (h : strconv_FormatUint_32.f a0 a1 = some r) (hG : GV w) :
    Calls Tryd.prog 32 #[.int .u64 a0, .int .i64 a1] w fun e w' => e = .returned (.string r) ∧ Below w.heap.size w w' := by
  have HC : Hid (∀ w, GV w → Calls Tryd.prog 46 #[.int .u64 a0, .int .i64 a1] w fun e w' => e = .returned (.string r) ∧ Below w.heap.size w w') := by
    refine Lib.hid ?_
    intro w hG
    unfold strconv_FormatUint_32.f at h
    split at h
    · rename_i hc
      obtain ⟨rfl, h0, h1⟩ := hc
      obtain rfl := Option.some.inj h
      obtain ⟨n, rfl⟩ := Int.eq_ofNat_of_zero_le h0
      exact fu16 n (by omega) w hG
    · split at h
      · rename_i hc
        obtain ⟨rfl, h0, h1⟩ := hc
        obtain rfl := Option.some.inj h
        obtain ⟨n, rfl⟩ := Int.eq_ofNat_of_zero_le h0
        rcases Nat.lt_or_ge n 100 with hn | hn
        · exact fu10s n hn w
        · exact fu10b n hn (by omega) w hG
      · cases h
  clear h
  have HG := Lib.hid hG
  clear hG
  go_enter Tryd.func32, Tryd.ntmps32
  go_wp2_with (go_at_call 46; refine (HC.out _ HG.out).mono ?_; rintro e w' ⟨rfl, hb⟩; have HB := Lib.hid hb; clear hb)
  go_ret
  exact ⟨rfl, HB.out⟩
end Go.Proofs.YtaekcldkfkiekaaDoor
