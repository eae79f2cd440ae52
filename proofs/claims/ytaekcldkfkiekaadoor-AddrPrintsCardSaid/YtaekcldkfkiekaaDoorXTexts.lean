/-
What the program's 'split' and 'gap' answer. No condition.
What the program's 'Print' answers. No condition.
-/
import Derived.Test.YtaekcldkfkiekaaDoorXSixNo
import Derived.Test.YtaekcldkfkiekaaDoorQ15
import Derived.Test.YtaekcldkfkiekaaDoorQ17

namespace Go.Proofs.YtaekcldkfkiekaaDoor
open Go.RowKit Go.Proofs.YtaekcldkfkiekaaDoorW.PrintWords Go.Proofs.YtaekcldkfkiekaaDoorW.PrintLast Go.Proofs.YtaekcldkfkiekaaDoorW.PrintMore

/-- the eight groups of an address -/
def groupsOf (hi lo : Int) : List Int := [hi / 281474976710656 % 65536, hi / 4294967296 % 65536, hi / 65536 % 65536, hi % 65536, lo / 281474976710656 % 65536, lo / 4294967296 % 65536, lo / 65536 % 65536, lo % 65536]

theorem groups_eq (hi lo : Int) (h0 : 0 ≤ hi) (h1 : hi ≤ 18446744073709551615) (l0 : 0 ≤ lo) (l1 : lo ≤ 18446744073709551615) :
    #[Value.int .u16 (hi / 281474976710656), Value.int .u16 (IntKind.u16.wrap (hi / 4294967296)), Value.int .u16 (IntKind.u16.wrap (hi / 65536)), Value.int .u16 (IntKind.u16.wrap (hi)), Value.int .u16 (lo / 281474976710656), Value.int .u16 (IntKind.u16.wrap (lo / 4294967296)), Value.int .u16 (IntKind.u16.wrap (lo / 65536)), Value.int .u16 (IntKind.u16.wrap (lo))] = ((groupsOf hi lo).map (Value.int .u16)).toArray := by
  have e : ∀ x : Int, IntKind.u16.wrap x = x % 65536 := fun x => IntKind.wrap_u16 x
  simp only [e, groupsOf, List.map_cons, List.map_nil]
  rw [show hi / 281474976710656 % 65536 = hi / 281474976710656 by omega, show lo / 281474976710656 % 65536 = lo / 281474976710656 by omega]

set_option maxRecDepth 100000 in
set_option maxHeartbeats 2000000 in
theorem split_calls (six : Bool) (hi lo : Int) (w : World) (h0 : 0 ≤ hi) (h1 : hi ≤ 18446744073709551615) (l0 : 0 ≤ lo) (l1 : lo ≤ 18446744073709551615) :
    Calls Tryd.prog 34 #[.agg #[.bool six, .int .u64 hi, .int .u64 lo]] w fun e w' =>
      e = .returned (.agg ((groupsOf hi lo).map (Value.int .u16)).toArray) ∧ Below w.heap.size w w' := by
  have HE := Lib.hid (groups_eq hi lo h0 h1 l0 l1)
  go_enter Tryd.func34, Tryd.ntmps34
  go_wp2
  refine wp_loop_rounds 5 ?_
  iterate 4
    rw [rounds_succ]
    go_wp2
  rw [rounds_succ]
  go_wp2
  exact bodyPost_ret (v := .agg #[Value.int .u16 (hi / 281474976710656), Value.int .u16 (IntKind.u16.wrap (hi / 4294967296)), Value.int .u16 (IntKind.u16.wrap (hi / 65536)), Value.int .u16 (IntKind.u16.wrap (hi)), Value.int .u16 (lo / 281474976710656), Value.int .u16 (IntKind.u16.wrap (lo / 4294967296)), Value.int .u16 (IntKind.u16.wrap (lo / 65536)), Value.int .u16 (IntKind.u16.wrap (lo))]) (by simp [results, Tryd.results34, go_sem]) rfl ⟨congrArg (fun x => Ending.returned (Value.agg x)) HE.out, by repeat (with_reducible first | exact Below.refl _ _ | apply below_alloc | apply pw_below_drewN | apply below_drew1)⟩

/-- where a row of noughts that begins at a place ends -/
def zend (g : List Int) (i : Nat) : Nat := i + ((g.drop i).takeWhile (· == 0)).length

/-- the longest row of noughts among the first so many places -/
def longest (g : List Int) : Nat → Nat × Nat
  | 0 => (0, 0)
  | n + 1 => if zend g n - n > (longest g n).2 - (longest g n).1 then (n, zend g n) else longest g n

def gapOf (g : List Int) : Nat × Nat :=
  if g.all (· == 0) then (0, 8) else if (longest g 8).2 - (longest g 8).1 < 2 then (0, 0) else longest g 8

theorem eq_items (l m : List Int) (w : World) : ∀ is : List Nat, (∀ i ∈ is, i < l.length ∧ i < m.length) →
    (Op.eqItems 9999 53 1 (l.map (Value.int .u16)).toArray (m.map (Value.int .u16)).toArray is).run Tryd.prog w = .ok (is.all fun i => l.getD i 0 == m.getD i 0) w
  | [], _ => by simp [Op.eqItems]
  | i :: is, h => by
    obtain ⟨h1, h2⟩ := h i (by simp)
    have ih := eq_items l m w is (fun j hj => h j (by simp [hj]))
    have hk : Tryd.prog.plainKey 53 = true := by kernel_rfl
    have p1 := run_part_plain (P := Tryd.prog) w hk (xs := (l.map (Value.int .u16)).toArray) (off := i * 1) (v := .int .u16 (l.getD i 0)) (by simp [List.getD, List.getElem?_eq_getElem h1])
    have p2 := run_part_plain (P := Tryd.prog) w hk (xs := (m.map (Value.int .u16)).toArray) (off := i * 1) (v := .int .u16 (m.getD i 0)) (by simp [List.getD, List.getElem?_eq_getElem h2])
    have p3 := run_equalIn_int (P := Tryd.prog) w 9998 53 .u16 .u16 (l.getD i 0) (m.getD i 0) Tryd.underlying53
    simp only [Op.eqItems, Sem.run_bind, p1, p2, Result.andThen_ok, List.all_cons]
    rw [p3]
    simp only [Result.andThen_ok]
    cases hb : (l.getD i 0 == m.getD i 0)
    · simp
    · simpa using ih

set_option maxRecDepth 100000 in
theorem eq8 (g : List Int) (h : g.length = 8) (w : World) :
    (binOp .eql 55 (.agg (g.map (Value.int .u16)).toArray) (.agg #[.int .u16 0, .int .u16 0, .int .u16 0, .int .u16 0, .int .u16 0, .int .u16 0, .int .u16 0, .int .u16 0])).run Tryd.prog w
      = .ok (.bool (g.all (· == 0))) w := by
  have e : (10000 : Nat) = 9999 + 1 := by omega
  obtain ⟨i, hi⟩ := Option.isSome_iff_exists.1 (show (Tryd.prog.info? 53).isSome = true by kernel_rfl)
  rw [run_eql_struct, e, run_equalIn_array w 9999 _ _ Tryd.underlying55 hi]
  have hc : Tryd.prog.cellsOf 53 = 1 := by kernel_rfl
  rw [hc]
  have := eq_items g (List.replicate 8 0) w (List.range 8) (fun i hi => by simp at hi; simp; omega)
  rw [show (#[Value.int .u16 0, .int .u16 0, .int .u16 0, .int .u16 0, .int .u16 0, .int .u16 0, .int .u16 0, .int .u16 0] : Array Value) = ((List.replicate 8 (0 : Int)).map (Value.int .u16)).toArray from rfl, this]
  simp only [Result.andThen_ok]
  congr 2
  match g, h with
  | [a, b, c, d, e, f, p, q], _ => rfl

theorem zend_eq (g : List Int) (m : Nat) (h : m < g.length) (h0 : g.getD m 0 = 0) : zend g m = zend g (m + 1) := by
  unfold zend
  rw [List.drop_eq_getElem_cons h]
  have e : g[m] = 0 := by simpa [List.getD, List.getElem?_eq_getElem h] using h0
  rw [List.takeWhile_cons, e]
  simp
  omega

theorem zend_ne (g : List Int) (m : Nat) (h : m < g.length) (h0 : g.getD m 0 ≠ 0) : zend g m = m := by
  unfold zend
  rw [List.drop_eq_getElem_cons h]
  have e : ¬ g[m] = 0 := by simpa [List.getD, List.getElem?_eq_getElem h] using h0
  rw [List.takeWhile_cons, if_neg (by simpa using e)]
  simp

theorem zend_end (g : List Int) (m : Nat) (h : g.length ≤ m) : zend g m = m := by
  unfold zend
  rw [List.drop_eq_nil_of_le h]
  simp

theorem zend_le (g : List Int) (m : Nat) (h : m ≤ g.length) : m ≤ zend g m ∧ zend g m ≤ g.length := by
  unfold zend
  have := (List.takeWhile_prefix (l := g.drop m) (· == (0 : Int))).length_le
  rw [List.length_drop] at this
  omega

theorem longest_le (g : List Int) : ∀ n, n ≤ g.length → (longest g n).1 ≤ (longest g n).2 ∧ (longest g n).2 ≤ g.length
  | 0, _ => by simp [longest]
  | n + 1, h => by
    have ih := longest_le g n (by omega)
    have := zend_le g n (by omega)
    unfold longest
    split
    · exact ⟨this.1, this.2⟩
    · exact ih

theorem longest_step (g : List Int) (n m f t : Nat) (hm : zend g n = m) (hl : longest g n = (f, t)) : longest g (n + 1) = if m - n > t - f then (n, m) else (f, t) := by
  unfold longest
  rw [hm, hl]

set_option maxRecDepth 100000 in
set_option maxHeartbeats 2000000 in
theorem gap_calls (g : List Int) (g0 g1 g2 g3 g4 g5 g6 g7 : Int) (hg : g = [g0, g1, g2, g3, g4, g5, g6, g7]) (w : World) :
    Calls Tryd.prog 35 #[.agg #[.int .u16 g0, .int .u16 g1, .int .u16 g2, .int .u16 g3, .int .u16 g4, .int .u16 g5, .int .u16 g6, .int .u16 g7]] w fun e w' =>
      e = .returned (.tuple #[.int .i64 ((gapOf g).1 : Nat), .int .i64 ((gapOf g).2 : Nat)]) ∧ Below w.heap.size w w' := by
  have hl : g.length = 8 := by rw [hg]; rfl
  have heq := fun W => eq8 g hl W
  have hcell : ∀ i, i < 8 → (w.alloc (.cells #[.int .u16 g0, .int .u16 g1, .int .u16 g2, .int .u16 g3, .int .u16 g4, .int .u16 g5, .int .u16 g6, .int .u16 g7] 55)).cell? ⟨w.heap.size, i, none⟩ = some (.int .u16 (g.getD i 0)) := by
    intro i hi
    have e : (w.alloc (.cells #[.int .u16 g0, .int .u16 g1, .int .u16 g2, .int .u16 g3, .int .u16 g4, .int .u16 g5, .int .u16 g6, .int .u16 g7] 55)).heap[w.heap.size]? = some (.cells #[.int .u16 g0, .int .u16 g1, .int .u16 g2, .int .u16 g3, .int .u16 g4, .int .u16 g5, .int .u16 g6, .int .u16 g7] 55) := by
      show (w.heap.push _)[w.heap.size]? = _
      simp
    unfold World.cell?
    rw [e]
    have e2 : (#[Value.int .u16 g0, .int .u16 g1, .int .u16 g2, .int .u16 g3, .int .u16 g4, .int .u16 g5, .int .u16 g6, .int .u16 g7] : Array Value) = (g.map (Value.int .u16)).toArray := by rw [hg]; rfl
    rw [e2]
    simp [List.getD, List.getElem?_eq_getElem (show i < g.length by omega)]
  rw [show (g.map (Value.int .u16)).toArray = #[.int .u16 g0, .int .u16 g1, .int .u16 g2, .int .u16 g3, .int .u16 g4, .int .u16 g5, .int .u16 g6, .int .u16 g7] by rw [hg]; rfl] at heq
  have HC := Lib.hid hcell
  have HL := Lib.hid hl
  clear hcell hg hl
  by_cases hz : g.all (· == 0) = true
  · have HZ := Lib.hid (show gapOf g = (0, 8) by unfold gapOf; rw [if_pos hz])
    rw [hz] at heq
    clear hz
    go_enter Tryd.func35, Tryd.ntmps35
    go_wp2
    go_ret2
    exact ⟨by rw [HZ.out]; rfl, below_alloc (Below.refl _ _) _⟩
  · have hz' : g.all (· == 0) = false := by simpa using hz
    rw [hz'] at heq
    have HZ := Lib.hid (show gapOf g = (if (longest g 8).2 - (longest g 8).1 < 2 then (0, 0) else longest g 8) by unfold gapOf; rw [if_neg hz])
    clear hz hz'
    go_enter Tryd.func35, Tryd.ntmps35
    go_wp2
    clear heq
    go_loop [4, 5, 11] (fun vf vt vi => ∃ n f t : Nat, n ≤ 8 ∧ f ≤ t ∧ t ≤ 8 ∧ vi = .int .i64 n ∧ vf = .int .i64 f ∧ vt = .int .i64 t ∧ Hid (longest g n = (f, t))) (fun _ _ vi => 8 - (intOf vi).toNat)
    case atStart => exact ⟨0, 0, 0, by omega, by omega, by omega, rfl, rfl, rfl, rfl⟩
    case round =>
      obtain ⟨n, f, t, hn, hft, ht, rfl, rfl, rfl, hlg⟩ := hrel
      by_cases hlt : n < 8
      · go_wp2
        go_loop [7] (fun vk => ∃ m : Nat, n ≤ m ∧ m ≤ 8 ∧ vk = .int .i64 m ∧ Hid (zend g m = zend g n)) (fun vk => 8 - (intOf vk).toNat)
        case atStart => exact ⟨n, by omega, by omega, rfl, rfl⟩
        case round =>
          obtain ⟨m, hm1, hm2, rfl, hze⟩ := hrel
          by_cases hm8 : m < 8
          · have hc := HC.out m hm8
            by_cases h0 : g.getD m 0 = 0
            · have HE := Lib.hid ((zend_eq g m (by rw [HL.out]; exact hm8) h0).symm.trans hze.out)
              rw [h0] at hc
              clear hze h0
              go_wp2
              go_round
              case rel => exact ⟨m + 1, by omega, by omega, by go_num, HE⟩
              case measure => simp [intOf]; omega
            · have HZN := Lib.hid (hze.out.symm.trans (zend_ne g m (by rw [HL.out]; exact hm8) h0))
              have h0' : (g.getD m 0 == 0) = false := by simpa using h0
              generalize g.getD m 0 = q at *
              clear h0
              have HS := Lib.hid (longest_step g n m f t HZN.out hlg.out)
              clear hze
              by_cases hgt : (t : Int) - (f : Int) < (m : Int) - (n : Int)
              · have HS2 := Lib.hid (HS.out.trans (if_pos (by omega)))
                go_wp2
                go_round
                case rel => exact ⟨n + 1, n, m, by omega, by omega, by omega, by go_num, rfl, rfl, HS2⟩
                case measure => simp [intOf]; omega
              · have HS2 := Lib.hid (HS.out.trans (if_neg (by omega)))
                go_wp2
                go_round
                case rel => exact ⟨n + 1, f, t, by omega, by omega, by omega, by go_num, rfl, rfl, HS2⟩
                case measure => simp [intOf]; omega
          · obtain rfl : m = 8 := by omega
            have HZN := Lib.hid (hze.out.symm.trans (zend_end g 8 (by rw [HL.out]; exact Nat.le_refl _)))
            have HS := Lib.hid (longest_step g n 8 f t HZN.out hlg.out)
            clear hze
            by_cases hgt : (t : Int) - (f : Int) < (8 : Int) - (n : Int)
            · have HS2 := Lib.hid (HS.out.trans (if_pos (by omega)))
              go_wp2
              go_round
              case rel => exact ⟨n + 1, n, 8, by omega, by omega, by omega, by go_num, rfl, rfl, HS2⟩
              case measure => simp [intOf]; omega
            · have HS2 := Lib.hid (HS.out.trans (if_neg (by omega)))
              go_wp2
              go_round
              case rel => exact ⟨n + 1, f, t, by omega, by omega, by omega, by go_num, rfl, rfl, HS2⟩
              case measure => simp [intOf]; omega
      · obtain rfl : n = 8 := by omega
        have HF := Lib.hid (HZ.out.trans (by rw [hlg.out]))
        by_cases h2 : (t : Int) - (f : Int) < 2
        · have HF2 := Lib.hid (HF.out.trans (if_pos (by omega)))
          go_wp2
          go_ret2
          exact ⟨by rw [HF2.out]; rfl, below_alloc (Below.refl _ _) _⟩
        · have HF2 := Lib.hid (HF.out.trans (if_neg (by omega)))
          go_wp2
          go_ret2
          exact ⟨by rw [HF2.out]; rfl, below_alloc (Below.refl _ _) _⟩
end Go.Proofs.YtaekcldkfkiekaaDoor

namespace Go.Proofs.YtaekcldkfkiekaaDoor
open Go.RowKit Go.Proofs.YtaekcldkfkiekaaDoorW.PrintWords Go.Proofs.YtaekcldkfkiekaaDoorW.PrintLast Go.Proofs.YtaekcldkfkiekaaDoorW.PrintMore

theorem rd_nat {l : List Nat} {i : Nat} (h : i < l.length) : rd (intsOf l) (i : Int) = ((l[i] : Nat) : Int) := by
  unfold rd intsOf
  simp [List.getD, List.getElem?_eq_getElem h]

theorem hex_f (n : Nat) (h : n < 65536) : strconv_FormatUint_32.f (n : Int) 16 = some (hexS n) := by
  unfold strconv_FormatUint_32.f
  rw [if_pos ⟨rfl, by omega, by omega⟩]
  rfl

open Q in
theorem texts_loop (l : List Nat) (hl : l.length ≤ 8) (hb : ∀ n ∈ l, n < 65536) : ∀ (d i : Nat) (k : Nat), i + d = l.length → d < k →
    addr_texts.l0 k ((l.take i).map hexS ++ List.replicate (l.length - i) ⟨#[]⟩) (intsOf l) (l.length : Int) (i : Int) = strings_Join.f (l.map hexS) ⟨#[58]⟩ := by
  intro d
  induction d with
  | zero =>
    intro i k hi hk
    obtain ⟨k, rfl⟩ : ∃ m, k = m + 1 := ⟨k - 1, by omega⟩
    simp only [addr_texts.l0]
    rw [if_neg (by omega), List.take_of_length_le (by omega), show l.length - i = 0 by omega]
    simp
  | succ d ih =>
    intro i k hi hk
    obtain ⟨k, rfl⟩ : ∃ m, k = m + 1 := ⟨k - 1, by omega⟩
    have hlt : i < l.length := by omega
    have hle : (intsOf l).length = l.length := by simp [intsOf]
    have hn := hb l[i] (List.getElem_mem hlt)
    simp only [addr_texts.l0]
    rw [if_pos (by omega), if_pos (by omega), if_pos (by omega), rd_nat hlt]
    rw [show IntKind.u64.wrap ((l[i] : Nat) : Int) = ((l[i] : Nat) : Int) by rw [IntKind.wrap_u64]; omega, hex_f _ hn]
    simp only [Option.bind_some]
    rw [if_pos (by simp; omega)]
    rw [show wrap64 ((i : Int) + 1) = ((i + 1 : Nat) : Int) by unfold wrap64; omega]
    rw [← ih (i + 1) k (by omega) (by omega)]
    congr 1
    rw [Int.toNat_natCast, List.set_append_right _ _ (by simp; omega)]
    rw [show l.length - i = (l.length - (i + 1)) + 1 by omega, List.replicate_succ]
    rw [List.take_succ_eq_append_getElem hlt]
    simp [Nat.min_eq_left (Nat.le_of_lt hlt)]
    rw [List.take_succ_eq_append_getElem (by simpa using hlt)]
    simp

/-- groups as a text -/
def textsP (l : List Nat) : List UInt8 := Lib.join (l.map fun n => (hexS n).data.toList) [58]

theorem hexS_size (n : Nat) : (hexS n).size ≤ 4 := by
  unfold hexS
  rw [strOfNums_size, hexn_length]
  split <;> (try split) <;> (try split) <;> omega

theorem join_len (sep : List UInt8) (m : Nat) : ∀ (l : List (List UInt8)), (∀ x ∈ l, x.length ≤ m) → (Lib.join l sep).length ≤ l.length * (m + sep.length)
  | [], _ => by simp [Lib.join_nil]
  | x :: r, h => by
    rw [Lib.join_cons]
    have hx := h x (by simp)
    have : ∀ r : List (List UInt8), (∀ y ∈ r, y.length ≤ m) → (Lib.joinTail sep r).length ≤ r.length * (m + sep.length) := by
      intro r
      induction r with
      | nil => intro _; simp [Lib.joinTail]
      | cons y r ih =>
        intro hr
        have h1 := ih (fun z hz => hr z (by simp [hz]))
        have h2 := hr y (by simp)
        unfold Lib.joinTail at h1 ⊢
        simp only [List.map_cons, List.flatten_cons, List.length_append, List.length_cons, Nat.add_mul, Nat.one_mul]
        omega
    have h2 := this r (fun y hy => h y (by simp [hy]))
    simp only [List.length_append, List.length_cons, Nat.add_mul, Nat.one_mul]
    omega

theorem join_f (l : List Nat) (hl : l.length ≤ 8) : strings_Join.f (l.map hexS) ⟨#[58]⟩ = some (ofL (textsP l)) := by
  unfold strings_Join.f
  have e : (l.map hexS).map (·.data.toList) = l.map fun n => (hexS n).data.toList := by simp
  have hlen := join_len [58] 4 (l.map fun n => (hexS n).data.toList) (fun x hx => by
    obtain ⟨n, _, rfl⟩ := List.mem_map.1 hx
    have := hexS_size n
    rw [show (hexS n).data.toList.length = (hexS n).size from Array.length_toList]
    exact this)
  simp only [List.length_map, List.length_cons, List.length_nil] at hlen
  rw [e]
  show (if (l.map hexS).length ≤ 140737488355328 ∧ (Lib.join (l.map fun n => (hexS n).data.toList) [58]).length ≤ 140737488355328 then _ else _) = _
  rw [if_pos ⟨by simp; omega, by omega⟩]
  rfl

open Q in
theorem texts_f (l : List Nat) (hl : l.length ≤ 8) (hb : ∀ n ∈ l, n < 65536) (k : Nat) (hk : l.length < k) : addr_texts.f k (intsOf l) = some (ofL (textsP l)) := by
  have hle : (intsOf l).length = l.length := by simp [intsOf]
  unfold addr_texts.f
  rw [hle, if_pos (by omega), if_pos (by omega), ← join_f l hl, ← texts_loop l hl hb l.length 0 k (by omega) hk]
  simp

theorem texts_calls (l : List Nat) (hl : l.length ≤ 8) (hb : ∀ n ∈ l, n < 65536) (A0 : Option Addr) (c0 : Nat) (w : World) (hr0 : Kd.C (Kd.int .u16) w A0 l.length (intsOf l)) (hc0 : l.length ≤ c0) (hG : GV w) :
    Calls Tryd.prog 36 #[.slice A0 l.length c0] w fun e w' => e = .returned (.string (ofL (textsP l))) ∧ Below w.heap.size w w' := by
  have hle : (intsOf l).length = l.length := by simp [intsOf]
  have := Q.addr_texts.calls 9 A0 c0 (intsOf l) (ofL (textsP l)) w (by rw [hle]; exact hr0) (by omega) (texts_f l hl hb 9 (by omega)) hG
  rwa [hle] at this
end Go.Proofs.YtaekcldkfkiekaaDoor
