/-
What the program's 'Print' answers. No condition.
What the program's 'Print' answers, of addresses with Six too. No condition.
What the program's 'Print' answers, of addresses with Six and a gap. No condition.
'Print' as the printed walks use it. No condition.
-/
import Derived.Test.YtaekcldkfkiekaaDoorXTexts
import Derived.StillTailTactics
import Derived.RegionCalls

namespace Go.Proofs.YtaekcldkfkiekaaDoor
open Go.RowKit Go.Proofs.YtaekcldkfkiekaaDoorW.PrintWords Go.Proofs.YtaekcldkfkiekaaDoorW.PrintLast Go.Proofs.YtaekcldkfkiekaaDoorW.PrintMore

theorem valid_f (six : Bool) (hi lo : Int) : Q.addr_Valid.f six hi lo = some (six || (hi == 0 && decide (lo < 4294967296))) := by
  unfold Q.addr_Valid.f
  cases six
  · by_cases h : hi = 0
    · simp [h]
    · simp [h]
  · simp

set_option maxRecDepth 100000 in
set_option maxHeartbeats 2000000 in
theorem print_bad (six : Bool) (hi lo : Int) (w : World) (h : (six || (hi == 0 && decide (lo < 4294967296))) = false) :
    Calls Tryd.prog 14 #[.agg #[.bool six, .int .u64 hi, .int .u64 lo]] w fun e w' => e = .returned (.string ⟨#[]⟩) ∧ Below w.heap.size w w' := by
  have HV := Lib.hid (fun w => Q.addr_Valid.calls six hi lo _ w (valid_f six hi lo))
  rw [h] at HV
  clear h
  go_enter Tryd.func14, Tryd.ntmps14
  go_wp2_with (go_at_call 16; refine (HV.out _).mono ?_; rintro e w' ⟨rfl, hb⟩; have HB := Lib.hid hb; clear hb)
  go_ret
  exact ⟨rfl, (below_alloc (Below.refl _ _) _).trans (HB.out.mono (by show w.heap.size ≤ (w.heap.push _).size; simp))⟩

theorem cells3 {W : World} {g : Nat} {a b c : Value} {t : TypeId} (h : W.heap[g]? = some (.cells #[a, b, c] t (0, 0))) :
    W.cell? ⟨g, 0, none⟩ = some a ∧ W.cell? ⟨g, 1, none⟩ = some b ∧ W.cell? ⟨g, 2, none⟩ = some c ∧ W.frozen? ⟨g, 0, none⟩ = false ∧ W.frozen? ⟨g, 1, none⟩ = false ∧ W.frozen? ⟨g, 2, none⟩ = false := by
  refine ⟨?_, ?_, ?_, ?_, ?_, ?_⟩
  all_goals first | (unfold World.cell?; rw [h]; rfl) | (unfold World.frozen?; rw [h]; rfl)

theorem box_heap {w W : World} {o : Obj} (h : Below (w.alloc o).heap.size (w.alloc o) W) : W.heap[w.heap.size]? = some o := by
  refine (h.block w.heap.size (by show w.heap.size < (w.heap.push _).size; simp)).trans ?_
  show (w.heap.push _)[w.heap.size]? = _
  simp

theorem box_kept {w W : World} {a b c : Value} {t : TypeId} (h : Below (w.alloc (.cells #[a, b, c] t)).heap.size (w.alloc (.cells #[a, b, c] t)) W) :
    W.cell? ⟨w.heap.size, 0, none⟩ = some a ∧ W.cell? ⟨w.heap.size, 1, none⟩ = some b ∧ W.cell? ⟨w.heap.size, 2, none⟩ = some c ∧ W.frozen? ⟨w.heap.size, 0, none⟩ = false ∧ W.frozen? ⟨w.heap.size, 1, none⟩ = false ∧ W.frozen? ⟨w.heap.size, 2, none⟩ = false :=
  cells3 (box_heap h)

theorem and255 (x : Int) (h0 : 0 ≤ x) (h1 : x < 18446744073709551616) : bits .and .u64 x 255 = x % 256 := by
  obtain ⟨m, rfl⟩ := Int.eq_ofNat_of_zero_le h0
  rw [show (255 : Int) = ((255 : Nat) : Int) from rfl, u64_and_nat m 255 (by omega) (by omega)]
  have := Nat.and_two_pow_sub_one_eq_mod m 8
  simp only [show 2 ^ 8 - 1 = 255 from rfl, show 2 ^ 8 = 256 from rfl] at this
  rw [this]
  rfl

def octOf (lo : Int) (j : Nat) : Nat := (lo / 256 ^ (3 - j) % 256).toNat

def octCell (lo : Int) (k j : Nat) : Value := if j < k then .string (decS (octOf lo j)) else .string ⟨#[]⟩

def strs (lo : Int) (k : Nat) : Array Value := #[octCell lo k 0, octCell lo k 1, octCell lo k 2, octCell lo k 3]

structure Four (w W1 : World) (lo : Int) (k : Nat) (wr : World) : Prop where
  box : wr.heap[w.heap.size]? = some (.cells #[.bool false, .int .u64 0, .int .u64 lo] 25 (0, 0))
  row : wr.heap[W1.heap.size]? = some (.cells (strs lo k) 9 (0, 0))
  lt : W1.heap.size < wr.heap.size
  bel : Below w.heap.size w wr

theorem fu_any (a0 : Int) (w : World) (h0 : 0 ≤ a0) (h1 : a0 < 256) (hG : GV w) :
    Calls Tryd.prog 32 #[.int .u64 a0, .int .i64 10] w fun e w' => e = .returned (.string (decS a0.toNat)) ∧ Below w.heap.size w w' :=
  strconv_FormatUint_32.calls a0 10 _ w (by unfold strconv_FormatUint_32.f; rw [if_neg (by omega), if_pos ⟨rfl, h0, by omega⟩]) hG

theorem row_cell {wr : World} {g : Nat} {lo : Int} {k j : Nat} (h : wr.heap[g]? = some (.cells (strs lo k) 9 (0, 0))) (hj : j < 4) : wr.cell? ⟨g, j, none⟩ = some (octCell lo k j) ∧ wr.frozen? ⟨g, j, none⟩ = false := by
  refine ⟨?_, ?_⟩
  · unfold World.cell?
    rw [h]
    rcases (by omega : j = 0 ∨ j = 1 ∨ j = 2 ∨ j = 3) with rfl | rfl | rfl | rfl <;> rfl
  · unfold World.frozen?
    rw [h]
    rfl

theorem strs_set (lo : Int) (k : Nat) (hk : k < 4) : (strs lo k).setIfInBounds k (.string (decS (octOf lo k))) = strs lo (k + 1) := by
  rcases (by omega : k = 0 ∨ k = 1 ∨ k = 2 ∨ k = 3) with rfl | rfl | rfl | rfl <;> rfl

theorem Four.next {w W1 wr W2 : World} {lo : Int} {k : Nat} (h : Four w W1 lo k wr) (hw : w.heap.size < W1.heap.size) (hk : k < 4) (hb : Below wr.heap.size wr W2) (v : Value) (hv : v = .string (decS (octOf lo k))) :
    Four w W1 lo (k + 1) (W2.setCell ⟨W1.heap.size, k, none⟩ v) := by
  subst hv
  refine ⟨?_, ?_, ?_, ?_⟩
  · rw [Below.heap_setCell _ _ _ _ (by show w.heap.size ≠ W1.heap.size; omega)]
    exact (hb.block _ (by have := h.lt; omega)).trans h.box
  · exact blk_put ((hb.block _ h.lt).trans h.row) k _ (strs_set lo k hk)
  · have := hb.size
    have := h.lt
    simp [World.setCell]; omega
  · exact (h.bel.trans (hb.mono h.bel.size)).setCell (by show w.heap.size ≤ W1.heap.size; omega) _

/-- four numbers with dots between -/
def fourTxt (lo : Int) : List UInt8 := Lib.join [Lib.decDigits (octOf lo 0), Lib.decDigits (octOf lo 1), Lib.decDigits (octOf lo 2), Lib.decDigits (octOf lo 3)] [46]

theorem four_row {wr : World} {g : Nat} {lo : Int} (h : wr.heap[g]? = some (.cells (strs lo 4) 9 (0, 0))) :
    Kd.C Kd.string wr (some ⟨g, 0, none⟩) [decS (octOf lo 0), decS (octOf lo 1), decS (octOf lo 2), decS (octOf lo 3)].length [decS (octOf lo 0), decS (octOf lo 1), decS (octOf lo 2), decS (octOf lo 3)] := by
  refine ⟨rfl, by simp, fun _ => ⟨_, rfl, fun j p hp => ⟨[.string p], rfl, rfl, fun i u hu => ?_⟩⟩⟩
  obtain rfl : i = 0 := by
    rcases Nat.eq_zero_or_pos i with h | h
    · exact h
    · rw [List.getElem?_eq_none (by simp; omega)] at hu; cases hu
  simp only [List.getElem?_cons_zero, Option.some.injEq] at hu
  subst hu
  have hj : j < 4 := by
    rcases Nat.lt_or_ge j 4 with h | h
    · exact h
    · rw [List.getElem?_eq_none (by simpa using h)] at hp; cases hp
  have := (row_cell (j := j) h hj).1
  rw [show j * Kd.string.sz + 0 = j by show j * 1 + 0 = j; omega, addr_add, Nat.zero_add, this]
  rcases (by omega : j = 0 ∨ j = 1 ∨ j = 2 ∨ j = 3) with rfl | rfl | rfl | rfl <;> (simp at hp; subst hp; rfl)

theorem decS_len (n : Nat) (h : n < 256) : (Lib.decDigits n).length ≤ 3 := by
  rw [Lib.decDigits_length]
  by_cases h1 : n < 10
  · rw [Lib.nDigits_small h1]; omega
  · rw [Lib.nDigits_big h1]
    by_cases h2 : n / 10 < 10
    · rw [Lib.nDigits_small h2]; omega
    · rw [Lib.nDigits_big h2, Lib.nDigits_small (by omega)]; omega

theorem octOf_lt (lo : Int) (j : Nat) : octOf lo j < 256 := by
  unfold octOf
  have := Int.emod_lt_of_pos (lo / 256 ^ (3 - j)) (show (0 : Int) < 256 by omega)
  omega

theorem four_join (lo : Int) : strings_Join.f [decS (octOf lo 0), decS (octOf lo 1), decS (octOf lo 2), decS (octOf lo 3)] ⟨#[46]⟩ = some (ofL (fourTxt lo)) := by
  have hlen := join_len [46] 3 [Lib.decDigits (octOf lo 0), Lib.decDigits (octOf lo 1), Lib.decDigits (octOf lo 2), Lib.decDigits (octOf lo 3)] (fun x hx => by
    simp only [List.mem_cons, List.not_mem_nil, or_false] at hx
    rcases hx with rfl | rfl | rfl | rfl <;> exact decS_len _ (octOf_lt _ _))
  simp only [List.length_cons, List.length_nil] at hlen
  unfold strings_Join.f
  have e : [decS (octOf lo 0), decS (octOf lo 1), decS (octOf lo 2), decS (octOf lo 3)].map (·.data.toList) = [Lib.decDigits (octOf lo 0), Lib.decDigits (octOf lo 1), Lib.decDigits (octOf lo 2), Lib.decDigits (octOf lo 3)] := by
    simp only [List.map_cons, List.map_nil, decS, ofL_data]
  rw [e]
  rw [if_pos ⟨by simp, by show (Lib.join _ [46]).length ≤ _; omega⟩]
  rfl

set_option maxRecDepth 100000 in
set_option maxHeartbeats 4000000 in
theorem print_four (lo : Int) (l0 : 0 ≤ lo) (l1 : lo < 4294967296) (w : World) (hG : GV w) :
    Calls Tryd.prog 14 #[.agg #[.bool false, .int .u64 0, .int .u64 lo]] w fun e w' => e = .returned (.string (ofL (fourTxt lo))) ∧ Below w.heap.size w w' := by
  have HV := Lib.hid (fun w => Q.addr_Valid.calls false 0 lo true w (by rw [valid_f]; simp [l1]))
  have HG := Lib.hid hG
  clear hG
  have hmk : ∀ w : World, (Instr.makeSlice 45 (.int .i64 4) (.int .i64 4)).run Tryd.prog w = .ok (.slice (some ⟨w.heap.size, 0, none⟩) 4 4) (w.alloc (.cells #[.string ⟨#[]⟩, .string ⟨#[]⟩, .string ⟨#[]⟩, .string ⟨#[]⟩] 9)) := fun _ => by kernel_rfl
  go_enter Tryd.func14, Tryd.ntmps14
  go_wp2_with (go_at_call 16; refine (HV.out _).mono ?_; rintro e W1 ⟨rfl, hb⟩; have HB1 := Lib.hid hb; clear hb; have h0 := box_kept HB1.out; obtain ⟨k0, k1, k2, f0, f1, f2⟩ := h0)
  have HL1 := Lib.hid (show w.heap.size < W1.heap.size from Nat.lt_of_lt_of_le (by show w.heap.size < (w.heap.push _).size; simp) HB1.out.size)
  have HBW := Lib.hid ((below_alloc (Below.refl w.heap.size w) _).trans (HB1.out.mono (by show w.heap.size ≤ (w.heap.push _).size; simp)))
  have HS0 := Lib.hid (box_heap HB1.out)
  clear k0 k1 k2 f0 f1 f2
  go_loopw [17] (fun vi wr => ∃ k : Nat, k ≤ 4 ∧ vi = .int .i64 k ∧ Hid (Four w W1 lo k wr)) (fun vi _ => 4 - (intOf vi).toNat)
  case atStart => exact ⟨0, by omega, rfl, Lib.hid ⟨(Below.heap_alloc _ _ _ HL1.out).trans HS0.out, (by show (W1.heap.push _)[W1.heap.size]? = _; simp; rfl), (by show W1.heap.size < (W1.heap.push _).size; simp), below_alloc HBW.out _⟩⟩
  case round =>
    obtain ⟨k, hk, rfl, hF⟩ := hrel
    by_cases hlt : k < 4
    · have hb := cells3 hF.out.box
      obtain ⟨k0, k1, k2, f0, f1, f2⟩ := hb
      have hd0 : 0 ≤ lo / 256 := by omega
      have hd1 : 0 ≤ lo / 65536 := by omega
      have hd2 : 0 ≤ lo / 16777216 := by omega
      have HA := Lib.hid (fun (x : Int) (h0 : 0 ≤ x) (h1 : x < 18446744073709551616) => and255 x h0 h1)
      rcases (by omega : k = 0 ∨ k = 1 ∨ k = 2 ∨ k = 3) with rfl | rfl | rfl | rfl
      · have hx := HA.out (lo / 16777216) (by omega) (by omega)
        have hx0 : 0 ≤ bits .and .u64 (lo / 16777216) 255 := by rw [hx]; omega
        have hx1 : bits .and .u64 (lo / 16777216) 255 < 256 := by rw [hx]; omega
        have HX := Lib.hid (show Value.string (decS (bits .and .u64 (lo / 16777216) 255).toNat) = .string (decS (octOf lo 0)) by rw [hx]; rfl)
        clear hx
        go_wp2_with fail
        refine (fu_any _ _ hx0 hx1 (HG.out.below hF.out.bel)).mono ?_
        rintro e W2 ⟨rfl, hb2⟩
        have HN := Lib.hid (hF.out.next HL1.out (by omega) hb2 _ HX.out)
        have hrow := row_cell (j := 0) ((hb2.block _ hF.out.lt).trans hF.out.row) (by omega)
        obtain ⟨r0, r1⟩ := hrow
        clear hb2
        go_wp2_with fail
        go_roundw
        case rel => exact ⟨1, by omega, by go_num, HN⟩
        case measure => simp [intOf]
      · have hx := HA.out (lo / 65536) (by omega) (by omega)
        have hx0 : 0 ≤ bits .and .u64 (lo / 65536) 255 := by rw [hx]; omega
        have hx1 : bits .and .u64 (lo / 65536) 255 < 256 := by rw [hx]; omega
        have HX := Lib.hid (show Value.string (decS (bits .and .u64 (lo / 65536) 255).toNat) = .string (decS (octOf lo 1)) by rw [hx]; rfl)
        clear hx
        go_wp2_with fail
        refine (fu_any _ _ hx0 hx1 (HG.out.below hF.out.bel)).mono ?_
        rintro e W2 ⟨rfl, hb2⟩
        have HN := Lib.hid (hF.out.next HL1.out (by omega) hb2 _ HX.out)
        have hrow := row_cell (j := 1) ((hb2.block _ hF.out.lt).trans hF.out.row) (by omega)
        obtain ⟨r0, r1⟩ := hrow
        clear hb2
        go_wp2_with fail
        go_roundw
        case rel => exact ⟨2, by omega, by go_num, HN⟩
        case measure => simp [intOf]
      · have hx := HA.out (lo / 256) (by omega) (by omega)
        have hx0 : 0 ≤ bits .and .u64 (lo / 256) 255 := by rw [hx]; omega
        have hx1 : bits .and .u64 (lo / 256) 255 < 256 := by rw [hx]; omega
        have HX := Lib.hid (show Value.string (decS (bits .and .u64 (lo / 256) 255).toNat) = .string (decS (octOf lo 2)) by rw [hx]; rfl)
        clear hx
        go_wp2_with fail
        refine (fu_any _ _ hx0 hx1 (HG.out.below hF.out.bel)).mono ?_
        rintro e W2 ⟨rfl, hb2⟩
        have HN := Lib.hid (hF.out.next HL1.out (by omega) hb2 _ HX.out)
        have hrow := row_cell (j := 2) ((hb2.block _ hF.out.lt).trans hF.out.row) (by omega)
        obtain ⟨r0, r1⟩ := hrow
        clear hb2
        go_wp2_with fail
        go_roundw
        case rel => exact ⟨3, by omega, by go_num, HN⟩
        case measure => simp [intOf]
      · have hx := HA.out (lo) (by omega) (by omega)
        have hx0 : 0 ≤ bits .and .u64 (lo) 255 := by rw [hx]; omega
        have hx1 : bits .and .u64 (lo) 255 < 256 := by rw [hx]; omega
        have HX := Lib.hid (show Value.string (decS (bits .and .u64 (lo) 255).toNat) = .string (decS (octOf lo 3)) by rw [hx]; unfold octOf; simp)
        clear hx
        go_wp2_with fail
        refine (fu_any _ _ hx0 hx1 (HG.out.below hF.out.bel)).mono ?_
        rintro e W2 ⟨rfl, hb2⟩
        have HN := Lib.hid (hF.out.next HL1.out (by omega) hb2 _ HX.out)
        have hrow := row_cell (j := 3) ((hb2.block _ hF.out.lt).trans hF.out.row) (by omega)
        obtain ⟨r0, r1⟩ := hrow
        clear hb2
        go_wp2_with fail
        go_roundw
        case rel => exact ⟨4, by omega, by go_num, HN⟩
        case measure => simp [intOf]
    · obtain rfl : k = 4 := by omega
      have hC := four_row hF.out.row
      have HJ := Lib.hid (strings_Join.calls (some ⟨W1.heap.size, 0, none⟩) 4 _ ⟨#[46]⟩ _ wr hC (Nat.le_refl 4) (four_join lo))
      have HW := Lib.hid hF.out.bel
      go_wp2_with (go_at_call 33; refine HJ.out.mono ?_; rintro e W2 ⟨rfl, hb⟩; have HB2 := Lib.hid hb; clear hb)
      go_ret
      exact ⟨rfl, HW.out.trans (HB2.out.mono HW.out.size)⟩
end Go.Proofs.YtaekcldkfkiekaaDoor

namespace Go.Proofs.YtaekcldkfkiekaaDoor
open Go.RowKit Go.Proofs.YtaekcldkfkiekaaDoorW.PrintWords Go.Proofs.YtaekcldkfkiekaaDoorW.PrintLast Go.Proofs.YtaekcldkfkiekaaDoorW.PrintMore

/-- the eight groups of an address, as numbers -/
def groupsN (hi lo : Nat) : List Nat := [hi / 281474976710656 % 65536, hi / 4294967296 % 65536, hi / 65536 % 65536, hi % 65536, lo / 281474976710656 % 65536, lo / 4294967296 % 65536, lo / 65536 % 65536, lo % 65536]

theorem groupsN_ints (hi lo : Nat) : intsOf (groupsN hi lo) = groupsOf hi lo := by
  simp [intsOf, groupsN, groupsOf]

theorem groupsN_lt (hi lo : Nat) : ∀ n ∈ groupsN hi lo, n < 65536 := by
  intro n hn
  simp only [groupsN, List.mem_cons, List.not_mem_nil, or_false] at hn
  omega

theorem c_of_block {W : World} {S : Nat} {xs : List Int} (h : W.heap[S]? = some (.cells (xs.map (Value.int .u16)).toArray 55 (0, 0))) (off : Nat) (ys : List Int) (dp : Option Addr) (hd : 0 < ys.length → dp = some ⟨S, off, none⟩)
    (hys : ∀ j y, ys[j]? = some y → xs[off + j]? = some y) (hlen : ys.length ≤ 8) : Kd.C (Kd.int .u16) W dp ys.length ys := by
  refine ⟨rfl, by omega, fun hp => ⟨_, hd hp, fun j p hp => ⟨[.int .u16 p], rfl, rfl, fun i u hu => ?_⟩⟩⟩
  obtain rfl : i = 0 := by
    rcases Nat.eq_zero_or_pos i with h | h
    · exact h
    · rw [List.getElem?_eq_none (by simp; omega)] at hu; cases hu
  simp only [List.getElem?_cons_zero, Option.some.injEq] at hu
  subst hu
  rw [show j * (Kd.int .u16).sz + 0 = j by show j * 1 + 0 = j; omega, addr_add]
  unfold World.cell?
  rw [h]
  simp [hys j p hp]

theorem slice_head (g n : Nat) (hn : n ≤ 8) : ∀ W, (Instr.sliceAt 55 (.pointer (some ⟨g, 0, none⟩)) none (some (.int .i64 (n : Int))) none).run Tryd.prog W = .ok (.slice (some ⟨g, 0, none⟩) n 8) W := by
  intro W
  have hal : Tryd.prog.arrayLen 55 = 8 := by kernel_rfl
  have hsz : ∀ W, (sizeOf (Tryd.prog.elem 55)).run Tryd.prog W = .ok 1 W := fun W => by kernel_rfl
  rw [run_sliceAt_array_h W 55 ⟨g, 0, none⟩ (by simp [Program.arrayLen, Program.elem, Tryd.underlying55]) .i64 (n : Int) (by omega) (by rw [hal]; omega), hsz, hal, Int.toNat_natCast]
  rfl

theorem slice_from (g n : Nat) (hn : n ≤ 8) : ∃ dp : Option Addr, (∀ W, (Instr.sliceAt 55 (.pointer (some ⟨g, 0, none⟩)) (some (.int .i64 (n : Int))) none none).run Tryd.prog W = .ok (.slice dp (8 - n) (8 - n)) W) ∧ (0 < 8 - n → dp = some ⟨g, n, none⟩) := by
  have hal : Tryd.prog.arrayLen 55 = 8 := by kernel_rfl
  have hsz : ∀ W, (sizeOf (Tryd.prog.elem 55)).run Tryd.prog W = .ok 1 W := fun W => by kernel_rfl
  refine ⟨some (if 8 = n then ⟨g, 0, none⟩ else (⟨g, 0, none⟩ : Addr).add (n * 1)), fun W => ?_, fun hp => ?_⟩
  · rw [run_sliceAt_array_l W 55 ⟨g, 0, none⟩ (by simp [Program.arrayLen, Program.elem, Tryd.underlying55]) .i64 (n : Int) (by omega) (by rw [hal]; omega), hsz, hal, Int.toNat_natCast]
    rfl
  · rw [if_neg (by omega), addr_add, Nat.mul_one, Nat.zero_add]

theorem textsP_len (l : List Nat) (h : l.length ≤ 8) : (ofL (textsP l)).size ≤ 40 := by
  rw [ofL_size]
  have hlen := join_len [58] 4 (l.map fun n => (hexS n).data.toList) (fun x hx => by
    obtain ⟨n, _, rfl⟩ := List.mem_map.1 hx
    have := hexS_size n
    rw [show (hexS n).data.toList.length = (hexS n).size from Array.length_toList]
    exact this)
  simp only [List.length_map, List.length_cons, List.length_nil] at hlen
  unfold textsP
  omega

set_option maxRecDepth 100000 in
set_option maxHeartbeats 4000000 in
theorem print_whole (hi lo : Nat) (h1 : hi < 18446744073709551616) (l1 : lo < 18446744073709551616) (w : World) (hG : GV w) (g0 g1 g2 g3 g4 g5 g6 g7 : Int)
    (hg : groupsOf hi lo = [g0, g1, g2, g3, g4, g5, g6, g7]) (f : Nat) (ht : gapOf (groupsOf hi lo) = (f, 0)) :
    Calls Tryd.prog 14 #[.agg #[.bool true, .int .u64 hi, .int .u64 lo]] w fun e w' => e = .returned (.string (ofL (textsP (groupsN hi lo)))) ∧ Below w.heap.size w w' := by
  have HV := Lib.hid (fun w => Q.addr_Valid.calls true hi lo true w (by rw [valid_f]; rfl))
  have HG := Lib.hid hG
  have HS := Lib.hid (fun w => split_calls true hi lo w (by omega) (by omega) (by omega) (by omega))
  have HP := Lib.hid (fun w => gap_calls _ g0 g1 g2 g3 g4 g5 g6 g7 hg w)
  have HT := Lib.hid (fun (W : World) (S : Nat) (h : W.heap[S]? = some (.cells ((groupsOf hi lo).map (Value.int .u16)).toArray 55 (0, 0))) (hG : GV W) => texts_calls (groupsN hi lo) (Nat.le_refl 8) (groupsN_lt hi lo) (some ⟨S, 0, none⟩) 8 W (c_of_block h 0 (intsOf (groupsN hi lo)) _ (fun _ => rfl) (fun j y hj => by rw [← groupsN_ints, Nat.zero_add]; exact hj) (Nat.le_refl 8)) (Nat.le_refl 8) hG)
  rw [ht] at HP
  rw [hg] at HS HT
  clear hG ht hg
  go_enter Tryd.func14, Tryd.ntmps14
  go_wp2_with (go_at_call 16; refine (HV.out _).mono ?_; rintro e W1 ⟨rfl, hb⟩; have HB1 := Lib.hid hb; clear hb; have h0 := box_kept HB1.out; obtain ⟨k0, k1, k2, f0, f1, f2⟩ := h0)
  have HBW1 := Lib.hid ((below_alloc (Below.refl w.heap.size w) _).trans (HB1.out.mono (by show w.heap.size ≤ (w.heap.push _).size; simp)))
  refine (HS.out _).mono ?_
  rintro e W2 ⟨rfl, hb2⟩
  have HBW2 := Lib.hid (HBW1.out.trans (hb2.mono HBW1.out.size))
  clear hb2 k0 k1 k2 f0 f1 f2
  go_wp2_with fail
  refine (HP.out _).mono ?_
  rintro e W3 ⟨rfl, hb3⟩
  have HB3 := Lib.hid hb3
  have HBW3 := Lib.hid ((below_alloc HBW2.out _).trans (hb3.mono (Nat.le_trans HBW2.out.size (by show W2.heap.size ≤ (W2.heap.push _).size; simp))))
  clear hb3
  go_wp2_with fail
  refine (HT.out _ _ (box_heap HB3.out) (HG.out.below HBW3.out)).mono ?_
  rintro e W4 ⟨rfl, hb4⟩
  have HBW4 := Lib.hid (HBW3.out.trans (hb4.mono HBW3.out.size))
  clear hb4
  go_wp2_with fail
  go_ret
  exact ⟨rfl, HBW4.out⟩
end Go.Proofs.YtaekcldkfkiekaaDoor

namespace Go.Proofs.YtaekcldkfkiekaaDoor
open Go.RowKit Go.Proofs.YtaekcldkfkiekaaDoorW.PrintWords Go.Proofs.YtaekcldkfkiekaaDoorW.PrintLast Go.Proofs.YtaekcldkfkiekaaDoorW.PrintMore

theorem sz_add (a b : ByteArray) : (a ++ b).size = a.size + b.size := by
  simp

theorem groupsN_len (hi lo : Nat) : (groupsN hi lo).length = 8 := rfl

theorem cut_head (hi lo f : Nat) (W : World) (S : Nat) (hf : f ≤ 8) (h : W.heap[S]? = some (.cells ((groupsOf hi lo).map (Value.int .u16)).toArray 55 (0, 0))) (hG : GV W) :
    Calls Tryd.prog 36 #[.slice (some ⟨S, 0, none⟩) f 8] W fun e w' => e = .returned (.string (ofL (textsP ((groupsN hi lo).take f)))) ∧ Below W.heap.size W w' := by
  have hl : ((groupsN hi lo).take f).length = f := by rw [List.length_take, groupsN_len]; omega
  have hll : (intsOf ((groupsN hi lo).take f)).length = ((groupsN hi lo).take f).length := List.length_map ..
  have := texts_calls ((groupsN hi lo).take f) (by omega) (fun n hn => groupsN_lt hi lo n (List.mem_of_mem_take hn)) (some ⟨S, 0, none⟩) 8 W
    (hll ▸ c_of_block h 0 (intsOf ((groupsN hi lo).take f)) _ (fun _ => rfl) (fun j y hj => by
      have hj2 : (intsOf (groupsN hi lo))[0 + j]? = some y := by
        rw [Nat.zero_add]
        unfold intsOf at hj ⊢
        rw [List.map_take] at hj
        rw [List.getElem?_take] at hj
        split at hj
        · exact hj
        · cases hj
      rwa [groupsN_ints] at hj2) (by show ((List.map _ _)).length ≤ 8; rw [List.length_map, hl]; omega)) (by rw [hl]; omega) hG
  rwa [hl] at this

theorem cut_tail (hi lo t : Nat) (W : World) (S : Nat) (dp : Option Addr) (ht : t ≤ 8) (hd : 0 < 8 - t → dp = some ⟨S, t, none⟩) (h : W.heap[S]? = some (.cells ((groupsOf hi lo).map (Value.int .u16)).toArray 55 (0, 0))) (hG : GV W) :
    Calls Tryd.prog 36 #[.slice dp (8 - t : Nat) (8 - t : Nat)] W fun e w' => e = .returned (.string (ofL (textsP ((groupsN hi lo).drop t)))) ∧ Below W.heap.size W w' := by
  have hl : ((groupsN hi lo).drop t).length = 8 - t := by rw [List.length_drop, groupsN_len]
  have hl2 : (intsOf ((groupsN hi lo).drop t)).length = 8 - t := by show (List.map _ _).length = _; rw [List.length_map, hl]
  have hll : (intsOf ((groupsN hi lo).drop t)).length = ((groupsN hi lo).drop t).length := List.length_map ..
  have := texts_calls ((groupsN hi lo).drop t) (by omega) (fun n hn => groupsN_lt hi lo n (List.mem_of_mem_drop hn)) dp (8 - t) W
    (hll ▸ c_of_block h t (intsOf ((groupsN hi lo).drop t)) _ (fun hp => hd (by rw [hl2] at hp; exact hp)) (fun j y hj => by
      have hj2 : (intsOf (groupsN hi lo))[t + j]? = some y := by
        unfold intsOf at hj ⊢
        rw [List.map_drop, List.getElem?_drop] at hj
        exact hj
      rwa [groupsN_ints] at hj2) (by rw [hl2]; omega)) (by rw [hl]; omega) hG
  rwa [hl] at this

set_option maxRecDepth 100000 in
set_option maxHeartbeats 4000000 in
theorem print_cut (hi lo : Nat) (h1 : hi < 18446744073709551616) (l1 : lo < 18446744073709551616) (w : World) (hG : GV w) (g0 g1 g2 g3 g4 g5 g6 g7 : Int)
    (hg : groupsOf hi lo = [g0, g1, g2, g3, g4, g5, g6, g7]) (f t : Nat) (ht : gapOf (groupsOf hi lo) = (f, t)) (hft : f ≤ t) (ht0 : 0 < t) (ht8 : t ≤ 8) :
    Calls Tryd.prog 14 #[.agg #[.bool true, .int .u64 hi, .int .u64 lo]] w fun e w' => e = .returned (.string (ofL (textsP ((groupsN hi lo).take f) ++ [58, 58] ++ textsP ((groupsN hi lo).drop t)))) ∧ Below w.heap.size w w' := by
  have HV := Lib.hid (fun w => Q.addr_Valid.calls true hi lo true w (by rw [valid_f]; rfl))
  have HG := Lib.hid hG
  have HS := Lib.hid (fun w => split_calls true hi lo w (by omega) (by omega) (by omega) (by omega))
  have HP := Lib.hid (fun w => gap_calls _ g0 g1 g2 g3 g4 g5 g6 g7 hg w)
  have H1 := Lib.hid (fun (W : World) (S : Nat) (h : W.heap[S]? = some (.cells ((groupsOf hi lo).map (Value.int .u16)).toArray 55 (0, 0))) (hG : GV W) => cut_head hi lo f W S (by omega) h hG)
  have H2 := Lib.hid (fun (W : World) (S : Nat) (dp : Option Addr) (hd : 0 < 8 - t → dp = some ⟨S, t, none⟩) (h : W.heap[S]? = some (.cells ((groupsOf hi lo).map (Value.int .u16)).toArray 55 (0, 0))) (hG : GV W) => cut_tail hi lo t W S dp ht8 hd h hG)
  rw [ht] at HP
  rw [hg] at HS H1 H2
  clear hG ht hg
  go_enter Tryd.func14, Tryd.ntmps14
  go_wp2_with (go_at_call 16; refine (HV.out _).mono ?_; rintro e W1 ⟨rfl, hb⟩; have HB1 := Lib.hid hb; clear hb; have h0 := box_kept HB1.out; obtain ⟨k0, k1, k2, f0, f1, f2⟩ := h0)
  have HBW1 := Lib.hid ((below_alloc (Below.refl w.heap.size w) _).trans (HB1.out.mono (by show w.heap.size ≤ (w.heap.push _).size; simp)))
  refine (HS.out _).mono ?_
  rintro e W2 ⟨rfl, hb2⟩
  have HBW2 := Lib.hid (HBW1.out.trans (hb2.mono HBW1.out.size))
  clear hb2 k0 k1 k2 f0 f1 f2
  go_wp2_with fail
  refine (HP.out _).mono ?_
  rintro e W3 ⟨rfl, hb3⟩
  have HB3 := Lib.hid hb3
  have HBW3 := Lib.hid ((below_alloc HBW2.out _).trans (hb3.mono (Nat.le_trans HBW2.out.size (by show W2.heap.size ≤ (W2.heap.push _).size; simp))))
  clear hb3
  have HX3 := Lib.hid (box_heap HB3.out)
  have HL3 := Lib.hid (show W2.heap.size < W3.heap.size from Nat.lt_of_lt_of_le (by show W2.heap.size < (W2.heap.push _).size; simp) HB3.out.size)
  go_wp2_with fail
  have HN := Lib.hid (slice_head W2.heap.size f (by omega))
  obtain ⟨dp, hsl, hdp⟩ := slice_from W2.heap.size t ht8
  have hsh := HN.out
  refine wp_region_any (by kernel_rfl) ?_
  change wpAny _ _ _ _ _ _ _ (World.drew _)
  refine wpAny_take (i := 0) (v := ?_) rfl (by kernel_rfl) (by kernel_rfl) (by kernel_rfl) (fun _ _ _ h => h) (Or.inl ⟨by rfl, ?_⟩) ?_
  rotate_left
  focus (intro w; go_simp; try first | with_reducible rfl | (rw [if_neg (by first | omega | (simp [sz_add]; omega))]))
  refine wpAny_take (i := 4) (v := ?_) rfl (by kernel_rfl) (by kernel_rfl) (by kernel_rfl) (fun _ _ _ h => h) (Or.inl ⟨by rfl, ?_⟩) ?_
  rotate_left
  focus (intro w; go_simp; try first | with_reducible rfl | (rw [if_neg (by first | omega | (simp [sz_add]; omega))]))
  refine wpAny_take (i := 1) (v := ?_) rfl (by kernel_rfl) (by kernel_rfl) (by kernel_rfl) (fun _ _ _ h => h) (Or.inl ⟨by rfl, ?_⟩) ?_
  rotate_left
  focus (intro w; go_simp; try first | with_reducible rfl | (rw [if_neg (by first | omega | (simp [sz_add]; omega))]))
  refine wpAny_take (i := 5) (v := ?_) rfl (by kernel_rfl) (by kernel_rfl) (by kernel_rfl) (fun _ _ _ h => h) (Or.inl ⟨by rfl, ?_⟩) ?_
  rotate_left
  focus (intro w; go_simp; try first | with_reducible rfl | (rw [if_neg (by first | omega | (simp [sz_add]; omega))]))
  refine wpAny_ready (rs := [2]) (by kernel_rfl) (by simp) ?_
  refine AllReady.cons rfl (fun K hK => ?_) AllReady.nil
  go_simp
  refine (H1.out W3.drew W2.heap.size (by exact HX3.out) (HG.out.below (below_drew1 HBW3.out))).mono ?_
  rintro e W4 ⟨rfl, hb4⟩
  have HBW4 := Lib.hid ((below_drew1 HBW3.out).trans (hb4.mono HBW3.out.size))
  have HB4 := Lib.hid hb4
  clear hb4
  refine hK _ _ ?_; clear hK K
  have hsz := textsP_len ((groupsN hi lo).take f) (by rw [List.length_take, groupsN_len]; omega)
  refine wpAny_take (i := 3) (v := ?_) rfl (by kernel_rfl) (by kernel_rfl) (by kernel_rfl) (fun _ _ _ h => h) (Or.inl ⟨by rfl, ?_⟩) ?_
  rotate_left
  focus (intro w; go_simp; try first | with_reducible rfl | (rw [if_neg (by first | omega | (simp [sz_add]; omega))]))
  refine wpAny_ready (rs := [6]) (by kernel_rfl) (by simp) ?_
  refine AllReady.cons rfl (fun K hK => ?_) AllReady.nil
  go_simp
  refine (H2.out W4 W2.heap.size dp hdp (by exact (HB4.out.block _ HL3.out).trans HX3.out) (HG.out.below HBW4.out)).mono ?_
  rintro e W5 ⟨rfl, hb5⟩
  have HBW5 := Lib.hid (HBW4.out.trans (hb5.mono HBW4.out.size))
  clear hb5
  refine hK _ _ ?_; clear hK K
  have hsz2 := textsP_len ((groupsN hi lo).drop t) (by rw [List.length_drop, groupsN_len]; omega)
  refine wpAny_take (i := 7) (v := ?_) rfl (by kernel_rfl) (by kernel_rfl) (by kernel_rfl) (fun _ _ _ h => h) (Or.inl ⟨by rfl, ?_⟩) ?_
  rotate_left
  focus (intro w; go_simp; try first | with_reducible rfl | (rw [if_neg (by first | omega | (simp [sz_add]; omega))]))
  refine wpAny_take (i := 8) (v := ?_) rfl (by kernel_rfl) (by kernel_rfl) (by kernel_rfl) (fun _ _ _ h => h) (Or.inl ⟨by rfl, ?_⟩) ?_
  rotate_left
  focus (intro w; go_simp; try first | with_reducible rfl | (rw [if_neg (by first | omega | (simp [sz_add]; omega))]))
  refine wpAny_done (by kernel_rfl) ?_ _
  have hv : (ofL (textsP ((groupsN hi lo).take f)) ++ ⟨#[58, 58]⟩ ++ ofL (textsP ((groupsN hi lo).drop t))) = ofL (textsP ((groupsN hi lo).take f) ++ [58, 58] ++ textsP ((groupsN hi lo).drop t)) := rfl
  rw [hv]
  clear hv
  generalize hz : ofL (textsP ((groupsN hi lo).take f) ++ [58, 58] ++ textsP ((groupsN hi lo).drop t)) = z
  clear hsz hsz2 hsh hsl
  go_simp
  go_wp2
  go_ret
  exact ⟨congrArg (fun s => Ending.returned (Value.string s)) hz.symm, HBW5.out⟩
end Go.Proofs.YtaekcldkfkiekaaDoor

namespace Go.Proofs.YtaekcldkfkiekaaDoor
open Go.RowKit Go.Proofs.YtaekcldkfkiekaaDoorW.PrintWords Go.Proofs.YtaekcldkfkiekaaDoorW.PrintLast Go.Proofs.YtaekcldkfkiekaaDoorW.PrintMore

/-- the text of eight groups -/
def sixTxt (hi lo : Nat) : List UInt8 :=
  if (gapOf (groupsOf hi lo)).2 = 0 then textsP (groupsN hi lo)
  else textsP ((groupsN hi lo).take (gapOf (groupsOf hi lo)).1) ++ [58, 58] ++ textsP ((groupsN hi lo).drop (gapOf (groupsOf hi lo)).2)

/-- the text of an address; nothing of what is none -/
def printP (six : Bool) (hi lo : Int) : List UInt8 :=
  if six then sixTxt hi.toNat lo.toNat else if hi = 0 ∧ lo < 4294967296 then fourTxt lo else []

def addr_Print.f (six : Bool) (hi lo : Int) : Option ByteArray :=
  if 0 ≤ hi ∧ hi < 18446744073709551616 ∧ 0 ≤ lo ∧ lo < 18446744073709551616 then some (ofL (printP six hi lo)) else none

theorem gapOf_le (g : List Int) (h : g.length = 8) : (gapOf g).1 ≤ (gapOf g).2 ∧ (gapOf g).2 ≤ 8 := by
  have := longest_le g 8 (by omega)
  unfold gapOf
  split
  · simp
  · split
    · simp
    · omega

theorem addr_Print.calls (six : Bool) (hi lo : Int) (r : ByteArray) (w : World) (h : addr_Print.f six hi lo = some r) (hG : GV w) :
    Calls Tryd.prog 14 #[.agg #[.bool six, .int .u64 hi, .int .u64 lo]] w fun e w' => e = .returned (.string r) ∧ Below w.heap.size w w' := by
  unfold addr_Print.f at h
  split at h
  case isFalse => cases h
  rename_i hb
  obtain ⟨h0, h1, l0, l1⟩ := hb
  obtain rfl := Option.some.inj h
  cases six with
  | true =>
    obtain ⟨hn, rfl⟩ := Int.eq_ofNat_of_zero_le h0
    obtain ⟨ln, rfl⟩ := Int.eq_ofNat_of_zero_le l0
    have hg := gapOf_le (groupsOf hn ln) rfl
    cases ht : gapOf (groupsOf hn ln) with
    | mk f t =>
      rw [ht] at hg
      simp only at hg
      by_cases h0 : t = 0
      · subst h0
        have e : printP true hn ln = textsP (groupsN hn ln) := by
          simp [printP, sixTxt, ht]
        rw [e]
        exact print_whole hn ln (by omega) (by omega) w hG _ _ _ _ _ _ _ _ rfl f ht
      · have e : printP true hn ln = textsP ((groupsN hn ln).take f) ++ [58, 58] ++ textsP ((groupsN hn ln).drop t) := by
          simp [printP, sixTxt, ht, h0]
        rw [e]
        exact print_cut hn ln (by omega) (by omega) w hG _ _ _ _ _ _ _ _ rfl f t ht hg.1 (by omega) hg.2
  | false =>
    by_cases hv : hi = 0 ∧ lo < 4294967296
    · obtain ⟨rfl, hv⟩ := hv
      have e : printP false 0 lo = fourTxt lo := by simp [printP, hv]
      rw [e]
      exact print_four lo l0 hv w hG
    · have e : printP false hi lo = [] := by simp only [printP]; rw [if_neg (by simp), if_neg hv]
      rw [e]
      refine print_bad false hi lo w ?_
      by_cases h0 : hi = 0
      · simp [h0]; simp [h0] at hv; omega
      · simp [h0]
end Go.Proofs.YtaekcldkfkiekaaDoor
