/-
What the program's 'joined' and 'six' answer. No condition.
What the program's 'six' answers: groups with colons between, a :: among them or not. Condition: a text shorter than 4294967281 bytes.
-/
import Derived.Test.YtaekcldkfkiekaaDoorXFmt
import Derived.RegionTactic
import Derived.Test.YtaekcldkfkiekaaDoorXRow
import Derived.Laws.CopyOwn
import Derived.Laws.Rows

namespace Go.Proofs.YtaekcldkfkiekaaDoor
open Go.RowKit Go.Proofs.YtaekcldkfkiekaaDoorW.PrintWords Go.Proofs.YtaekcldkfkiekaaDoorW.PrintLast Go.Proofs.YtaekcldkfkiekaaDoorW.PrintMore

abbrev orStep (x g : Int) : Int := bits .or .u64 (IntKind.u64.wrap (x * 65536)) (IntKind.u64.wrap g)
abbrev or4 (a b c d : Int) : Int := orStep (orStep (orStep (bits .or .u64 0 (IntKind.u64.wrap a)) b) c) d

/-- four numbers below 65536 as one -/
def pack4 (a b c d : Nat) : Nat := ((a * 65536 + b) * 65536 + c) * 65536 + d

theorem orStep_nat (x g : Nat) (hx : x < 281474976710656) (hg : g < 65536) : orStep x g = ((x * 65536 + g : Nat) : Int) := by
  unfold orStep
  rw [show IntKind.u64.wrap ((x : Int) * 65536) = ((x * 65536 : Nat) : Int) by rw [IntKind.wrap_u64]; omega, show IntKind.u64.wrap (g : Int) = (g : Int) by rw [IntKind.wrap_u64]; omega]
  rw [u64_or_nat _ _ (by omega) (by omega)]
  congr 1
  have h := Nat.two_pow_add_eq_or_of_lt (i := 16) (b := g) (by omega) x
  simp only [show (2 : Nat) ^ 16 = 65536 from rfl] at h
  rw [Nat.mul_comm x 65536, ← h]

theorem or4_nat (a b c d : Nat) (ha : a < 65536) (hb : b < 65536) (hc : c < 65536) (hd : d < 65536) : or4 a b c d = ((pack4 a b c d : Nat) : Int) := by
  unfold or4
  have h0 : bits .or .u64 0 (IntKind.u64.wrap (a : Int)) = (a : Int) := by
    have := orStep_nat 0 a (by omega) ha
    unfold orStep at this
    simpa [IntKind.wrap_u64] using this
  rw [h0, orStep_nat a b (by omega) hb, orStep_nat _ c (by omega) hc, orStep_nat _ d (by omega) hd]
  rfl

set_option maxRecDepth 100000 in
set_option maxHeartbeats 2000000 in
theorem joined_calls (g0 g1 g2 g3 g4 g5 g6 g7 : Int) (w : World) :
    Calls Tryd.prog 44 #[.agg #[.int .u16 g0, .int .u16 g1, .int .u16 g2, .int .u16 g3, .int .u16 g4, .int .u16 g5, .int .u16 g6, .int .u16 g7]] w fun e w' =>
      e = .returned (.agg #[.bool true, .int .u64 (or4 g0 g1 g2 g3), .int .u64 (or4 g4 g5 g6 g7)]) ∧ Below w.heap.size w w' := by
  go_enter Tryd.func44, Tryd.ntmps44
  go_wp2
  refine wp_loop_rounds 5 ?_
  iterate 4
    rw [rounds_succ]
    go_wp2
    go_region
    go_wp2
    go_region
    go_wp2
  rw [rounds_succ]
  go_wp2
  exact bodyPost_ret (v := .agg #[.bool true, .int .u64 (or4 g0 g1 g2 g3), .int .u64 (or4 g4 g5 g6 g7)]) (by simp [results, Tryd.results44, go_sem]) rfl ⟨rfl, by repeat (with_reducible first | exact Below.refl _ _ | apply below_alloc | apply pw_below_drewN | apply below_drew1)⟩

/-- groups, with a :: among them or not -/
def sixP (l : List UInt8) : Option (List Nat) :=
  match rowP (Lib.cut l [58, 58]).1, rowP (Lib.cut l [58, 58]).2.1 with
  | some x, some y =>
    if (Lib.cut l [58, 58]).2.2 = true then (if x.length + y.length ≤ 7 then some (x ++ List.replicate (8 - x.length - y.length) 0 ++ y) else none)
    else if x.length + y.length = 8 then some (x ++ y) else none
  | _, _ => none

theorem row_calls (s : ByteArray) (h : s.size < 4294967281) (w : World) (hG : GV w) :
    Calls Tryd.prog 43 #[.string s] w fun e w' => ∃ p c, e = .returned (.tuple #[.slice p (rowRes (rowP s.data.toList)).1.length c, .bool (rowRes (rowP s.data.toList)).2]) ∧
      Kd.C (Kd.int .u16) w' p (rowRes (rowP s.data.toList)).1.length (rowRes (rowP s.data.toList)).1 ∧ Below w.heap.size w w' := by
  refine (Q.addr_row.calls (s.size + 2) s _ _ w (row_f s h _ (by omega)) hG).mono ?_
  rintro e w' ⟨v, he, hR, hb⟩
  obtain ⟨p, c, rfl, _, hC⟩ := Kd.R_reads hR
  exact ⟨p, c, he, hC, hb⟩

theorem c_cells {w : World} {A : Option Addr} {n : Nat} {xs : List Int} (h : Kd.C (Kd.int .u16) w A n xs) (hp : 0 < n) :
    ∃ ad, A = some ad ∧ ∀ j v, (xs.map (Value.int .u16))[j]? = some v → w.cell? (ad.add j) = some v := by
  obtain ⟨_, _, hcell⟩ := h
  obtain ⟨ad, rfl, hget⟩ := hcell hp
  refine ⟨ad, rfl, fun j v hv => ?_⟩
  rw [List.getElem?_map] at hv
  cases hx : xs[j]? with
  | none => rw [hx] at hv; cases hv
  | some x =>
    rw [hx] at hv
    simp only [Option.map_some, Option.some.injEq] at hv
    subst hv
    obtain ⟨c, _, hk, hc⟩ := hget j x hx
    have hk' : c = [Value.int .u16 x] := hk
    subst hk'
    have := hc 0 _ rfl
    have e : j * (Kd.int .u16).sz + 0 = j := by show j * 1 + 0 = j; omega
    rwa [e] at this

theorem zero8 (W : World) : (W.alloc (.cells #[Value.int .u16 0, Value.int .u16 0, Value.int .u16 0, Value.int .u16 0, Value.int .u16 0, Value.int .u16 0, Value.int .u16 0, Value.int .u16 0] 55)).heap[W.heap.size]? = some (.cells (List.replicate 8 (Value.int .u16 0)).toArray 55 (0, 0)) := by
  show (W.heap.push _)[W.heap.size]? = _
  simp

theorem ints_one (xs : List Int) : ∀ v ∈ xs.map (Value.int .u16), v.oneCell' = true := by
  intro v hv
  obtain ⟨x, _, rfl⟩ := List.mem_map.1 hv
  rfl

theorem slice_tail (g n : Nat) (hn : n ≤ 8) : ∃ dp : Option Addr, (∀ W, (Instr.sliceAt 55 (.pointer (some ⟨g, 0, none⟩)) (some (.int .i64 (8 - (n : Int)))) none none).run Tryd.prog W = .ok (.slice dp n n) W) ∧ (0 < n → dp = some ⟨g, 8 - n, none⟩) := by
  have hal : Tryd.prog.arrayLen 55 = 8 := by kernel_rfl
  have hsz : ∀ W, (sizeOf (Tryd.prog.elem 55)).run Tryd.prog W = .ok 1 W := fun W => by kernel_rfl
  have e : (8 - (n : Int)).toNat = 8 - n := by omega
  refine ⟨some (if 8 = 8 - n then ⟨g, 0, none⟩ else (⟨g, 0, none⟩ : Addr).add ((8 - n) * 1)), fun W => ?_, fun hp => ?_⟩
  · rw [run_sliceAt_array_l W 55 ⟨g, 0, none⟩ (by simp [Program.arrayLen, Program.elem, Tryd.underlying55]) .i64 (8 - (n : Int)) (by omega) (by rw [hal]; omega), hsz, hal, e]
    show Result.ok (slicedAt ⟨g, 0, none⟩ (8 - n) 8 8 1) W = _
    unfold slicedAt
    rw [show 8 - (8 - n) = n by omega]
  · rw [if_neg (by omega), addr_add, Nat.mul_one, Nat.zero_add]

theorem below_up {w w' : World} (h : Below w.heap.size w w') : Below w.heap.size w w' := h

/-- the groups that two rows and noughts between make -/
def fill (xs ys : List Int) : List Int := xs ++ List.replicate (8 - xs.length - ys.length) 0 ++ ys

def packL : List Int → Int × Int
  | [a, b, c, d, e, f, g, h] => (or4 a b c d, or4 e f g h)
  | _ => (0, 0)

theorem fill_length (xs ys : List Int) (h : xs.length + ys.length ≤ 8) : (fill xs ys).length = 8 := by simp [fill]; omega

theorem fill_splice (xs ys : List Int) (h : xs.length + ys.length ≤ 8) :
    splice (splice (List.replicate 8 (Value.int .u16 0)) 0 (xs.map (Value.int .u16))) (8 - ys.length) (ys.map (Value.int .u16)) = (fill xs ys).map (Value.int .u16) := by
  have e1 : splice (List.replicate 8 (Value.int .u16 0)) 0 (xs.map (Value.int .u16)) = xs.map (Value.int .u16) ++ List.replicate (8 - xs.length) (Value.int .u16 0) := by
    simp only [splice, List.take_zero, List.nil_append, Nat.zero_add, List.length_map, List.drop_replicate]
  rw [e1]
  unfold splice fill
  rw [List.take_append, List.drop_append, List.take_of_length_le (by simp; omega)]
  rw [show (xs.map (Value.int .u16)).drop (8 - ys.length + (ys.map (Value.int .u16)).length) = [] from List.drop_eq_nil_of_le (by simp; omega)]
  simp only [List.length_map, List.take_replicate, List.drop_replicate, List.nil_append, List.map_append, List.map_replicate]
  rw [show 8 - xs.length - (8 - ys.length + ys.length - xs.length) = 0 by omega]
  rw [show min (8 - ys.length - xs.length) (8 - xs.length) = 8 - xs.length - ys.length by omega]
  simp

theorem eight (xs ys : List Int) (h : xs.length + ys.length ≤ 8) : ∃ g0 g1 g2 g3 g4 g5 g6 g7, fill xs ys = [g0, g1, g2, g3, g4, g5, g6, g7] ∧
    (splice (splice (List.replicate 8 (Value.int .u16 0)) 0 (xs.map (Value.int .u16))) (8 - ys.length) (ys.map (Value.int .u16))).toArray = #[.int .u16 g0, .int .u16 g1, .int .u16 g2, .int .u16 g3, .int .u16 g4, .int .u16 g5, .int .u16 g6, .int .u16 g7] := by
  have hl := fill_length xs ys h
  rw [fill_splice xs ys h]
  match fill xs ys, hl with
  | [g0, g1, g2, g3, g4, g5, g6, g7], _ => exact ⟨g0, g1, g2, g3, g4, g5, g6, g7, rfl, rfl⟩

def Stop_ (p : Prop) : Prop := p
theorem stop_ {p : Prop} (h : Stop_ p) : p := h

theorem copy_n (xs : List Int) (n : Nat) (h : xs.length ≤ n) : (xs.map (Value.int .u16)).length = Nat.min xs.length n := by
  rw [List.length_map]; exact (Nat.min_eq_left h).symm

theorem copy_fit (xs : List Int) (off n : Nat) (h : off + xs.length ≤ n) : off + (xs.map (Value.int .u16)).length ≤ (List.replicate n (Value.int .u16 0)).length := by
  simpa using h

theorem copy_src {w : World} {p dp : Option Addr} {g off : Nat} {xs : List Int} (h : Kd.C (Kd.int .u16) w p xs.length xs) (hd : 0 < xs.length → dp = some ⟨g, off, none⟩) :
    0 < (xs.map (Value.int .u16)).length → dp = some ⟨g, off, none⟩ ∧ ∃ ad, p = some ad ∧ ∀ j v, (xs.map (Value.int .u16))[j]? = some v → w.cell? (ad.add j) = some v := by
  intro hp
  rw [List.length_map] at hp
  exact ⟨hd hp, c_cells h hp⟩

set_option maxRecDepth 100000 in
set_option maxHeartbeats 2000000 in
theorem six_ok (s A B : ByteArray) (sh : Bool) (xs ys : List Int) (w : World) (hG : GV w)
    (hcut : ∀ w, GV w → Calls Tryd.prog 42 #[.string s, .string ⟨#[58, 58]⟩] w fun e w' => e = .returned (.tuple #[.string A, .string B, .bool sh]) ∧ ∃ n, w' = w.drewN n)
    (hA : ∀ w, GV w → Calls Tryd.prog 43 #[.string A] w fun e w' => ∃ p c, e = .returned (.tuple #[.slice p xs.length c, .bool true]) ∧ Kd.C (Kd.int .u16) w' p xs.length xs ∧ Below w.heap.size w w')
    (hB : ∀ w, GV w → Calls Tryd.prog 43 #[.string B] w fun e w' => ∃ p c, e = .returned (.tuple #[.slice p ys.length c, .bool true]) ∧ Kd.C (Kd.int .u16) w' p ys.length ys ∧ Below w.heap.size w w')
    (hn : sh = true ∧ xs.length + ys.length ≤ 7 ∨ sh = false ∧ xs.length + ys.length = 8) :
    Calls Tryd.prog 27 #[.string s] w fun e w' => e = .returned (.tuple #[.agg #[.bool true, .int .u64 (packL (fill xs ys)).1, .int .u64 (packL (fill xs ys)).2], .bool true]) ∧ Below w.heap.size w w' := by
  have HC := Lib.hid hcut
  have HA := Lib.hid hA
  have HB := Lib.hid hB
  have HG := Lib.hid hG
  have hl8 : xs.length + ys.length ≤ 8 := by omega
  clear hcut hA hB hG
  rcases hn with ⟨rfl, hn⟩ | ⟨rfl, hn⟩
  all_goals
    have hn1 : (xs.length : Int) + (ys.length : Int) ≤ 8 := by omega
    first
      | have hn2 : (xs.length : Int) + (ys.length : Int) ≤ 7 := by omega
      | have hn2 : (((xs.length : Int) + (ys.length : Int)) == 8) = true := by simp; omega
    go_enter Tryd.func27, Tryd.ntmps27
    go_wp2_with (go_at_call 42; refine (HC.out _ (HG.out.below (below_alloc (Below.refl _ _) _))).mono ?_; rintro e w' ⟨rfl, n, rfl⟩)
    have HB1 := Lib.hid (pw_below_drewN (below_alloc (Below.refl w.heap.size w) (.cells #[.bool false, .int .u64 0, .int .u64 0] 25)) n)
    refine (HA.out _ (HG.out.below HB1.out)).mono ?_
    rintro e W2 ⟨p1, c1, rfl, hC1, hb1⟩
    have HC1 := Lib.hid hC1
    have HB2 := Lib.hid hb1
    clear hC1 hb1
    have HBw := Lib.hid (HB1.out.trans (HB2.out.mono HB1.out.size))
    go_wp2_with fail
    refine (HB.out _ (HG.out.below HBw.out)).mono ?_
    rintro e W3 ⟨p2, c2, rfl, hC2, hb2⟩
    have HC2 := Lib.hid hC2
    have HB3 := Lib.hid hb2
    clear hC2 hb2
    go_wp2_with ((with_reducible refine gate_dst (N := 58) rfl ?_); refine stop_ ?_)
    unfold Stop_
    refine wpList_copy_splice rfl (.tmp 56) (.tmp 57) 60 60 rfl 53 Tryd.underlying60 (by kernel_rfl) _ _ _ _ _ _ rfl rfl W3.heap.size 0 (List.replicate 8 (Value.int .u16 0)) 55 (zero8 W3) (xs.map (Value.int .u16)) (copy_n xs 8 (by omega)) (copy_src (Kd.C_below HC1.out (HB3.out.trans ((below_alloc (Below.refl _ _) _).mono HB3.out.size))) (fun _ => rfl)) (copy_fit xs 0 8 (by omega)) (ints_one xs) W3.heap.size W3 (below_alloc (Below.refl _ _) _) (Nat.le_refl _) ?_
    intro W4 hblk4 hb4
    have HB4 := Lib.hid hb4
    clear hb4
    obtain ⟨dp2, hsl2, hdp2⟩ := slice_tail W3.heap.size ys.length (by omega)
    have HD2 := Lib.hid hdp2
    clear hdp2
    go_wp2_with ((with_reducible refine gate_dst (N := 64) rfl ?_); refine stop_ ?_)
    unfold Stop_
    refine wpList_copy_splice rfl (.tmp 62) (.tmp 63) 60 60 rfl 53 Tryd.underlying60 (by kernel_rfl) _ _ _ _ _ _ rfl rfl W3.heap.size (8 - ys.length) _ 55 hblk4.out (ys.map (Value.int .u16)) (copy_n ys ys.length (Nat.le_refl _)) (copy_src (Kd.C_below HC2.out (below_up HB4.out)) HD2.out) (by simp [splice]; omega) (ints_one ys) W3.heap.size W3 HB4.out (Nat.le_refl _) ?_
    intro W5 hblk5 hb5
    have HB5 := Lib.hid hb5
    clear hb5 hblk4
    obtain ⟨g0, g1, g2, g3, g4, g5, g6, g7, hgs, hsp⟩ := eight xs ys hl8
    have HS := Lib.hid hsp
    have HE := Lib.hid hgs
    clear hsp hgs
    have hb6 : W5.heap[W3.heap.size]? = some (.cells #[.int .u16 g0, .int .u16 g1, .int .u16 g2, .int .u16 g3, .int .u16 g4, .int .u16 g5, .int .u16 g6, .int .u16 g7] 55 (0, 0)) := by rw [← HS.out]; exact hblk5.out
    have HB6 := Lib.hid hb6
    clear hb6 hblk5
    have HR1 := Lib.hid (show ((w.alloc (.cells #[.bool false, .int .u64 0, .int .u64 0] 25)).drewN n).heap[w.heap.size]? = some (.cells #[.bool false, .int .u64 0, .int .u64 0] 25 (0, 0)) by show (w.heap.push _)[w.heap.size]? = _; simp)
    have HL1 := Lib.hid (show w.heap.size < ((w.alloc (.cells #[.bool false, .int .u64 0, .int .u64 0] 25)).drewN n).heap.size by show w.heap.size < (w.heap.push _).size; simp)
    have HR5 := Lib.hid ((HB5.out.block w.heap.size (Nat.lt_of_lt_of_le HL1.out (Nat.le_trans HB2.out.size HB3.out.size))).trans ((HB3.out.block w.heap.size (Nat.lt_of_lt_of_le HL1.out HB2.out.size)).trans ((HB2.out.block w.heap.size HL1.out).trans HR1.out)))
    have HL5 := Lib.hid (Nat.lt_of_lt_of_le HL1.out (Nat.le_trans HB2.out.size (Nat.le_trans HB3.out.size HB5.out.size)))
    have HW5 := Lib.hid (HB1.out.trans ((HB2.out.mono HB1.out.size).trans ((HB3.out.mono (Nat.le_trans HB1.out.size HB2.out.size)).trans (HB5.out.mono (Nat.le_trans HB1.out.size (Nat.le_trans HB2.out.size HB3.out.size))))))
    go_wp2_with ((with_reducible refine gate_dst (N := 65) rfl ?_); refine stop_ ?_)
    unfold Stop_
    refine wpList_load_row rfl 55 (.tmp 12) rfl W3.heap.size rfl 55 _ (0, 0) _ HB6.out Tryd.underlying55 rfl (by kernel_rfl) ?_
    go_wp2_with fail
    refine (joined_calls g0 g1 g2 g3 g4 g5 g6 g7 W5).mono ?_
    rintro e W6 ⟨rfl, hb7⟩
    have HR6 := Lib.hid ((hb7.block w.heap.size HL5.out).trans HR5.out)
    have HB7 := Lib.hid hb7
    clear hb7
    have k0 : W6.cell? ⟨w.heap.size, 0, none⟩ = some (.bool false) := by unfold World.cell?; rw [HR6.out]; rfl
    have k1 : W6.cell? ⟨w.heap.size, 1, none⟩ = some (.int .u64 0) := by unfold World.cell?; rw [HR6.out]; rfl
    have k2 : W6.cell? ⟨w.heap.size, 2, none⟩ = some (.int .u64 0) := by unfold World.cell?; rw [HR6.out]; rfl
    have f0 : W6.frozen? ⟨w.heap.size, 0, none⟩ = false := by unfold World.frozen?; rw [HR6.out]; rfl
    have f1 : W6.frozen? ⟨w.heap.size, 1, none⟩ = false := by unfold World.frozen?; rw [HR6.out]; rfl
    have f2 : W6.frozen? ⟨w.heap.size, 2, none⟩ = false := by unfold World.frozen?; rw [HR6.out]; rfl
    go_wp2_with fail
    refine bodyPost_ret (results_ct rfl _ _ w.heap.size 25 #[.bool true, .int .u64 (or4 g0 g1 g2 g3), .int .u64 (or4 g4 g5 g6 g7)] (0, 0) _ rfl (by
      refine blk_put (cs := #[.bool true, .int .u64 (or4 g0 g1 g2 g3), .int .u64 0]) ?_ 2 _ rfl
      refine blk_put (cs := #[.bool true, .int .u64 0, .int .u64 0]) ?_ 1 _ rfl
      refine blk_put (cs := #[.bool false, .int .u64 0, .int .u64 0]) ?_ 0 _ rfl
      exact HR6.out) Tryd.underlying25 rfl (by kernel_rfl)) rfl ?_
    refine ⟨by rw [HE.out]; rfl, ?_⟩
    exact (((HW5.out.trans (HB7.out.mono (Nat.le_of_lt HL5.out))).setCell (Nat.le_refl _) _).setCell (Nat.le_refl _) _).setCell (Nat.le_refl _) _
end Go.Proofs.YtaekcldkfkiekaaDoor

namespace Go.Proofs.YtaekcldkfkiekaaDoor
open Go.RowKit Go.Proofs.YtaekcldkfkiekaaDoorW.PrintWords Go.Proofs.YtaekcldkfkiekaaDoorW.PrintLast Go.Proofs.YtaekcldkfkiekaaDoorW.PrintMore

theorem result_block {w : World} {n : Nat} {W2 W3 : World} {o : Obj} (h2 : Below ((w.alloc o).drewN n).heap.size ((w.alloc o).drewN n) W2) (h3 : Below W2.heap.size W2 W3) :
    W3.heap[w.heap.size]? = some o ∧ Below w.heap.size w W3 := by
  have e1 : ((w.alloc o).drewN n).heap[w.heap.size]? = some o := by show (w.heap.push _)[w.heap.size]? = _; simp
  have l1 : w.heap.size < ((w.alloc o).drewN n).heap.size := by show w.heap.size < (w.heap.push _).size; simp
  have b1 := pw_below_drewN (below_alloc (Below.refl w.heap.size w) o) n
  exact ⟨(h3.block _ (Nat.lt_of_lt_of_le l1 h2.size)).trans ((h2.block _ l1).trans e1), b1.trans ((h2.mono b1.size).trans (h3.mono (Nat.le_trans b1.size h2.size)))⟩

set_option maxRecDepth 100000 in
set_option maxHeartbeats 4000000 in
theorem six_no (s A B : ByteArray) (sh one two : Bool) (xs ys : List Int) (w : World) (hG : GV w)
    (hcut : ∀ w, GV w → Calls Tryd.prog 42 #[.string s, .string ⟨#[58, 58]⟩] w fun e w' => e = .returned (.tuple #[.string A, .string B, .bool sh]) ∧ ∃ n, w' = w.drewN n)
    (hA : ∀ w, GV w → Calls Tryd.prog 43 #[.string A] w fun e w' => ∃ p c, e = .returned (.tuple #[.slice p xs.length c, .bool one]) ∧ Kd.C (Kd.int .u16) w' p xs.length xs ∧ Below w.heap.size w w')
    (hB : ∀ w, GV w → Calls Tryd.prog 43 #[.string B] w fun e w' => ∃ p c, e = .returned (.tuple #[.slice p ys.length c, .bool two]) ∧ Kd.C (Kd.int .u16) w' p ys.length ys ∧ Below w.heap.size w w')
    (hx : xs.length ≤ 4294967296) (hy : ys.length ≤ 4294967296)
    (hn : one = false ∨ two = false ∨ sh = true ∧ 8 ≤ xs.length + ys.length ∨ sh = false ∧ xs.length + ys.length ≠ 8) :
    Calls Tryd.prog 27 #[.string s] w fun e w' => e = .returned (.tuple #[.agg #[.bool false, .int .u64 0, .int .u64 0], .bool false]) ∧ Below w.heap.size w w' := by
  have HC := Lib.hid hcut
  have HA := Lib.hid hA
  have HB := Lib.hid hB
  have HG := Lib.hid hG
  clear hcut hA hB hG
  have hx1 : (xs.length : Int) ≤ 4294967296 := by omega
  have hy1 : (ys.length : Int) ≤ 4294967296 := by omega
  clear hx hy
  have hcase : one = false ∨ (one = true ∧ two = false) ∨ (one = true ∧ two = true ∧ sh = true ∧ (8 : Int) ≤ (xs.length : Int) + (ys.length : Int)) ∨ (one = true ∧ two = true ∧ sh = false ∧ (((xs.length : Int) + (ys.length : Int)) == 8) = false) := by
    cases one with
    | false => exact .inl rfl
    | true =>
      cases two with
      | false => exact .inr (.inl ⟨rfl, rfl⟩)
      | true =>
        rcases hn with h | h | ⟨h, h2⟩ | ⟨h, h2⟩
        · cases h
        · cases h
        · exact .inr (.inr (.inl ⟨rfl, rfl, h, by omega⟩))
        · exact .inr (.inr (.inr ⟨rfl, rfl, h, by simp; omega⟩))
  clear hn
  rcases hcase with rfl | ⟨rfl, rfl⟩ | ⟨rfl, rfl, rfl, hn2⟩ | ⟨rfl, rfl, rfl, hn2⟩
  all_goals
    go_enter Tryd.func27, Tryd.ntmps27
    go_wp2_with (go_at_call 42; refine (HC.out _ (HG.out.below (below_alloc (Below.refl _ _) _))).mono ?_; rintro e w' ⟨rfl, n, rfl⟩)
    have HB1 := Lib.hid (pw_below_drewN (below_alloc (Below.refl w.heap.size w) (.cells #[.bool false, .int .u64 0, .int .u64 0] 25)) n)
    refine (HA.out _ (HG.out.below HB1.out)).mono ?_
    rintro e W2 ⟨p1, c1, rfl, -, hb1⟩
    have HB2 := Lib.hid hb1
    clear hb1
    have HBw := Lib.hid (HB1.out.trans (HB2.out.mono HB1.out.size))
    go_wp2_with fail
    refine (HB.out _ (HG.out.below HBw.out)).mono ?_
    rintro e W3 ⟨p2, c2, rfl, -, hb2⟩
    have HB3 := Lib.hid hb2
    clear hb2
    have HR := Lib.hid (result_block HB2.out HB3.out)
    have k0 : W3.cell? ⟨w.heap.size, 0, none⟩ = some (.bool false) := by unfold World.cell?; rw [HR.out.1]; rfl
    have k1 : W3.cell? ⟨w.heap.size, 1, none⟩ = some (.int .u64 0) := by unfold World.cell?; rw [HR.out.1]; rfl
    have k2 : W3.cell? ⟨w.heap.size, 2, none⟩ = some (.int .u64 0) := by unfold World.cell?; rw [HR.out.1]; rfl
    have f0 : W3.frozen? ⟨w.heap.size, 0, none⟩ = false := by unfold World.frozen?; rw [HR.out.1]; rfl
    have f1 : W3.frozen? ⟨w.heap.size, 1, none⟩ = false := by unfold World.frozen?; rw [HR.out.1]; rfl
    have f2 : W3.frozen? ⟨w.heap.size, 2, none⟩ = false := by unfold World.frozen?; rw [HR.out.1]; rfl
    go_wp2_with fail
    refine bodyPost_ret (results_ct rfl _ _ w.heap.size 25 #[.bool false, .int .u64 0, .int .u64 0] (0, 0) _ rfl (by
      refine blk_put (cs := #[.bool false, .int .u64 0, .int .u64 0]) ?_ 2 _ rfl
      refine blk_put (cs := #[.bool false, .int .u64 0, .int .u64 0]) ?_ 1 _ rfl
      refine blk_put (cs := #[.bool false, .int .u64 0, .int .u64 0]) ?_ 0 _ rfl
      exact HR.out.1) Tryd.underlying25 rfl (by kernel_rfl)) rfl ?_
    exact ⟨rfl, ((HR.out.2.setCell (Nat.le_refl _) _).setCell (Nat.le_refl _) _).setCell (Nat.le_refl _) _⟩

theorem cut_le (l sep : List UInt8) : (Lib.cut l sep).1.length ≤ l.length ∧ (Lib.cut l sep).2.1.length ≤ l.length := by
  unfold Lib.cut
  split
  · exact ⟨by simp only [List.length_take]; omega, by simp only [List.length_drop]; omega⟩
  · exact ⟨Nat.le_refl _, Nat.zero_le _⟩

def intsOf (l : List Nat) : List Int := l.map fun n : Nat => (n : Int)

theorem rowRes_some {l : List UInt8} {x : List Nat} (h : rowP l = some x) : rowRes (rowP l) = (intsOf x, true) := by rw [h]; rfl
theorem rowRes_none {l : List UInt8} (h : rowP l = none) : rowRes (rowP l) = ([], false) := by rw [h]; rfl

def sixRes : Option (List Nat) → Bool × Int × Int × Bool
  | some g => (true, (packL (intsOf g)).1, (packL (intsOf g)).2, true)
  | none => (false, 0, 0, false)

def addr_six.f (a0 : ByteArray) : Option (Bool × Int × Int × Bool) :=
  if a0.size < 4294967281 then some (sixRes (sixP a0.data.toList)) else none

theorem rowP_length {l : List UInt8} {x : List Nat} (h : rowP l = some x) : x.length ≤ l.length + 1 := by
  unfold rowP at h
  split at h
  · simp only [Option.some.injEq] at h; subst h; simp
  · rw [(mapM_all h).1]; exact splitOn_length _ _

theorem addr_six.calls (a0 : ByteArray) (r1 : Bool) (r2 : Int) (r3 : Int) (r4 : Bool) (w : World) (h : addr_six.f a0 = some (r1, r2, r3, r4)) (hG : GV w) :
    Calls Tryd.prog 27 #[.string a0] w fun e w' => e = .returned (.tuple #[.agg #[.bool r1, .int .u64 r2, .int .u64 r3], .bool r4]) ∧ Below w.heap.size w w' := by
  unfold addr_six.f at h
  split at h
  case isFalse => cases h
  rename_i hs
  simp only [Option.some.injEq] at h
  have hls : a0.data.toList.length = a0.size := Array.length_toList
  have hcut : ∀ w, GV w → Calls Tryd.prog 42 #[.string a0, .string ⟨#[58, 58]⟩] w fun e w' => e = .returned (.tuple #[.string (ofL (Lib.cut a0.data.toList [58, 58]).1), .string (ofL (Lib.cut a0.data.toList [58, 58]).2.1), .bool (Lib.cut a0.data.toList [58, 58]).2.2]) ∧ ∃ n, w' = w.drewN n :=
    fun w hG => Tryd.strings_Cut_shaped a0 ⟨#[58, 58]⟩ w hG.shaped hs
  obtain ⟨hc1, hc2⟩ := cut_le a0.data.toList [58, 58]
  have hA := row_calls (ofL (Lib.cut a0.data.toList [58, 58]).1) (by rw [ofL_size]; omega)
  have hB := row_calls (ofL (Lib.cut a0.data.toList [58, 58]).2.1) (by rw [ofL_size]; omega)
  simp only [ofL_data] at hA hB
  unfold sixP at h
  generalize (Lib.cut a0.data.toList [58, 58]).2.2 = sh at *
  cases hx : rowP (Lib.cut a0.data.toList [58, 58]).1 with
  | none =>
    rw [hx] at h
    simp only [sixRes, Prod.mk.injEq] at h
    obtain ⟨rfl, rfl, rfl, rfl⟩ := h
    simp only [rowRes_none hx] at hA
    cases hy : rowP (Lib.cut a0.data.toList [58, 58]).2.1 with
    | none =>
      simp only [rowRes_none hy] at hB
      exact six_no a0 _ _ sh false false [] [] w hG hcut hA hB (by simp) (by simp) (.inl rfl)
    | some y =>
      simp only [rowRes_some hy] at hB
      have := rowP_length hy
      exact six_no a0 _ _ sh false true [] (intsOf y) w hG hcut hA hB (by simp) (by simp [intsOf]; omega) (.inl rfl)
  | some x =>
    simp only [rowRes_some hx] at hA
    have hlx := rowP_length hx
    have ex : (intsOf x).length = x.length := by simp [intsOf]
    rw [hx] at h
    cases hy : rowP (Lib.cut a0.data.toList [58, 58]).2.1 with
    | none =>
      rw [hy] at h
      simp only [sixRes, Prod.mk.injEq] at h
      obtain ⟨rfl, rfl, rfl, rfl⟩ := h
      simp only [rowRes_none hy] at hB
      exact six_no a0 _ _ sh true false (intsOf x) [] w hG hcut hA hB (by omega) (by simp) (.inr (.inl rfl))
    | some y =>
      simp only [rowRes_some hy] at hB
      have hly := rowP_length hy
      have ey : (intsOf y).length = y.length := by simp [intsOf]
      rw [hy] at h
      simp only at h
      cases sh with
      | true =>
        rw [if_pos rfl] at h
        by_cases hn : x.length + y.length ≤ 7
        · rw [if_pos hn] at h
          have hf : fill (intsOf x) (intsOf y) = intsOf (x ++ List.replicate (8 - x.length - y.length) 0 ++ y) := by
            unfold fill
            rw [ex, ey]
            simp [intsOf]
          simp only [sixRes, Prod.mk.injEq] at h
          obtain ⟨rfl, rfl, rfl, rfl⟩ := h
          have := six_ok a0 _ _ true (intsOf x) (intsOf y) w hG hcut hA hB (.inl ⟨rfl, by omega⟩)
          rw [hf] at this
          exact this
        · rw [if_neg hn] at h
          simp only [sixRes, Prod.mk.injEq] at h
          obtain ⟨rfl, rfl, rfl, rfl⟩ := h
          exact six_no a0 _ _ true true true (intsOf x) (intsOf y) w hG hcut hA hB (by omega) (by omega) (.inr (.inr (.inl ⟨rfl, by omega⟩)))
      | false =>
        rw [if_neg (by decide)] at h
        by_cases hn : x.length + y.length = 8
        · rw [if_pos hn] at h
          have hf : fill (intsOf x) (intsOf y) = intsOf (x ++ y) := by
            unfold fill
            rw [ex, ey, show 8 - x.length - y.length = 0 by omega]
            simp [intsOf]
          simp only [sixRes, Prod.mk.injEq] at h
          obtain ⟨rfl, rfl, rfl, rfl⟩ := h
          have := six_ok a0 _ _ false (intsOf x) (intsOf y) w hG hcut hA hB (.inr ⟨rfl, by omega⟩)
          rw [hf] at this
          exact this
        · rw [if_neg hn] at h
          simp only [sixRes, Prod.mk.injEq] at h
          obtain ⟨rfl, rfl, rfl, rfl⟩ := h
          exact six_no a0 _ _ false true true (intsOf x) (intsOf y) w hG hcut hA hB (by omega) (by omega) (.inr (.inr (.inr ⟨rfl, by omega⟩)))
end Go.Proofs.YtaekcldkfkiekaaDoor
