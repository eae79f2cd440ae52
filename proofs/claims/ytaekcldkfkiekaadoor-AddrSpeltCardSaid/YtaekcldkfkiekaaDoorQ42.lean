-- PRINTED by print.py (a twelfth state) out of the translation. Not trusted: Lean checks it.
import Derived.Test.YtaekcldkfkiekaaDoorQ0
import Derived.Test.YtaekcldkfkiekaaDoorQ1
import Derived.Test.YtaekcldkfkiekaaDoorQ14
import Derived.Test.YtaekcldkfkiekaaDoorQ33
import Derived.Test.YtaekcldkfkiekaaDoorQ41
import Derived.Test.YtaekcldkfkiekaaDoorXAwake
namespace Go.Proofs.YtaekcldkfkiekaaDoor.Q
open Go.RowKit Go.Proofs.YtaekcldkfkiekaaDoorW.PrintWords Go.Proofs.YtaekcldkfkiekaaDoorW.PrintLast Go.Proofs.YtaekcldkfkiekaaDoorW.PrintMore
attribute [local go_sem] max2_int min2_int max_two min_two max_three min_three max_four min_four   -- for this text's walks alone
set_option linter.unusedVariables false
set_option linter.unusedSimpArgs false

attribute [local go_sem high] eqA25
/-! ### crosswaylaw03_AddrSpelt: function 7 -/
mutual
def crosswaylaw03_AddrSpelt.l0 : Nat → Int → Bool → List Int → Int → ByteArray → Int → Bool → Int → Int → Option (Bool)
  | 0, _, _, _, _, _, _, _, _, _ => none
  | k + 1, x2, x9, x11, x12, x13, x14, x388000, x388001, x388002 => if x14 < 8 then (if x14 = x12 then (if 0 ≤ x14 then (if x14 < (x11.length : Int) then (crosswaylaw03_AddrSpelt.j1 k x2 x9 x11 x12 x13 x14 ((rd x11 x14) == 0) x388000 x388001 x388002) else (none)) else (none)) else (crosswaylaw03_AddrSpelt.j1 k x2 x9 x11 x12 x13 x14 false x388000 x388001 x388002)) else ((addr_Parse.f k x13).bind fun bt391 => (if x9 = true then (if bt391.2.2.2 = 0 then (some (bt391.1 == x388000 && (bt391.2.1 == x388001 && (bt391.2.2.1 == x388002)))) else (some false)) else (some false)))
def crosswaylaw03_AddrSpelt.j1 : Nat → Int → Bool → List Int → Int → ByteArray → Int → Bool → Bool → Int → Int → Option (Bool)
  | 0, _, _, _, _, _, _, _, _, _, _ => none
  | k + 1, x2, x9, x11, x12, x13, x14, x38, x388000, x388001, x388002 => if x38 = true then (crosswaylaw03_AddrSpelt.l1 k x2 x9 x11 x12 x13 x14 x388000 x388001 x388002) else (if x14 > 0 then (if 0 ≤ (wrap64 ((x13.size : Int) - 1)) then (if (wrap64 ((x13.size : Int) - 1)) < (x13.size : Int) then (if (bt x13 (wrap64 ((x13.size : Int) - 1))) = 58 then (if 0 ≤ x14 then (if x14 < (x11.length : Int) then (if 0 ≤ (Go.bits .and .i64 x14 3) then ((crosswaylaw03_spelt.f k (rd x11 x14) (Go.bits .and .i64 (shr .i64 x2 (Go.bits .and .i64 x14 3)) 7)).bind fun t399 => (if x13.size + t399.size ≤ 9223372036854775807 then (crosswaylaw03_AddrSpelt.l0 k x2 x9 x11 x12 (x13 ++ t399) (wrap64 (x14 + 1)) x388000 x388001 x388002) else (none))) else (none)) else (none)) else (none)) else (if x13.size + 1 ≤ 9223372036854775807 then (if 0 ≤ x14 then (if x14 < (x11.length : Int) then (if 0 ≤ (Go.bits .and .i64 x14 3) then ((crosswaylaw03_spelt.f k (rd x11 x14) (Go.bits .and .i64 (shr .i64 x2 (Go.bits .and .i64 x14 3)) 7)).bind fun t401 => (if (x13 ++ (⟨#[58]⟩ : ByteArray)).size + t401.size ≤ 9223372036854775807 then (crosswaylaw03_AddrSpelt.l0 k x2 x9 x11 x12 ((x13 ++ (⟨#[58]⟩ : ByteArray)) ++ t401) (wrap64 (x14 + 1)) x388000 x388001 x388002) else (none))) else (none)) else (none)) else (none)) else (none))) else (none)) else (none)) else (if 0 ≤ x14 then (if x14 < (x11.length : Int) then (if 0 ≤ (Go.bits .and .i64 x14 3) then ((crosswaylaw03_spelt.f k (rd x11 x14) (Go.bits .and .i64 (shr .i64 x2 (Go.bits .and .i64 x14 3)) 7)).bind fun t403 => (if x13.size + t403.size ≤ 9223372036854775807 then (crosswaylaw03_AddrSpelt.l0 k x2 x9 x11 x12 (x13 ++ t403) (wrap64 (x14 + 1)) x388000 x388001 x388002) else (none))) else (none)) else (none)) else (none)))
def crosswaylaw03_AddrSpelt.l1 : Nat → Int → Bool → List Int → Int → ByteArray → Int → Bool → Int → Int → Option (Bool)
  | 0, _, _, _, _, _, _, _, _, _ => none
  | k + 1, x2, x9, x11, x12, x13, x14, x388000, x388001, x388002 => if x14 < 8 then (if 0 ≤ x14 then (if x14 < (x11.length : Int) then (if (rd x11 x14) = 0 then (crosswaylaw03_AddrSpelt.l1 k x2 x9 x11 x12 x13 (wrap64 (x14 + 1)) x388000 x388001 x388002) else (if x13.size + 2 ≤ 9223372036854775807 then (crosswaylaw03_AddrSpelt.l0 k x2 x9 x11 x12 (x13 ++ (⟨#[58, 58]⟩ : ByteArray)) (wrap64 ((wrap64 (x14 - 1)) + 1)) x388000 x388001 x388002) else (none))) else (none)) else (none)) else (if x13.size + 2 ≤ 9223372036854775807 then (crosswaylaw03_AddrSpelt.l0 k x2 x9 x11 x12 (x13 ++ (⟨#[58, 58]⟩ : ByteArray)) (wrap64 ((wrap64 (x14 - 1)) + 1)) x388000 x388001 x388002) else (none))
end
def crosswaylaw03_AddrSpelt.f (k : Nat) (a0 : Int) (a1 : Int) (a2 : Int) (a3 : Int) : Option (Bool) := (crosswaylaw03_awake.f).bind fun t386 => ((crosswayref03_Groups.f k true a0 a1).bind fun t388 => (crosswaylaw03_AddrSpelt.l0 k a2 t386 t388 (Go.bits .and .i64 a3 7) (⟨#[]⟩ : ByteArray) 0 true a0 a1))
theorem crosswaylaw03_AddrSpelt.mono_l : ∀ k, (∀ y0 y1 y2 y3 y4 y5 y6 y7 y8, LeO (crosswaylaw03_AddrSpelt.l0 k y0 y1 y2 y3 y4 y5 y6 y7 y8) (crosswaylaw03_AddrSpelt.l0 (k + 1) y0 y1 y2 y3 y4 y5 y6 y7 y8)) ∧ (∀ y0 y1 y2 y3 y4 y5 y6 y7 y8 y9, LeO (crosswaylaw03_AddrSpelt.j1 k y0 y1 y2 y3 y4 y5 y6 y7 y8 y9) (crosswaylaw03_AddrSpelt.j1 (k + 1) y0 y1 y2 y3 y4 y5 y6 y7 y8 y9)) ∧ (∀ y0 y1 y2 y3 y4 y5 y6 y7 y8, LeO (crosswaylaw03_AddrSpelt.l1 k y0 y1 y2 y3 y4 y5 y6 y7 y8) (crosswaylaw03_AddrSpelt.l1 (k + 1) y0 y1 y2 y3 y4 y5 y6 y7 y8))
  | 0 => ⟨fun _ _ _ _ _ _ _ _ _ r h => by simp [crosswaylaw03_AddrSpelt.l0] at h, fun _ _ _ _ _ _ _ _ _ _ r h => by simp [crosswaylaw03_AddrSpelt.j1] at h, fun _ _ _ _ _ _ _ _ _ r h => by simp [crosswaylaw03_AddrSpelt.l1] at h⟩
  | k + 1 => by
    obtain ⟨ih0, ih1, ih2⟩ := crosswaylaw03_AddrSpelt.mono_l k
    refine ⟨?_, ?_, ?_⟩
    · intro y0 y1 y2 y3 y4 y5 y6 y7 y8
      unfold crosswaylaw03_AddrSpelt.l0
      repeat' first
      | (with_reducible exact ih0 _ _ _ _ _ _ _ _ _)
      | (with_reducible exact ih1 _ _ _ _ _ _ _ _ _ _)
      | (with_reducible exact ih2 _ _ _ _ _ _ _ _ _)
      | (with_reducible exact addr_Parse.mono _ _)
      | (with_reducible exact crosswaylaw03_spelt.mono _ _ _)
      | (with_reducible exact crosswayref03_Groups.mono _ _ _ _)
      | (with_reducible exact LeO.refl _)
      | (with_reducible exact LeO.none _)
      | (with_reducible refine LeO.ite ?_ ?_)
      | (with_reducible refine LeO.bind ?_ (fun _ => ?_))
      | exact ih0 _ _ _ _ _ _ _ _ _
      | exact ih1 _ _ _ _ _ _ _ _ _ _
      | exact ih2 _ _ _ _ _ _ _ _ _
      | exact addr_Parse.mono _ _
      | exact crosswaylaw03_spelt.mono _ _ _
      | exact crosswayref03_Groups.mono _ _ _ _
      | exact LeO.none _
      | refine LeO.ite ?_ ?_
      | refine LeO.bind ?_ (fun _ => ?_)
    · intro y0 y1 y2 y3 y4 y5 y6 y7 y8 y9
      unfold crosswaylaw03_AddrSpelt.j1
      repeat' first
      | (with_reducible exact ih0 _ _ _ _ _ _ _ _ _)
      | (with_reducible exact ih1 _ _ _ _ _ _ _ _ _ _)
      | (with_reducible exact ih2 _ _ _ _ _ _ _ _ _)
      | (with_reducible exact addr_Parse.mono _ _)
      | (with_reducible exact crosswaylaw03_spelt.mono _ _ _)
      | (with_reducible exact crosswayref03_Groups.mono _ _ _ _)
      | (with_reducible exact LeO.refl _)
      | (with_reducible exact LeO.none _)
      | (with_reducible refine LeO.ite ?_ ?_)
      | (with_reducible refine LeO.bind ?_ (fun _ => ?_))
      | exact ih0 _ _ _ _ _ _ _ _ _
      | exact ih1 _ _ _ _ _ _ _ _ _ _
      | exact ih2 _ _ _ _ _ _ _ _ _
      | exact addr_Parse.mono _ _
      | exact crosswaylaw03_spelt.mono _ _ _
      | exact crosswayref03_Groups.mono _ _ _ _
      | exact LeO.none _
      | refine LeO.ite ?_ ?_
      | refine LeO.bind ?_ (fun _ => ?_)
    · intro y0 y1 y2 y3 y4 y5 y6 y7 y8
      unfold crosswaylaw03_AddrSpelt.l1
      repeat' first
      | (with_reducible exact ih0 _ _ _ _ _ _ _ _ _)
      | (with_reducible exact ih1 _ _ _ _ _ _ _ _ _ _)
      | (with_reducible exact ih2 _ _ _ _ _ _ _ _ _)
      | (with_reducible exact addr_Parse.mono _ _)
      | (with_reducible exact crosswaylaw03_spelt.mono _ _ _)
      | (with_reducible exact crosswayref03_Groups.mono _ _ _ _)
      | (with_reducible exact LeO.refl _)
      | (with_reducible exact LeO.none _)
      | (with_reducible refine LeO.ite ?_ ?_)
      | (with_reducible refine LeO.bind ?_ (fun _ => ?_))
      | exact ih0 _ _ _ _ _ _ _ _ _
      | exact ih1 _ _ _ _ _ _ _ _ _ _
      | exact ih2 _ _ _ _ _ _ _ _ _
      | exact addr_Parse.mono _ _
      | exact crosswaylaw03_spelt.mono _ _ _
      | exact crosswayref03_Groups.mono _ _ _ _
      | exact LeO.none _
      | refine LeO.ite ?_ ?_
      | refine LeO.bind ?_ (fun _ => ?_)
theorem crosswaylaw03_AddrSpelt.mono : ∀ a0 a1 a2 a3 k, LeO (crosswaylaw03_AddrSpelt.f k a0 a1 a2 a3) (crosswaylaw03_AddrSpelt.f (k + 1) a0 a1 a2 a3) := by
  intro a0 a1 a2 a3 k
  obtain ⟨ih0, ih1, ih2⟩ := crosswaylaw03_AddrSpelt.mono_l k
  unfold crosswaylaw03_AddrSpelt.f
  repeat' first
      | (with_reducible exact ih0 _ _ _ _ _ _ _ _ _)
      | (with_reducible exact ih1 _ _ _ _ _ _ _ _ _ _)
      | (with_reducible exact ih2 _ _ _ _ _ _ _ _ _)
      | (with_reducible exact addr_Parse.mono _ _)
      | (with_reducible exact crosswaylaw03_spelt.mono _ _ _)
      | (with_reducible exact crosswayref03_Groups.mono _ _ _ _)
      | (with_reducible exact LeO.refl _)
      | (with_reducible exact LeO.none _)
      | (with_reducible refine LeO.ite ?_ ?_)
      | (with_reducible refine LeO.bind ?_ (fun _ => ?_))
      | exact ih0 _ _ _ _ _ _ _ _ _
      | exact ih1 _ _ _ _ _ _ _ _ _ _
      | exact ih2 _ _ _ _ _ _ _ _ _
      | exact addr_Parse.mono _ _
      | exact crosswaylaw03_spelt.mono _ _ _
      | exact crosswayref03_Groups.mono _ _ _ _
      | exact LeO.none _
      | refine LeO.ite ?_ ?_
      | refine LeO.bind ?_ (fun _ => ?_)
def crosswaylaw03_AddrSpelt.T16 : Bool × List (List Nat × List Nat) := (true, [([], []), ([], []), ([], []), ([1, 2], [1, 2]), ([3], [3]), ([], []), ([], []), ([6], [6]), ([5, 7], [5, 7]), ([8], [8]), ([4, 9], [4, 9]), ([0, 10], [0, 10]), ([11, 10, 0, 1, 2, 3, 4, 5, 6, 7, 8, 9, 10, 11], [0, 11])])
def crosswaylaw03_AddrSpelt.B16 : List Nat := [0, 0, 0, 6, 14, 0, 0, 64, 224, 480, 1022, 2047, 4095]
theorem crosswaylaw03_AddrSpelt.tab16 : rtab .any (opsOf Tryd.f7 16) = crosswaylaw03_AddrSpelt.T16 := by kernel_rfl
theorem crosswaylaw03_AddrSpelt.bits16 : waitsOk crosswaylaw03_AddrSpelt.T16.2 crosswaylaw03_AddrSpelt.B16 = true := by kernel_rfl
set_option maxHeartbeats 8000000 in
set_option maxRecDepth 100000 in
theorem crosswaylaw03_AddrSpelt.calls (k : Nat) (a0 : Int) (a1 : Int) (a2 : Int) (a3 : Int) (r : Bool) (w : World) (h : crosswaylaw03_AddrSpelt.f k a0 a1 a2 a3 = some r) (hG : GV w) :
    Calls Tryd.prog 7 #[.int .u64 a0, .int .u64 a1, .int .i64 a2, .int .i64 a3] w fun e w' => e = .returned (.bool r) ∧ Below w.heap.size w w' := by
  have HGV := Aside0.mk hG
  clear hG
  have hu25 := Tryd.underlying25
  have HB := Aside0.mk (Below.refl w.heap.size w)
  have H : ((crosswaylaw03_awake.f).bind fun t386 => ((crosswayref03_Groups.f k true a0 a1).bind fun t388 => (crosswaylaw03_AddrSpelt.l0 k a2 t386 t388 (Go.bits .and .i64 a3 7) (⟨#[]⟩ : ByteArray) 0 true a0 a1))) = some r := h
  clear h
  replace H := Option.bind_eq_some_iff.mp H
  obtain ⟨t386, A50, H⟩ := H
  replace H : ((crosswayref03_Groups.f k true a0 a1).bind fun t388 => (crosswaylaw03_AddrSpelt.l0 k a2 t386 t388 (Go.bits .and .i64 a3 7) (⟨#[]⟩ : ByteArray) 0 true a0 a1)) = some r := H
  have A5 := Aside0.mk A50
  clear A50
  replace H := Option.bind_eq_some_iff.mp H
  obtain ⟨t388, A60, H⟩ := H
  replace H : (crosswaylaw03_AddrSpelt.l0 k a2 t386 t388 (Go.bits .and .i64 a3 7) (⟨#[]⟩ : ByteArray) 0 true a0 a1) = some r := H
  have A6 := Aside0.mk A60
  clear A60
  have H' := Aside0.mk H
  clear H
  go_enter Tryd.func7, Tryd.ntmps7
  go_wp2_with (first | ((with_reducible refine gate_callee (f := 8) rfl ?_); refine goesL_ (some 17) rfl rfl Tryd.func8 (by kernel_rfl) rfl #[] rfl (by (try simp only [List.map_toArray, List.map_cons, List.map_nil]); first | done | rfl | (simp only [List.length_drop, List.length_take]; rfl)) ?_; (with_reducible refine (crosswaylaw03_awake.calls  t386 _ A5.out (HGV.out.below (by repeat (first | (with_reducible first | exact HB.out | apply below_alloc | apply pw_below_drewN | apply below_drew1) | exact HB.out)))).mono ?_); rintro e w7 ⟨rfl, hb⟩; refine ⟨_, rfl, ?_⟩; have n0_ := Aside0.mk (below_step (by repeat (first | (with_reducible first | exact HB.out | apply below_alloc | apply pw_below_drewN | apply below_drew1) | exact HB.out)) hb); clear HB; have HB := n0_; clear n0_; (try clear hb); (try clear hb2); (try clear hk); (try clear hi)) | ((with_reducible refine gate_dst (N := 10) rfl ?_); (try (refine gate_guard (by rfl) ?_; dsimp only)); refine box_event ?hg (N := 10) ?hd (cs := #[.bool false, .int .u64 0, .int .u64 0]) (t := 25) ?hr ?_; (case hd => rfl); (case hg => rfl); (case hr => first | (go_simp; done) | (go_simp; rfl)); intro gb387 hg w8 hbox hb; have n0_ := Aside0.mk (below_step (by repeat (first | (with_reducible first | exact HB.out | apply below_alloc | apply pw_below_drewN | apply below_drew1) | exact HB.out)) hb); have n1_ := Aside0.mk (hbox); have n2_ := Aside0.mk ((by rw [hg]; exact (below_size (by repeat (first | (with_reducible first | exact HB.out | apply below_alloc | apply pw_below_drewN | apply below_drew1) | exact HB.out))) : w.heap.size ≤ gb387)); have n3_ := Aside0.mk ((by rw [hg]; exact (below_size (by repeat (first | (with_reducible first | exact HB.out | apply below_alloc | apply pw_below_drewN | apply below_drew1) | exact HB.out))) : w.heap.size ≤ gb387)); clear HB; have HB := n0_; have BK387 := n1_; have GW387 := n2_; have GE387 := n3_; clear n0_ n1_ n2_ n3_; clear hb hbox hg; have hcz9_0 : w8.cell? ⟨gb387, 0, none⟩ = some (.bool false) := (blk_cell BK387.out 0).trans rfl; have hcz9_1 : w8.cell? ⟨gb387, 1, none⟩ = some (.int .u64 0) := (blk_cell BK387.out 1).trans rfl; have hcz9_2 : w8.cell? ⟨gb387, 2, none⟩ = some (.int .u64 0) := (blk_cell BK387.out 2).trans rfl; have hfz9_0 := blk_frozen BK387.out 0; have hfz9_1 := blk_frozen BK387.out 1; have hfz9_2 := blk_frozen BK387.out 2) | ((with_reducible refine gate_callee (f := 23) rfl ?_); refine goesL_ (some 22) rfl rfl Tryd.func23 (by kernel_rfl) rfl #[.agg #[.bool true, .int .u64 a0, .int .u64 a1]] rfl (by (try simp only [List.map_toArray, List.map_cons, List.map_nil]); first | done | rfl | (simp only [List.length_drop, List.length_take]; rfl)) ?_; (with_reducible refine (crosswayref03_Groups.calls k true a0 a1 t388 _ A6.out).mono ?_); rintro e w10 ⟨v389, rfl, ho0, hb⟩; refine ⟨_, rfl, ?_⟩; have n0_ := Aside0.mk (Kd.R_lower ho0 (below_size (by repeat (first | (with_reducible first | exact HB.out | apply below_alloc | apply pw_below_drewN | apply below_drew1 | refine below_set ?_ GE387.out) | exact HB.out)))); have n1_ := Aside0.mk (blk_below (g := gb387) (o := .cells #[.bool true, .int .u64 a0, .int .u64 a1] 25 (0, 0)) (by (with_reducible repeat (first | refine blk_drewN ?_ _ | refine blk_drew ?_ | refine blk_alloc ?_ _)); refine blk_put (cs := #[.bool true, .int .u64 a0, .int .u64 0]) ?_ 2 _ rfl; (with_reducible repeat (first | refine blk_drewN ?_ _ | refine blk_drew ?_ | refine blk_alloc ?_ _)); refine blk_put (cs := #[.bool true, .int .u64 0, .int .u64 0]) ?_ 1 _ rfl; (with_reducible repeat (first | refine blk_drewN ?_ _ | refine blk_drew ?_ | refine blk_alloc ?_ _)); refine blk_put (cs := #[.bool false, .int .u64 0, .int .u64 0]) ?_ 0 _ rfl; (with_reducible repeat (first | refine blk_drewN ?_ _ | refine blk_drew ?_ | refine blk_alloc ?_ _)); exact BK387.out) hb); have n2_ := Aside0.mk (below_step (by repeat (first | (with_reducible first | exact HB.out | apply below_alloc | apply pw_below_drewN | apply below_drew1 | refine below_set ?_ GE387.out) | exact HB.out)) hb); clear BK387; clear HB; have HO390 := n0_; have BK387 := n1_; have HB := n2_; clear n0_ n1_ n2_; (try clear hb); (try clear hb2); (try clear hk); (try clear hi); (try clear ho0)))
  go_loopg [13, 14] k (fun kq v13 v14 w' => ∃ (x13_1 : ByteArray) (x14_1 : Int), v13 = .string x13_1 ∧ v14 = .int .i64 x14_1 ∧ Aside0 (crosswaylaw03_AddrSpelt.l0 kq a2 t386 t388 (Go.bits .and .i64 a3 7) x13_1 x14_1 true a0 a1 = some r) ∧ Aside0 (kq ≤ k) ∧ Aside0 (Kd.R (Kd.int .u64) 23 w' w.heap.size (fun _ => True) v389 t388) ∧ Aside0 (w'.heap[gb387]? = some (.cells #[.bool true, .int .u64 a0, .int .u64 a1] 25 (0, 0))) ∧ Aside0 (Below w.heap.size w w'))
  case atStart => exact ⟨((⟨#[]⟩ : ByteArray)), (0), (by first | rfl | (simp; done) | (simp [*]; done)), (by first | rfl | (simp; done) | (simp [*]; done)), H', ⟨Nat.le_refl _⟩, ⟨by (with_reducible repeat (first | apply Kd.R_alloc | apply Kd.R_drewN | apply Kd.R_drew)); exact HO390.out⟩, ⟨by (with_reducible repeat (first | refine blk_drewN ?_ _ | refine blk_drew ?_ | refine blk_alloc ?_ _)); exact BK387.out⟩, ⟨by repeat (first | (with_reducible first | exact HB.out | apply below_alloc | apply pw_below_drewN | apply below_drew1 | refine below_set ?_ GE387.out) | exact HB.out)⟩⟩
  case round =>
    clear H'
    try clear c2
    try clear p2
    try clear c7
    try clear c8
    try clear hcz9_0
    try clear hcz9_1
    try clear hcz9_2
    try clear hfz9_0
    try clear hfz9_1
    try clear hfz9_2
    obtain ⟨x13_1, x14_1, rfl, rfl, HA, HK1, HO_11, BK387, HB⟩ := hrel
    cases gk with
    | zero => exact absurd HA.out (by simp [crosswaylaw03_AddrSpelt.l0])
    | succ k1 =>
      have H := HA.out
      clear HA
      simp only [crosswaylaw03_AddrSpelt.l0] at H
      by_cases c11 : x14_1 < 8
      · rw [if_pos c11] at H
        have c11b0 : decide (x14_1 < 8) = true := decide_eq_true c11
        clear c11
        have HC12 := Aside0.mk H
        clear H
        go_upto_region 9 with (fail)
        go_cut [38] (fun v38 wc => ∃ (kq : Nat) (x38_11 : Bool), v38 = .bool x38_11 ∧ Aside0 (crosswaylaw03_AddrSpelt.j1 kq a2 t386 t388 (Go.bits .and .i64 a3 7) x13_1 x14_1 x38_11 true a0 a1 = some r) ∧ Aside0 (kq ≤ k1) ∧ Aside0 (Kd.R (Kd.int .u64) 23 wc w.heap.size (fun _ => True) v389 t388) ∧ Aside0 (wc.heap[gb387]? = some (.cells #[.bool true, .int .u64 a0, .int .u64 a1] 25 (0, 0))) ∧ Aside0 (Below w.heap.size w wc))
        case first =>
          have H := HC12.out
          clear HC12
          by_cases c13 : x14_1 = (Go.bits .and .i64 a3 7)
          · rw [if_pos c13] at H
            have c13b0 : (x14_1 == (Go.bits .and .i64 a3 7)) = true := beq_iff_eq.mpr c13
            have c13b1 : (x14_1 != (Go.bits .and .i64 a3 7)) = false := bne_eq_false_iff_eq.mpr c13
            clear c13
            (first | rw [c13b0] | (simp only [i64_w, i32_w]; rw [c13b0]) | skip)
            by_cases c14 : 0 ≤ x14_1
            · rw [if_pos c14] at H
              have c14b0 : decide (0 ≤ x14_1) = true := decide_eq_true c14
              clear c14
              by_cases c15 : x14_1 < (t388.length : Int)
              · rw [if_pos c15] at H
                have c15b0 : decide (x14_1 < (t388.length : Int)) = true := decide_eq_true c15
                clear c15
                have H' := Aside0.mk H
                clear H
                obtain ⟨Ao16, co16, eo16⟩ := Kd.R_slice HO_11.out
                subst eo16
                have p396 : 0 ≤ (x14_1 : Int) := of_decide_eq_true (by first | (with_reducible assumption) | assumption)
                have q396 : x14_1 < (t388.length : Int) := of_decide_eq_true (by first | (with_reducible assumption) | assumption)
                obtain ⟨ad396, e396, hx396_0⟩ := Kd.at_int (Kd.R_reads' HO_11.out).2.2 x14_1 p396 q396
                cases e396
                replace p396 := eq_true p396
                replace q396 := eq_true q396
                go_wp2
                go_meet
                case rel => exact ⟨_, (((rd t388 x14_1) == 0)), (by first | rfl | (simp; done) | (simp [*]; done)), H', ⟨by have := HK1.out; first | omega | exact Nat.le_refl _⟩, ⟨by (with_reducible repeat (first | apply Kd.R_alloc | apply Kd.R_drewN | apply Kd.R_drew)); exact HO_11.out⟩, ⟨by (with_reducible repeat (first | refine blk_drewN ?_ _ | refine blk_drew ?_ | refine blk_alloc ?_ _)); exact BK387.out⟩, ⟨by repeat (first | (with_reducible first | exact HB.out | apply below_alloc | apply pw_below_drewN | apply below_drew1 | refine below_set ?_ GE387.out) | exact HB.out)⟩⟩
              · rw [if_neg c15] at H
                exact absurd H (by simp)
            · rw [if_neg c14] at H
              exact absurd H (by simp)
          · rw [if_neg c13] at H
            have c13b0 : (x14_1 == (Go.bits .and .i64 a3 7)) = false := beq_eq_false_iff_ne.mpr c13
            have c13b1 : (x14_1 != (Go.bits .and .i64 a3 7)) = true := bne_iff_ne.mpr c13
            (first | rw [c13b0] | (simp only [i64_w, i32_w]; rw [c13b0]) | skip)
            have H' := Aside0.mk H
            clear H
            go_wp2
            go_meet
            case rel => exact ⟨_, (false), (by first | rfl | (simp; done) | (simp [*]; done)), H', ⟨by have := HK1.out; first | omega | exact Nat.le_refl _⟩, ⟨by (with_reducible repeat (first | apply Kd.R_alloc | apply Kd.R_drewN | apply Kd.R_drew)); exact HO_11.out⟩, ⟨by (with_reducible repeat (first | refine blk_drewN ?_ _ | refine blk_drew ?_ | refine blk_alloc ?_ _)); exact BK387.out⟩, ⟨by repeat (first | (with_reducible first | exact HB.out | apply below_alloc | apply pw_below_drewN | apply below_drew1 | refine below_set ?_ GE387.out) | exact HB.out)⟩⟩
        case rest =>
          clear HC12
          try clear c1
          try clear c2
          try clear p2
          try clear p3
          try clear q3
          try clear hx3
          try clear c7
          try clear c8
          try clear c11
          try clear c11b0
          try clear c13
          try clear c13b0
          try clear c13b1
          try clear c14
          try clear c14b0
          try clear c15
          try clear c15b0
          try clear hcz9_0
          try clear hcz9_1
          try clear hcz9_2
          try clear hfz9_0
          try clear hfz9_1
          try clear hfz9_2
          try clear hx396_0
          try clear p2
          try clear p396
          try clear q396
          obtain ⟨kq, x38_11, rfl, HA, HJ11, HO_11, BK387, HB⟩ := hcut
          cases kq with
          | zero => exact absurd HA.out (by simp [crosswaylaw03_AddrSpelt.j1])
          | succ kj11 =>
            have H := HA.out
            clear HA
            simp only [crosswaylaw03_AddrSpelt.j1] at H
            by_cases c17 : x38_11 = true
            · subst c17
              have H1 : (crosswaylaw03_AddrSpelt.l1 kj11 a2 t386 t388 (Go.bits .and .i64 a3 7) x13_1 x14_1 true a0 a1) = some r := by rw [if_pos rfl] at H; exact H
              clear H
              have H := H1
              clear H1
              have H' := Aside0.mk H
              clear H
              go_wp2
              go_loopg [14] kj11 (fun kq v14 w' => ∃ (x14_3 : Int), v14 = .int .i64 x14_3 ∧ Aside0 (crosswaylaw03_AddrSpelt.l1 kq a2 t386 t388 (Go.bits .and .i64 a3 7) x13_1 x14_3 true a0 a1 = some r) ∧ Aside0 (kq ≤ kj11) ∧ Aside0 (Kd.R (Kd.int .u64) 23 w' w.heap.size (fun _ => True) v389 t388) ∧ Aside0 (w'.heap[gb387]? = some (.cells #[.bool true, .int .u64 a0, .int .u64 a1] 25 (0, 0))) ∧ Aside0 (Below w.heap.size w w'))
              case atStart => exact ⟨(x14_1), (by first | rfl | (simp; done) | (simp [*]; done)), H', ⟨Nat.le_refl _⟩, ⟨by (with_reducible repeat (first | apply Kd.R_alloc | apply Kd.R_drewN | apply Kd.R_drew)); exact HO_11.out⟩, ⟨by (with_reducible repeat (first | refine blk_drewN ?_ _ | refine blk_drew ?_ | refine blk_alloc ?_ _)); exact BK387.out⟩, ⟨by repeat (first | (with_reducible first | exact HB.out | apply below_alloc | apply pw_below_drewN | apply below_drew1 | refine below_set ?_ GE387.out) | exact HB.out)⟩⟩
              case round =>
                clear H'
                try clear c1
                try clear c2
                try clear p2
                try clear p3
                try clear q3
                try clear hx3
                try clear c7
                try clear c8
                try clear c11
                try clear c11b0
                try clear c13
                try clear c13b0
                try clear c13b1
                try clear c14
                try clear c14b0
                try clear c15
                try clear c15b0
                try clear c17
                try clear hcz9_0
                try clear hcz9_1
                try clear hcz9_2
                try clear hfz9_0
                try clear hfz9_1
                try clear hfz9_2
                try clear hx396_0
                try clear p2
                try clear p3
                try clear p396
                try clear q3
                try clear q396
                obtain ⟨x14_3, rfl, HA, HK3, HO_11, BK387, HB⟩ := hrel
                cases gk with
                | zero => exact absurd HA.out (by simp [crosswaylaw03_AddrSpelt.l1])
                | succ k3 =>
                  have H := HA.out
                  clear HA
                  simp only [crosswaylaw03_AddrSpelt.l1] at H
                  by_cases c18 : x14_3 < 8
                  · rw [if_pos c18] at H
                    have c18b0 : decide (x14_3 < 8) = true := decide_eq_true c18
                    clear c18
                    by_cases c19 : 0 ≤ x14_3
                    · rw [if_pos c19] at H
                      have c19b0 : decide (0 ≤ x14_3) = true := decide_eq_true c19
                      clear c19
                      by_cases c20 : x14_3 < (t388.length : Int)
                      · rw [if_pos c20] at H
                        have c20b0 : decide (x14_3 < (t388.length : Int)) = true := decide_eq_true c20
                        clear c20
                        by_cases c21 : (rd t388 x14_3) = 0
                        · rw [if_pos c21] at H
                          have c21b0 : ((rd t388 x14_3) == 0) = true := beq_iff_eq.mpr c21
                          have c21b1 : ((rd t388 x14_3) != 0) = false := bne_eq_false_iff_eq.mpr c21
                          clear c21
                          have H' := Aside0.mk H
                          clear H
                          obtain ⟨Ao22, co22, eo22⟩ := Kd.R_slice HO_11.out
                          subst eo22
                          have p397 : 0 ≤ (x14_3 : Int) := of_decide_eq_true (by first | (with_reducible assumption) | assumption)
                          have q397 : x14_3 < (t388.length : Int) := of_decide_eq_true (by first | (with_reducible assumption) | assumption)
                          obtain ⟨ad397, e397, hx397_0⟩ := Kd.at_int (Kd.R_reads' HO_11.out).2.2 x14_3 p397 q397
                          cases e397
                          replace p397 := eq_true p397
                          replace q397 := eq_true q397
                          go_wp2
                          go_roundg k3
                          case measure => have := HK1.out; have := HJ11.out; have := HK3.out; omega
                          case rel => exact ⟨(wrap64 (x14_3 + 1)), (by first | rfl | (simp; done) | (simp [*]; done)), H', ⟨by have := HK1.out; have := HJ11.out; have := HK3.out; omega⟩, ⟨by (with_reducible repeat (first | apply Kd.R_alloc | apply Kd.R_drewN | apply Kd.R_drew)); exact HO_11.out⟩, ⟨by (with_reducible repeat (first | refine blk_drewN ?_ _ | refine blk_drew ?_ | refine blk_alloc ?_ _)); exact BK387.out⟩, ⟨by repeat (first | (with_reducible first | exact HB.out | apply below_alloc | apply pw_below_drewN | apply below_drew1 | refine below_set ?_ GE387.out) | exact HB.out)⟩⟩
                        · rw [if_neg c21] at H
                          have c21b0 : ((rd t388 x14_3) == 0) = false := beq_eq_false_iff_ne.mpr c21
                          have c21b1 : ((rd t388 x14_3) != 0) = true := bne_iff_ne.mpr c21
                          by_cases c23 : x13_1.size + 2 ≤ 9223372036854775807
                          · rw [if_pos c23] at H
                            have c23b0 := eq_true c23
                            have c23b1 : decide (x13_1.size + 2 ≤ 9223372036854775807) = true := decide_eq_true c23
                            try have c23b2 : (9223372036854775807 < x13_1.size + 2) = False := eq_false (Nat.not_lt.2 c23)
                            have H' := Aside0.mk H
                            clear H
                            obtain ⟨Ao24, co24, eo24⟩ := Kd.R_slice HO_11.out
                            subst eo24
                            have p397 : 0 ≤ (x14_3 : Int) := of_decide_eq_true (by first | (with_reducible assumption) | assumption)
                            have q397 : x14_3 < (t388.length : Int) := of_decide_eq_true (by first | (with_reducible assumption) | assumption)
                            obtain ⟨ad397, e397, hx397_0⟩ := Kd.at_int (Kd.R_reads' HO_11.out).2.2 x14_3 p397 q397
                            cases e397
                            replace p397 := eq_true p397
                            replace q397 := eq_true q397
                            go_wp2
                            go_roundg k3
                            case measure => have := HK1.out; have := HJ11.out; have := HK3.out; omega
                            case rel => exact ⟨(x13_1 ++ (⟨#[58, 58]⟩ : ByteArray)), (wrap64 ((wrap64 (x14_3 - 1)) + 1)), (by first | rfl | (simp; done) | (simp [*]; done)), (by first | rfl | (simp; done) | (simp [*]; done)), H', ⟨by have := HK1.out; have := HJ11.out; have := HK3.out; omega⟩, ⟨by (with_reducible repeat (first | apply Kd.R_alloc | apply Kd.R_drewN | apply Kd.R_drew)); exact HO_11.out⟩, ⟨by (with_reducible repeat (first | refine blk_drewN ?_ _ | refine blk_drew ?_ | refine blk_alloc ?_ _)); exact BK387.out⟩, ⟨by repeat (first | (with_reducible first | exact HB.out | apply below_alloc | apply pw_below_drewN | apply below_drew1 | refine below_set ?_ GE387.out) | exact HB.out)⟩⟩
                          · rw [if_neg c23] at H
                            exact absurd H (by simp)
                      · rw [if_neg c20] at H
                        exact absurd H (by simp)
                    · rw [if_neg c19] at H
                      exact absurd H (by simp)
                  · rw [if_neg c18] at H
                    have c18b0 : decide (x14_3 < 8) = false := decide_eq_false c18
                    clear c18
                    by_cases c25 : x13_1.size + 2 ≤ 9223372036854775807
                    · rw [if_pos c25] at H
                      have c25b0 := eq_true c25
                      have c25b1 : decide (x13_1.size + 2 ≤ 9223372036854775807) = true := decide_eq_true c25
                      try have c25b2 : (9223372036854775807 < x13_1.size + 2) = False := eq_false (Nat.not_lt.2 c25)
                      have H' := Aside0.mk H
                      clear H
                      go_wp2
                      go_roundg k3
                      case measure => have := HK1.out; have := HJ11.out; have := HK3.out; omega
                      case rel => exact ⟨(x13_1 ++ (⟨#[58, 58]⟩ : ByteArray)), (wrap64 ((wrap64 (x14_3 - 1)) + 1)), (by first | rfl | (simp; done) | (simp [*]; done)), (by first | rfl | (simp; done) | (simp [*]; done)), H', ⟨by have := HK1.out; have := HJ11.out; have := HK3.out; omega⟩, ⟨by (with_reducible repeat (first | apply Kd.R_alloc | apply Kd.R_drewN | apply Kd.R_drew)); exact HO_11.out⟩, ⟨by (with_reducible repeat (first | refine blk_drewN ?_ _ | refine blk_drew ?_ | refine blk_alloc ?_ _)); exact BK387.out⟩, ⟨by repeat (first | (with_reducible first | exact HB.out | apply below_alloc | apply pw_below_drewN | apply below_drew1 | refine below_set ?_ GE387.out) | exact HB.out)⟩⟩
                    · rw [if_neg c25] at H
                      exact absurd H (by simp)
            · replace c17 := Bool.eq_false_iff.mpr c17
              subst c17
              have H1 : (if x14_1 > 0 then (if 0 ≤ (wrap64 ((x13_1.size : Int) - 1)) then (if (wrap64 ((x13_1.size : Int) - 1)) < (x13_1.size : Int) then (if (bt x13_1 (wrap64 ((x13_1.size : Int) - 1))) = 58 then (if 0 ≤ x14_1 then (if x14_1 < (t388.length : Int) then (if 0 ≤ (Go.bits .and .i64 x14_1 3) then ((crosswaylaw03_spelt.f kj11 (rd t388 x14_1) (Go.bits .and .i64 (shr .i64 a2 (Go.bits .and .i64 x14_1 3)) 7)).bind fun t399 => (if x13_1.size + t399.size ≤ 9223372036854775807 then (crosswaylaw03_AddrSpelt.l0 kj11 a2 t386 t388 (Go.bits .and .i64 a3 7) (x13_1 ++ t399) (wrap64 (x14_1 + 1)) true a0 a1) else (none))) else (none)) else (none)) else (none)) else (if x13_1.size + 1 ≤ 9223372036854775807 then (if 0 ≤ x14_1 then (if x14_1 < (t388.length : Int) then (if 0 ≤ (Go.bits .and .i64 x14_1 3) then ((crosswaylaw03_spelt.f kj11 (rd t388 x14_1) (Go.bits .and .i64 (shr .i64 a2 (Go.bits .and .i64 x14_1 3)) 7)).bind fun t401 => (if (x13_1 ++ (⟨#[58]⟩ : ByteArray)).size + t401.size ≤ 9223372036854775807 then (crosswaylaw03_AddrSpelt.l0 kj11 a2 t386 t388 (Go.bits .and .i64 a3 7) ((x13_1 ++ (⟨#[58]⟩ : ByteArray)) ++ t401) (wrap64 (x14_1 + 1)) true a0 a1) else (none))) else (none)) else (none)) else (none)) else (none))) else (none)) else (none)) else (if 0 ≤ x14_1 then (if x14_1 < (t388.length : Int) then (if 0 ≤ (Go.bits .and .i64 x14_1 3) then ((crosswaylaw03_spelt.f kj11 (rd t388 x14_1) (Go.bits .and .i64 (shr .i64 a2 (Go.bits .and .i64 x14_1 3)) 7)).bind fun t403 => (if x13_1.size + t403.size ≤ 9223372036854775807 then (crosswaylaw03_AddrSpelt.l0 kj11 a2 t386 t388 (Go.bits .and .i64 a3 7) (x13_1 ++ t403) (wrap64 (x14_1 + 1)) true a0 a1) else (none))) else (none)) else (none)) else (none))) = some r := by rw [if_neg (show ¬ (false = true) by decide)] at H; exact H
              clear H
              have H := H1
              clear H1
              by_cases c26 : x14_1 > 0
              · rw [if_pos c26] at H
                have c26b0 : decide (0 < x14_1) = true := decide_eq_true c26
                clear c26
                obtain ⟨ji27, hji27⟩ : ∃ j_ : Int, (wrap64 ((x13_1.size : Int) - 1)) = j_ := ⟨_, rfl⟩
                replace H : (if 0 ≤ (ji27) then (if (ji27) < (x13_1.size : Int) then (if (bt x13_1 (ji27)) = 58 then (if 0 ≤ x14_1 then (if x14_1 < (t388.length : Int) then (if 0 ≤ (Go.bits .and .i64 x14_1 3) then ((crosswaylaw03_spelt.f kj11 (rd t388 x14_1) (Go.bits .and .i64 (shr .i64 a2 (Go.bits .and .i64 x14_1 3)) 7)).bind fun t399 => (if x13_1.size + t399.size ≤ 9223372036854775807 then (crosswaylaw03_AddrSpelt.l0 kj11 a2 t386 t388 (Go.bits .and .i64 a3 7) (x13_1 ++ t399) (wrap64 (x14_1 + 1)) true a0 a1) else (none))) else (none)) else (none)) else (none)) else (if x13_1.size + 1 ≤ 9223372036854775807 then (if 0 ≤ x14_1 then (if x14_1 < (t388.length : Int) then (if 0 ≤ (Go.bits .and .i64 x14_1 3) then ((crosswaylaw03_spelt.f kj11 (rd t388 x14_1) (Go.bits .and .i64 (shr .i64 a2 (Go.bits .and .i64 x14_1 3)) 7)).bind fun t401 => (if (x13_1 ++ (⟨#[58]⟩ : ByteArray)).size + t401.size ≤ 9223372036854775807 then (crosswaylaw03_AddrSpelt.l0 kj11 a2 t386 t388 (Go.bits .and .i64 a3 7) ((x13_1 ++ (⟨#[58]⟩ : ByteArray)) ++ t401) (wrap64 (x14_1 + 1)) true a0 a1) else (none))) else (none)) else (none)) else (none)) else (none))) else (none)) else (none)) = some r := by first | (rw [hji27] at H; exact H) | (simp only [hji27] at H ⊢; exact H)
                have hji27w : (IntKind.i64.wrap ((x13_1.size : Int) - 1)) = ji27 := (i64_w _).trans hji27
                by_cases c28 : 0 ≤ (ji27)
                · rw [if_pos c28] at H
                  have c28b0 : decide (0 ≤ (ji27)) = true := decide_eq_true c28
                  clear c28
                  by_cases c29 : (ji27) < (x13_1.size : Int)
                  · rw [if_pos c29] at H
                    have c29b0 : decide ((ji27) < (x13_1.size : Int)) = true := decide_eq_true c29
                    clear c29
                    by_cases c31 : (bt x13_1 (ji27)) = 58
                    · rw [if_pos c31] at H
                      have c31b0 : ((bt x13_1 (ji27)) == 58) = true := beq_iff_eq.mpr c31
                      have c31b1 : ((bt x13_1 (ji27)) != 58) = false := bne_eq_false_iff_eq.mpr c31
                      clear c31
                      by_cases c32 : 0 ≤ x14_1
                      · rw [if_pos c32] at H
                        have c32b0 : decide (0 ≤ x14_1) = true := decide_eq_true c32
                        clear c32
                        by_cases c33 : x14_1 < (t388.length : Int)
                        · rw [if_pos c33] at H
                          have c33b0 : decide (x14_1 < (t388.length : Int)) = true := decide_eq_true c33
                          clear c33
                          by_cases c34 : 0 ≤ (Go.bits .and .i64 x14_1 3)
                          · rw [if_pos c34] at H
                            have c34b0 := eq_true c34
                            have c34b1 : decide (0 ≤ (Go.bits .and .i64 x14_1 3)) = true := decide_eq_true c34
                            clear c34
                            obtain ⟨ji35, hji35⟩ : ∃ j_ : Int, (shr .i64 a2 (Go.bits .and .i64 x14_1 3)) = j_ := ⟨_, rfl⟩
                            replace H : ((crosswaylaw03_spelt.f kj11 (rd t388 x14_1) (Go.bits .and .i64 (ji35) 7)).bind fun t399 => (if x13_1.size + t399.size ≤ 9223372036854775807 then (crosswaylaw03_AddrSpelt.l0 kj11 a2 t386 t388 (Go.bits .and .i64 a3 7) (x13_1 ++ t399) (wrap64 (x14_1 + 1)) true a0 a1) else (none))) = some r := by first | (rw [hji35] at H; exact H) | (simp only [hji35] at H ⊢; exact H)
                            have hji35_ : (a2 / 2 ^ min (Go.bits .and .i64 x14_1 3).toNat 64) = ji35 := hji35
                            have hji35z : (Go.bits .and .i64 x14_1 3) ≤ 64 → (a2 / 2 ^ (Go.bits .and .i64 x14_1 3).toNat) = ji35 := shr_small hji35
                            replace H := Option.bind_eq_some_iff.mp H
                            obtain ⟨t399, A360, H⟩ := H
                            replace H : (if x13_1.size + t399.size ≤ 9223372036854775807 then (crosswaylaw03_AddrSpelt.l0 kj11 a2 t386 t388 (Go.bits .and .i64 a3 7) (x13_1 ++ t399) (wrap64 (x14_1 + 1)) true a0 a1) else (none)) = some r := H
                            have A36 := Aside0.mk A360
                            clear A360
                            by_cases c37 : x13_1.size + t399.size ≤ 9223372036854775807
                            · rw [if_pos c37] at H
                              have c37b0 := eq_true c37
                              have c37b1 : decide (x13_1.size + t399.size ≤ 9223372036854775807) = true := decide_eq_true c37
                              try have c37b2 : (9223372036854775807 < x13_1.size + t399.size) = False := eq_false (Nat.not_lt.2 c37)
                              have H' := Aside0.mk H
                              clear H
                              have p30 : 0 ≤ ((ji27) : Int) := of_decide_eq_true (by first | (with_reducible assumption) | assumption)
                              have q30 : (ji27) < (x13_1.size : Int) := of_decide_eq_true (by first | (with_reducible assumption) | assumption)
                              have hx30 := bt_at x13_1 (ji27)
                              replace p30 := eq_true p30
                              replace q30 := eq_true q30
                              try go_wp2
                              have n0_ := Aside0.mk (Kd.R_drew HO_11.out)
                              have n1_ := Aside0.mk (blk_drew BK387.out)
                              have n2_ := Aside0.mk (below_drew1 HB.out)
                              clear HO_11
                              clear BK387
                              clear HB
                              have HO_11 := n0_
                              have BK387 := n1_
                              have HB := n2_
                              clear n0_ n1_ n2_
                              obtain ⟨Ao39, co39, eo39⟩ := Kd.R_slice HO_11.out
                              (first | subst eo39 | (injection eo39 with f1_ f2_ f3_; have f4_ := f1_.symm; have f5_ := f3_.symm; clear f1_ f2_ f3_; subst f4_; subst f5_))
                              have p398 : 0 ≤ (x14_1 : Int) := of_decide_eq_true (by first | (with_reducible assumption) | assumption)
                              have q398 : x14_1 < (t388.length : Int) := of_decide_eq_true (by first | (with_reducible assumption) | assumption)
                              obtain ⟨ad398, e398, hx398_0⟩ := Kd.at_int (Kd.R_reads' HO_11.out).2.2 x14_1 p398 q398
                              cases e398
                              replace p398 := eq_true p398
                              replace q398 := eq_true q398
                              refine start_ (n := 13) (S := fun w' => w'.cell? (ad398.add (x14_1).toNat) = some (.int .u64 (rd t388 x14_1))) (ds := []) #[false, false, false, false, false, false, false, false, false, false, false, false, false] (by kernel_rfl) rfl rfl (hx398_0) (fun hHeld => ?_); refine with_tabW crosswaylaw03_AddrSpelt.tab16 crosswaylaw03_AddrSpelt.bits16 (fun HT_ HW_ => ?_)
                              generalize wc.drew = w38 at HO_11 BK387 HB hx398_0 hHeld ⊢
                              refine pure_ (i := 0) (N := some 66) (v := ?_) (a' := ?_) #[true, false, false, false, false, false, false, false, false, false, false, false, false] rfl rfl (any_of HT_.out (by kernel_rfl)) (fun _ _ _ h => h) (Or.inl ⟨by rfl, ?_⟩) ?_ ?_
                              rotate_left
                              · intro w'
                                go_simp
                                with_reducible rfl
                              rotate_left
                              · simp only [Act.put, List.setIfInBounds_toArray, List.set_cons_zero, List.set_cons_succ, i64_w, i32_w]
                                rfl
                              refine pure_ (i := 1) (N := some 67) (v := ?_) (a' := ?_) #[true, true, false, false, false, false, false, false, false, false, false, false, false] rfl rfl (any_of HT_.out (by kernel_rfl)) (fun _ _ _ h => h) (Or.inl ⟨by rfl, ?_⟩) ?_ ?_
                              rotate_left
                              · intro w'
                                go_simp
                                with_reducible rfl
                              rotate_left
                              · simp only [Act.put, List.setIfInBounds_toArray, List.set_cons_zero, List.set_cons_succ, i64_w, i32_w]
                                rfl
                              refine pure_ (i := 2) (N := some 68) (v := ?_) (a' := ?_) #[true, true, true, false, false, false, false, false, false, false, false, false, false] rfl rfl (any_of HT_.out (by kernel_rfl)) (fun _ _ _ h => h) (Or.inl ⟨by rfl, ?_⟩) ?_ ?_
                              rotate_left
                              · intro w'
                                go_simp
                                with_reducible rfl
                              rotate_left
                              · simp only [Act.put, List.setIfInBounds_toArray, List.set_cons_zero, List.set_cons_succ, i64_w, i32_w]
                                rfl
                              refine pure_ (i := 3) (N := some 69) (v := ?_) (a' := ?_) #[true, true, true, true, false, false, false, false, false, false, false, false, false] rfl rfl (any_of HT_.out (by kernel_rfl)) (fun _ _ _ h => h) (Or.inl ⟨by rfl, ?_⟩) ?_ ?_
                              rotate_left
                              · intro w'
                                go_simp
                                with_reducible rfl
                              rotate_left
                              · simp only [Act.put, List.setIfInBounds_toArray, List.set_cons_zero, List.set_cons_succ, i64_w, i32_w]
                                rfl
                              refine pure_ (i := 5) (N := some 71) (v := ?_) (a' := ?_) #[true, true, true, true, false, true, false, false, false, false, false, false, false] rfl rfl (any_of HT_.out (by kernel_rfl)) (fun _ _ _ h => h) (Or.inl ⟨by rfl, ?_⟩) ?_ ?_
                              rotate_left
                              · intro w'
                                go_simp
                                with_reducible rfl
                              rotate_left
                              · simp only [Act.put, List.setIfInBounds_toArray, List.set_cons_zero, List.set_cons_succ, i64_w, i32_w]
                                rfl
                              refine pure_ (i := 6) (N := some 72) (v := ?_) (a' := ?_) #[true, true, true, true, false, true, true, false, false, false, false, false, false] rfl rfl (any_of HT_.out (by kernel_rfl)) (fun _ _ _ h => h) (Or.inl ⟨by rfl, ?_⟩) ?_ ?_
                              rotate_left
                              · intro w'
                                go_simp
                                with_reducible rfl
                              rotate_left
                              · simp only [Act.put, List.setIfInBounds_toArray, List.set_cons_zero, List.set_cons_succ, i64_w, i32_w]
                                rfl
                              refine pure_ (i := 7) (N := some 73) (v := ?_) (a' := ?_) #[true, true, true, true, false, true, true, true, false, false, false, false, false] rfl rfl (any_of HT_.out (by kernel_rfl)) (fun _ _ _ h => h) (Or.inl ⟨by rfl, ?_⟩) ?_ ?_
                              rotate_left
                              · intro w'
                                go_simp
                                with_reducible rfl
                              rotate_left
                              · simp only [Act.put, List.setIfInBounds_toArray, List.set_cons_zero, List.set_cons_succ, i64_w, i32_w]
                                rfl
                              refine pure_ (i := 8) (N := some 74) (v := ?_) (a' := ?_) #[true, true, true, true, false, true, true, true, true, false, false, false, false] rfl rfl (any_of HT_.out (by kernel_rfl)) (fun _ _ _ h => h) (Or.inl ⟨by rfl, ?_⟩) ?_ ?_
                              rotate_left
                              · intro w'
                                go_simp
                                with_reducible rfl
                              rotate_left
                              · simp only [Act.put, List.setIfInBounds_toArray, List.set_cons_zero, List.set_cons_succ, i64_w, i32_w]
                                rfl
                              refine pure_ (i := 9) (N := some 75) (v := ?_) (a' := ?_) #[true, true, true, true, false, true, true, true, true, true, false, false, false] rfl rfl (any_of HT_.out (by kernel_rfl)) (fun _ _ _ h => h) (Or.inl ⟨by rfl, ?_⟩) ?_ ?_
                              rotate_left
                              · intro w'
                                go_simp
                                with_reducible rfl
                              rotate_left
                              · simp only [Act.put, List.setIfInBounds_toArray, List.set_cons_zero, List.set_cons_succ, i64_w, i32_w]
                                rfl
                              refine take_ (i := 4) (N := some 70) (v := ?_) (a' := ?_) #[true, true, true, true, true, true, true, true, true, true, false, false, false] rfl rfl (take_ofW HT_.out HW_.out (by kernel_rfl)) (fun _ _ _ h => h) (Or.inl ⟨by rfl, ?_⟩) hHeld ?_ ?_
                              rotate_left
                              · intro w' s0
                                go_simp
                                with_reducible rfl
                              rotate_left
                              · simp only [Act.put, List.setIfInBounds_toArray, List.set_cons_zero, List.set_cons_succ, i64_w, i32_w]
                                rfl
                              refine one_ (i := 10) (N := some 76) #[true, true, true, true, true, true, true, true, true, true, true, false, false] rfl rfl (one_of HT_.out (by kernel_rfl)) (by decide) (fun K hK => ?_)
                              refine goes_ Tryd.func24 (by kernel_rfl) rfl #[.int .u64 (rd t388 x14_1), .int .i64 (Go.bits .and .i64 (ji35) 7)] (by rfl) rfl rfl (by (try simp only [List.map_toArray, List.map_cons, List.map_nil]); first | done | (simp only [hji35]; rfl) | rfl | (simp only [List.length_drop, List.length_take]; rfl)) ?_
                              with_reducible refine (crosswaylaw03_spelt.calls kj11 (rd t388 x14_1) (Go.bits .and .i64 (ji35) 7) t399 _ A36.out).mono ?_
                              rintro e w40 ⟨rfl, hb⟩
                              have HS0_ := (hb.cell (World.block_lt_of_cell? _ _ (hHeld))).trans (hHeld)
                              refine ⟨_, rfl, ?_⟩
                              have n0_ := Aside0.mk (Kd.R_below (by (with_reducible repeat (first | apply Kd.R_alloc | apply Kd.R_drewN | apply Kd.R_drew)); exact HO_11.out) hb)
                              have n1_ := Aside0.mk (blk_below (g := gb387) (o := .cells #[.bool true, .int .u64 a0, .int .u64 a1] 25 (0, 0)) (by (with_reducible repeat (first | refine blk_drewN ?_ _ | refine blk_drew ?_ | refine blk_alloc ?_ _)); exact BK387.out) hb)
                              have n2_ := Aside0.mk (below_step (by repeat (first | (with_reducible first | exact HB.out | apply below_alloc | apply pw_below_drewN | apply below_drew1 | refine below_set ?_ GE387.out) | exact HB.out)) hb)
                              clear HO_11
                              clear BK387
                              clear HB
                              have HO_11 := n0_
                              have BK387 := n1_
                              have HB := n2_
                              clear n0_ n1_ n2_
                              (try clear hb)
                              (try clear hb2)
                              (try clear hk)
                              (try clear hi)
                              refine hK.out _ _ (HS0_) (fun hHeld => ?_)
                              clear hK K
                              refine norm_ (a' := ?_) ?_ ?_
                              rotate_left
                              · show Act.put _ (some 76) _ = _
                                simp only [Act.put, List.setIfInBounds_toArray, List.set_cons_zero, List.set_cons_succ, i64_w, i32_w]
                                rfl
                              refine pure_ (i := 11) (N := some 77) (v := ?_) (a' := ?_) #[true, true, true, true, true, true, true, true, true, true, true, true, false] rfl rfl (any_of HT_.out (by kernel_rfl)) (fun _ _ _ h => h) (Or.inl ⟨by rfl, ?_⟩) ?_ ?_
                              rotate_left
                              · intro w'
                                go_simp
                                with_reducible rfl
                              rotate_left
                              · simp only [Act.put, List.setIfInBounds_toArray, List.set_cons_zero, List.set_cons_succ, i64_w, i32_w]
                                rfl
                              refine pure_ (i := 12) (N := some 13) (v := ?_) (a' := ?_) #[true, true, true, true, true, true, true, true, true, true, true, true, true] rfl rfl (any_of HT_.out (by kernel_rfl)) (fun _ _ _ h => h) (Or.inl ⟨by rfl, ?_⟩) ?_ ?_
                              rotate_left
                              · intro w'
                                go_simp
                                with_reducible rfl
                              rotate_left
                              · simp only [Act.put, List.setIfInBounds_toArray, List.set_cons_zero, List.set_cons_succ, i64_w, i32_w]
                                rfl
                              refine done_ (done_of HT_.out (by kernel_rfl)) ?_
                              try go_wp2
                              go_roundg kj11
                              case measure => have := HK1.out; have := HJ11.out; omega
                              case rel => exact ⟨(x13_1 ++ t399), (wrap64 (x14_1 + 1)), (by first | rfl | (simp; done) | (simp [*]; done)), (by first | rfl | (simp; done) | (simp [*]; done)), H', ⟨by have := HK1.out; have := HJ11.out; omega⟩, ⟨by (with_reducible repeat (first | apply Kd.R_alloc | apply Kd.R_drewN | apply Kd.R_drew)); exact HO_11.out⟩, ⟨by (with_reducible repeat (first | refine blk_drewN ?_ _ | refine blk_drew ?_ | refine blk_alloc ?_ _)); exact BK387.out⟩, ⟨by repeat (first | (with_reducible first | exact HB.out | apply below_alloc | apply pw_below_drewN | apply below_drew1 | refine below_set ?_ GE387.out) | exact HB.out)⟩⟩
                            · rw [if_neg c37] at H
                              exact absurd H (by simp)
                          · rw [if_neg c34] at H
                            exact absurd H (by simp)
                        · rw [if_neg c33] at H
                          exact absurd H (by simp)
                      · rw [if_neg c32] at H
                        exact absurd H (by simp)
                    · rw [if_neg c31] at H
                      have c31b0 : ((bt x13_1 (ji27)) == 58) = false := beq_eq_false_iff_ne.mpr c31
                      have c31b1 : ((bt x13_1 (ji27)) != 58) = true := bne_iff_ne.mpr c31
                      by_cases c41 : x13_1.size + 1 ≤ 9223372036854775807
                      · rw [if_pos c41] at H
                        have c41b0 := eq_true c41
                        have c41b1 : decide (x13_1.size + 1 ≤ 9223372036854775807) = true := decide_eq_true c41
                        try have c41b2 : (9223372036854775807 < x13_1.size + 1) = False := eq_false (Nat.not_lt.2 c41)
                        by_cases c42 : 0 ≤ x14_1
                        · rw [if_pos c42] at H
                          have c42b0 : decide (0 ≤ x14_1) = true := decide_eq_true c42
                          clear c42
                          by_cases c43 : x14_1 < (t388.length : Int)
                          · rw [if_pos c43] at H
                            have c43b0 : decide (x14_1 < (t388.length : Int)) = true := decide_eq_true c43
                            clear c43
                            by_cases c44 : 0 ≤ (Go.bits .and .i64 x14_1 3)
                            · rw [if_pos c44] at H
                              have c44b0 := eq_true c44
                              have c44b1 : decide (0 ≤ (Go.bits .and .i64 x14_1 3)) = true := decide_eq_true c44
                              clear c44
                              obtain ⟨ji45, hji45⟩ : ∃ j_ : Int, (shr .i64 a2 (Go.bits .and .i64 x14_1 3)) = j_ := ⟨_, rfl⟩
                              replace H : ((crosswaylaw03_spelt.f kj11 (rd t388 x14_1) (Go.bits .and .i64 (ji45) 7)).bind fun t401 => (if (x13_1 ++ (⟨#[58]⟩ : ByteArray)).size + t401.size ≤ 9223372036854775807 then (crosswaylaw03_AddrSpelt.l0 kj11 a2 t386 t388 (Go.bits .and .i64 a3 7) ((x13_1 ++ (⟨#[58]⟩ : ByteArray)) ++ t401) (wrap64 (x14_1 + 1)) true a0 a1) else (none))) = some r := by first | (rw [hji45] at H; exact H) | (simp only [hji45] at H ⊢; exact H)
                              have hji45_ : (a2 / 2 ^ min (Go.bits .and .i64 x14_1 3).toNat 64) = ji45 := hji45
                              have hji45z : (Go.bits .and .i64 x14_1 3) ≤ 64 → (a2 / 2 ^ (Go.bits .and .i64 x14_1 3).toNat) = ji45 := shr_small hji45
                              replace H := Option.bind_eq_some_iff.mp H
                              obtain ⟨t401, A460, H⟩ := H
                              replace H : (if (x13_1 ++ (⟨#[58]⟩ : ByteArray)).size + t401.size ≤ 9223372036854775807 then (crosswaylaw03_AddrSpelt.l0 kj11 a2 t386 t388 (Go.bits .and .i64 a3 7) ((x13_1 ++ (⟨#[58]⟩ : ByteArray)) ++ t401) (wrap64 (x14_1 + 1)) true a0 a1) else (none)) = some r := H
                              have A46 := Aside0.mk A460
                              clear A460
                              by_cases c47 : (x13_1 ++ (⟨#[58]⟩ : ByteArray)).size + t401.size ≤ 9223372036854775807
                              · rw [if_pos c47] at H
                                have c47b0 := eq_true c47
                                have c47b1 : decide ((x13_1 ++ (⟨#[58]⟩ : ByteArray)).size + t401.size ≤ 9223372036854775807) = true := decide_eq_true c47
                                try have c47b2 : (9223372036854775807 < (x13_1 ++ (⟨#[58]⟩ : ByteArray)).size + t401.size) = False := eq_false (Nat.not_lt.2 c47)
                                have c47z : x13_1.size + 1 + t401.size ≤ 9223372036854775807 := by have h_ := c47; rw [ByteArray.size_append] at h_; exact h_
                                have c47z0 := eq_true c47z
                                have c47z1 : decide (x13_1.size + 1 + t401.size ≤ 9223372036854775807) = true := decide_eq_true c47z
                                have c47z2 : (9223372036854775807 < x13_1.size + 1 + t401.size) = False := eq_false (Nat.not_lt.2 c47z)
                                have H' := Aside0.mk H
                                clear H
                                have p30 : 0 ≤ ((ji27) : Int) := of_decide_eq_true (by first | (with_reducible assumption) | assumption)
                                have q30 : (ji27) < (x13_1.size : Int) := of_decide_eq_true (by first | (with_reducible assumption) | assumption)
                                have hx30 := bt_at x13_1 (ji27)
                                replace p30 := eq_true p30
                                replace q30 := eq_true q30
                                try go_wp2
                                have n0_ := Aside0.mk (Kd.R_drew HO_11.out)
                                have n1_ := Aside0.mk (blk_drew BK387.out)
                                have n2_ := Aside0.mk (below_drew1 HB.out)
                                clear HO_11
                                clear BK387
                                clear HB
                                have HO_11 := n0_
                                have BK387 := n1_
                                have HB := n2_
                                clear n0_ n1_ n2_
                                obtain ⟨Ao49, co49, eo49⟩ := Kd.R_slice HO_11.out
                                (first | subst eo49 | (injection eo49 with f1_ f2_ f3_; have f4_ := f1_.symm; have f5_ := f3_.symm; clear f1_ f2_ f3_; subst f4_; subst f5_))
                                have p400 : 0 ≤ (x14_1 : Int) := of_decide_eq_true (by first | (with_reducible assumption) | assumption)
                                have q400 : x14_1 < (t388.length : Int) := of_decide_eq_true (by first | (with_reducible assumption) | assumption)
                                obtain ⟨ad400, e400, hx400_0⟩ := Kd.at_int (Kd.R_reads' HO_11.out).2.2 x14_1 p400 q400
                                cases e400
                                replace p400 := eq_true p400
                                replace q400 := eq_true q400
                                refine start_ (n := 13) (S := fun w' => w'.cell? (ad400.add (x14_1).toNat) = some (.int .u64 (rd t388 x14_1))) (ds := []) #[false, false, false, false, false, false, false, false, false, false, false, false, false] (by kernel_rfl) rfl rfl (hx400_0) (fun hHeld => ?_); refine with_tabW crosswaylaw03_AddrSpelt.tab16 crosswaylaw03_AddrSpelt.bits16 (fun HT_ HW_ => ?_)
                                generalize wc.drew = w48 at HO_11 BK387 HB hx400_0 hHeld ⊢
                                refine pure_ (i := 0) (N := some 66) (v := ?_) (a' := ?_) #[true, false, false, false, false, false, false, false, false, false, false, false, false] rfl rfl (any_of HT_.out (by kernel_rfl)) (fun _ _ _ h => h) (Or.inl ⟨by rfl, ?_⟩) ?_ ?_
                                rotate_left
                                · intro w'
                                  go_simp
                                  with_reducible rfl
                                rotate_left
                                · simp only [Act.put, List.setIfInBounds_toArray, List.set_cons_zero, List.set_cons_succ, i64_w, i32_w]
                                  rfl
                                refine pure_ (i := 1) (N := some 67) (v := ?_) (a' := ?_) #[true, true, false, false, false, false, false, false, false, false, false, false, false] rfl rfl (any_of HT_.out (by kernel_rfl)) (fun _ _ _ h => h) (Or.inl ⟨by rfl, ?_⟩) ?_ ?_
                                rotate_left
                                · intro w'
                                  go_simp
                                  with_reducible rfl
                                rotate_left
                                · simp only [Act.put, List.setIfInBounds_toArray, List.set_cons_zero, List.set_cons_succ, i64_w, i32_w]
                                  rfl
                                refine pure_ (i := 2) (N := some 68) (v := ?_) (a' := ?_) #[true, true, true, false, false, false, false, false, false, false, false, false, false] rfl rfl (any_of HT_.out (by kernel_rfl)) (fun _ _ _ h => h) (Or.inl ⟨by rfl, ?_⟩) ?_ ?_
                                rotate_left
                                · intro w'
                                  go_simp
                                  with_reducible rfl
                                rotate_left
                                · simp only [Act.put, List.setIfInBounds_toArray, List.set_cons_zero, List.set_cons_succ, i64_w, i32_w]
                                  rfl
                                refine pure_ (i := 3) (N := some 69) (v := ?_) (a' := ?_) #[true, true, true, true, false, false, false, false, false, false, false, false, false] rfl rfl (any_of HT_.out (by kernel_rfl)) (fun _ _ _ h => h) (Or.inl ⟨by rfl, ?_⟩) ?_ ?_
                                rotate_left
                                · intro w'
                                  go_simp
                                  with_reducible rfl
                                rotate_left
                                · simp only [Act.put, List.setIfInBounds_toArray, List.set_cons_zero, List.set_cons_succ, i64_w, i32_w]
                                  rfl
                                refine pure_ (i := 5) (N := some 71) (v := ?_) (a' := ?_) #[true, true, true, true, false, true, false, false, false, false, false, false, false] rfl rfl (any_of HT_.out (by kernel_rfl)) (fun _ _ _ h => h) (Or.inl ⟨by rfl, ?_⟩) ?_ ?_
                                rotate_left
                                · intro w'
                                  go_simp
                                  with_reducible rfl
                                rotate_left
                                · simp only [Act.put, List.setIfInBounds_toArray, List.set_cons_zero, List.set_cons_succ, i64_w, i32_w]
                                  rfl
                                refine pure_ (i := 6) (N := some 72) (v := ?_) (a' := ?_) #[true, true, true, true, false, true, true, false, false, false, false, false, false] rfl rfl (any_of HT_.out (by kernel_rfl)) (fun _ _ _ h => h) (Or.inl ⟨by rfl, ?_⟩) ?_ ?_
                                rotate_left
                                · intro w'
                                  go_simp
                                  with_reducible rfl
                                rotate_left
                                · simp only [Act.put, List.setIfInBounds_toArray, List.set_cons_zero, List.set_cons_succ, i64_w, i32_w]
                                  rfl
                                refine pure_ (i := 7) (N := some 73) (v := ?_) (a' := ?_) #[true, true, true, true, false, true, true, true, false, false, false, false, false] rfl rfl (any_of HT_.out (by kernel_rfl)) (fun _ _ _ h => h) (Or.inl ⟨by rfl, ?_⟩) ?_ ?_
                                rotate_left
                                · intro w'
                                  go_simp
                                  with_reducible rfl
                                rotate_left
                                · simp only [Act.put, List.setIfInBounds_toArray, List.set_cons_zero, List.set_cons_succ, i64_w, i32_w]
                                  rfl
                                refine pure_ (i := 8) (N := some 74) (v := ?_) (a' := ?_) #[true, true, true, true, false, true, true, true, true, false, false, false, false] rfl rfl (any_of HT_.out (by kernel_rfl)) (fun _ _ _ h => h) (Or.inl ⟨by rfl, ?_⟩) ?_ ?_
                                rotate_left
                                · intro w'
                                  go_simp
                                  with_reducible rfl
                                rotate_left
                                · simp only [Act.put, List.setIfInBounds_toArray, List.set_cons_zero, List.set_cons_succ, i64_w, i32_w]
                                  rfl
                                refine pure_ (i := 9) (N := some 75) (v := ?_) (a' := ?_) #[true, true, true, true, false, true, true, true, true, true, false, false, false] rfl rfl (any_of HT_.out (by kernel_rfl)) (fun _ _ _ h => h) (Or.inl ⟨by rfl, ?_⟩) ?_ ?_
                                rotate_left
                                · intro w'
                                  go_simp
                                  with_reducible rfl
                                rotate_left
                                · simp only [Act.put, List.setIfInBounds_toArray, List.set_cons_zero, List.set_cons_succ, i64_w, i32_w]
                                  rfl
                                refine take_ (i := 4) (N := some 70) (v := ?_) (a' := ?_) #[true, true, true, true, true, true, true, true, true, true, false, false, false] rfl rfl (take_ofW HT_.out HW_.out (by kernel_rfl)) (fun _ _ _ h => h) (Or.inl ⟨by rfl, ?_⟩) hHeld ?_ ?_
                                rotate_left
                                · intro w' s0
                                  go_simp
                                  with_reducible rfl
                                rotate_left
                                · simp only [Act.put, List.setIfInBounds_toArray, List.set_cons_zero, List.set_cons_succ, i64_w, i32_w]
                                  rfl
                                refine one_ (i := 10) (N := some 76) #[true, true, true, true, true, true, true, true, true, true, true, false, false] rfl rfl (one_of HT_.out (by kernel_rfl)) (by decide) (fun K hK => ?_)
                                refine goes_ Tryd.func24 (by kernel_rfl) rfl #[.int .u64 (rd t388 x14_1), .int .i64 (Go.bits .and .i64 (ji45) 7)] (by rfl) rfl rfl (by (try simp only [List.map_toArray, List.map_cons, List.map_nil]); first | done | (simp only [hji45]; rfl) | rfl | (simp only [List.length_drop, List.length_take]; rfl)) ?_
                                with_reducible refine (crosswaylaw03_spelt.calls kj11 (rd t388 x14_1) (Go.bits .and .i64 (ji45) 7) t401 _ A46.out).mono ?_
                                rintro e w50 ⟨rfl, hb⟩
                                have HS0_ := (hb.cell (World.block_lt_of_cell? _ _ (hHeld))).trans (hHeld)
                                refine ⟨_, rfl, ?_⟩
                                have n0_ := Aside0.mk (Kd.R_below (by (with_reducible repeat (first | apply Kd.R_alloc | apply Kd.R_drewN | apply Kd.R_drew)); exact HO_11.out) hb)
                                have n1_ := Aside0.mk (blk_below (g := gb387) (o := .cells #[.bool true, .int .u64 a0, .int .u64 a1] 25 (0, 0)) (by (with_reducible repeat (first | refine blk_drewN ?_ _ | refine blk_drew ?_ | refine blk_alloc ?_ _)); exact BK387.out) hb)
                                have n2_ := Aside0.mk (below_step (by repeat (first | (with_reducible first | exact HB.out | apply below_alloc | apply pw_below_drewN | apply below_drew1 | refine below_set ?_ GE387.out) | exact HB.out)) hb)
                                clear HO_11
                                clear BK387
                                clear HB
                                have HO_11 := n0_
                                have BK387 := n1_
                                have HB := n2_
                                clear n0_ n1_ n2_
                                (try clear hb)
                                (try clear hb2)
                                (try clear hk)
                                (try clear hi)
                                refine hK.out _ _ (HS0_) (fun hHeld => ?_)
                                clear hK K
                                refine norm_ (a' := ?_) ?_ ?_
                                rotate_left
                                · show Act.put _ (some 76) _ = _
                                  simp only [Act.put, List.setIfInBounds_toArray, List.set_cons_zero, List.set_cons_succ, i64_w, i32_w]
                                  rfl
                                refine pure_ (i := 11) (N := some 77) (v := ?_) (a' := ?_) #[true, true, true, true, true, true, true, true, true, true, true, true, false] rfl rfl (any_of HT_.out (by kernel_rfl)) (fun _ _ _ h => h) (Or.inl ⟨by rfl, ?_⟩) ?_ ?_
                                rotate_left
                                · intro w'
                                  go_simp
                                  with_reducible rfl
                                rotate_left
                                · simp only [Act.put, List.setIfInBounds_toArray, List.set_cons_zero, List.set_cons_succ, i64_w, i32_w]
                                  rfl
                                refine pure_ (i := 12) (N := some 13) (v := ?_) (a' := ?_) #[true, true, true, true, true, true, true, true, true, true, true, true, true] rfl rfl (any_of HT_.out (by kernel_rfl)) (fun _ _ _ h => h) (Or.inl ⟨by rfl, ?_⟩) ?_ ?_
                                rotate_left
                                · intro w'
                                  go_simp
                                  with_reducible rfl
                                rotate_left
                                · simp only [Act.put, List.setIfInBounds_toArray, List.set_cons_zero, List.set_cons_succ, i64_w, i32_w]
                                  rfl
                                refine done_ (done_of HT_.out (by kernel_rfl)) ?_
                                try go_wp2
                                go_roundg kj11
                                case measure => have := HK1.out; have := HJ11.out; omega
                                case rel => exact ⟨((x13_1 ++ (⟨#[58]⟩ : ByteArray)) ++ t401), (wrap64 (x14_1 + 1)), (by first | rfl | (simp; done) | (simp [*]; done)), (by first | rfl | (simp; done) | (simp [*]; done)), H', ⟨by have := HK1.out; have := HJ11.out; omega⟩, ⟨by (with_reducible repeat (first | apply Kd.R_alloc | apply Kd.R_drewN | apply Kd.R_drew)); exact HO_11.out⟩, ⟨by (with_reducible repeat (first | refine blk_drewN ?_ _ | refine blk_drew ?_ | refine blk_alloc ?_ _)); exact BK387.out⟩, ⟨by repeat (first | (with_reducible first | exact HB.out | apply below_alloc | apply pw_below_drewN | apply below_drew1 | refine below_set ?_ GE387.out) | exact HB.out)⟩⟩
                              · rw [if_neg c47] at H
                                exact absurd H (by simp)
                            · rw [if_neg c44] at H
                              exact absurd H (by simp)
                          · rw [if_neg c43] at H
                            exact absurd H (by simp)
                        · rw [if_neg c42] at H
                          exact absurd H (by simp)
                      · rw [if_neg c41] at H
                        exact absurd H (by simp)
                  · rw [if_neg c29] at H
                    exact absurd H (by simp)
                · rw [if_neg c28] at H
                  exact absurd H (by simp)
              · rw [if_neg c26] at H
                have c26b0 : decide (0 < x14_1) = false := decide_eq_false c26
                clear c26
                by_cases c51 : 0 ≤ x14_1
                · rw [if_pos c51] at H
                  have c51b0 : decide (0 ≤ x14_1) = true := decide_eq_true c51
                  clear c51
                  by_cases c52 : x14_1 < (t388.length : Int)
                  · rw [if_pos c52] at H
                    have c52b0 : decide (x14_1 < (t388.length : Int)) = true := decide_eq_true c52
                    clear c52
                    by_cases c53 : 0 ≤ (Go.bits .and .i64 x14_1 3)
                    · rw [if_pos c53] at H
                      have c53b0 := eq_true c53
                      have c53b1 : decide (0 ≤ (Go.bits .and .i64 x14_1 3)) = true := decide_eq_true c53
                      clear c53
                      obtain ⟨ji54, hji54⟩ : ∃ j_ : Int, (shr .i64 a2 (Go.bits .and .i64 x14_1 3)) = j_ := ⟨_, rfl⟩
                      replace H : ((crosswaylaw03_spelt.f kj11 (rd t388 x14_1) (Go.bits .and .i64 (ji54) 7)).bind fun t403 => (if x13_1.size + t403.size ≤ 9223372036854775807 then (crosswaylaw03_AddrSpelt.l0 kj11 a2 t386 t388 (Go.bits .and .i64 a3 7) (x13_1 ++ t403) (wrap64 (x14_1 + 1)) true a0 a1) else (none))) = some r := by first | (rw [hji54] at H; exact H) | (simp only [hji54] at H ⊢; exact H)
                      have hji54_ : (a2 / 2 ^ min (Go.bits .and .i64 x14_1 3).toNat 64) = ji54 := hji54
                      have hji54z : (Go.bits .and .i64 x14_1 3) ≤ 64 → (a2 / 2 ^ (Go.bits .and .i64 x14_1 3).toNat) = ji54 := shr_small hji54
                      replace H := Option.bind_eq_some_iff.mp H
                      obtain ⟨t403, A550, H⟩ := H
                      replace H : (if x13_1.size + t403.size ≤ 9223372036854775807 then (crosswaylaw03_AddrSpelt.l0 kj11 a2 t386 t388 (Go.bits .and .i64 a3 7) (x13_1 ++ t403) (wrap64 (x14_1 + 1)) true a0 a1) else (none)) = some r := H
                      have A55 := Aside0.mk A550
                      clear A550
                      by_cases c56 : x13_1.size + t403.size ≤ 9223372036854775807
                      · rw [if_pos c56] at H
                        have c56b0 := eq_true c56
                        have c56b1 : decide (x13_1.size + t403.size ≤ 9223372036854775807) = true := decide_eq_true c56
                        try have c56b2 : (9223372036854775807 < x13_1.size + t403.size) = False := eq_false (Nat.not_lt.2 c56)
                        have H' := Aside0.mk H
                        clear H
                        try go_wp2
                        have n0_ := Aside0.mk (Kd.R_drew HO_11.out)
                        have n1_ := Aside0.mk (blk_drew BK387.out)
                        have n2_ := Aside0.mk (below_drew1 HB.out)
                        clear HO_11
                        clear BK387
                        clear HB
                        have HO_11 := n0_
                        have BK387 := n1_
                        have HB := n2_
                        clear n0_ n1_ n2_
                        obtain ⟨Ao58, co58, eo58⟩ := Kd.R_slice HO_11.out
                        (first | subst eo58 | (injection eo58 with f1_ f2_ f3_; have f4_ := f1_.symm; have f5_ := f3_.symm; clear f1_ f2_ f3_; subst f4_; subst f5_))
                        have p402 : 0 ≤ (x14_1 : Int) := of_decide_eq_true (by first | (with_reducible assumption) | assumption)
                        have q402 : x14_1 < (t388.length : Int) := of_decide_eq_true (by first | (with_reducible assumption) | assumption)
                        obtain ⟨ad402, e402, hx402_0⟩ := Kd.at_int (Kd.R_reads' HO_11.out).2.2 x14_1 p402 q402
                        cases e402
                        replace p402 := eq_true p402
                        replace q402 := eq_true q402
                        refine start_ (n := 13) (S := fun w' => w'.cell? (ad402.add (x14_1).toNat) = some (.int .u64 (rd t388 x14_1))) (ds := []) #[false, false, false, false, false, false, false, false, false, false, false, false, false] (by kernel_rfl) rfl rfl (hx402_0) (fun hHeld => ?_); refine with_tabW crosswaylaw03_AddrSpelt.tab16 crosswaylaw03_AddrSpelt.bits16 (fun HT_ HW_ => ?_)
                        generalize wc.drew = w57 at HO_11 BK387 HB hx402_0 hHeld ⊢
                        refine pure_ (i := 0) (N := some 66) (v := ?_) (a' := ?_) #[true, false, false, false, false, false, false, false, false, false, false, false, false] rfl rfl (any_of HT_.out (by kernel_rfl)) (fun _ _ _ h => h) (Or.inl ⟨by rfl, ?_⟩) ?_ ?_
                        rotate_left
                        · intro w'
                          go_simp
                          with_reducible rfl
                        rotate_left
                        · simp only [Act.put, List.setIfInBounds_toArray, List.set_cons_zero, List.set_cons_succ, i64_w, i32_w]
                          rfl
                        refine pure_ (i := 1) (N := some 67) (v := ?_) (a' := ?_) #[true, true, false, false, false, false, false, false, false, false, false, false, false] rfl rfl (any_of HT_.out (by kernel_rfl)) (fun _ _ _ h => h) (Or.inl ⟨by rfl, ?_⟩) ?_ ?_
                        rotate_left
                        · intro w'
                          go_simp
                          with_reducible rfl
                        rotate_left
                        · simp only [Act.put, List.setIfInBounds_toArray, List.set_cons_zero, List.set_cons_succ, i64_w, i32_w]
                          rfl
                        refine pure_ (i := 2) (N := some 68) (v := ?_) (a' := ?_) #[true, true, true, false, false, false, false, false, false, false, false, false, false] rfl rfl (any_of HT_.out (by kernel_rfl)) (fun _ _ _ h => h) (Or.inl ⟨by rfl, ?_⟩) ?_ ?_
                        rotate_left
                        · intro w'
                          go_simp
                          with_reducible rfl
                        rotate_left
                        · simp only [Act.put, List.setIfInBounds_toArray, List.set_cons_zero, List.set_cons_succ, i64_w, i32_w]
                          rfl
                        refine pure_ (i := 3) (N := some 69) (v := ?_) (a' := ?_) #[true, true, true, true, false, false, false, false, false, false, false, false, false] rfl rfl (any_of HT_.out (by kernel_rfl)) (fun _ _ _ h => h) (Or.inl ⟨by rfl, ?_⟩) ?_ ?_
                        rotate_left
                        · intro w'
                          go_simp
                          with_reducible rfl
                        rotate_left
                        · simp only [Act.put, List.setIfInBounds_toArray, List.set_cons_zero, List.set_cons_succ, i64_w, i32_w]
                          rfl
                        refine pure_ (i := 5) (N := some 71) (v := ?_) (a' := ?_) #[true, true, true, true, false, true, false, false, false, false, false, false, false] rfl rfl (any_of HT_.out (by kernel_rfl)) (fun _ _ _ h => h) (Or.inl ⟨by rfl, ?_⟩) ?_ ?_
                        rotate_left
                        · intro w'
                          go_simp
                          with_reducible rfl
                        rotate_left
                        · simp only [Act.put, List.setIfInBounds_toArray, List.set_cons_zero, List.set_cons_succ, i64_w, i32_w]
                          rfl
                        refine pure_ (i := 6) (N := some 72) (v := ?_) (a' := ?_) #[true, true, true, true, false, true, true, false, false, false, false, false, false] rfl rfl (any_of HT_.out (by kernel_rfl)) (fun _ _ _ h => h) (Or.inl ⟨by rfl, ?_⟩) ?_ ?_
                        rotate_left
                        · intro w'
                          go_simp
                          with_reducible rfl
                        rotate_left
                        · simp only [Act.put, List.setIfInBounds_toArray, List.set_cons_zero, List.set_cons_succ, i64_w, i32_w]
                          rfl
                        refine pure_ (i := 7) (N := some 73) (v := ?_) (a' := ?_) #[true, true, true, true, false, true, true, true, false, false, false, false, false] rfl rfl (any_of HT_.out (by kernel_rfl)) (fun _ _ _ h => h) (Or.inl ⟨by rfl, ?_⟩) ?_ ?_
                        rotate_left
                        · intro w'
                          go_simp
                          with_reducible rfl
                        rotate_left
                        · simp only [Act.put, List.setIfInBounds_toArray, List.set_cons_zero, List.set_cons_succ, i64_w, i32_w]
                          rfl
                        refine pure_ (i := 8) (N := some 74) (v := ?_) (a' := ?_) #[true, true, true, true, false, true, true, true, true, false, false, false, false] rfl rfl (any_of HT_.out (by kernel_rfl)) (fun _ _ _ h => h) (Or.inl ⟨by rfl, ?_⟩) ?_ ?_
                        rotate_left
                        · intro w'
                          go_simp
                          with_reducible rfl
                        rotate_left
                        · simp only [Act.put, List.setIfInBounds_toArray, List.set_cons_zero, List.set_cons_succ, i64_w, i32_w]
                          rfl
                        refine pure_ (i := 9) (N := some 75) (v := ?_) (a' := ?_) #[true, true, true, true, false, true, true, true, true, true, false, false, false] rfl rfl (any_of HT_.out (by kernel_rfl)) (fun _ _ _ h => h) (Or.inl ⟨by rfl, ?_⟩) ?_ ?_
                        rotate_left
                        · intro w'
                          go_simp
                          with_reducible rfl
                        rotate_left
                        · simp only [Act.put, List.setIfInBounds_toArray, List.set_cons_zero, List.set_cons_succ, i64_w, i32_w]
                          rfl
                        refine take_ (i := 4) (N := some 70) (v := ?_) (a' := ?_) #[true, true, true, true, true, true, true, true, true, true, false, false, false] rfl rfl (take_ofW HT_.out HW_.out (by kernel_rfl)) (fun _ _ _ h => h) (Or.inl ⟨by rfl, ?_⟩) hHeld ?_ ?_
                        rotate_left
                        · intro w' s0
                          go_simp
                          with_reducible rfl
                        rotate_left
                        · simp only [Act.put, List.setIfInBounds_toArray, List.set_cons_zero, List.set_cons_succ, i64_w, i32_w]
                          rfl
                        refine one_ (i := 10) (N := some 76) #[true, true, true, true, true, true, true, true, true, true, true, false, false] rfl rfl (one_of HT_.out (by kernel_rfl)) (by decide) (fun K hK => ?_)
                        refine goes_ Tryd.func24 (by kernel_rfl) rfl #[.int .u64 (rd t388 x14_1), .int .i64 (Go.bits .and .i64 (ji54) 7)] (by rfl) rfl rfl (by (try simp only [List.map_toArray, List.map_cons, List.map_nil]); first | done | (simp only [hji54]; rfl) | rfl | (simp only [List.length_drop, List.length_take]; rfl)) ?_
                        with_reducible refine (crosswaylaw03_spelt.calls kj11 (rd t388 x14_1) (Go.bits .and .i64 (ji54) 7) t403 _ A55.out).mono ?_
                        rintro e w59 ⟨rfl, hb⟩
                        have HS0_ := (hb.cell (World.block_lt_of_cell? _ _ (hHeld))).trans (hHeld)
                        refine ⟨_, rfl, ?_⟩
                        have n0_ := Aside0.mk (Kd.R_below (by (with_reducible repeat (first | apply Kd.R_alloc | apply Kd.R_drewN | apply Kd.R_drew)); exact HO_11.out) hb)
                        have n1_ := Aside0.mk (blk_below (g := gb387) (o := .cells #[.bool true, .int .u64 a0, .int .u64 a1] 25 (0, 0)) (by (with_reducible repeat (first | refine blk_drewN ?_ _ | refine blk_drew ?_ | refine blk_alloc ?_ _)); exact BK387.out) hb)
                        have n2_ := Aside0.mk (below_step (by repeat (first | (with_reducible first | exact HB.out | apply below_alloc | apply pw_below_drewN | apply below_drew1 | refine below_set ?_ GE387.out) | exact HB.out)) hb)
                        clear HO_11
                        clear BK387
                        clear HB
                        have HO_11 := n0_
                        have BK387 := n1_
                        have HB := n2_
                        clear n0_ n1_ n2_
                        (try clear hb)
                        (try clear hb2)
                        (try clear hk)
                        (try clear hi)
                        refine hK.out _ _ (HS0_) (fun hHeld => ?_)
                        clear hK K
                        refine norm_ (a' := ?_) ?_ ?_
                        rotate_left
                        · show Act.put _ (some 76) _ = _
                          simp only [Act.put, List.setIfInBounds_toArray, List.set_cons_zero, List.set_cons_succ, i64_w, i32_w]
                          rfl
                        refine pure_ (i := 11) (N := some 77) (v := ?_) (a' := ?_) #[true, true, true, true, true, true, true, true, true, true, true, true, false] rfl rfl (any_of HT_.out (by kernel_rfl)) (fun _ _ _ h => h) (Or.inl ⟨by rfl, ?_⟩) ?_ ?_
                        rotate_left
                        · intro w'
                          go_simp
                          with_reducible rfl
                        rotate_left
                        · simp only [Act.put, List.setIfInBounds_toArray, List.set_cons_zero, List.set_cons_succ, i64_w, i32_w]
                          rfl
                        refine pure_ (i := 12) (N := some 13) (v := ?_) (a' := ?_) #[true, true, true, true, true, true, true, true, true, true, true, true, true] rfl rfl (any_of HT_.out (by kernel_rfl)) (fun _ _ _ h => h) (Or.inl ⟨by rfl, ?_⟩) ?_ ?_
                        rotate_left
                        · intro w'
                          go_simp
                          with_reducible rfl
                        rotate_left
                        · simp only [Act.put, List.setIfInBounds_toArray, List.set_cons_zero, List.set_cons_succ, i64_w, i32_w]
                          rfl
                        refine done_ (done_of HT_.out (by kernel_rfl)) ?_
                        try go_wp2
                        go_roundg kj11
                        case measure => have := HK1.out; have := HJ11.out; omega
                        case rel => exact ⟨(x13_1 ++ t403), (wrap64 (x14_1 + 1)), (by first | rfl | (simp; done) | (simp [*]; done)), (by first | rfl | (simp; done) | (simp [*]; done)), H', ⟨by have := HK1.out; have := HJ11.out; omega⟩, ⟨by (with_reducible repeat (first | apply Kd.R_alloc | apply Kd.R_drewN | apply Kd.R_drew)); exact HO_11.out⟩, ⟨by (with_reducible repeat (first | refine blk_drewN ?_ _ | refine blk_drew ?_ | refine blk_alloc ?_ _)); exact BK387.out⟩, ⟨by repeat (first | (with_reducible first | exact HB.out | apply below_alloc | apply pw_below_drewN | apply below_drew1 | refine below_set ?_ GE387.out) | exact HB.out)⟩⟩
                      · rw [if_neg c56] at H
                        exact absurd H (by simp)
                    · rw [if_neg c53] at H
                      exact absurd H (by simp)
                  · rw [if_neg c52] at H
                    exact absurd H (by simp)
                · rw [if_neg c51] at H
                  exact absurd H (by simp)
      · rw [if_neg c11] at H
        have c11b0 : decide (x14_1 < 8) = false := decide_eq_false c11
        clear c11
        replace H := Option.bind_eq_some_iff.mp H
        obtain ⟨⟨t391, t392, t393, t394⟩, A600, H⟩ := H
        replace H : (if t386 = true then (if t394 = 0 then (some (t391 == true && (t392 == a0 && (t393 == a1)))) else (some false)) else (some false)) = some r := H
        have A60 := Aside0.mk A600
        clear A600
        by_cases c61 : t386 = true
        · subst c61
          have H1 : (if t394 = 0 then (some (t391 == true && (t392 == a0 && (t393 == a1)))) else (some false)) = some r := by rw [if_pos rfl] at H; exact H
          clear H
          have H := H1
          clear H1
          by_cases c62 : t394 = 0
          · rw [if_pos c62] at H
            have c62b0 : (t394 == 0) = true := beq_iff_eq.mpr c62
            have c62b1 : (t394 != 0) = false := bne_eq_false_iff_eq.mpr c62
            clear c62
            obtain rfl := Option.some.inj H
            go_wp2_with (first | ((with_reducible refine gate_callee (f := 9) rfl ?_); refine goesL_ (some 80) rfl rfl Tryd.func9 (by kernel_rfl) rfl #[.string x13_1] rfl (by (try simp only [List.map_toArray, List.map_cons, List.map_nil]); first | done | rfl | (simp only [List.length_drop, List.length_take]; rfl)) ?_; (with_reducible refine (addr_Parse.calls k1 x13_1 t391 t392 t393 t394 _ A60.out (HGV.out.below (by repeat (first | (with_reducible first | exact HB.out | apply below_alloc | apply pw_below_drewN | apply below_drew1 | refine below_set ?_ GE387.out) | exact HB.out)))).mono ?_); rintro e w63 ⟨rfl, hb⟩; refine ⟨_, rfl, ?_⟩; have n0_ := Aside0.mk (Kd.R_below (by (with_reducible repeat (first | apply Kd.R_alloc | apply Kd.R_drewN | apply Kd.R_drew)); exact HO_11.out) hb); have n1_ := Aside0.mk (blk_below (g := gb387) (o := .cells #[.bool true, .int .u64 a0, .int .u64 a1] 25 (0, 0)) (by (with_reducible repeat (first | refine blk_drewN ?_ _ | refine blk_drew ?_ | refine blk_alloc ?_ _)); exact BK387.out) hb); have n2_ := Aside0.mk (below_step (by repeat (first | (with_reducible first | exact HB.out | apply below_alloc | apply pw_below_drewN | apply below_drew1 | refine below_set ?_ GE387.out) | exact HB.out)) hb); clear HO_11; clear BK387; clear HB; have HO_11 := n0_; have BK387 := n1_; have HB := n2_; clear n0_ n1_ n2_; (try clear hb); (try clear hb2); (try clear hk); (try clear hi)) | ((with_reducible refine gate_dst (N := 15) rfl ?_); (try (refine gate_guard (by rfl) ?_; dsimp only)); refine box_event ?hg (N := 15) ?hd (cs := #[.bool false, .int .u64 0, .int .u64 0]) (t := 25) ?hr ?_; (case hd => rfl); (case hg => rfl); (case hr => first | (go_simp; done) | (go_simp; rfl)); intro gb395 hg w64 hbox hb; have n0_ := Aside0.mk (Kd.R_below (by (with_reducible repeat (first | apply Kd.R_alloc | apply Kd.R_drewN | apply Kd.R_drew)); exact HO_11.out) hb); have n1_ := Aside0.mk (blk_below (g := gb387) (o := .cells #[.bool true, .int .u64 a0, .int .u64 a1] 25 (0, 0)) (by (with_reducible repeat (first | refine blk_drewN ?_ _ | refine blk_drew ?_ | refine blk_alloc ?_ _)); exact BK387.out) hb); have n2_ := Aside0.mk (below_step (by repeat (first | (with_reducible first | exact HB.out | apply below_alloc | apply pw_below_drewN | apply below_drew1 | refine below_set ?_ GE387.out) | exact HB.out)) hb); have n3_ := Aside0.mk (hbox); have n4_ := Aside0.mk ((by rw [hg]; exact (below_size (by repeat (first | (with_reducible first | exact HB.out | apply below_alloc | apply pw_below_drewN | apply below_drew1 | refine below_set ?_ GE387.out) | exact HB.out))) : w.heap.size ≤ gb395)); have n5_ := Aside0.mk ((by rw [hg]; exact (below_size (by repeat (first | (with_reducible first | exact HB.out | apply below_alloc | apply pw_below_drewN | apply below_drew1 | refine below_set ?_ GE387.out) | exact HB.out))) : w.heap.size ≤ gb395)); have n6_ := Aside0.mk ((by rw [hg]; exact Nat.ne_of_lt (blk_lt (g := gb387) (o := .cells #[.bool true, .int .u64 a0, .int .u64 a1] 25 (0, 0)) (by (with_reducible repeat (first | refine blk_drewN ?_ _ | refine blk_drew ?_ | refine blk_alloc ?_ _)); exact BK387.out)) : gb387 ≠ gb395)); have n7_ := Aside0.mk ((by rw [hg]; exact Nat.ne_of_gt (blk_lt (g := gb387) (o := .cells #[.bool true, .int .u64 a0, .int .u64 a1] 25 (0, 0)) (by (with_reducible repeat (first | refine blk_drewN ?_ _ | refine blk_drew ?_ | refine blk_alloc ?_ _)); exact BK387.out)) : gb395 ≠ gb387)); clear HO_11; clear BK387; clear HB; have HO_11 := n0_; have BK387 := n1_; have HB := n2_; have BK395 := n3_; have GW395 := n4_; have GE395 := n5_; have NB387_395 := n6_; have NB395_387 := n7_; clear n0_ n1_ n2_ n3_ n4_ n5_ n6_ n7_; clear hb hbox hg; have hnb65 := NB395_387.out; have hnc65 := NB387_395.out; have hcz66_0 : w64.cell? ⟨gb395, 0, none⟩ = some (.bool false) := (blk_cell BK395.out 0).trans rfl; have hcz66_1 : w64.cell? ⟨gb395, 1, none⟩ = some (.int .u64 0) := (blk_cell BK395.out 1).trans rfl; have hcz66_2 : w64.cell? ⟨gb395, 2, none⟩ = some (.int .u64 0) := (blk_cell BK395.out 2).trans rfl; have hfz66_0 := blk_frozen BK395.out 0; have hfz66_1 := blk_frozen BK395.out 1; have hfz66_2 := blk_frozen BK395.out 2; have hcz67_0 : w64.cell? ⟨gb387, 0, none⟩ = some (.bool true) := (blk_cell BK387.out 0).trans rfl; have hcz67_1 : w64.cell? ⟨gb387, 1, none⟩ = some (.int .u64 a0) := (blk_cell BK387.out 1).trans rfl; have hcz67_2 : w64.cell? ⟨gb387, 2, none⟩ = some (.int .u64 a1) := (blk_cell BK387.out 2).trans rfl; have hfz67_0 := blk_frozen BK387.out 0; have hfz67_1 := blk_frozen BK387.out 1; have hfz67_2 := blk_frozen BK387.out 2))
            go_ret
            exact ⟨by first | rfl | (simp [errW_none, errW_some] <;> rfl) | (simp [*, errW_none, errW_some] <;> rfl), by repeat (first | (with_reducible first | exact HB.out | apply below_alloc | apply pw_below_drewN | apply below_drew1 | refine below_set ?_ GE387.out | refine below_set ?_ GE395.out) | exact HB.out)⟩
          · rw [if_neg c62] at H
            have c62b0 : (t394 == 0) = false := beq_eq_false_iff_ne.mpr c62
            have c62b1 : (t394 != 0) = true := bne_iff_ne.mpr c62
            obtain rfl := Option.some.inj H
            go_wp2_with (first | ((with_reducible refine gate_callee (f := 9) rfl ?_); refine goesL_ (some 80) rfl rfl Tryd.func9 (by kernel_rfl) rfl #[.string x13_1] rfl (by (try simp only [List.map_toArray, List.map_cons, List.map_nil]); first | done | rfl | (simp only [List.length_drop, List.length_take]; rfl)) ?_; (with_reducible refine (addr_Parse.calls k1 x13_1 t391 t392 t393 t394 _ A60.out (HGV.out.below (by repeat (first | (with_reducible first | exact HB.out | apply below_alloc | apply pw_below_drewN | apply below_drew1 | refine below_set ?_ GE387.out) | exact HB.out)))).mono ?_); rintro e w68 ⟨rfl, hb⟩; refine ⟨_, rfl, ?_⟩; have n0_ := Aside0.mk (Kd.R_below (by (with_reducible repeat (first | apply Kd.R_alloc | apply Kd.R_drewN | apply Kd.R_drew)); exact HO_11.out) hb); have n1_ := Aside0.mk (blk_below (g := gb387) (o := .cells #[.bool true, .int .u64 a0, .int .u64 a1] 25 (0, 0)) (by (with_reducible repeat (first | refine blk_drewN ?_ _ | refine blk_drew ?_ | refine blk_alloc ?_ _)); exact BK387.out) hb); have n2_ := Aside0.mk (below_step (by repeat (first | (with_reducible first | exact HB.out | apply below_alloc | apply pw_below_drewN | apply below_drew1 | refine below_set ?_ GE387.out) | exact HB.out)) hb); clear HO_11; clear BK387; clear HB; have HO_11 := n0_; have BK387 := n1_; have HB := n2_; clear n0_ n1_ n2_; (try clear hb); (try clear hb2); (try clear hk); (try clear hi)) | ((with_reducible refine gate_dst (N := 15) rfl ?_); (try (refine gate_guard (by rfl) ?_; dsimp only)); refine box_event ?hg (N := 15) ?hd (cs := #[.bool false, .int .u64 0, .int .u64 0]) (t := 25) ?hr ?_; (case hd => rfl); (case hg => rfl); (case hr => first | (go_simp; done) | (go_simp; rfl)); intro gb395 hg w69 hbox hb; have n0_ := Aside0.mk (Kd.R_below (by (with_reducible repeat (first | apply Kd.R_alloc | apply Kd.R_drewN | apply Kd.R_drew)); exact HO_11.out) hb); have n1_ := Aside0.mk (blk_below (g := gb387) (o := .cells #[.bool true, .int .u64 a0, .int .u64 a1] 25 (0, 0)) (by (with_reducible repeat (first | refine blk_drewN ?_ _ | refine blk_drew ?_ | refine blk_alloc ?_ _)); exact BK387.out) hb); have n2_ := Aside0.mk (below_step (by repeat (first | (with_reducible first | exact HB.out | apply below_alloc | apply pw_below_drewN | apply below_drew1 | refine below_set ?_ GE387.out) | exact HB.out)) hb); have n3_ := Aside0.mk (hbox); have n4_ := Aside0.mk ((by rw [hg]; exact (below_size (by repeat (first | (with_reducible first | exact HB.out | apply below_alloc | apply pw_below_drewN | apply below_drew1 | refine below_set ?_ GE387.out) | exact HB.out))) : w.heap.size ≤ gb395)); have n5_ := Aside0.mk ((by rw [hg]; exact (below_size (by repeat (first | (with_reducible first | exact HB.out | apply below_alloc | apply pw_below_drewN | apply below_drew1 | refine below_set ?_ GE387.out) | exact HB.out))) : w.heap.size ≤ gb395)); have n6_ := Aside0.mk ((by rw [hg]; exact Nat.ne_of_lt (blk_lt (g := gb387) (o := .cells #[.bool true, .int .u64 a0, .int .u64 a1] 25 (0, 0)) (by (with_reducible repeat (first | refine blk_drewN ?_ _ | refine blk_drew ?_ | refine blk_alloc ?_ _)); exact BK387.out)) : gb387 ≠ gb395)); have n7_ := Aside0.mk ((by rw [hg]; exact Nat.ne_of_gt (blk_lt (g := gb387) (o := .cells #[.bool true, .int .u64 a0, .int .u64 a1] 25 (0, 0)) (by (with_reducible repeat (first | refine blk_drewN ?_ _ | refine blk_drew ?_ | refine blk_alloc ?_ _)); exact BK387.out)) : gb395 ≠ gb387)); clear HO_11; clear BK387; clear HB; have HO_11 := n0_; have BK387 := n1_; have HB := n2_; have BK395 := n3_; have GW395 := n4_; have GE395 := n5_; have NB387_395 := n6_; have NB395_387 := n7_; clear n0_ n1_ n2_ n3_ n4_ n5_ n6_ n7_; clear hb hbox hg; have hnb70 := NB395_387.out; have hnc70 := NB387_395.out; have hcz71_0 : w69.cell? ⟨gb395, 0, none⟩ = some (.bool false) := (blk_cell BK395.out 0).trans rfl; have hcz71_1 : w69.cell? ⟨gb395, 1, none⟩ = some (.int .u64 0) := (blk_cell BK395.out 1).trans rfl; have hcz71_2 : w69.cell? ⟨gb395, 2, none⟩ = some (.int .u64 0) := (blk_cell BK395.out 2).trans rfl; have hfz71_0 := blk_frozen BK395.out 0; have hfz71_1 := blk_frozen BK395.out 1; have hfz71_2 := blk_frozen BK395.out 2))
            go_ret
            exact ⟨by first | rfl | (simp [errW_none, errW_some] <;> rfl) | (simp [*, errW_none, errW_some] <;> rfl), by repeat (first | (with_reducible first | exact HB.out | apply below_alloc | apply pw_below_drewN | apply below_drew1 | refine below_set ?_ GE387.out | refine below_set ?_ GE395.out) | exact HB.out)⟩
        · replace c61 := Bool.eq_false_iff.mpr c61
          subst c61
          have H1 : (some false) = some r := by rw [if_neg (show ¬ (false = true) by decide)] at H; exact H
          clear H
          have H := H1
          clear H1
          obtain rfl := Option.some.inj H
          go_wp2_with (first | ((with_reducible refine gate_callee (f := 9) rfl ?_); refine goesL_ (some 80) rfl rfl Tryd.func9 (by kernel_rfl) rfl #[.string x13_1] rfl (by (try simp only [List.map_toArray, List.map_cons, List.map_nil]); first | done | rfl | (simp only [List.length_drop, List.length_take]; rfl)) ?_; (with_reducible refine (addr_Parse.calls k1 x13_1 t391 t392 t393 t394 _ A60.out (HGV.out.below (by repeat (first | (with_reducible first | exact HB.out | apply below_alloc | apply pw_below_drewN | apply below_drew1 | refine below_set ?_ GE387.out) | exact HB.out)))).mono ?_); rintro e w72 ⟨rfl, hb⟩; refine ⟨_, rfl, ?_⟩; have n0_ := Aside0.mk (Kd.R_below (by (with_reducible repeat (first | apply Kd.R_alloc | apply Kd.R_drewN | apply Kd.R_drew)); exact HO_11.out) hb); have n1_ := Aside0.mk (blk_below (g := gb387) (o := .cells #[.bool true, .int .u64 a0, .int .u64 a1] 25 (0, 0)) (by (with_reducible repeat (first | refine blk_drewN ?_ _ | refine blk_drew ?_ | refine blk_alloc ?_ _)); exact BK387.out) hb); have n2_ := Aside0.mk (below_step (by repeat (first | (with_reducible first | exact HB.out | apply below_alloc | apply pw_below_drewN | apply below_drew1 | refine below_set ?_ GE387.out) | exact HB.out)) hb); clear HO_11; clear BK387; clear HB; have HO_11 := n0_; have BK387 := n1_; have HB := n2_; clear n0_ n1_ n2_; (try clear hb); (try clear hb2); (try clear hk); (try clear hi)) | ((with_reducible refine gate_dst (N := 15) rfl ?_); (try (refine gate_guard (by rfl) ?_; dsimp only)); refine box_event ?hg (N := 15) ?hd (cs := #[.bool false, .int .u64 0, .int .u64 0]) (t := 25) ?hr ?_; (case hd => rfl); (case hg => rfl); (case hr => first | (go_simp; done) | (go_simp; rfl)); intro gb395 hg w73 hbox hb; have n0_ := Aside0.mk (Kd.R_below (by (with_reducible repeat (first | apply Kd.R_alloc | apply Kd.R_drewN | apply Kd.R_drew)); exact HO_11.out) hb); have n1_ := Aside0.mk (blk_below (g := gb387) (o := .cells #[.bool true, .int .u64 a0, .int .u64 a1] 25 (0, 0)) (by (with_reducible repeat (first | refine blk_drewN ?_ _ | refine blk_drew ?_ | refine blk_alloc ?_ _)); exact BK387.out) hb); have n2_ := Aside0.mk (below_step (by repeat (first | (with_reducible first | exact HB.out | apply below_alloc | apply pw_below_drewN | apply below_drew1 | refine below_set ?_ GE387.out) | exact HB.out)) hb); have n3_ := Aside0.mk (hbox); have n4_ := Aside0.mk ((by rw [hg]; exact (below_size (by repeat (first | (with_reducible first | exact HB.out | apply below_alloc | apply pw_below_drewN | apply below_drew1 | refine below_set ?_ GE387.out) | exact HB.out))) : w.heap.size ≤ gb395)); have n5_ := Aside0.mk ((by rw [hg]; exact (below_size (by repeat (first | (with_reducible first | exact HB.out | apply below_alloc | apply pw_below_drewN | apply below_drew1 | refine below_set ?_ GE387.out) | exact HB.out))) : w.heap.size ≤ gb395)); have n6_ := Aside0.mk ((by rw [hg]; exact Nat.ne_of_lt (blk_lt (g := gb387) (o := .cells #[.bool true, .int .u64 a0, .int .u64 a1] 25 (0, 0)) (by (with_reducible repeat (first | refine blk_drewN ?_ _ | refine blk_drew ?_ | refine blk_alloc ?_ _)); exact BK387.out)) : gb387 ≠ gb395)); have n7_ := Aside0.mk ((by rw [hg]; exact Nat.ne_of_gt (blk_lt (g := gb387) (o := .cells #[.bool true, .int .u64 a0, .int .u64 a1] 25 (0, 0)) (by (with_reducible repeat (first | refine blk_drewN ?_ _ | refine blk_drew ?_ | refine blk_alloc ?_ _)); exact BK387.out)) : gb395 ≠ gb387)); clear HO_11; clear BK387; clear HB; have HO_11 := n0_; have BK387 := n1_; have HB := n2_; have BK395 := n3_; have GW395 := n4_; have GE395 := n5_; have NB387_395 := n6_; have NB395_387 := n7_; clear n0_ n1_ n2_ n3_ n4_ n5_ n6_ n7_; clear hb hbox hg; have hnb74 := NB395_387.out; have hnc74 := NB387_395.out; have hcz75_0 : w73.cell? ⟨gb395, 0, none⟩ = some (.bool false) := (blk_cell BK395.out 0).trans rfl; have hcz75_1 : w73.cell? ⟨gb395, 1, none⟩ = some (.int .u64 0) := (blk_cell BK395.out 1).trans rfl; have hcz75_2 : w73.cell? ⟨gb395, 2, none⟩ = some (.int .u64 0) := (blk_cell BK395.out 2).trans rfl; have hfz75_0 := blk_frozen BK395.out 0; have hfz75_1 := blk_frozen BK395.out 1; have hfz75_2 := blk_frozen BK395.out 2))
          go_ret
          exact ⟨by first | rfl | (simp [errW_none, errW_some] <;> rfl) | (simp [*, errW_none, errW_some] <;> rfl), by repeat (first | (with_reducible first | exact HB.out | apply below_alloc | apply pw_below_drewN | apply below_drew1 | refine below_set ?_ GE387.out | refine below_set ?_ GE395.out) | exact HB.out)⟩

/-- THE ONE PURE STATEMENT of crosswaylaw03_AddrSpelt: yours. -/
def crosswaylaw03_AddrSpelt.Pure : Prop := ∀ (a0 : Int) (a1 : Int) (a2 : Int) (a3 : Int), (Lit.int .u64 a0).wf = true → (Lit.int .u64 a1).wf = true → (Lit.int .i64 a2).wf = true → (Lit.int .i64 a3).wf = true → ∃ k, crosswaylaw03_AddrSpelt.f k a0 a1 a2 a3 = some true
theorem crosswaylaw03_AddrSpelt.walk (P : crosswaylaw03_AddrSpelt.Pure) (a0 : Int) (a1 : Int) (a2 : Int) (a3 : Int) (w : World) (w0 : (Lit.int .u64 a0).wf = true) (w1 : (Lit.int .u64 a1).wf = true) (w2 : (Lit.int .i64 a2).wf = true) (w3 : (Lit.int .i64 a3).wf = true) (hG : GV w) :
    Calls Tryd.prog 7 #[.int .u64 a0, .int .u64 a1, .int .i64 a2, .int .i64 a3] w fun e w' => e = .returned (.bool true) ∧ Below w.heap.size w w' := by
  obtain ⟨k, h⟩ := P a0 a1 a2 a3 w0 w1 w2 w3
  refine (crosswaylaw03_AddrSpelt.calls k a0 a1 a2 a3 true w h hG).mono ?_
  rintro e w' ⟨rfl, hd⟩
  exact ⟨rfl, hd⟩

end Go.Proofs.YtaekcldkfkiekaaDoor.Q
