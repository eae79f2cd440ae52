/- 'awake': the chapter's examples. No condition. -/
import Derived.Test.YtaekcldkfkiekaaDoorXPrint
import Derived.Test.YtaekcldkfkiekaaDoorQ14
import Derived.Test.YtaekcldkfkiekaaDoorQ16
import Derived.Test.YtaekcldkfkiekaaDoorQ19
import Derived.Test.YtaekcldkfkiekaaDoorQ20
import Derived.Test.YtaekcldkfkiekaaDoorQ21
import Derived.Test.YtaekcldkfkiekaaDoorQ22
namespace Go.Proofs.YtaekcldkfkiekaaDoor
open Go.RowKit Go.Proofs.YtaekcldkfkiekaaDoorW.PrintWords Go.Proofs.YtaekcldkfkiekaaDoorW.PrintLast Go.Proofs.YtaekcldkfkiekaaDoorW.PrintMore

def tA : ByteArray := ⟨#[49, 48, 46, 48, 46, 48, 46, 49]⟩
def tB : ByteArray := ⟨#[48, 58, 48, 58, 48, 58, 48, 58, 48, 58, 48, 58, 48, 58, 49]⟩
def tC : ByteArray := ⟨#[49, 58, 50, 58, 51, 58, 52, 58, 53, 58, 54, 58, 55, 58, 56, 58, 58]⟩

set_option maxRecDepth 100000
example : strings_Split.f tA ⟨#[46]⟩ = some [⟨#[49, 48]⟩, ⟨#[48]⟩, ⟨#[48]⟩, ⟨#[49]⟩] := by kernel_rfl
example : addr_number.f ⟨#[49, 48]⟩ 10 3 = some (10, true) := by kernel_rfl
theorem evA : Q.addr_Parse.f 30 tA = some (false, 0, 167772161, 0) := by kernel_rfl
theorem evB : Q.addr_Parse.f 30 tB = some (true, 0, 1, 0) := by kernel_rfl
theorem evC : Q.addr_Parse.f 30 tC = some (false, 0, 0, 20) := by kernel_rfl
theorem evP : addr_Print.f true 0 1 = some ⟨#[58, 58, 49]⟩ := by kernel_rfl
theorem evP2 : addr_Print.f true 65536 65536 = some ⟨#[48, 58, 48, 58, 49, 58, 58, 49, 58, 48]⟩ := by kernel_rfl
theorem evO : Q.addr_Of.f 30 [10, 0, 0, 1] = some (false, 0, 167772161, 0) := by kernel_rfl
theorem evBy : Q.addr_Bytes.f 30 true 0 1 = some [0,0,0,0,0,0,0,0,0,0,0,0,0,0,0,1] := by kernel_rfl
theorem evL : Q.addr_Less.f 30 false 0 167772161 true 0 1 = some true := by kernel_rfl
theorem evCl : Q.addr_Class.f true 0 1 = some 1 := by kernel_rfl
theorem evS : Q.addr_Solicited.f true 0 3 = some (true, 18375249429625044992, 8573157379) := by kernel_rfl
theorem evV : Q.addr_Valid.f false 0 167772161 = some true := by kernel_rfl

theorem c8_of_block {W : World} {S : Nat} {xs : List Int} {t : TypeId} (h : W.heap[S]? = some (.cells (xs.map (Value.int .u8)).toArray t (0, 0))) (hl : xs.length ≤ 9223372036854775807) : Kd.C (Kd.int .u8) W (some ⟨S, 0, none⟩) xs.length xs := by
  refine ⟨rfl, hl, fun hp => ⟨_, rfl, fun j p hp => ⟨[.int .u8 p], rfl, rfl, fun i u hu => ?_⟩⟩⟩
  obtain rfl : i = 0 := by
    rcases Nat.eq_zero_or_pos i with h | h
    · exact h
    · rw [List.getElem?_eq_none (by simp; omega)] at hu; cases hu
  simp only [List.getElem?_cons_zero, Option.some.injEq] at hu
  subst hu
  rw [show j * (Kd.int .u8).sz + 0 = j by show j * 1 + 0 = j; omega, addr_add]
  unfold World.cell?
  rw [h]
  simp [hp]

structure TwoB (w0 : World) (gA gB : Nat) (W : World) : Prop where
  a : W.heap[gA]? = some (.cells #[.bool false, .int .u64 0, .int .u64 167772161] 25 (0, 0))
  b : W.heap[gB]? = some (.cells #[.bool true, .int .u64 0, .int .u64 1] 25 (0, 0))
  bel : Below w0.heap.size w0 W

theorem lt_of_blk {W : World} {g : Nat} {o : Obj} (h : W.heap[g]? = some o) : g < W.heap.size := by
  rcases Nat.lt_or_ge g W.heap.size with h1 | h1
  · exact h1
  · rw [Array.getElem?_eq_none h1] at h; cases h

theorem TwoB.step {w0 W W' : World} {gA gB : Nat} (h : TwoB w0 gA gB W) (hb : Below W.heap.size W W') : TwoB w0 gA gB W' :=
  ⟨(hb.block _ (lt_of_blk h.a)).trans h.a, (hb.block _ (lt_of_blk h.b)).trans h.b, h.bel.trans (hb.mono h.bel.size)⟩

theorem TwoB.alloc {w0 W : World} {gA gB : Nat} (h : TwoB w0 gA gB W) (o : Obj) : TwoB w0 gA gB (W.alloc o) :=
  ⟨(Below.heap_alloc _ _ _ (lt_of_blk h.a)).trans h.a, (Below.heap_alloc _ _ _ (lt_of_blk h.b)).trans h.b, below_alloc h.bel _⟩

def crosswaylaw03_awake.f : Option Bool := some true

set_option maxRecDepth 100000 in
set_option maxHeartbeats 4000000 in
theorem crosswaylaw03_awake.calls (r : Bool) (w : World) (h : crosswaylaw03_awake.f = some r) (hG : GV w) :
    Calls Tryd.prog 8 #[] w fun e w' => e = .returned (.bool r) ∧ Below w.heap.size w w' := by
  obtain rfl := Option.some.inj h
  clear h
  have HG := Lib.hid hG
  clear hG
  have HB := Lib.hid (Below.refl w.heap.size w)
  go_enter Tryd.func8, Tryd.ntmps8
  have HPA := Lib.hid (fun (w : World) (g : GV w) => Q.addr_Parse.calls 30 tA _ _ _ _ w evA g)
  have HPB := Lib.hid (fun (w : World) (g : GV w) => Q.addr_Parse.calls 30 tB _ _ _ _ w evB g)
  have HPC := Lib.hid (fun (w : World) (g : GV w) => Q.addr_Parse.calls 30 tC _ _ _ _ w evC g)
  unfold tA at HPA
  unfold tB at HPB
  unfold tC at HPC
  go_wp2_with fail
  with_reducible refine (HPA.out _ (HG.out.below HB.out)).mono ?_
  rintro e W1 ⟨rfl, hb⟩
  have HB1 := Lib.hid (HB.out.trans hb); clear hb
  go_wp2_with fail
  with_reducible refine (HPB.out _ (HG.out.below (below_alloc HB1.out _))).mono ?_
  rintro e W2 ⟨rfl, hb⟩
  have HB2 := Lib.hid ((below_alloc HB1.out _).trans (hb.mono (by have := HB1.out.size; show w.heap.size ≤ (W1.heap.push _).size; simp; omega)))
  have HA2 := Lib.hid (box_heap hb)
  have HL2 := Lib.hid (show W1.heap.size < W2.heap.size from Nat.lt_of_lt_of_le (by show W1.heap.size < (W1.heap.push _).size; simp) hb.size)
  clear hb
  go_wp2_with fail
  with_reducible refine (HPC.out _ (HG.out.below (below_alloc HB2.out _))).mono ?_
  rintro e W3 ⟨rfl, hb⟩
  have HB3 := Lib.hid ((below_alloc HB2.out _).trans (hb.mono (by have := HB2.out.size; show w.heap.size ≤ (W2.heap.push _).size; simp; omega)))
  have HBB3 := Lib.hid (box_heap hb)
  have HL3 := Lib.hid (show W2.heap.size < W3.heap.size from Nat.lt_of_lt_of_le (by show W2.heap.size < (W2.heap.push _).size; simp) hb.size)
  have HA3 := Lib.hid ((hb.block _ (Nat.lt_trans HL2.out (by show W2.heap.size < (W2.heap.push _).size; simp))).trans ((Below.heap_alloc _ _ _ HL2.out).trans HA2.out))
  clear hb HA2
  have HT := Lib.hid (show TwoB w W1.heap.size W2.heap.size W3 from ⟨HA3.out, HBB3.out, HB3.out⟩)
  clear HPA HPB HPC HA3 HBB3 HB3 HB2 HB1 HL2 HL3 HB
  replace HT := Lib.hid (HT.out.alloc (.cells #[.bool false, .int .u64 0, .int .u64 0] 25))
  have ha4 := cells3 HT.out.a
  obtain ⟨ka0, ka1, ka2, fa0, fa1, fa2⟩ := ha4
  have hb4 := cells3 HT.out.b
  obtain ⟨kb0, kb1, kb2, fb0, fb1, fb2⟩ := hb4
  go_wp2_with fail
  with_reducible refine (addr_Print.calls true 0 1 _ _ evP (HG.out.below HT.out.bel)).mono ?_
  rintro e W4 ⟨rfl, hb⟩
  replace HT := Lib.hid (HT.out.step hb)
  clear ka0 ka1 ka2 fa0 fa1 fa2 kb0 kb1 kb2 fb0 fb1 fb2 hb
  have ha4 := cells3 HT.out.a
  obtain ⟨ka0, ka1, ka2, fa0, fa1, fa2⟩ := ha4
  have hb4 := cells3 HT.out.b
  obtain ⟨kb0, kb1, kb2, fb0, fb1, fb2⟩ := hb4
  go_wp2_with fail
  with_reducible refine (addr_Print.calls true 65536 65536 _ _ evP2 (HG.out.below HT.out.bel)).mono ?_
  rintro e W5 ⟨rfl, hb⟩
  replace HT := Lib.hid (HT.out.step hb)
  clear ka0 ka1 ka2 fa0 fa1 fa2 kb0 kb1 kb2 fb0 fb1 fb2 hb
  have ha4 := cells3 HT.out.a
  obtain ⟨ka0, ka1, ka2, fa0, fa1, fa2⟩ := ha4
  have hb4 := cells3 HT.out.b
  obtain ⟨kb0, kb1, kb2, fb0, fb1, fb2⟩ := hb4
  go_wp2_with fail
  with_reducible refine (Q.addr_Valid.calls false 0 167772161 _ _ evV).mono ?_
  rintro e W6 ⟨rfl, hb⟩
  replace HT := Lib.hid (HT.out.step hb)
  clear ka0 ka1 ka2 fa0 fa1 fa2 kb0 kb1 kb2 fb0 fb1 fb2 hb
  have ha4 := cells3 HT.out.a
  obtain ⟨ka0, ka1, ka2, fa0, fa1, fa2⟩ := ha4
  have hb4 := cells3 HT.out.b
  obtain ⟨kb0, kb1, kb2, fb0, fb1, fb2⟩ := hb4
  go_wp2_with fail
  have hC := c8_of_block (W := W6.alloc (.cells #[.int .u8 10, .int .u8 0, .int .u8 0, .int .u8 1] 5)) (S := W6.heap.size) (xs := [10, 0, 0, 1]) (t := 5) (by show (W6.heap.push _)[W6.heap.size]? = _; simp) (by simp)
  have hO := Q.addr_Of.calls 30 (some ⟨W6.heap.size, 0, none⟩) 4 [10, 0, 0, 1] _ _ _ _ _ hC (Nat.le_refl _) evO
  simp only [List.length_cons, List.length_nil, Nat.zero_add, Nat.reduceAdd] at hO
  with_reducible refine hO.mono ?_
  clear hO
  rintro e W7 ⟨rfl, hb⟩
  replace HT := Lib.hid (((HT.out.alloc _).step hb).alloc (.cells #[.bool false, .int .u64 0, .int .u64 167772161] 25))
  clear ka0 ka1 ka2 fa0 fa1 fa2 kb0 kb1 kb2 fb0 fb1 fb2 hb hC
  have ha4 := cells3 HT.out.a
  obtain ⟨ka0, ka1, ka2, fa0, fa1, fa2⟩ := ha4
  have hb4 := cells3 HT.out.b
  obtain ⟨kb0, kb1, kb2, fb0, fb1, fb2⟩ := hb4
  go_wp2_with fail
  with_reducible refine (Q.addr_Bytes.calls 30 true 0 1 _ _ evBy).mono ?_
  rintro e W8 ⟨v, rfl, hR, hb⟩
  obtain ⟨ad, c, rfl⟩ := Kd.R_slice1 hR (by simp)
  replace HT := Lib.hid (HT.out.step hb)
  clear ka0 ka1 ka2 fa0 fa1 fa2 kb0 kb1 kb2 fb0 fb1 fb2 hb hR
  have ha4 := cells3 HT.out.a
  obtain ⟨ka0, ka1, ka2, fa0, fa1, fa2⟩ := ha4
  have hb4 := cells3 HT.out.b
  obtain ⟨kb0, kb1, kb2, fb0, fb1, fb2⟩ := hb4
  go_wp2_with fail
  with_reducible refine (Q.addr_Less.calls 30 false 0 167772161 true 0 1 _ _ evL).mono ?_
  rintro e W9 ⟨rfl, hb⟩
  replace HT := Lib.hid (HT.out.step hb)
  clear ka0 ka1 ka2 fa0 fa1 fa2 kb0 kb1 kb2 fb0 fb1 fb2 hb
  have ha4 := cells3 HT.out.a
  obtain ⟨ka0, ka1, ka2, fa0, fa1, fa2⟩ := ha4
  have hb4 := cells3 HT.out.b
  obtain ⟨kb0, kb1, kb2, fb0, fb1, fb2⟩ := hb4
  go_wp2_with fail
  with_reducible refine (Q.addr_Class.calls true 0 1 _ _ evCl).mono ?_
  rintro e W10 ⟨rfl, hb⟩
  replace HT := Lib.hid (HT.out.step hb)
  clear ka0 ka1 ka2 fa0 fa1 fa2 kb0 kb1 kb2 fb0 fb1 fb2 hb
  go_wp2_with fail
  with_reducible refine (Q.addr_Solicited.calls true 0 3 _ _ _ _ evS).mono ?_
  rintro e W11 ⟨rfl, hb⟩
  replace HT := Lib.hid (HT.out.step hb)
  go_wp2_with fail
  go_ret
  exact ⟨rfl, HT.out.bel⟩
end Go.Proofs.YtaekcldkfkiekaaDoor
