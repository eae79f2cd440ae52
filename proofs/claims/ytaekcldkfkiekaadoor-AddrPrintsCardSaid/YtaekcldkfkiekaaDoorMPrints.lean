/-
AddrPrints: whatever address is handed in, the law function returns true. The row, and its tied card. Condition: the listed variables of the library hold what their initialisers lay (the card ties it to the program's text).
-/
import Derived.Test.YtaekcldkfkiekaaDoorRows
import Derived.Test.YtaekcldkfkiekaaDoorXGv
import Derived.ProofKit
import Derived.OpenShut
import Derived.LaidMore
import Derived.Lay
import Derived.Lib.LaidTab
import Derived.Stop.LaidErr
import Derived.HandedShaped
import Derived.Test.YtaekcldkfkiekaaDoorXPrint
import Derived.Test.YtaekcldkfkiekaaDoorQ14
import Derived.Test.YtaekcldkfkiekaaDoorQ16
import Derived.Test.YtaekcldkfkiekaaDoorQ21
import Derived.Test.YtaekcldkfkiekaaDoorNPZ
import Derived.Test.YtaekcldkfkiekaaDoorQ18
import Derived.Test.YtaekcldkfkiekaaDoorQ19
import Derived.Test.YtaekcldkfkiekaaDoorQ20
import Derived.Test.YtaekcldkfkiekaaDoorNQZ
import Derived.Test.YtaekcldkfkiekaaDoorTie
import Derived.Test.YtaekcldkfkiekaaDoorCards
import Derived.Lib.SmallJoins
import Derived.SevenTiedAt

namespace Go.Proofs.YtaekcldkfkiekaaDoor
open Go.ChangeShapes Go.WideShapes Go.ChangeAt Go.RowKit

def laidL : List (String × DataW Unit) := Rows.addrBackRow.laid

theorem own : ownKnob Tryd.prog.godebug = none := by kernel_rfl
theorem star : "*" ++ "errors.errorString" = "*errors.errorString" := by decide
theorem rowErr (u : TypeId) (h : Tryd.prog.typeName? 3 u = some "*errors.errorString") : u = 125 :=
  typeName_ptr_named (nm := "errors.errorString") (by rw [star]; kernel_rfl) (by kernel_rfl) (by decide) u (by rw [star]; exact h)

def tab64 : List Int := [0, 1, 56, 2, 57, 49, 28, 3, 61, 58, 42, 50, 38, 29, 17, 4, 62, 47, 59, 36, 45, 43, 51, 22, 53, 39, 33, 30, 24, 18, 12, 5, 63, 55, 48, 27, 60, 41, 37, 16, 46, 35, 44, 21, 52, 32, 23, 11, 54, 26, 40, 15, 34, 20, 31, 10, 25, 14, 19, 9, 13, 8, 7, 6]

theorem laid_split : laidL = ("math/bits.deBruijn32tab", Rows.laid_math_bits_deBruijn32tab) :: ("math/bits.deBruijn64tab", Lib.tabData .u8 tab64) :: ("internal/strconv.uint64pow10", Lib.tabData .u64 Lib.pow10Tab) :: ("unicode/utf8.acceptRanges", Rows.laid_unicode_utf8_acceptRanges) :: ("strconv.ErrRange", Rows.laid_strconv_ErrRange) :: ("strconv.ErrSyntax", Rows.laid_strconv_ErrSyntax) :: [("unicode/utf8.first", Rows.laid_unicode_utf8_first)] := by kernel_rfl

/-- the condition and the shape give what the walks ask -/
theorem gv_of_laid {W : World} (h : laidMetH Tryd.prog laidL W) (hs : W.ShapedOpen Tryd.prog) : GV W := by
  rw [MakeChecks.laidMetH_plain _ _ _ (by kernel_rfl)] at h
  rw [laid_split] at h
  have h64 : Lib.TabIs Tryd.prog W "math/bits.deBruijn64tab" .u8 tab64 :=
    Lib.tabIs_of_head (g := 5) (t := 120) (e := 5) (n := 64) (by kernel_rfl) (by kernel_rfl) (by kernel_rfl) (by kernel_rfl) (by kernel_rfl) (by kernel_rfl) (h := laidMet.tail h)
  have hp : Lib.TabIs Tryd.prog W "internal/strconv.uint64pow10" .u64 Lib.pow10Tab :=
    Lib.tabIs_of_head (g := 0) (t := 96) (e := 23) (n := 20) (by kernel_rfl) (by kernel_rfl) (by kernel_rfl) (by kernel_rfl) (by kernel_rfl) (by kernel_rfl) (h := laidMet.tail (laidMet.tail h))
  obtain ⟨a0, s0, hv0, _, _, _⟩ := laid_sentinel (laidMet.tail (laidMet.tail (laidMet.tail (laidMet.tail (laidMet.tail h))))) (g := 2) (ti := 77) (tp := 125) (te := 127) (ts := 9) (by kernel_rfl) (by kernel_rfl) Tryd.underlying77 rowErr Tryd.underlying125 Tryd.underlying127 rfl rfl Tryd.underlying9 (by kernel_rfl) (by kernel_rfl)
  have hc := World.var?_cell (show Tryd.prog.globalNamed "strconv.ErrSyntax" = some 2 by kernel_rfl) hv0 0
  obtain ⟨o, _, ho, _⟩ := hs.2 8 (of_decide_eq_true (by kernel_rfl)) (of_decide_eq_true (by kernel_rfl))
  refine ⟨hs, ⟨.iface 125 (.pointer (some a0)), by simpa using hc, Or.inr ⟨_, _, rfl⟩⟩, hp, ?_, ?_⟩
  · exact h64.cell (g := 5) (by kernel_rfl) 15 (by decide)
  · rcases Nat.lt_or_ge 8 W.heap.size with h1 | h1
    · omega
    · rw [Array.getElem?_eq_none h1] at ho; cases ho

/-- the wrap for a row that lists variables, the world's shape kept -/
theorem wrap_laid {H : Type} {enc : TypeId × Value → H} {a : Assume} {C : Checked} {os : Os} {f : FuncId} {fn : Func} {s : ChangeSpec} {conds : List PathCond} {apart fresh handsOn again : Bool} {X : World → Array Value → Prop}
    (hX : ∀ (w w' : World) (args : Array Value), w.heap = w'.heap → X w args → X w' args)
    (own : ownKnob C.prog.godebug = none) (started : os.Started) (noInit : C.prog.inits.idxOf? f = none) (hfn : C.prog.funcs[f]? = some fn)
    (witness : ∃ (w : World) (tape : Tape) (i : Input), w.os = os ∧ (w.forCall tape i).Shaped C.prog ∧ i.vars = [] ∧ Input.okWide C.prog (w.forCall tape i) .any w.heap.size f i ∧
      ((s.pre enc C.prog fn conds apart (w.forCall tape i).memory i.args ∧ X (w.forCall tape i).memory i.args) ∧ sizedMet enc C.prog fn (OpenSpec.ofChange s) apart (w.forCall tape i).memory i.args) ∧ a.holds C.prog (lone (Frame.enter C.prog f i.args .normal) [] (w.forCall tape i)))
    (contract : ∀ (W : World) (base : Nat) (args : Array Value) (ds gs : List (DataW H)) (before : List MemPlace),
      (∀ (j : Nat) t v, fn.params[j]? = some t → args[j]? = some v → Value.okWide C.prog W .any base t v) →
      DataW.Whole enc C.prog fn.params.toList s.vars apart W args.toList ds gs before →
      (DataW.weightsEach C.prog (fn.params.toList ++ s.plain.varTypes C.prog) (ds ++ gs)).all (· ≤ reachBytes) = true → W.ShapedOpen C.prog → X W args →
      Calls C.prog f args W fun e W' => ∃ v, e = .returned v ∧ s.post enc C.prog fn apart fresh handsOn again W args v W') :
    ReturnsInHanded a C os f .any (fun w args => (s.pre enc C.prog fn conds apart w args ∧ X w args) ∧ sizedMet enc C.prog fn (OpenSpec.ofChange s) apart w args) (s.post enc C.prog fn apart fresh handsOn again) := by
  refine returnsInHanded_of_calls own started noInit witness ?_
  intro w tape i _ hsh _ hok hpre _
  obtain ⟨_, _, _, fn', hfn', _, _, _, _, hval⟩ := hok
  have e : fn' = fn := Option.some.inj (hfn'.symm.trans hfn)
  subst e
  obtain ⟨⟨⟨ds, gs, before, hw, _⟩, hx⟩, hz⟩ := hpre
  have hw' := DataW.Whole.of_heap (w' := w.forCall tape i) (by rfl) hw
  refine (contract (w.forCall tape i) w.heap.size i.args ds gs before hval hw' (hz.weights hw) hsh (hX _ _ _ (by rfl) hx)).mono fun e W' ⟨v, he, hp⟩ => ?_
  subst he
  exact ChangeSpec.post_blind hp
end Go.Proofs.YtaekcldkfkiekaaDoor

namespace Go.Proofs.YtaekcldkfkiekaaDoor

/-- a byte is no colon and no dot if it is a digit -/
theorem digOf_ne {c : UInt8} {d : Nat} (h : digOf c = some d) : c ≠ 58 ∧ c ≠ 46 := by
  have h58 : digOf 58 = none := by decide
  have h46 : digOf 46 = none := by decide
  refine ⟨?_, ?_⟩
  · rintro rfl
    rw [h58] at h; cases h
  · rintro rfl
    rw [h46] at h; cases h

theorem num_chars {b : Nat} : ∀ {l : List UInt8} {n m : Nat}, num b n l = some m → ∀ c ∈ l, c ≠ 58 ∧ c ≠ 46
  | [], _, _, _, c, hc => by cases hc
  | x :: xs, n, m, h, c, hc => by
    unfold num at h
    cases hd : digOf x with
    | none => rw [hd] at h; cases h
    | some d =>
      rw [hd] at h
      simp only at h
      split at h
      · rcases List.mem_cons.1 hc with rfl | hc
        · exact digOf_ne hd
        · exact num_chars h c hc
      · cases h

theorem numP_ne {b most : Nat} {l : List UInt8} {n : Nat} (h : numP b most l = some n) : l ≠ [] ∧ l.length ≤ most ∧ num b 0 l = some n := by
  unfold numP at h
  split at h
  · cases h
  · rename_i h1
    refine ⟨?_, by omega, h⟩
    rintro rfl
    simp at h1

theorem numP_chars {b most : Nat} {l : List UInt8} {n : Nat} (h : numP b most l = some n) : ∀ c ∈ l, c ≠ 58 ∧ c ≠ 46 := num_chars (numP_ne h).2.2

/-- parts with one byte between -/
theorem join_cons2 (x y : List UInt8) (r : List (List UInt8)) (c : UInt8) : Lib.join (x :: y :: r) [c] = x ++ c :: Lib.join (y :: r) [c] := by
  simp [Lib.join, List.intercalate, List.intersperse]

theorem splitOn_join (c : UInt8) : ∀ (x : List UInt8) (r : List (List UInt8)), (∀ p ∈ x :: r, c ∉ p) → splitOn c (Lib.join (x :: r) [c]) = x :: r
  | x, [], h => by
    rw [Lib.join_one]
    exact splitOn_none c x (h x (by simp))
  | x, y :: r, h => by
    rw [join_cons2, splitOn_hit c _ _ (h x (by simp)), splitOn_join c y r (fun p hp => h p (List.mem_cons_of_mem _ hp))]

/-- texts of groups, and the groups -/
def Spells : List (List UInt8) → List Nat → Prop
  | [], [] => True
  | p :: ps, n :: ns => numP 16 4 p = some n ∧ Spells ps ns
  | _, _ => False

theorem Spells.mapM : ∀ {ps : List (List UInt8)} {ns : List Nat}, Spells ps ns → ps.mapM (numP 16 4) = some ns
  | [], [], _ => rfl
  | p :: ps, n :: ns, h => by
    rw [List.mapM_cons, h.1, Spells.mapM h.2]
    rfl
  | [], _ :: _, h => h.elim
  | _ :: _, [], h => h.elim

theorem Spells.length : ∀ {ps : List (List UInt8)} {ns : List Nat}, Spells ps ns → ps.length = ns.length
  | [], [], _ => rfl
  | p :: ps, n :: ns, h => by
    rw [List.length_cons, List.length_cons, Spells.length h.2]
  | [], _ :: _, h => h.elim
  | _ :: _, [], h => h.elim

theorem Spells.part : ∀ {ps : List (List UInt8)} {ns : List Nat}, Spells ps ns → ∀ p ∈ ps, p ≠ [] ∧ ∀ c ∈ p, c ≠ 58 ∧ c ≠ 46
  | [], [], _, _, hp => by cases hp
  | p :: ps, n :: ns, h, q, hq => by
    rcases List.mem_cons.1 hq with rfl | hq
    · exact ⟨(numP_ne h.1).1, numP_chars h.1⟩
    · exact Spells.part h.2 q hq
  | [], _ :: _, h, _, _ => h.elim
  | _ :: _, [], h, _, _ => h.elim

theorem join_ne (x : List UInt8) (r : List (List UInt8)) (c : UInt8) (h : x ≠ []) : Lib.join (x :: r) [c] ≠ [] := by
  cases r with
  | nil => rw [Lib.join_one]; exact h
  | cons y r => rw [join_cons2]; simp

theorem rowP_join {ps : List (List UInt8)} {ns : List Nat} (h : Spells ps ns) : rowP (Lib.join ps [58]) = some ns := by
  cases ps with
  | nil =>
    cases ns with
    | nil => rfl
    | cons _ _ => exact h.elim
  | cons p ps =>
    have hp := h.part
    unfold rowP
    rw [if_neg (join_ne _ _ _ (hp p (by simp)).1), splitOn_join 58 p ps (fun q hq hc => ((hp q hq).2 58 hc).1 rfl)]
    exact h.mapM

/-- no two colons behind each other, none at the end, no dot -/
theorem join_plain : ∀ {ps : List (List UInt8)} {ns : List Nat}, Spells ps ns → ∀ i : Nat, (Lib.join ps [58])[i]? = some 58 → ∃ c, (Lib.join ps [58])[i + 1]? = some c ∧ c ≠ 58
  | [], _, _, i, hi => by simp [Lib.join_nil] at hi
  | [p], ns, h, i, hi => by
    rw [Lib.join_one] at hi
    exact absurd rfl ((h.part p (by simp)).2 58 (List.mem_of_getElem? hi)).1
  | p :: q :: ps, [], h, i, hi => h.elim
  | p :: q :: ps, [_], h, i, hi => h.2.elim
  | p :: q :: ps, n :: m :: ns, h, i, hi => by
    have hp := h.part p (by simp)
    have hq := h.part q (by simp)
    rw [join_cons2] at hi ⊢
    rcases Nat.lt_trichotomy i p.length with hlt | heq | hgt
    · rw [List.getElem?_append_left hlt] at hi
      exact absurd rfl (hp.2 58 (List.mem_of_getElem? hi)).1
    · subst heq
      rw [List.getElem?_append_right (by omega), show p.length + 1 - p.length = 1 by omega, List.getElem?_cons_succ]
      cases q with
      | nil => exact absurd rfl hq.1
      | cons c q =>
        refine ⟨c, ?_, (hq.2 c (by simp)).1⟩
        cases ps with
        | nil => rw [Lib.join_one]; rfl
        | cons r ps => rw [join_cons2]; rfl
    · have ih := join_plain h.2 (i - p.length - 1)
      rw [List.getElem?_append_right (by omega), show i - p.length = (i - p.length - 1) + 1 by omega, List.getElem?_cons_succ] at hi
      obtain ⟨c, hc, hne⟩ := ih hi
      refine ⟨c, ?_, hne⟩
      rw [List.getElem?_append_right (by omega), show i + 1 - p.length = (i - p.length - 1) + 1 + 1 by omega, List.getElem?_cons_succ]
      exact hc

theorem occ_two (l : List UInt8) (i : Nat) : Lib.occAt l [58, 58] i = true ↔ l[i]? = some 58 ∧ l[i + 1]? = some 58 := by
  unfold Lib.occAt
  rw [← List.getElem?_drop (i := i) (j := 1) , show l[i]? = (l.drop i)[0]? by rw [List.getElem?_drop, Nat.add_zero]]
  cases l.drop i with
  | nil => simp
  | cons a t =>
    cases t with
    | nil => simp
    | cons b t => simp; constructor <;> (rintro ⟨h1, h2⟩; exact ⟨h1.symm, h2.symm⟩)

theorem cut_none {ps : List (List UInt8)} {ns : List Nat} (h : Spells ps ns) : Lib.cut (Lib.join ps [58]) [58, 58] = (Lib.join ps [58], [], false) := by
  have hi : Lib.index (Lib.join ps [58]) [58, 58] = -1 := by
    refine Lib.index_none (fun j _ => ?_)
    cases ho : Lib.occAt (Lib.join ps [58]) [58, 58] j with
    | false => rfl
    | true =>
      obtain ⟨h1, h2⟩ := (occ_two _ _).1 ho
      obtain ⟨c, h3, h4⟩ := join_plain h j h1
      rw [h2] at h3
      exact absurd (Option.some.inj h3).symm h4
  unfold Lib.cut
  rw [hi]
  rfl

theorem cut_hit {ps : List (List UInt8)} {ns : List Nat} (h : Spells ps ns) (B : List UInt8) :
    Lib.cut (Lib.join ps [58] ++ [58, 58] ++ B) [58, 58] = (Lib.join ps [58], B, true) := by
  have hi : Lib.index (Lib.join ps [58] ++ [58, 58] ++ B) [58, 58] = ((Lib.join ps [58]).length : Nat) := by
    refine Lib.index_first (by simp) ?_ (fun j hj => ?_)
    · rw [occ_two]
      rw [List.append_assoc]
      refine ⟨?_, ?_⟩
      · rw [List.getElem?_append_right (Nat.le_refl _), Nat.sub_self]
        rfl
      · rw [List.getElem?_append_right (by omega), show (Lib.join ps [58]).length + 1 - (Lib.join ps [58]).length = 1 by omega]
        rfl
    · cases ho : Lib.occAt (Lib.join ps [58] ++ [58, 58] ++ B) [58, 58] j with
      | false => rfl
      | true =>
        obtain ⟨h1, h2⟩ := (occ_two _ _).1 ho
        rw [List.append_assoc, List.getElem?_append_left hj] at h1
        obtain ⟨c, h3, h4⟩ := join_plain h j h1
        have hlt : j + 1 < (Lib.join ps [58]).length := by
          rcases Nat.lt_or_ge (j + 1) (Lib.join ps [58]).length with h5 | h5
          · exact h5
          · rw [List.getElem?_eq_none h5] at h3; cases h3
        rw [List.append_assoc, List.getElem?_append_left hlt, h3] at h2
        exact absurd (Option.some.inj h2) h4
  unfold Lib.cut
  rw [hi]
  rw [if_pos (by omega), Int.toNat_natCast]
  simp [List.drop_append]

theorem sixP_whole {ps : List (List UInt8)} {ns : List Nat} (h : Spells ps ns) (h8 : ns.length = 8) : sixP (Lib.join ps [58]) = some ns := by
  unfold sixP
  rw [cut_none h]
  rw [rowP_join h]
  simp [rowP, h8]

theorem sixP_gap {ps qs : List (List UInt8)} {ns ms : List Nat} (h : Spells ps ns) (h' : Spells qs ms) (h7 : ns.length + ms.length ≤ 7) :
    sixP (Lib.join ps [58] ++ [58, 58] ++ Lib.join qs [58]) = some (ns ++ List.replicate (8 - ns.length - ms.length) 0 ++ ms) := by
  unfold sixP
  rw [cut_hit h]
  rw [rowP_join h, rowP_join h']
  simp [h7]
end Go.Proofs.YtaekcldkfkiekaaDoor

namespace Go.Proofs.YtaekcldkfkiekaaDoor
open Go.RowKit Go.Proofs.YtaekcldkfkiekaaDoorW.PrintWords Go.Proofs.YtaekcldkfkiekaaDoorW.PrintLast Go.Proofs.YtaekcldkfkiekaaDoorW.PrintMore

theorem digOf_hexd (d : Nat) (h : d < 16) : digOf (UInt8.ofNat (hexd (d : Int)).toNat) = some d := by
  rcases (by omega : d = 0 ∨ d = 1 ∨ d = 2 ∨ d = 3 ∨ d = 4 ∨ d = 5 ∨ d = 6 ∨ d = 7 ∨ d = 8 ∨ d = 9 ∨ d = 10 ∨ d = 11 ∨ d = 12 ∨ d = 13 ∨ d = 14 ∨ d = 15) with rfl | rfl | rfl | rfl | rfl | rfl | rfl | rfl | rfl | rfl | rfl | rfl | rfl | rfl | rfl | rfl
  all_goals decide

theorem num_hexn (n : Nat) : ∀ (k a : Nat), num 16 a ((hexn n k).map fun x : Int => UInt8.ofNat x.toNat) = some (a * 16 ^ k + n % 16 ^ k)
  | 0, a => by simp [hexn, num, Nat.mod_one]
  | k + 1, a => by
    have hd : n / 16 ^ k % 16 < 16 := Nat.mod_lt _ (by omega)
    simp only [hexn, List.map_cons, num]
    rw [digOf_hexd _ hd]
    simp only
    rw [if_pos hd, num_hexn n k]
    congr 1
    rw [Nat.pow_succ, Nat.mod_mul, Nat.add_mul]
    rw [Nat.mul_assoc, Nat.mul_comm 16 (16 ^ k), Nat.mul_comm (n / 16 ^ k % 16)]
    omega

def hx (n : Nat) : List UInt8 := (hexS n).data.toList

theorem hx_spells (n : Nat) (h : n < 65536) : numP 16 4 (hx n) = some n := by
  obtain ⟨k, hk, h1, h4, hlt⟩ : ∃ k, (if n < 16 then 1 else if n < 256 then 2 else if n < 4096 then 3 else 4) = k ∧ 1 ≤ k ∧ k ≤ 4 ∧ n < 16 ^ k := by
    by_cases h1 : n < 16
    · exact ⟨1, by rw [if_pos h1], by omega, by omega, by omega⟩
    · by_cases h2 : n < 256
      · exact ⟨2, by rw [if_neg h1, if_pos h2], by omega, by omega, by omega⟩
      · by_cases h3 : n < 4096
        · exact ⟨3, by rw [if_neg h1, if_neg h2, if_pos h3], by omega, by omega, by omega⟩
        · exact ⟨4, by rw [if_neg h1, if_neg h2, if_neg h3], by omega, by omega, by omega⟩
  have e : hx n = (hexn n k).map (fun x : Int => UInt8.ofNat x.toNat) := by rw [← hk]; rfl
  have hl : (hx n).length = k := by rw [e, List.length_map, hexn_length]
  unfold numP
  rw [hl, if_neg (by omega), e, num_hexn, Nat.zero_mul, Nat.zero_add, Nat.mod_eq_of_lt hlt]

theorem hx_all : ∀ l : List Nat, (∀ n ∈ l, n < 65536) → Spells (l.map hx) l
  | [], _ => trivial
  | n :: l, h => ⟨hx_spells n (h n (by simp)), hx_all l (fun m hm => h m (List.mem_cons_of_mem _ hm))⟩

theorem textsP_join (l : List Nat) : textsP l = Lib.join (l.map hx) [58] := rfl

/-- a decimal text -/
theorem decS_list (n : Nat) (h : n < 1000) : Lib.decDigits n = if n < 10 then [UInt8.ofNat (48 + n)] else if n < 100 then [UInt8.ofNat (48 + n / 10), UInt8.ofNat (48 + n % 10)] else [UInt8.ofNat (48 + n / 100), UInt8.ofNat (48 + n / 10 % 10), UInt8.ofNat (48 + n % 10)] := by
  split
  · rw [Lib.decDigits_one (by assumption)]
  · split
    · rw [Lib.decDigits_two (by assumption) (by assumption)]
    · rw [Lib.decDigits, dif_neg (by omega), Lib.decDigits_two (by omega) (by omega)]
      rw [Nat.div_div_eq_div_mul]
      rfl

theorem octP_all : ∀ n : Fin 256, octP (Lib.decDigits n.val) = some n.val := by
  intro n
  rw [decS_list n.val (by omega)]
  revert n
  decide +kernel

theorem octP_dec (n : Nat) (h : n < 256) : octP (Lib.decDigits n) = some n := octP_all ⟨n, h⟩

theorem octP_chars {l : List UInt8} {n : Nat} (h : octP l = some n) : ∀ c ∈ l, c ≠ 58 ∧ c ≠ 46 := by
  unfold octP at h
  cases hn : numP 10 3 l with
  | none => rw [hn] at h; cases h
  | some m => exact numP_chars hn

theorem fourP_txt (lo : Nat) (h : lo < 4294967296) : fourP (fourTxt lo) = some lo := by
  have hn : ∀ j, octP (Lib.decDigits (octOf lo j)) = some (octOf lo j) := fun j => octP_dec _ (octOf_lt _ _)
  have hs : splitOn 46 (fourTxt lo) = [Lib.decDigits (octOf lo 0), Lib.decDigits (octOf lo 1), Lib.decDigits (octOf lo 2), Lib.decDigits (octOf lo 3)] := by
    refine splitOn_join 46 _ _ (fun p hp => ?_)
    simp only [List.mem_cons, List.not_mem_nil, or_false] at hp
    rcases hp with rfl | rfl | rfl | rfl <;> exact fun hc => (octP_chars (hn _) 46 hc).2 rfl
  unfold fourP
  rw [hs]
  simp only [List.mapM_cons, List.mapM_nil, hn]
  have e : ∀ j : Nat, (lo : Int) / 256 ^ (3 - j) % 256 = ((lo / 256 ^ (3 - j) % 256 : Nat) : Int) := fun j => by
    rw [Int.natCast_emod, Int.natCast_ediv, Int.natCast_pow]
    rfl
  simp only [octOf, e, Int.toNat_natCast]
  simp
  omega

/-- a text without a dot is no four numbers -/
theorem fourP_no (l : List UInt8) (h : 46 ∉ l) : fourP l = none := by
  unfold fourP
  rw [splitOn_none 46 l h]
  simp only [List.mapM_cons, List.mapM_nil]
  cases octP l <;> rfl

theorem join_mem (c : UInt8) : ∀ ps : List (List UInt8), ∀ x ∈ Lib.join ps [c], x = c ∨ ∃ p ∈ ps, x ∈ p
  | [], x, h => by simp [Lib.join_nil] at h
  | [p], x, h => by rw [Lib.join_one] at h; exact Or.inr ⟨p, by simp, h⟩
  | p :: q :: ps, x, h => by
    rw [join_cons2] at h
    rcases List.mem_append.1 h with h | h
    · exact Or.inr ⟨p, by simp, h⟩
    · rcases List.mem_cons.1 h with rfl | h
      · exact Or.inl rfl
      · rcases join_mem c (q :: ps) x h with h | ⟨y, hy, hx⟩
        · exact Or.inl h
        · exact Or.inr ⟨y, List.mem_cons_of_mem _ hy, hx⟩

theorem no_dot {ps : List (List UInt8)} {ns : List Nat} (h : Spells ps ns) : 46 ∉ Lib.join ps [58] := fun hc => by
  rcases join_mem 58 ps 46 hc with h1 | ⟨p, hp, hx⟩
  · exact absurd h1 (by decide)
  · exact ((h.part p hp).2 46 hx).2 rfl

/-- the address that a text is read as -/
def parseP (l : List UInt8) : Option (Bool × Int × Int) :=
  match fourP l with
  | some v => some (false, 0, (v : Int))
  | none => (sixP l).map fun g => (true, (packL (intsOf g)).1, (packL (intsOf g)).2)

def parseRes : Option (Bool × Int × Int) → Bool × Int × Int × Int
  | some (a, b, c) => (a, b, c, 0)
  | none => (false, 0, 0, 20)

theorem parse_f (s : ByteArray) (h : s.size < 4294967281) (k : Nat) (hk : s.size + 1 < k) : Q.addr_Parse.f k s = some (parseRes (parseP s.data.toList)) := by
  obtain ⟨r, hr, hm⟩ := four_f s h k hk
  unfold Q.addr_Parse.f
  rw [hr]
  unfold parseP
  cases hf : fourP s.data.toList with
  | some v =>
    rw [hf] at hm
    simp only at hm
    subst hm
    rfl
  | none =>
    rw [hf] at hm
    simp only at hm
    have h4 : r.2.2.2 = false := by simpa using hm
    simp only [Option.bind_some, h4]
    unfold addr_six.f
    rw [if_pos h]
    cases sixP s.data.toList <;> rfl
end Go.Proofs.YtaekcldkfkiekaaDoor

namespace Go.Proofs.YtaekcldkfkiekaaDoor

/-- a row of noughts from one place to another -/
structure CutAt (g : List Int) (f t : Nat) : Prop where
  le : f ≤ t
  le2 : t ≤ g.length
  cut : g = g.take f ++ List.replicate (t - f) 0 ++ g.drop t

theorem takeWhile_zero : ∀ l : List Int, l = List.replicate (l.takeWhile (· == 0)).length 0 ++ l.drop (l.takeWhile (· == 0)).length
  | [] => rfl
  | x :: l => by
    by_cases hx : x = 0
    · subst hx
      have ih := takeWhile_zero l
      simp only [List.takeWhile_cons, BEq.rfl, if_true, List.length_cons, List.replicate_succ, List.drop_succ_cons, List.cons_append]
      rw [← ih]
    · have : (x == 0) = false := by simpa using hx
      simp [this]

theorem zend_cut (g : List Int) (i : Nat) (h : i ≤ g.length) : CutAt g i (zend g i) := by
  have h2 := zend_le g i h
  refine ⟨h2.1, h2.2, ?_⟩
  have h3 := takeWhile_zero (g.drop i)
  unfold zend
  rw [Nat.add_sub_cancel_left, ← List.drop_drop, List.append_assoc, ← h3, List.take_append_drop]

theorem cut_zero (g : List Int) : CutAt g 0 0 := ⟨Nat.le_refl _, Nat.zero_le _, by simp⟩

theorem longest_cut (g : List Int) : ∀ n, n ≤ g.length → CutAt g (longest g n).1 (longest g n).2
  | 0, _ => cut_zero g
  | n + 1, h => by
    unfold longest
    split
    · exact zend_cut g n (by omega)
    · exact longest_cut g n (by omega)

theorem all_zero : ∀ g : List Int, g.all (· == 0) = true → g = List.replicate g.length 0
  | [], _ => rfl
  | x :: g, h => by
    simp only [List.all_cons, Bool.and_eq_true, beq_iff_eq] at h
    rw [List.length_cons, List.replicate_succ, ← all_zero g h.2, h.1]

/-- the gap: none, or a row of two noughts or more -/
theorem gapOf_cut (g : List Int) (h : g.length = 8) : ((gapOf g).2 = 0 ∧ (gapOf g).1 = 0) ∨ (CutAt g (gapOf g).1 (gapOf g).2 ∧ (gapOf g).1 + 2 ≤ (gapOf g).2) := by
  unfold gapOf
  split
  · rename_i ha
    have hz := all_zero g ha
    rw [h] at hz
    exact Or.inr ⟨⟨by omega, by rw [h]; exact Nat.le_refl _, by simp [h, ← hz]⟩, by omega⟩
  · split
    · exact Or.inl ⟨rfl, rfl⟩
    · exact Or.inr ⟨longest_cut g 8 (by omega), by omega⟩

theorem intsOf_inj : ∀ {a b : List Nat}, intsOf a = intsOf b → a = b
  | [], [], _ => rfl
  | x :: a, y :: b, h => by
    simp only [intsOf, List.map_cons, List.cons.injEq, Int.natCast_inj] at h
    rw [h.1, intsOf_inj h.2]
  | [], _ :: _, h => by simp [intsOf] at h
  | _ :: _, [], h => by simp [intsOf] at h

theorem cut_nat {l : List Nat} {f t : Nat} (h : CutAt (intsOf l) f t) : l = l.take f ++ List.replicate (t - f) 0 ++ l.drop t := by
  apply intsOf_inj
  have := h.cut
  simpa [intsOf, List.map_take, List.map_drop] using this

theorem pack_back (hi lo : Nat) (h1 : hi < 18446744073709551616) (l1 : lo < 18446744073709551616) : packL (intsOf (groupsN hi lo)) = ((hi : Int), (lo : Int)) := by
  show (or4 _ _ _ _, or4 _ _ _ _) = _
  rw [or4_nat _ _ _ _ (by omega) (by omega) (by omega) (by omega), or4_nat _ _ _ _ (by omega) (by omega) (by omega) (by omega)]
  unfold pack4
  congr 2 <;> omega

theorem spells_take {l : List Nat} (h : ∀ n ∈ l, n < 65536) (f : Nat) : Spells ((l.take f).map hx) (l.take f) := hx_all _ (fun n hn => h n (List.mem_of_mem_take hn))
theorem spells_drop {l : List Nat} (h : ∀ n ∈ l, n < 65536) (f : Nat) : Spells ((l.drop f).map hx) (l.drop f) := hx_all _ (fun n hn => h n (List.mem_of_mem_drop hn))

theorem sixP_txt (hi lo : Nat) : sixP (sixTxt hi lo) = some (groupsN hi lo) ∧ 46 ∉ sixTxt hi lo := by
  have hlt := groupsN_lt hi lo
  have h8 := groupsN_len hi lo
  have hg := gapOf_cut (groupsOf hi lo) rfl
  unfold sixTxt
  generalize hgap : gapOf (groupsOf (hi : Int) (lo : Int)) = ft at hg ⊢
  obtain ⟨f, t⟩ := ft
  simp only at hg ⊢
  rw [← groupsN_ints] at hg
  generalize groupsN hi lo = l at hlt h8 hg ⊢
  rcases hg with ⟨h0, h1⟩ | ⟨hc, h2⟩
  · rw [if_pos h0]
    exact ⟨sixP_whole (hx_all _ hlt) h8, no_dot (hx_all _ hlt)⟩
  · rw [if_neg (by omega)]
    have hle : t ≤ 8 := by have := hc.le2; simpa [intsOf, h8] using this
    refine ⟨?_, ?_⟩
    · rw [textsP_join, textsP_join, sixP_gap (spells_take hlt f) (spells_drop hlt t) (by rw [List.length_take, List.length_drop, h8]; omega)]
      congr 1
      rw [List.length_take, List.length_drop, h8, show 8 - min f 8 - (8 - t) = t - f by omega]
      exact (cut_nat hc).symm
    · intro hm
      rcases List.mem_append.1 hm with hm | hm
      · rcases List.mem_append.1 hm with hm | hm
        · exact no_dot (spells_take hlt f) hm
        · exact absurd hm (by decide)
      · exact no_dot (spells_drop hlt t) hm

theorem parse_six (hi lo : Nat) (h1 : hi < 18446744073709551616) (l1 : lo < 18446744073709551616) : parseP (sixTxt hi lo) = some (true, (hi : Int), (lo : Int)) := by
  obtain ⟨h, hd⟩ := sixP_txt hi lo
  unfold parseP
  rw [fourP_no _ hd, h]
  simp only [Option.map_some, pack_back hi lo h1 l1]

theorem parse_four (lo : Nat) (h : lo < 4294967296) : parseP (fourTxt lo) = some (false, 0, (lo : Int)) := by
  unfold parseP
  rw [fourP_txt lo h]

theorem txt_len (six : Bool) (hi lo : Int) : (ofL (printP six hi lo)).size ≤ 100 := by
  rw [ofL_size]
  unfold printP
  split
  · unfold sixTxt
    have e := groupsN_len hi.toNat lo.toNat
    split
    · have := textsP_len (groupsN hi.toNat lo.toNat) (by omega)
      rw [ofL_size] at this; omega
    · have h1 := textsP_len ((groupsN hi.toNat lo.toNat).take (gapOf (groupsOf hi.toNat lo.toNat)).1) (by rw [List.length_take]; omega)
      have h2 := textsP_len ((groupsN hi.toNat lo.toNat).drop (gapOf (groupsOf hi.toNat lo.toNat)).2) (by rw [List.length_drop]; omega)
      rw [ofL_size] at h1 h2
      simp only [List.length_append, List.length_cons, List.length_nil]
      omega
  · split
    · have hlen := join_len [46] 3 [Lib.decDigits (octOf lo 0), Lib.decDigits (octOf lo 1), Lib.decDigits (octOf lo 2), Lib.decDigits (octOf lo 3)] (fun x hx => by
        simp only [List.mem_cons, List.not_mem_nil, or_false] at hx
        rcases hx with rfl | rfl | rfl | rfl <;> exact decS_len _ (octOf_lt _ _))
      simp only [List.length_cons, List.length_nil] at hlen
      unfold fourTxt
      omega
    · simp

/-- B7: what a right address is told as is read as that address -/
theorem parse_print (six : Bool) (hi lo : Int) (h0 : 0 ≤ hi) (h1 : hi < 18446744073709551616) (l0 : 0 ≤ lo) (l1 : lo < 18446744073709551616) (hv : six = true ∨ hi = 0 ∧ lo < 4294967296) :
    parseP (printP six hi lo) = some (six, hi, lo) := by
  obtain ⟨hn, rfl⟩ := Int.eq_ofNat_of_zero_le h0
  obtain ⟨ln, rfl⟩ := Int.eq_ofNat_of_zero_le l0
  cases six with
  | true =>
    have := parse_six hn ln (by omega) (by omega)
    simpa [printP] using this
  | false =>
    obtain ⟨h2, h3⟩ := hv.resolve_left (by simp)
    have := parse_four ln (by omega)
    unfold printP
    rw [if_neg (by simp), if_pos ⟨h2, h3⟩, h2]
    exact this
end Go.Proofs.YtaekcldkfkiekaaDoor

namespace Go.Proofs.YtaekcldkfkiekaaDoor
open Go.RowKit Go.Proofs.YtaekcldkfkiekaaDoorW.PrintWords Go.Proofs.YtaekcldkfkiekaaDoorW.PrintLast Go.Proofs.YtaekcldkfkiekaaDoorW.PrintMore

theorem u64_nat {n : Nat} (h : n < 18446744073709551616) : IntKind.u64.wrap (n : Int) = n := by
  rw [IntKind.wrap_u64]; omega

theorem rd_at (xs : List Int) (i : Nat) : rd xs (i : Int) = xs.getD i 0 := by
  unfold rd; rw [Int.toNat_natCast]

theorem ofL_append (a b : List UInt8) : ofL a ++ ofL b = ofL (a ++ b) := rfl

theorem bt_nat (s : ByteArray) (i : Nat) (h : i < s.data.toList.length) : bt s (i : Int) = ((s.data.toList[i]).toNat : Int) := by
  have h2 : i < s.size := by rw [Array.length_toList] at h; exact h
  have := bt_at s (i : Int) (by rw [Int.toNat_natCast]; exact h2)
  rw [← this]
  simp [ByteArray.getElem_eq_getElem_data]

end Go.Proofs.YtaekcldkfkiekaaDoor

namespace Go.Proofs.YtaekcldkfkiekaaDoor
open Go.RowKit Go.Proofs.YtaekcldkfkiekaaDoorW.PrintWords Go.Proofs.YtaekcldkfkiekaaDoorW.PrintLast Go.Proofs.YtaekcldkfkiekaaDoorW.PrintMore

/-- the byte j of a number of so many bytes -/
def byteAt (top : Nat) (x : Int) (j : Nat) : Int := x / 2 ^ (top - 8 * j) % 256

theorem w64 (n : Nat) (h : n < 9223372036854775808) : wrap64 (n : Int) = n := wrap64_nat h

theorem shift_amt (top i : Nat) (ht : top ≤ 56) (h : 8 * i ≤ top) : wrap64 ((top : Int) - wrap64 (8 * (i : Int))) = ((top - 8 * i : Nat) : Int) := by
  rw [show 8 * (i : Int) = ((8 * i : Nat) : Int) by omega, w64 _ (by omega), show (top : Int) - ((8 * i : Nat) : Int) = ((top - 8 * i : Nat) : Int) by omega, w64 _ (by omega)]

theorem shr_nat (x : Int) (n : Nat) (h : n ≤ 56) : shr .u64 x (n : Int) = x / 2 ^ n := by
  unfold shr
  rw [Int.toNat_natCast, Nat.min_eq_left (by show n ≤ 64; omega)]

theorem step_byte (top : Nat) (x : Int) (i : Nat) (ht : top ≤ 56) (h : 8 * i ≤ top) :
    0 ≤ wrap64 ((top : Int) - wrap64 (8 * (i : Int))) ∧ shr .u64 x (wrap64 ((top : Int) - wrap64 (8 * (i : Int)))) % 256 = byteAt top x i := by
  rw [shift_amt top i ht h]
  refine ⟨by omega, ?_⟩
  rw [shr_nat _ _ (by omega)]
  rfl

theorem map_from (top : Nat) (x : Int) (i d : Nat) : [byteAt top x i] ++ (List.range' (i + 1) d).map (byteAt top x) = (List.range' i (d + 1)).map (byteAt top x) := by
  rw [List.range'_succ]
  rfl

open Q in
theorem bytes_l1 (six : Bool) (hi lo : Int) (k : Nat) : ∀ (d i : Nat) (acc : List Int), i + d = 8 → acc.length + d < 100 →
    addr_Bytes.l1 (k + 1 + d) acc (i : Int) six hi lo = some (acc ++ (List.range' i d).map (byteAt 56 lo))
  | 0, i, acc, h, _ => by
    rw [Nat.add_zero]
    simp only [addr_Bytes.l1]
    rw [if_neg (by omega)]
    simp
  | d + 1, i, acc, h, ha => by
    have hs := step_byte 56 lo i (by omega) (by omega)
    rw [← Nat.add_assoc]
    simp only [addr_Bytes.l1]
    rw [if_pos (by omega), show (56 : Int) = ((56 : Nat) : Int) from rfl, if_pos hs.1, if_pos (by omega), hs.2, show (i : Int) + 1 = ((i + 1 : Nat) : Int) by omega, w64 _ (by omega)]
    rw [bytes_l1 six hi lo k d (i + 1) _ (by omega) (by simp; omega), List.append_assoc, map_from]

open Q in
theorem bytes_l0 (six : Bool) (hi lo : Int) (k : Nat) : ∀ (d i : Nat) (acc : List Int), i + d = 8 → acc.length + d < 100 →
    addr_Bytes.l0 (k + 1 + d) acc (i : Int) six hi lo = addr_Bytes.l1 k (acc ++ (List.range' i d).map (byteAt 56 hi)) 0 six hi lo
  | 0, i, acc, h, _ => by
    rw [Nat.add_zero]
    simp only [addr_Bytes.l0]
    rw [if_neg (by omega)]
    simp
  | d + 1, i, acc, h, ha => by
    have hs := step_byte 56 hi i (by omega) (by omega)
    rw [← Nat.add_assoc]
    simp only [addr_Bytes.l0]
    rw [if_pos (by omega), show (56 : Int) = ((56 : Nat) : Int) from rfl, if_pos hs.1, if_pos (by omega), hs.2, show (i : Int) + 1 = ((i + 1 : Nat) : Int) by omega, w64 _ (by omega)]
    rw [bytes_l0 six hi lo k d (i + 1) _ (by omega) (by simp; omega), List.append_assoc, map_from]

open Q in
theorem bytes_l2 (six : Bool) (hi lo : Int) (k : Nat) : ∀ (d i : Nat) (acc : List Int), i + d = 4 → acc.length + d < 100 →
    addr_Bytes.l2 (k + 1 + d) acc (i : Int) six hi lo = some (acc ++ (List.range' i d).map (byteAt 24 lo))
  | 0, i, acc, h, _ => by
    rw [Nat.add_zero]
    simp only [addr_Bytes.l2]
    rw [if_neg (by omega)]
    simp
  | d + 1, i, acc, h, ha => by
    have hs := step_byte 24 lo i (by omega) (by omega)
    rw [← Nat.add_assoc]
    simp only [addr_Bytes.l2]
    rw [if_pos (by omega), show (24 : Int) = ((24 : Nat) : Int) from rfl, if_pos hs.1, if_pos (by omega), hs.2, show (i : Int) + 1 = ((i + 1 : Nat) : Int) by omega, w64 _ (by omega)]
    rw [bytes_l2 six hi lo k d (i + 1) _ (by omega) (by simp; omega), List.append_assoc, map_from]


theorem valid_val (six : Bool) (hi lo : Int) : Q.addr_Valid.f six hi lo = some (six || (hi == 0 && decide (lo < 4294967296))) := valid_f six hi lo

def bytesP (six : Bool) (hi lo : Int) : List Int :=
  if six then (List.range' 0 8).map (byteAt 56 hi) ++ (List.range' 0 8).map (byteAt 56 lo)
  else if hi = 0 ∧ lo < 4294967296 then (List.range' 0 4).map (byteAt 24 lo) else []

theorem bytes_f (six : Bool) (hi lo : Int) (k : Nat) (hk : 18 ≤ k) : Q.addr_Bytes.f k six hi lo = some (bytesP six hi lo) := by
  obtain ⟨m, rfl⟩ := Nat.exists_eq_add_of_le hk
  unfold Q.addr_Bytes.f bytesP
  rw [valid_val]
  cases six with
  | true =>
    simp only [Bool.true_or, Option.bind_some, if_true]
    rw [show 18 + m = (m + 9) + 1 + 8 by omega, show (0 : Int) = ((0 : Nat) : Int) from rfl, bytes_l0 true hi lo (m + 9) 8 0 [] (by omega) (by simp)]
    rw [show m + 9 = m + 1 + 8 by omega, show (0 : Int) = ((0 : Nat) : Int) from rfl, bytes_l1 true hi lo m 8 0 _ (by omega) (by simp)]
    rfl
  | false =>
    by_cases h : hi = 0 ∧ lo < 4294967296
    · rw [if_neg (by simp), if_pos h]
      simp only [h.1, h.2, Bool.false_or, BEq.rfl, Bool.true_and, decide_true, Option.bind_some, if_true]
      rw [if_neg (by simp), show 18 + m = (m + 13) + 1 + 4 by omega, show (0 : Int) = ((0 : Nat) : Int) from rfl, bytes_l2 false _ lo (m + 13) 4 0 [] (by omega) (by simp)]
      rfl
    · rw [if_neg (by simp), if_neg h]
      have e : (false || (hi == 0 && decide (lo < 4294967296))) = false := by
        simp only [Bool.false_or, Bool.and_eq_false_iff, beq_eq_false_iff_ne, decide_eq_false_iff_not]
        by_cases h0 : hi = 0
        · exact Or.inr (fun hl => h ⟨h0, hl⟩)
        · exact Or.inl h0
      rw [e]
      rfl

theorem or8_big (x n : Nat) (hx : x < 72057594037927936) (hn : n < 256) : or8 x n = ((x * 256 + n : Nat) : Int) := by
  unfold or8
  rw [show IntKind.u64.wrap ((x : Int) * 256) = ((x * 256 : Nat) : Int) by rw [IntKind.wrap_u64]; omega]
  rw [u64_or_nat _ _ (by omega) (by omega)]
  congr 1
  have h := Nat.two_pow_add_eq_or_of_lt (i := 8) (b := n) (by omega) x
  simp only [show (2 : Nat) ^ 8 = 256 from rfl] at h
  rw [Nat.mul_comm x 256, ← h]

theorem byteAt_nat (top x j : Nat) : byteAt top (x : Int) j = ((x / 2 ^ (top - 8 * j) % 256 : Nat) : Int) := by
  unfold byteAt
  rw [Int.natCast_emod, Int.natCast_ediv, Int.natCast_pow]
  rfl

theorem more_bytes (x p : Nat) : x / (p * 256) * 256 + x / p % 256 = x / p := by
  rw [← Nat.div_div_eq_div_mul]
  omega

open Q in
theorem of_step (l : List Int) (n k i : Nat) (six : Bool) (a b : Int) (v : Nat) (hn : l.length = n) (h64 : n < 100) (hi : i < n) (hv : l.getD i 0 = (v : Int)) (hv2 : v < 256) :
    addr_Of.l0 (k + 1) l (n : Int) (i : Int) six a b = if six = true ∧ i < 8 then addr_Of.l0 k l (n : Int) ((i + 1 : Nat) : Int) six (or8 a v) b else addr_Of.l0 k l (n : Int) ((i + 1 : Nat) : Int) six a (or8 b v) := by
  have hrd : rd l (i : Int) = (v : Int) := by unfold rd; rw [Int.toNat_natCast, hv]
  have hw : IntKind.u64.wrap (v : Int) = v := by rw [IntKind.wrap_u64]; omega
  simp only [addr_Of.l0]
  rw [if_pos (by omega), if_pos (by omega), if_pos (by omega), hrd, hw, show (i : Int) + 1 = ((i + 1 : Nat) : Int) by omega, w64 _ (by omega)]
  cases six with
  | true =>
    by_cases h8 : i < 8
    · rw [if_pos rfl, if_pos (by omega), if_pos ⟨rfl, h8⟩]
      rfl
    · rw [if_pos rfl, if_neg (by omega), if_neg (by omega)]
      rfl
  | false =>
    rw [if_neg (by simp), if_neg (by simp)]
    rfl

theorem get_hi (hi lo : Int) (i : Nat) (h : i < 8) : (bytesP true hi lo).getD i 0 = byteAt 56 hi i := by
  rcases (by omega : i = 0 ∨ i = 1 ∨ i = 2 ∨ i = 3 ∨ i = 4 ∨ i = 5 ∨ i = 6 ∨ i = 7) with rfl | rfl | rfl | rfl | rfl | rfl | rfl | rfl <;> rfl
theorem get_lo (hi lo : Int) (i : Nat) (h : i < 8) : (bytesP true hi lo).getD (8 + i) 0 = byteAt 56 lo i := by
  rcases (by omega : i = 0 ∨ i = 1 ∨ i = 2 ∨ i = 3 ∨ i = 4 ∨ i = 5 ∨ i = 6 ∨ i = 7) with rfl | rfl | rfl | rfl | rfl | rfl | rfl | rfl <;> rfl
theorem get_four (lo : Int) (i : Nat) (hl : lo < 4294967296) (h : i < 4) : (bytesP false 0 lo).getD i 0 = byteAt 24 lo i := by
  have e : bytesP false 0 lo = (List.range' 0 4).map (byteAt 24 lo) := by unfold bytesP; rw [if_neg (by simp), if_pos ⟨rfl, hl⟩]
  rw [e]
  rcases (by omega : i = 0 ∨ i = 1 ∨ i = 2 ∨ i = 3) with rfl | rfl | rfl | rfl <;> rfl

theorem or8_next (x top i : Nat) (ht : 8 * i + 8 ≤ top + 8) (hx : x < 2 ^ (top + 8)) (h56 : top ≤ 56) (hi : i = 0 ∨ 1 ≤ i) :
    or8 ((x / 2 ^ (top + 8 - 8 * i) : Nat) : Int) ((x / 2 ^ (top - 8 * i) % 256 : Nat) : Int) = ((x / 2 ^ (top + 8 - 8 * (i + 1)) : Nat) : Int) := by
  have e : top + 8 - 8 * i = (top - 8 * i) + 8 := by omega
  have h1 : x / 2 ^ (top + 8 - 8 * i) < 72057594037927936 := by
    rcases hi with rfl | hi
    · rw [Nat.mul_zero, Nat.sub_zero, Nat.div_eq_of_lt hx]; omega
    · rw [Nat.div_lt_iff_lt_mul (Nat.two_pow_pos _)]
      calc x < 2 ^ (top + 8) := hx
        _ ≤ 2 ^ (56 + (top + 8 - 8 * i)) := Nat.pow_le_pow_right (by omega) (by omega)
        _ = 72057594037927936 * 2 ^ (top + 8 - 8 * i) := by rw [Nat.pow_add]
  rw [or8_big _ _ h1 (Nat.mod_lt _ (by omega)), e, Nat.pow_add, show (2 : Nat) ^ 8 = 256 from rfl, more_bytes]
  congr 3
  omega

open Q in
theorem of_hi (hi lo : Nat) (h1 : hi < 18446744073709551616) (k : Nat) : ∀ d i : Nat, i + d = 8 →
    addr_Of.l0 (k + d) (bytesP true hi lo) ((16 : Nat) : Int) (i : Int) true ((hi / 2 ^ (56 + 8 - 8 * i) : Nat) : Int) 0 = addr_Of.l0 k (bytesP true hi lo) ((16 : Nat) : Int) ((8 : Nat) : Int) true (hi : Int) 0
  | 0, i, h => by
    obtain rfl : i = 8 := by omega
    simp
  | d + 1, i, h => by
    rw [← Nat.add_assoc, of_step (bytesP true hi lo) 16 (k + d) i true _ _ _ rfl (by omega) (by omega) ((get_hi hi lo i (by omega)).trans (byteAt_nat 56 hi i)) (Nat.mod_lt _ (by omega)), if_pos ⟨rfl, by omega⟩, or8_next hi 56 i (by omega) h1 (by omega) (by omega)]
    exact of_hi hi lo h1 k d (i + 1) (by omega)

open Q in
theorem of_lo (hi lo : Nat) (l1 : lo < 18446744073709551616) (k : Nat) : ∀ d i : Nat, i + d = 8 →
    addr_Of.l0 (k + 1 + d) (bytesP true hi lo) ((16 : Nat) : Int) ((8 + i : Nat) : Int) true (hi : Int) ((lo / 2 ^ (56 + 8 - 8 * i) : Nat) : Int) = some (true, (hi : Int), (lo : Int), 0)
  | 0, i, h => by
    obtain rfl : i = 8 := by omega
    simp only [addr_Of.l0]
    rw [if_neg (by omega)]
    simp
  | d + 1, i, h => by
    rw [← Nat.add_assoc, of_step (bytesP true hi lo) 16 (k + 1 + d) (8 + i) true _ _ _ rfl (by omega) (by omega) ((get_lo hi lo i (by omega)).trans (byteAt_nat 56 lo i)) (Nat.mod_lt _ (by omega)), if_neg (by omega), or8_next lo 56 i (by omega) l1 (by omega) (by omega)]
    exact of_lo hi lo l1 k d (i + 1) (by omega)

theorem four_len (lo : Int) (h : lo < 4294967296) : (bytesP false 0 lo).length = 4 := by
  unfold bytesP
  rw [if_neg (by simp), if_pos ⟨rfl, h⟩]
  rfl

open Q in
theorem of_four (lo : Nat) (l1 : lo < 4294967296) (k : Nat) : ∀ d i : Nat, i + d = 4 →
    addr_Of.l0 (k + 1 + d) (bytesP false 0 lo) ((4 : Nat) : Int) (i : Int) false 0 ((lo / 2 ^ (24 + 8 - 8 * i) : Nat) : Int) = some (false, 0, (lo : Int), 0)
  | 0, i, h => by
    obtain rfl : i = 4 := by omega
    simp only [addr_Of.l0]
    rw [if_neg (by omega)]
    simp
  | d + 1, i, h => by
    rw [← Nat.add_assoc, of_step (bytesP false 0 lo) 4 (k + 1 + d) i false _ _ _ (four_len lo (by omega)) (by omega) (by omega) ((get_four lo i (by omega) (by omega)).trans (byteAt_nat 24 lo i)) (Nat.mod_lt _ (by omega)), if_neg (by simp), or8_next lo 24 i (by omega) l1 (by omega) (by omega)]
    exact of_four lo l1 k d (i + 1) (by omega)

/-- B7: what an address is told as in bytes is that address -/
theorem of_bytes (six : Bool) (hi lo : Int) (h0 : 0 ≤ hi) (h1 : hi < 18446744073709551616) (l0 : 0 ≤ lo) (l1 : lo < 18446744073709551616) (hv : six = true ∨ hi = 0 ∧ lo < 4294967296) (k : Nat) (hk : 18 ≤ k) :
    Q.addr_Of.f k (bytesP six hi lo) = some (six, hi, lo, 0) ∧ (((bytesP six hi lo).length : Int) == 16) = six := by
  obtain ⟨m, rfl⟩ := Nat.exists_eq_add_of_le hk
  obtain ⟨hn, rfl⟩ := Int.eq_ofNat_of_zero_le h0
  obtain ⟨ln, rfl⟩ := Int.eq_ofNat_of_zero_le l0
  cases six with
  | true =>
    refine ⟨?_, rfl⟩
    have e : (bytesP true (hn : Int) (ln : Int)).length = 16 := rfl
    unfold Q.addr_Of.f
    rw [e, if_neg (by omega), show 18 + m = (m + 17) + 1 by omega]
    simp only [Q.addr_Of.j0, e]
    rw [if_neg (by decide)]
    have h := of_hi hn ln (by omega) (m + 1 + 8) 8 0 (by omega)
    rw [Nat.div_eq_of_lt (by omega)] at h
    have h2 := of_lo hn ln (by omega) m 8 0 (by omega)
    rw [Nat.div_eq_of_lt (by omega)] at h2
    exact h.trans h2
  | false =>
    obtain ⟨h2, h3⟩ := hv.resolve_left (by simp)
    rw [h2]
    have e : (bytesP false 0 (ln : Int)).length = 4 := four_len _ h3
    refine ⟨?_, by rw [e]; rfl⟩
    unfold Q.addr_Of.f
    rw [e, if_pos (show ((4 : Nat) : Int) = 4 from rfl), show 18 + m = (m + 17) + 1 by omega]
    simp only [Q.addr_Of.j0, e]
    rw [if_neg (by decide)]
    have h := of_four ln (by omega) (m + 12) 4 0 (by omega)
    rw [Nat.div_eq_of_lt (by omega)] at h
    exact h
end Go.Proofs.YtaekcldkfkiekaaDoor

namespace Go.Proofs.YtaekcldkfkiekaaDoor
open Go.RowKit Go.Proofs.YtaekcldkfkiekaaDoorW.PrintWords Go.Proofs.YtaekcldkfkiekaaDoorW.PrintLast Go.Proofs.YtaekcldkfkiekaaDoorW.PrintMore

open Q in
/-- the byte behind so many others -/
theorem put_l1 (v0 : Int) (xs : List Int) (i : Nat) (hi : i < 9) (k : Nat) (hx : xs.length < 100) : ∀ (d j x : Nat), j + d = i → x < 18446744073709551616 →
    crosswayref01_Put.l1 (k + 1 + d) v0 xs (i : Int) (x : Int) (j : Int) = crosswayref01_Put.l0 k v0 (xs ++ [((x / 256 ^ d % 256 : Nat) : Int)]) ((i : Int) - 1)
  | 0, j, x, h, hb => by
    simp only [crosswayref01_Put.l1]
    rw [if_neg (by omega), if_pos (by omega)]
    rw [show wrap64 ((i : Int) - 1) = (i : Int) - 1 by unfold wrap64; omega]
    congr 2
    rw [Nat.pow_zero, Nat.div_one]
    simp only [List.cons.injEq, and_true]
    rw [Int.tmod_eq_emod_of_nonneg (by omega)]
    omega
  | d + 1, j, x, h, hb => by
    rw [← Nat.add_assoc]
    simp only [crosswayref01_Put.l1]
    rw [if_pos (by omega), show Int.tdiv (x : Int) 256 = ((x / 256 : Nat) : Int) by rw [Int.tdiv_eq_ediv_of_nonneg (by omega)]; rfl, u64_nat (by omega), show (j : Int) + 1 = ((j + 1 : Nat) : Int) by omega, w64 _ (by omega)]
    rw [put_l1 v0 xs i hi k hx d (j + 1) (x / 256) (by omega) (by omega), Nat.div_div_eq_div_mul, ← Nat.pow_succ']

/-- bytes from a place down -/
def down (x : Nat) : Nat → List Int
  | 0 => []
  | n + 1 => ((x / 256 ^ n % 256 : Nat) : Int) :: down x n

open Q in
theorem put_l0 (x : Nat) (hb : x < 18446744073709551616) (k : Nat) : ∀ (n : Nat) (xs : List Int), n ≤ 8 → xs.length + n < 100 →
    crosswayref01_Put.l0 (k + 1 + 10 * n) (x : Int) xs ((n : Int) - 1) = some (xs ++ down x n)
  | 0, xs, h, hx => by
    simp only [crosswayref01_Put.l0]
    rw [if_neg (by omega)]
    simp [down]
  | n + 1, xs, h, hx => by
    rw [show k + 1 + 10 * (n + 1) = (k + 1 + 10 * n + (8 - n)) + 1 + n + 1 by omega]
    simp only [crosswayref01_Put.l0]
    rw [if_pos (by omega), show ((n + 1 : Nat) : Int) - 1 = (n : Int) by omega]
    have h1 := put_l1 (x : Int) xs n (by omega) (k + 1 + 10 * n + (8 - n)) (by omega) n 0 x (by omega) hb
    rw [show (k + 1 + 10 * n + (8 - n)) + 1 + n = k + 1 + 10 * n + (8 - n) + 1 + n by omega] at h1
    have h2 := put_l0 x hb (k + (8 - n)) n (xs ++ [((x / 256 ^ n % 256 : Nat) : Int)]) (by omega) (by simp; omega)
    rw [show k + (8 - n) + 1 + 10 * n = k + 1 + 10 * n + (8 - n) by omega] at h2
    refine h1.trans (h2.trans ?_)
    simp [down]

theorem put_f (x : Nat) (hb : x < 18446744073709551616) (n : Nat) (hn : n ≤ 8) (xs : List Int) (hx : xs.length < 50) (k : Nat) (hk : 100 ≤ k) : Q.crosswayref01_Put.f k xs (n : Int) (x : Int) = some (xs ++ down x n) := by
  obtain ⟨m, rfl⟩ := Nat.exists_eq_add_of_le hk
  unfold Q.crosswayref01_Put.f
  rw [if_pos (by simp; omega), List.nil_append]
  have e : mn (mx (n : Int) 0) 8 = (n : Int) := by
    unfold mn mx
    split <;> split <;> omega
  rw [e]
  have := put_l0 x hb (m + 99 - 10 * n) n xs hn (by omega)
  rw [show m + 99 - 10 * n + 1 + 10 * n = 100 + m by omega] at this
  exact this

theorem down8 (x : Nat) : down x 8 = (List.range' 0 8).map (byteAt 56 x) := by
  simp only [down, List.range', List.map_cons, List.map_nil, byteAt_nat]

theorem down4 (x : Nat) : down x 4 = (List.range' 0 4).map (byteAt 24 x) := by
  simp only [down, List.range', List.map_cons, List.map_nil, byteAt_nat]

theorem refBytes_f (six : Bool) (hi lo : Nat) (h1 : hi < 18446744073709551616) (l1 : lo < 18446744073709551616) (k : Nat) (hk : 100 ≤ k) : Q.crosswayref03_Bytes.f k six (hi : Int) (lo : Int) = some (bytesP six (hi : Int) (lo : Int)) := by
  unfold Q.crosswayref03_Bytes.f bytesP
  have ev : Q.crosswayref03_Valid.f six (hi : Int) (lo : Int) = some (six || ((hi : Int) == 0 && decide ((lo : Int) < 4294967296))) := valid_f six hi lo
  rw [ev]
  simp only [Option.bind_some]
  cases six with
  | true =>
    rw [if_pos (by simp), if_pos rfl, if_pos rfl]
    have p1 := put_f hi h1 8 (by omega) [] (by simp) k hk
    have p2 := put_f lo l1 8 (by omega) (down hi 8) (by simp [down]) k hk
    rw [List.nil_append] at p1
    rw [show (8 : Int) = ((8 : Nat) : Int) from rfl, p1]
    simp only [Option.bind_some]
    rw [p2, down8, down8]
    rfl
  | false =>
    by_cases hv : (hi : Int) = 0 ∧ (lo : Int) < 4294967296
    · rw [if_pos (by simp [hv]), if_neg (by simp), if_neg (by simp), if_pos hv]
      have p1 := put_f lo l1 4 (by omega) [] (by simp) k hk
      rw [List.nil_append] at p1
      rw [show (4 : Int) = ((4 : Nat) : Int) from rfl, p1, down4]
      rfl
    · rw [if_neg (by simp; omega), if_neg (by simp), if_neg hv]

theorem pair_at (hi lo : Nat) (i : Nat) (h : i < 8) : ∃ a b : Nat, rd (bytesP true (hi : Int) (lo : Int)) ((2 * i : Nat) : Int) = a ∧ rd (bytesP true (hi : Int) (lo : Int)) ((2 * i + 1 : Nat) : Int) = b ∧ a < 256 ∧ b < 256 ∧
    (groupsN hi lo)[i]? = some (a * 256 + b) := by
  rw [rd_at, rd_at]
  rcases (by omega : i = 0 ∨ i = 1 ∨ i = 2 ∨ i = 3 ∨ i = 4 ∨ i = 5 ∨ i = 6 ∨ i = 7) with rfl | rfl | rfl | rfl | rfl | rfl | rfl | rfl
  · refine ⟨_, _, (get_hi hi lo 0 (by omega)).trans (byteAt_nat 56 hi 0), (get_hi hi lo 1 (by omega)).trans (byteAt_nat 56 hi 1), Nat.mod_lt _ (by omega), Nat.mod_lt _ (by omega), ?_⟩
    simp only [groupsN, List.getElem?_cons_zero, Option.some.injEq]; omega
  · refine ⟨_, _, (get_hi hi lo 2 (by omega)).trans (byteAt_nat 56 hi 2), (get_hi hi lo 3 (by omega)).trans (byteAt_nat 56 hi 3), Nat.mod_lt _ (by omega), Nat.mod_lt _ (by omega), ?_⟩
    simp only [groupsN, List.getElem?_cons_zero, List.getElem?_cons_succ, Option.some.injEq]; omega
  · refine ⟨_, _, (get_hi hi lo 4 (by omega)).trans (byteAt_nat 56 hi 4), (get_hi hi lo 5 (by omega)).trans (byteAt_nat 56 hi 5), Nat.mod_lt _ (by omega), Nat.mod_lt _ (by omega), ?_⟩
    simp only [groupsN, List.getElem?_cons_zero, List.getElem?_cons_succ, Option.some.injEq]; omega
  · refine ⟨_, _, (get_hi hi lo 6 (by omega)).trans (byteAt_nat 56 hi 6), (get_hi hi lo 7 (by omega)).trans (byteAt_nat 56 hi 7), Nat.mod_lt _ (by omega), Nat.mod_lt _ (by omega), ?_⟩
    simp only [groupsN, List.getElem?_cons_zero, List.getElem?_cons_succ, Option.some.injEq]; omega
  · refine ⟨_, _, (get_lo hi lo 0 (by omega)).trans (byteAt_nat 56 lo 0), (get_lo hi lo 1 (by omega)).trans (byteAt_nat 56 lo 1), Nat.mod_lt _ (by omega), Nat.mod_lt _ (by omega), ?_⟩
    simp only [groupsN, List.getElem?_cons_zero, List.getElem?_cons_succ, Option.some.injEq]; omega
  · refine ⟨_, _, (get_lo hi lo 2 (by omega)).trans (byteAt_nat 56 lo 2), (get_lo hi lo 3 (by omega)).trans (byteAt_nat 56 lo 3), Nat.mod_lt _ (by omega), Nat.mod_lt _ (by omega), ?_⟩
    simp only [groupsN, List.getElem?_cons_zero, List.getElem?_cons_succ, Option.some.injEq]; omega
  · refine ⟨_, _, (get_lo hi lo 4 (by omega)).trans (byteAt_nat 56 lo 4), (get_lo hi lo 5 (by omega)).trans (byteAt_nat 56 lo 5), Nat.mod_lt _ (by omega), Nat.mod_lt _ (by omega), ?_⟩
    simp only [groupsN, List.getElem?_cons_zero, List.getElem?_cons_succ, Option.some.injEq]; omega
  · refine ⟨_, _, (get_lo hi lo 6 (by omega)).trans (byteAt_nat 56 lo 6), (get_lo hi lo 7 (by omega)).trans (byteAt_nat 56 lo 7), Nat.mod_lt _ (by omega), Nat.mod_lt _ (by omega), ?_⟩
    simp only [groupsN, List.getElem?_cons_zero, List.getElem?_cons_succ, Option.some.injEq]; omega

open Q in
theorem groups_l0 (hi lo : Nat) (k : Nat) : ∀ (d i : Nat) (acc : List Int), i + d = 8 → acc.length + d < 100 →
    crosswayref03_Groups.l0 (k + 1 + d) (bytesP true (hi : Int) (lo : Int)) acc ((2 * i : Nat) : Int) = some (acc ++ intsOf ((groupsN hi lo).drop i))
  | 0, i, acc, h, _ => by
    obtain rfl : i = 8 := by omega
    simp only [crosswayref03_Groups.l0]
    rw [if_neg (by omega)]
    simp [groupsN, intsOf]
  | d + 1, i, acc, h, ha => by
    obtain ⟨a, b, h1, h2, ha2, hb2, hg⟩ := pair_at hi lo i (by omega)
    have hl : (bytesP true (hi : Int) (lo : Int)).length = 16 := rfl
    rw [← Nat.add_assoc]
    simp only [crosswayref03_Groups.l0]
    rw [show ((2 * i : Nat) : Int) + 1 = ((2 * i + 1 : Nat) : Int) by omega, w64 _ (by omega), h1, h2, hl]
    rw [if_pos (by omega), if_pos (by omega), if_pos (by omega), if_pos (by omega), if_pos (by omega), if_pos (by omega)]
    rw [u64_nat (by omega), show (a : Int) * 256 = ((a * 256 : Nat) : Int) by omega, u64_nat (by omega), u64_nat (by omega), show ((a * 256 : Nat) : Int) + (b : Int) = ((a * 256 + b : Nat) : Int) by omega, u64_nat (by omega)]
    rw [show ((2 * i : Nat) : Int) + 2 = ((2 * (i + 1) : Nat) : Int) by omega, w64 _ (by omega)]
    rw [groups_l0 hi lo k d (i + 1) _ (by omega) (by simp; omega)]
    have hlt : i < (groupsN hi lo).length := by rw [groupsN_len]; omega
    rw [List.drop_eq_getElem_cons hlt]
    rw [List.getElem?_eq_getElem hlt] at hg
    rw [Option.some.inj hg]
    simp [intsOf]

theorem groups_f (hi lo : Nat) (h1 : hi < 18446744073709551616) (l1 : lo < 18446744073709551616) (k : Nat) (hk : 100 ≤ k) : Q.crosswayref03_Groups.f k true (hi : Int) (lo : Int) = some (intsOf (groupsN hi lo)) := by
  unfold Q.crosswayref03_Groups.f
  rw [refBytes_f true hi lo h1 l1 k hk]
  obtain ⟨m, rfl⟩ := Nat.exists_eq_add_of_le hk
  have := groups_l0 hi lo (m + 91) 8 0 [] (by omega) (by simp)
  rw [show m + 91 + 1 + 8 = 100 + m by omega] at this
  simpa using this

def chB (d : Nat) : UInt8 := UInt8.ofNat (hexd (d : Int)).toNat

theorem ext_digit (d : Nat) (h : d < 16) : (⟨#[48, 49, 50, 51, 52, 53, 54, 55, 56, 57, 97, 98, 99, 100, 101, 102]⟩ : ByteArray).extract d (d + 1) = ofL [chB d] := by
  rcases (by omega : d = 0 ∨ d = 1 ∨ d = 2 ∨ d = 3 ∨ d = 4 ∨ d = 5 ∨ d = 6 ∨ d = 7 ∨ d = 8 ∨ d = 9 ∨ d = 10 ∨ d = 11 ∨ d = 12 ∨ d = 13 ∨ d = 14 ∨ d = 15) with rfl | rfl | rfl | rfl | rfl | rfl | rfl | rfl | rfl | rfl | rfl | rfl | rfl | rfl | rfl | rfl
  all_goals rfl

open Q in
theorem digits_step (b n k : Nat) (l : List UInt8) (hb : 2 ≤ b) (hb2 : b ≤ 16) (hn : n < 18446744073709551616) (hl : l.length < 100) (h : l = [] ∨ 0 < n) :
    crosswayref03_Digits.l0 (k + 1) (n : Int) (b : Int) (ofL l) = crosswayref03_Digits.l0 k ((n / b : Nat) : Int) (b : Int) (ofL (chB (n % b) :: l)) := by
  have hm : n % b < b := Nat.mod_lt _ (by omega)
  have hdv : n / b ≤ n := Nat.div_le_self _ _
  have e1 : Int.tmod (n : Int) (b : Int) = ((n % b : Nat) : Int) := by rw [Int.tmod_eq_emod_of_nonneg (by omega)]; rfl
  have e2 : Int.tdiv (n : Int) (b : Int) = ((n / b : Nat) : Int) := by rw [Int.tdiv_eq_ediv_of_nonneg (by omega)]; rfl
  have e3 : IntKind.u64.wrap (((n % b : Nat) : Int) + 1) = ((n % b + 1 : Nat) : Int) := by rw [show ((n % b : Nat) : Int) + 1 = ((n % b + 1 : Nat) : Int) by omega, u64_nat (by omega)]
  have hsz : (ofL [chB (n % b)]).size + (ofL l).size ≤ 9223372036854775807 := by rw [ofL_size, ofL_size]; simp; omega
  simp only [crosswayref03_Digits.l0, e1, e2, e3, Int.toNat_natCast, ext_digit _ (show n % b < 16 by omega)]
  by_cases h0 : l = []
  · rw [if_pos (by rw [ByteArray.toList_eq]; show (ofL l).data.toList = []; rw [ofL_data]; exact h0)]
    rw [if_neg (by omega), if_pos (by omega), if_pos (by omega), if_pos (by omega), if_pos hsz, u64_nat (by omega), ofL_append]
    rfl
  · rw [if_neg (by rw [ByteArray.toList_eq]; show ¬ (ofL l).data.toList = []; rw [ofL_data]; exact h0), if_pos (by have := h.resolve_left h0; omega)]
    rw [if_neg (by omega), if_pos (by omega), if_pos (by omega), if_pos (by omega), if_pos hsz, u64_nat (by omega), ofL_append]
    rfl

open Q in
theorem digits_stop (b k : Nat) (l : List UInt8) (h : l ≠ []) : crosswayref03_Digits.l0 (k + 1) (0 : Int) (b : Int) (ofL l) = some (ofL l) := by
  simp only [crosswayref03_Digits.l0]
  rw [if_neg (by rw [ByteArray.toList_eq]; show ¬ (ofL l).data.toList = [] ; rw [ofL_data]; exact h), if_neg (by omega)]

theorem hexn_snoc (n : Nat) : ∀ k, hexn n (k + 1) = hexn (n / 16) k ++ [hexd ((n % 16 : Nat) : Int)]
  | 0 => by simp [hexn]
  | k + 1 => by
    have ih := hexn_snoc n k
    conv => lhs; unfold hexn
    rw [ih]
    conv => rhs; unfold hexn
    rw [List.cons_append, Nat.div_div_eq_div_mul, ← Nat.pow_succ']

open Q in
theorem digits_hex (K : Nat) : ∀ (k n : Nat) (l : List UInt8), n < 16 ^ (k + 1) → (k = 0 ∨ 16 ^ k ≤ n) → k ≤ 3 → l.length + k < 50 → (l = [] ∨ 0 < n) →
    crosswayref03_Digits.l0 (K + 1 + (k + 1)) (n : Int) ((16 : Nat) : Int) (ofL l) = some (ofL (((hexn n (k + 1)).map fun x : Int => UInt8.ofNat x.toNat) ++ l))
  | 0, n, l, hn, _, _, hl, h0 => by
    rw [digits_step 16 n (K + 1) l (by omega) (by omega) (by omega) (by omega) h0, Nat.div_eq_of_lt (by omega)]
    have := digits_stop 16 K (chB (n % 16) :: l) (by simp)
    refine this.trans ?_
    simp [hexn, chB]
  | k + 1, n, l, hn, hk, h3, hl, h0 => by
    have hk := hk.resolve_left (by omega)
    have hp : 16 ^ (k + 1) = 16 ^ k * 16 := Nat.pow_succ 16 k
    have hp2 : 16 ^ (k + 1 + 1) = 16 ^ (k + 1) * 16 := Nat.pow_succ 16 (k + 1)
    have hb : n < 18446744073709551616 := by
      have : 16 ^ (k + 1 + 1) ≤ 16 ^ 5 := Nat.pow_le_pow_right (by omega) (by omega)
      omega
    have hpos : 0 < 16 ^ k := Nat.pow_pos (by omega)
    have q1 : 16 ^ k ≤ n / 16 := by omega
    have q2 : n / 16 < 16 ^ (k + 1) := by omega
    have q3 : 0 < n / 16 := by omega
    rw [show K + 1 + (k + 1 + 1) = (K + 1 + (k + 1)) + 1 by omega, digits_step 16 n _ l (by omega) (by omega) hb (by omega) h0]
    rw [digits_hex K k (n / 16) (chB (n % 16) :: l) q2 (Or.inr q1) (by omega) (by simp; omega) (Or.inr q3)]
    rw [hexn_snoc n (k + 1)]
    simp [chB]

theorem hexCount (n : Nat) (h : n < 65536) : ∃ k, (if n < 16 then 1 else if n < 256 then 2 else if n < 4096 then 3 else 4) = k + 1 ∧ k ≤ 3 ∧ n < 16 ^ (k + 1) ∧ (k = 0 ∨ 16 ^ k ≤ n) := by
  by_cases h1 : n < 16
  · exact ⟨0, by rw [if_pos h1], by omega, by omega, Or.inl rfl⟩
  · by_cases h2 : n < 256
    · exact ⟨1, by rw [if_neg h1, if_pos h2], by omega, by omega, Or.inr (by omega)⟩
    · by_cases h3 : n < 4096
      · exact ⟨2, by rw [if_neg h1, if_neg h2, if_pos h3], by omega, by omega, Or.inr (by omega)⟩
      · exact ⟨3, by rw [if_neg h1, if_neg h2, if_neg h3], by omega, by omega, Or.inr (by omega)⟩

theorem digits16 (n : Nat) (h : n < 65536) (k : Nat) (hk : 10 ≤ k) : Q.crosswayref03_Digits.f k (n : Int) 16 = some (hexS n) := by
  obtain ⟨m, rfl⟩ := Nat.exists_eq_add_of_le hk
  obtain ⟨c, hc, h3, hlt, hle⟩ := hexCount n h
  have := digits_hex (m + 8 - c) c n [] hlt hle h3 (by simp; omega) (Or.inl rfl)
  rw [show m + 8 - c + 1 + (c + 1) = 10 + m by omega] at this
  unfold Q.crosswayref03_Digits.f
  refine this.trans ?_
  unfold hexS
  rw [hc, List.append_nil]
  rfl

theorem digits10 (n : Nat) (h : n < 256) (k : Nat) (hk : 10 ≤ k) : Q.crosswayref03_Digits.f k (n : Int) 10 = some (decS n) := by
  obtain ⟨m, rfl⟩ := Nat.exists_eq_add_of_le hk
  have hch : ∀ d : Nat, d < 10 → chB d = UInt8.ofNat (48 + d) := fun d hd => by
    unfold chB hexd
    rw [if_pos (by omega)]
    congr 1
  unfold Q.crosswayref03_Digits.f decS
  rw [decS_list n (by omega), show 10 + m = (m + 7) + 1 + 1 + 1 by omega]
  have s1 := digits_step 10 n (m + 7 + 1 + 1) [] (by omega) (by omega) (by omega) (by simp) (Or.inl rfl)
  refine s1.trans ?_
  split
  · rename_i h1
    rw [Nat.div_eq_of_lt h1]
    refine (digits_stop 10 _ _ (by simp)).trans ?_
    rw [hch _ (Nat.mod_lt _ (by omega)), Nat.mod_eq_of_lt h1]
  · rename_i h1
    rw [digits_step 10 (n / 10) (m + 7 + 1) _ (by omega) (by omega) (by omega) (by simp) (Or.inr (by omega))]
    split
    · rename_i h2
      rw [Nat.div_eq_of_lt (show n / 10 < 10 by omega)]
      refine (digits_stop 10 _ _ (by simp)).trans ?_
      rw [hch _ (Nat.mod_lt _ (by omega)), hch _ (Nat.mod_lt _ (by omega)), Nat.mod_eq_of_lt (show n / 10 < 10 by omega)]
    · rename_i h2
      rw [digits_step 10 (n / 10 / 10) (m + 7) _ (by omega) (by omega) (by omega) (by simp) (Or.inr (by omega)), Nat.div_eq_of_lt (show n / 10 / 10 < 10 by omega)]
      rw [show m + 7 = (m + 6) + 1 by omega]
      refine (digits_stop 10 _ _ (by simp)).trans ?_
      rw [hch _ (Nat.mod_lt _ (by omega)), hch _ (Nat.mod_lt _ (by omega)), hch _ (Nat.mod_lt _ (by omega)), Nat.mod_eq_of_lt (show n / 10 / 10 < 10 by omega), Nat.div_div_eq_div_mul]
end Go.Proofs.YtaekcldkfkiekaaDoor

namespace Go.Proofs.YtaekcldkfkiekaaDoor
open Go.RowKit Go.Proofs.YtaekcldkfkiekaaDoorW.PrintWords Go.Proofs.YtaekcldkfkiekaaDoorW.PrintLast Go.Proofs.YtaekcldkfkiekaaDoorW.PrintMore

theorem join_snoc (c : UInt8) : ∀ (ps : List (List UInt8)) (p : List UInt8), ps ≠ [] → Lib.join (ps ++ [p]) [c] = Lib.join ps [c] ++ c :: p
  | [], _, h => absurd rfl h
  | [x], p, _ => by rw [List.cons_append, List.nil_append, join_cons2, Lib.join_one, Lib.join_one]
  | x :: y :: r, p, _ => by
    rw [List.cons_append, List.cons_append, join_cons2, ← List.cons_append, join_snoc c (y :: r) p (by simp), join_cons2]
    simp

theorem Spells.snoc : ∀ {ps : List (List UInt8)} {ns : List Nat} {p : List UInt8} {n : Nat}, Spells ps ns → numP 16 4 p = some n → Spells (ps ++ [p]) (ns ++ [n])
  | [], [], _, _, _, h => ⟨h, trivial⟩
  | _ :: _, _ :: _, _, _, h, h2 => ⟨h.1, Spells.snoc h.2 h2⟩
  | [], _ :: _, _, _, h, _ => h.elim
  | _ :: _, [], _, _, h, _ => h.elim

/-- the last byte is no colon -/
theorem join_last {ps : List (List UInt8)} {ns : List Nat} (h : Spells ps ns) (h0 : ps ≠ []) : ∃ l c, Lib.join ps [58] = l ++ [c] ∧ c ≠ 58 := by
  have hne : Lib.join ps [58] ≠ [] := by
    cases ps with
    | nil => exact absurd rfl h0
    | cons p ps => exact join_ne p ps 58 (h.part p (by simp)).1
  refine ⟨(Lib.join ps [58]).dropLast, (Lib.join ps [58]).getLast hne, (List.dropLast_concat_getLast hne).symm, fun hc => ?_⟩
  have hl : 0 < (Lib.join ps [58]).length := List.length_pos_iff.2 hne
  obtain ⟨c, h1, _⟩ := join_plain h ((Lib.join ps [58]).length - 1) (by
    rw [List.getElem?_eq_getElem (by omega), ← List.getLast_eq_getElem hne, hc])
  rw [List.getElem?_eq_none (by omega)] at h1
  cases h1

theorem spells_len {ps : List (List UInt8)} {ns : List Nat} (h : Spells ps ns) : (Lib.join ps [58]).length ≤ ps.length * 5 := by
  refine join_len [58] 4 ps (fun x hx => ?_)
  have : ∀ {ps : List (List UInt8)} {ns : List Nat}, Spells ps ns → ∀ p ∈ ps, p.length ≤ 4 := by
    intro ps
    induction ps with
    | nil => intro ns _ p hp; cases hp
    | cons q ps ih =>
      intro ns h p hp
      cases ns with
      | nil => exact h.elim
      | cons n ns =>
        rcases List.mem_cons.1 hp with rfl | hp
        · exact (numP_ne h.1).2.1
        · exact ih h.2 p hp
  exact this h x hx

/-- the last byte of a text, as the code reads it -/
theorem bt_last (l : List UInt8) (c : UInt8) : bt (ofL (l ++ [c])) (((l ++ [c]).length - 1 : Nat) : Int) = (c.toNat : Int) := by
  have := bt_nat (ofL (l ++ [c])) ((l ++ [c]).length - 1) (by rw [ofL_data]; simp)
  rw [this]
  simp [ofL_data]

/-- the text so far: groups with colons between, then perhaps a gap and groups behind it -/
def soFar (ps : List (List UInt8)) : Option (List (List UInt8)) → List UInt8
  | none => Lib.join ps [58]
  | some qs => Lib.join ps [58] ++ [58, 58] ++ Lib.join qs [58]

/-- one group more -/
def oneMore (s p : List UInt8) (sep : Bool) : List UInt8 := if sep then s ++ [58] ++ p else s ++ p

theorem soFar_first (p : List UInt8) : oneMore (soFar [] none) p false = soFar [p] none := by
  simp [oneMore, soFar, Lib.join_nil, Lib.join_one]

theorem soFar_more (ps : List (List UInt8)) (p : List UInt8) (h : ps ≠ []) : oneMore (soFar ps none) p true = soFar (ps ++ [p]) none := by
  simp [oneMore, soFar, join_snoc 58 ps p h]

theorem soFar_behind (ps : List (List UInt8)) (p : List UInt8) : oneMore (soFar ps (some [])) p false = soFar ps (some [p]) := by
  simp [oneMore, soFar, Lib.join_nil, Lib.join_one]

theorem soFar_behind_more (ps qs : List (List UInt8)) (p : List UInt8) (h : qs ≠ []) : oneMore (soFar ps (some qs)) p true = soFar ps (some (qs ++ [p])) := by
  simp [oneMore, soFar, join_snoc 58 qs p h]

/-- is the last byte a colon? -/
structure Ends (s : List UInt8) (b : Bool) : Prop where
  at_ : ∃ l c, s = l ++ [c] ∧ (c = 58 ↔ b = true)

theorem soFar_ends {ps : List (List UInt8)} {ns : List Nat} (h : Spells ps ns) (h0 : ps ≠ []) : Ends (soFar ps none) false := by
  obtain ⟨l, c, e, hc⟩ := join_last h h0
  exact ⟨l, c, e, by simp [hc]⟩

theorem soFar_ends_gap (ps : List (List UInt8)) : Ends (soFar ps (some [])) true :=
  ⟨Lib.join ps [58] ++ [58], 58, by simp [soFar, Lib.join_nil], by simp⟩

theorem soFar_ends_behind (ps : List (List UInt8)) {qs : List (List UInt8)} {ms : List Nat} (h : Spells qs ms) (h0 : qs ≠ []) : Ends (soFar ps (some qs)) false := by
  obtain ⟨l, c, e, hc⟩ := join_last h h0
  exact ⟨Lib.join ps [58] ++ [58, 58] ++ l, c, by simp [soFar, e], by simp [hc]⟩

theorem Ends.bt {s : List UInt8} {b : Bool} (h : Ends s b) : 0 < s.length ∧ (bt (ofL s) ((s.length - 1 : Nat) : Int) = 58 ↔ b = true) := by
  obtain ⟨l, c, rfl, hc⟩ := h.at_
  refine ⟨by simp, ?_⟩
  rw [bt_last, ← hc]
  constructor
  · intro h
    have : c.toNat = 58 := by omega
    exact UInt8.toNat_inj.1 this
  · rintro rfl; rfl

theorem soFar_len {ps qs : List (List UInt8)} {ns ms : List Nat} (h : Spells ps ns) (h2 : Spells qs ms) : (soFar ps none).length ≤ ps.length * 5 ∧ (soFar ps (some qs)).length ≤ ps.length * 5 + 2 + qs.length * 5 := by
  have h1 := spells_len h
  have h3 := spells_len h2
  refine ⟨h1, ?_⟩
  simp only [soFar, List.length_append, List.length_cons, List.length_nil]
  omega

theorem oneMore_ofL (s p : List UInt8) : ofL s ++ ofL p = ofL (oneMore s p false) ∧ ofL s ++ (⟨#[58]⟩ : ByteArray) ++ ofL p = ofL (oneMore s p true) := by
  refine ⟨rfl, ?_⟩
  rw [show (⟨#[58]⟩ : ByteArray) = ofL [58] from rfl, ofL_append, ofL_append]
  rfl
end Go.Proofs.YtaekcldkfkiekaaDoor

namespace Go.Proofs.YtaekcldkfkiekaaDoor
open Go.RowKit Go.Proofs.YtaekcldkfkiekaaDoorW.PrintWords Go.Proofs.YtaekcldkfkiekaaDoorW.PrintLast Go.Proofs.YtaekcldkfkiekaaDoorW.PrintMore

theorem wrap_small (i : Nat) (h : i < 100000) : wrap64 (i : Int) = (i : Int) := by unfold wrap64; omega
theorem wrap_small1 (i : Nat) (h : i < 100000) : wrap64 ((i : Int) + 1) = ((i + 1 : Nat) : Int) := by unfold wrap64; omega

open Q in
theorem zeros_l0 (g : List Int) (h8 : g.length = 8) (i : Nat) : ∀ (d n : Nat), i + n + d = 8 → Ev (fun k => crosswayref03_zeros.l0 k g (i : Int) (n : Int)) ((zend g (i + n) - i : Nat) : Int) := by
  intro d
  induction d with
  | zero =>
    intro n hd
    have hw : wrap64 ((i : Int) + (n : Int)) = ((i + n : Nat) : Int) := by rw [← Int.natCast_add]; exact wrap_small _ (by omega)
    rw [zend_end g (i + n) (by omega), Nat.add_sub_cancel_left]
    exact Ev.step (f := fun _ => some (n : Int)) (fun k => by simp only [crosswayref03_zeros.l0]; rw [hw, if_neg (by omega)]) (Ev.now _)
  | succ d ih =>
    intro n hd
    have hw : wrap64 ((i : Int) + (n : Int)) = ((i + n : Nat) : Int) := by rw [← Int.natCast_add]; exact wrap_small _ (by omega)
    by_cases h0 : g.getD (i + n) 0 = 0
    · rw [zend_eq g (i + n) (by omega) h0]
      refine Ev.step (fun k => by simp only [crosswayref03_zeros.l0]; rw [hw, if_pos (by omega), if_pos (by omega), if_pos (by omega), rd_at, if_pos h0, wrap_small1 n (by omega)]) ?_
      exact ih (n + 1) (by omega)
    · rw [zend_ne g (i + n) (by omega) h0, Nat.add_sub_cancel_left]
      exact Ev.step (f := fun _ => some (n : Int)) (fun k => by simp only [crosswayref03_zeros.l0]; rw [hw, if_pos (by omega), if_pos (by omega), if_pos (by omega), rd_at, if_neg h0]) (Ev.now _)

theorem zeros_ev (g : List Int) (h8 : g.length = 8) (i : Nat) (hi : i ≤ 8) : Ev (fun k => Q.crosswayref03_zeros.f k g (i : Int)) ((zend g i - i : Nat) : Int) :=
  zeros_l0 g h8 i (8 - i) 0 (by omega)

/-- where the longest row begins, among the first so many places, as the reference seeks it -/
def argmax (g : List Int) : Nat → Nat
  | 0 => 0
  | n + 1 => if n = 0 then 0 else if zend g n - n > zend g (argmax g n) - argmax g n then n else argmax g n

theorem argmax_le (g : List Int) : ∀ n, 0 < n → argmax g n < n
  | 0, h => by omega
  | n + 1, _ => by
    unfold argmax
    split
    · omega
    · split
      · omega
      · have := argmax_le g n (by omega); omega

theorem longest_argmax (g : List Int) (h8 : g.length = 8) : ∀ n, 0 < n → n ≤ 8 → (longest g n).2 - (longest g n).1 = zend g (argmax g n) - argmax g n ∧ (0 < zend g (argmax g n) - argmax g n → longest g n = (argmax g n, zend g (argmax g n)))
  | 0, h, _ => by omega
  | n + 1, _, hn => by
    unfold longest argmax
    by_cases h0 : n = 0
    · subst h0
      rw [if_pos rfl]
      simp only [longest, Nat.sub_self]
      by_cases hz : zend g 0 - 0 > 0
      · rw [if_pos hz]
        exact ⟨rfl, fun _ => rfl⟩
      · rw [if_neg hz]
        refine ⟨by simp only; omega, fun h => by omega⟩
    · rw [if_neg h0]
      obtain ⟨e1, e2⟩ := longest_argmax g h8 n (by omega) (by omega)
      rw [e1]
      by_cases hz : zend g n - n > zend g (argmax g n) - argmax g n
      · rw [if_pos hz, if_pos hz]
        exact ⟨rfl, fun _ => rfl⟩
      · rw [if_neg hz, if_neg hz]
        exact ⟨e1, e2⟩

theorem gapOf_argmax (g : List Int) (h8 : g.length = 8) : gapOf g = if 1 < zend g (argmax g 8) - argmax g 8 then (argmax g 8, zend g (argmax g 8)) else (0, 0) := by
  obtain ⟨e1, e2⟩ := longest_argmax g h8 8 (by omega) (by omega)
  unfold gapOf
  by_cases ha : g.all (· == 0) = true
  · rw [if_pos ha]
    have hz := all_zero g ha
    rw [h8] at hz
    have hl : longest g 8 = (0, 8) := by rw [hz]; decide
    rw [hl] at e1 e2
    simp only at e1
    rw [if_pos (by omega), ← e2 (by omega)]
  · rw [if_neg ha, e1]
    by_cases h1 : 1 < zend g (argmax g 8) - argmax g 8
    · rw [if_neg (by omega), if_pos h1, e2 (by omega)]
    · rw [if_pos (by omega), if_neg h1]

open Q in
theorem print_l1 (g : List Int) (h8 : g.length = 8) (s : ByteArray) (r : ByteArray)
    (hr : Ev (fun k => crosswayref03_Print.l2 k s g ((argmax g 8 : Nat) : Int) ((zend g (argmax g 8) - argmax g 8 : Nat) : Int) 0) r) : ∀ (d n : Nat), n + d = 8 → 0 < n → Ev (fun k => crosswayref03_Print.l1 k s g ((argmax g n : Nat) : Int) (n : Int)) r := by
  intro d
  induction d with
  | zero =>
    intro n hd hn
    obtain rfl : n = 8 := by omega
    have hz := zeros_ev g h8 (argmax g 8) (by have := argmax_le g 8 (by omega); omega)
    exact Ev.step (fun k => by simp only [crosswayref03_Print.l1]; rw [if_neg (by omega)]) (Ev.bind hz hr)
  | succ d ih =>
    intro n hd hn
    have hz1 := zeros_ev g h8 n (by omega)
    have hz2 := zeros_ev g h8 (argmax g n) (by have := argmax_le g n hn; omega)
    refine Ev.step (fun k => by simp only [crosswayref03_Print.l1]; rw [if_pos (by omega)]) (Ev.bind hz1 (Ev.bind hz2 ?_))
    have hnext := ih (n + 1) (by omega) (by omega)
    by_cases hc : zend g n - n > zend g (argmax g n) - argmax g n
    · have e : argmax g (n + 1) = n := by conv => lhs; unfold argmax
                                          rw [if_neg (by omega), if_pos hc]
      rw [e] at hnext
      exact Ev.congr (fun k => by rw [if_pos (by omega), wrap_small1 n (by omega)]) hnext
    · have e : argmax g (n + 1) = argmax g n := by conv => lhs; unfold argmax
                                                   rw [if_neg (by omega), if_neg hc]
      rw [e] at hnext
      exact Ev.congr (fun k => by rw [if_neg (by omega), wrap_small1 n (by omega)]) hnext

theorem small_rd (hi lo i : Nat) (hi8 : i < 8) : ∃ n, (groupsN hi lo)[i]? = some n ∧ rd (intsOf (groupsN hi lo)) (i : Int) = (n : Int) ∧ n < 65536 := by
  have hlt : i < (groupsN hi lo).length := by rw [groupsN_len]; exact hi8
  refine ⟨(groupsN hi lo)[i], List.getElem?_eq_getElem hlt, ?_, groupsN_lt hi lo _ (List.getElem_mem hlt)⟩
  rw [rd_at]
  simp [intsOf, List.getD, List.getElem?_eq_getElem hlt]

section
variable (hi lo : Nat) (a m : Int)

open Q in
/-- one group more -/
theorem print_step (i : Nat) (hi8 : i < 8) (s : List UInt8) (hs : s.length < 200) (sep : Bool) (h0 : i = 0 → sep = false) (h1 : 0 < i → Ends s (!sep)) (n : Nat) (hn : (groupsN hi lo)[i]? = some n) (r : ByteArray)
    (hr : Ev (fun k => crosswayref03_Print.l2 k (ofL (oneMore s (hx n) sep)) (intsOf (groupsN hi lo)) a m ((i + 1 : Nat) : Int)) r) :
    Ev (fun k => crosswayref03_Print.j3 k (ofL s) (intsOf (groupsN hi lo)) a m (i : Int) false) r := by
  obtain ⟨n', hn', hrd, hlt⟩ := small_rd hi lo i hi8
  obtain rfl : n' = n := Option.some.inj (hn'.symm.trans hn)
  have hlen : (intsOf (groupsN hi lo)).length = 8 := rfl
  have h4 := (numP_ne (hx_spells n' hlt)).2.1
  have e1 := ofL_size s
  have e2 := ofL_size (hx n')
  have hd : Ev (fun k => crosswayref03_Digits.f k (n' : Int) 16) (ofL (hx n')) := ⟨10, fun k hk => digits16 n' hlt k hk⟩
  rcases Nat.eq_zero_or_pos i with h00 | hpos
  · subst h00
    rw [h0 rfl] at hr
    refine Ev.step (fun k => by simp only [crosswayref03_Print.j3]; rw [if_neg (by simp), if_neg (by omega), if_pos (by omega), if_pos (by omega), hrd]) (Ev.bind hd ?_)
    refine Ev.congr (fun k => by rw [if_pos (by omega), wrap_small1 _ (by omega), (oneMore_ofL s (hx n')).1]) hr
  · obtain ⟨hl, hb⟩ := (h1 hpos).bt
    have hw : wrap64 (((ofL s).size : Int) - 1) = ((s.length - 1 : Nat) : Int) := by rw [e1]; unfold wrap64; omega
    cases sep with
    | false =>
      refine Ev.step (fun k => by simp only [crosswayref03_Print.j3]; rw [if_neg (by simp), if_pos (by omega), hw, if_pos (by omega), if_pos (by omega), if_pos (hb.2 rfl), if_pos (by omega), if_pos (by omega), hrd]) (Ev.bind hd ?_)
      refine Ev.congr (fun k => by rw [if_pos (by omega), wrap_small1 _ (by omega), (oneMore_ofL s (hx n')).1]) hr
    | true =>
      have hz : (ofL s ++ (⟨#[58]⟩ : ByteArray)).size = s.length + 1 := by rw [ByteArray.size_append, e1]; rfl
      refine Ev.step (fun k => by simp only [crosswayref03_Print.j3]; rw [if_neg (by simp), if_pos (by omega), hw, if_pos (by omega), if_pos (by omega), if_neg (fun h => by simpa using hb.1 h), if_pos (by omega), if_pos (by omega), if_pos (by omega), hrd]) (Ev.bind hd ?_)
      refine Ev.congr (fun k => by rw [if_pos (by omega), wrap_small1 _ (by omega), (oneMore_ofL s (hx n')).2]) hr

theorem wrap_gap (i z : Nat) (h : i < z) (hz : z ≤ 8) : wrap64 (wrap64 (wrap64 ((i : Int) + ((z - i : Nat) : Int)) - 1) + 1) = (z : Int) := by
  rw [show (i : Int) + ((z - i : Nat) : Int) = (z : Int) by omega, wrap_small z (by omega), show (z : Int) - 1 = ((z - 1 : Nat) : Int) by omega, wrap_small _ (by omega), wrap_small1 _ (by omega)]
  congr 1
  omega

theorem spells_map (l : List Nat) (h : ∀ n ∈ l, n < 65536) : Spells (l.map hx) l := hx_all l h

theorem taken_lt (i : Nat) : ∀ n ∈ (groupsN hi lo).take i, n < 65536 := fun n hn => groupsN_lt hi lo n (List.mem_of_mem_take hn)
theorem dropped_lt (i z : Nat) : ∀ n ∈ ((groupsN hi lo).take i).drop z, n < 65536 := fun n hn => groupsN_lt hi lo n (List.mem_of_mem_take (List.mem_of_mem_drop hn))

open Q in
/-- behind the gap -/
theorem print_behind (b z : Nat) (haz : b < z) (hz : z ≤ 8) (ha : (b : Int) = a) : ∀ (d i : Nat), i + d = 8 → z ≤ i →
    Ev (fun k => crosswayref03_Print.l2 k (ofL (soFar (((groupsN hi lo).take b).map hx) (some ((((groupsN hi lo).take i).drop z).map hx)))) (intsOf (groupsN hi lo)) a m (i : Int))
      (ofL (textsP ((groupsN hi lo).take b) ++ [58, 58] ++ textsP ((groupsN hi lo).drop z))) := by
  have h8 := groupsN_len hi lo
  intro d
  induction d with
  | zero =>
    intro i hd hzi
    obtain rfl : i = 8 := by omega
    rw [List.take_of_length_le (show (groupsN hi lo).length ≤ 8 by omega)]
    exact Ev.step (f := fun _ => some (ofL (textsP ((groupsN hi lo).take b) ++ [58, 58] ++ textsP ((groupsN hi lo).drop z)))) (fun k => by simp only [crosswayref03_Print.l2]; rw [if_neg (by omega)]; rfl) (Ev.now _)
  | succ d ih =>
    intro i hd hzi
    have hlt : i < (groupsN hi lo).length := by omega
    have s1 := spells_map _ (taken_lt hi lo b)
    have s2 := spells_map _ (dropped_lt hi lo i z)
    have hl := (soFar_len s1 s2).2
    rw [List.length_map, List.length_map, List.length_take, List.length_drop, List.length_take] at hl
    have htd : ((groupsN hi lo).take (i + 1)).drop z = ((groupsN hi lo).take i).drop z ++ [(groupsN hi lo)[i]] := by
      rw [List.take_succ_eq_append_getElem hlt, List.drop_append_of_le_length (by rw [List.length_take]; omega)]
    have hstep : ∀ (sep : Bool), Ends (soFar (((groupsN hi lo).take b).map hx) (some ((((groupsN hi lo).take i).drop z).map hx))) (!sep) →
        (∀ p, oneMore (soFar (((groupsN hi lo).take b).map hx) (some ((((groupsN hi lo).take i).drop z).map hx))) p sep = soFar (((groupsN hi lo).take b).map hx) (some ((((groupsN hi lo).take i).drop z).map hx ++ [p]))) →
        Ev (fun k => crosswayref03_Print.l2 k (ofL (soFar (((groupsN hi lo).take b).map hx) (some ((((groupsN hi lo).take i).drop z).map hx)))) (intsOf (groupsN hi lo)) a m (i : Int))
          (ofL (textsP ((groupsN hi lo).take b) ++ [58, 58] ++ textsP ((groupsN hi lo).drop z))) := fun sep hends hone => by
      have hgo : Ev (fun k => crosswayref03_Print.j3 k (ofL (soFar (((groupsN hi lo).take b).map hx) (some ((((groupsN hi lo).take i).drop z).map hx)))) (intsOf (groupsN hi lo)) a m (i : Int) false)
          (ofL (textsP ((groupsN hi lo).take b) ++ [58, 58] ++ textsP ((groupsN hi lo).drop z))) := by
        refine print_step hi lo a m i (by omega) _ (by omega) sep (fun h => by omega) (fun _ => hends) _ (List.getElem?_eq_getElem hlt) _ ?_
        rw [hone]
        have := ih (i + 1) (by omega) (by omega)
        rw [htd, List.map_append] at this
        exact this
      by_cases hm : m > 1
      · refine Ev.step (fun k => by simp only [crosswayref03_Print.l2]; rw [if_pos (by omega), if_pos hm, show ((i : Int) == a) = false by simp; omega]) hgo
      · exact Ev.step (fun k => by simp only [crosswayref03_Print.l2]; rw [if_pos (by omega), if_neg hm]) hgo
    by_cases hiz : i = z
    · have e : (((groupsN hi lo).take i).drop z).map hx = [] := by rw [List.drop_eq_nil_of_le (by rw [List.length_take]; omega)]; rfl
      rw [e] at hstep ⊢
      exact hstep false (soFar_ends_gap _) (fun p => soFar_behind _ p)
    · have e : (((groupsN hi lo).take i).drop z).map hx ≠ [] := fun h => by
        have := congrArg List.length h
        rw [List.length_map, List.length_drop, List.length_take, List.length_nil] at this
        omega
      exact hstep true (soFar_ends_behind _ s2 e) (fun p => soFar_behind_more _ _ p e)

open Q in
/-- ahead of the gap, or without one -/
theorem print_ahead (b z : Nat) (ha : (b : Int) = a) (hb8 : b < 8) (hm : m = ((z - b : Nat) : Int)) (hbz : b ≤ z) (hz : z ≤ 8) : ∀ (d i : Nat), i + d = 8 → (1 < m → i ≤ b) →
    Ev (fun k => crosswayref03_Print.l2 k (ofL (soFar (((groupsN hi lo).take i).map hx) none)) (intsOf (groupsN hi lo)) a m (i : Int))
      (ofL (if 1 < m then textsP ((groupsN hi lo).take b) ++ [58, 58] ++ textsP ((groupsN hi lo).drop z) else textsP (groupsN hi lo))) := by
  have h8 := groupsN_len hi lo
  intro d
  induction d with
  | zero =>
    intro i hd hib
    obtain rfl : i = 8 := by omega
    have hm1 : ¬ 1 < m := fun h => by have := hib h; omega
    rw [if_neg hm1, List.take_of_length_le (show (groupsN hi lo).length ≤ 8 by omega)]
    exact Ev.step (f := fun _ => some (ofL (textsP (groupsN hi lo)))) (fun k => by simp only [crosswayref03_Print.l2]; rw [if_neg (by omega)]; rfl) (Ev.now _)
  | succ d ih =>
    intro i hd hib
    have hlt : i < (groupsN hi lo).length := by omega
    have s1 := spells_map _ (taken_lt hi lo i)
    have hl := (soFar_len s1 (show Spells [] [] from trivial)).1
    rw [List.length_map, List.length_take] at hl
    have hstep : (1 < m → i + 1 ≤ b) → ∀ (sep : Bool), (i = 0 → sep = false) → (0 < i → Ends (soFar (((groupsN hi lo).take i).map hx) none) (!sep)) →
        (∀ p, oneMore (soFar (((groupsN hi lo).take i).map hx) none) p sep = soFar (((groupsN hi lo).take i).map hx ++ [p]) none) →
        Ev (fun k => crosswayref03_Print.j3 k (ofL (soFar (((groupsN hi lo).take i).map hx) none)) (intsOf (groupsN hi lo)) a m (i : Int) false)
          (ofL (if 1 < m then textsP ((groupsN hi lo).take b) ++ [58, 58] ++ textsP ((groupsN hi lo).drop z) else textsP (groupsN hi lo))) := fun hib' sep q0 q1 hone => by
      refine print_step hi lo a m i (by omega) _ (by omega) sep q0 q1 _ (List.getElem?_eq_getElem hlt) _ ?_
      rw [hone]
      have := ih (i + 1) (by omega) hib'
      rw [List.take_succ_eq_append_getElem hlt, List.map_append] at this
      exact this
    have hnext : (1 < m → i + 1 ≤ b) → Ev (fun k => crosswayref03_Print.j3 k (ofL (soFar (((groupsN hi lo).take i).map hx) none)) (intsOf (groupsN hi lo)) a m (i : Int) false)
          (ofL (if 1 < m then textsP ((groupsN hi lo).take b) ++ [58, 58] ++ textsP ((groupsN hi lo).drop z) else textsP (groupsN hi lo))) := fun hib' => by
      by_cases hi0 : i = 0
      · subst hi0
        exact hstep hib' false (fun _ => rfl) (fun h => by omega) (fun p => soFar_first p)
      · have e : ((groupsN hi lo).take i).map hx ≠ [] := fun h => by
          have := congrArg List.length h
          rw [List.length_map, List.length_take, List.length_nil] at this
          omega
        exact hstep hib' true (fun h => absurd h hi0) (fun _ => soFar_ends s1 e) (fun p => soFar_more _ p e)
    by_cases hm1 : m > 1
    · by_cases hib2 : i = b
      · subst hib2
        have hb := print_behind hi lo a m i z (by omega) hz ha (8 - z) z (by omega) (Nat.le_refl _)
        have e : (((groupsN hi lo).take z).drop z).map hx = [] := by rw [List.drop_eq_nil_of_le (by rw [List.length_take]; omega)]; rfl
        rw [e] at hb
        have hg : ofL (soFar (((groupsN hi lo).take i).map hx) none) ++ (⟨#[58, 58]⟩ : ByteArray) = ofL (soFar (((groupsN hi lo).take i).map hx) (some [])) := by
          rw [show (⟨#[58, 58]⟩ : ByteArray) = ofL [58, 58] from rfl, ofL_append]
          simp [soFar, Lib.join_nil]
        have hsz := ofL_size (soFar (((groupsN hi lo).take i).map hx) none)
        have hw : wrap64 (wrap64 (wrap64 ((i : Int) + m) - 1) + 1) = (z : Int) := by rw [hm]; exact wrap_gap i z (by omega) hz
        rw [if_pos hm1]
        refine Ev.step (fun k => by simp only [crosswayref03_Print.l2]; rw [if_pos (by omega), if_pos hm1, show ((i : Int) == a) = true by simp; omega]) ?_
        refine Ev.step (fun k => by simp only [crosswayref03_Print.j3]; rw [if_pos trivial, if_pos (by omega), hg, hw]) hb
      · have hib' := hib hm1
        exact Ev.step (fun k => by simp only [crosswayref03_Print.l2]; rw [if_pos (by omega), if_pos hm1, show ((i : Int) == a) = false by simp; omega]) (hnext (fun _ => by omega))
    · exact Ev.step (fun k => by simp only [crosswayref03_Print.l2]; rw [if_pos (by omega), if_neg hm1]) (hnext (fun h => absurd h hm1))
end

theorem refPrint_six (hi lo : Nat) : Ev (fun k => Q.crosswayref03_Print.l1 k (⟨#[]⟩ : ByteArray) (intsOf (groupsN hi lo)) 0 1) (ofL (sixTxt hi lo)) := by
  have e8 : (intsOf (groupsN hi lo)).length = 8 := rfl
  have hg := groupsN_ints hi lo
  have ha := argmax_le (intsOf (groupsN hi lo)) 8 (by omega)
  have hz := zend_le (intsOf (groupsN hi lo)) (argmax (intsOf (groupsN hi lo)) 8) (by omega)
  have hgap := gapOf_argmax (intsOf (groupsN hi lo)) e8
  refine print_l1 (intsOf (groupsN hi lo)) e8 (⟨#[]⟩ : ByteArray) _ ?_ 7 1 (by omega) (by omega)
  generalize argmax (intsOf (groupsN hi lo)) 8 = a at *
  generalize zend (intsOf (groupsN hi lo)) a = z at *
  have h := print_ahead hi lo (a : Int) ((z - a : Nat) : Int) a z rfl ha rfl hz.1 (by omega) 8 0 (by omega) (fun _ => by omega)
  have e : sixTxt hi lo = (if 1 < ((z - a : Nat) : Int) then textsP ((groupsN hi lo).take a) ++ [58, 58] ++ textsP ((groupsN hi lo).drop z) else textsP (groupsN hi lo)) := by
    unfold sixTxt
    rw [← hg, hgap]
    by_cases hm : 1 < z - a
    · rw [if_pos hm, if_neg (by simp only; omega), if_pos (by omega)]
    · rw [if_neg hm, if_pos rfl, if_neg (by omega)]
  rw [e]
  exact h

theorem wrap64_one : wrap64 (0 + 1) = ((1 : Nat) : Int) := by unfold wrap64; omega
theorem nil_ofL (l : List UInt8) : (⟨#[]⟩ : ByteArray) ++ ofL l = ofL l := rfl

open Q in
/-- the four numbers told -/
theorem print_l0 (lo : Nat) (l1 : lo < 4294967296) : Ev (fun k => crosswayref03_Print.l0 k (⟨#[]⟩ : ByteArray) (bytesP false 0 (lo : Int)) 0) (ofL (fourTxt (lo : Int))) := by
  have hlen := four_len (lo : Int) (by omega)
  have hb : ∀ j : Nat, j < 4 → IntKind.u64.wrap (rd (bytesP false 0 (lo : Int)) (j : Int)) = ((octOf (lo : Int) j : Nat) : Int) := fun j hj => by
    rw [rd_at, get_four _ j (by omega) hj, byteAt_nat]
    rw [u64_nat (by have := Nat.mod_lt (lo / 2 ^ (24 - 8 * j)) (show 0 < 256 by omega); omega)]
    unfold octOf
    have e : ((lo : Int) / 256 ^ (3 - j) % 256) = ((lo / 256 ^ (3 - j) % 256 : Nat) : Int) := by
      rw [Int.natCast_emod, Int.natCast_ediv, Int.natCast_pow]; rfl
    rw [e, Int.toNat_natCast]
    rcases (by omega : j = 0 ∨ j = 1 ∨ j = 2 ∨ j = 3) with rfl | rfl | rfl | rfl <;> rfl
  have hd : ∀ j : Nat, Ev (fun k => crosswayref03_Digits.f k ((octOf (lo : Int) j : Nat) : Int) 10) (ofL (Lib.decDigits (octOf (lo : Int) j))) := fun j => ⟨10, fun k hk => digits10 _ (octOf_lt _ _) k hk⟩
  have hl : ∀ j : Nat, (Lib.decDigits (octOf (lo : Int) j)).length ≤ 3 := fun j => decS_len _ (octOf_lt _ _)
  have more : ∀ (j : Nat) (s : List UInt8) (r : ByteArray), 0 < j → j < 4 → s.length < 100 → Ev (fun k => crosswayref03_Print.l0 k (ofL (s ++ [46] ++ Lib.decDigits (octOf (lo : Int) j))) (bytesP false 0 (lo : Int)) ((j + 1 : Nat) : Int)) r → Ev (fun k => crosswayref03_Print.l0 k (ofL s) (bytesP false 0 (lo : Int)) (j : Int)) r := fun j s r h0 h4 hs hr => by
    have e1 := ofL_size s
    have e2 := ofL_size (Lib.decDigits (octOf (lo : Int) j))
    have h3 := hl j
    have hz : (ofL s ++ (⟨#[46]⟩ : ByteArray)).size = s.length + 1 := by rw [ByteArray.size_append, e1]; rfl
    have ej : ofL s ++ (⟨#[46]⟩ : ByteArray) ++ ofL (Lib.decDigits (octOf (lo : Int) j)) = ofL (s ++ [46] ++ Lib.decDigits (octOf (lo : Int) j)) := by
      rw [show (⟨#[46]⟩ : ByteArray) = ofL [46] from rfl, ofL_append, ofL_append]
    refine Ev.step (fun k => by simp only [crosswayref03_Print.l0]; rw [if_pos (by omega), if_pos (by omega), if_pos (by omega), if_pos (by omega), if_pos (by omega), hb j h4]) (Ev.bind (hd j) ?_)
    exact Ev.congr (fun k => by rw [if_pos (by omega), ej, wrap_small1 j (by omega)]) hr
  have e0 := ofL_size (Lib.decDigits (octOf (lo : Int) 0))
  have h0 := hl 0
  have h1 := hl 1
  have h2 := hl 2
  have h3 := hl 3
  have eb := hb 0 (by omega)
  rw [show ((0 : Nat) : Int) = 0 from rfl] at eb
  refine Ev.step (fun k => by simp only [crosswayref03_Print.l0]; rw [if_pos (by omega), if_neg (by omega), if_pos (by omega), if_pos (by omega), eb]) (Ev.bind (hd 0) ?_)
  refine Ev.congr (f := fun k => crosswayref03_Print.l0 k (ofL (Lib.decDigits (octOf (lo : Int) 0))) (bytesP false 0 (lo : Int)) ((1 : Nat) : Int)) (fun k => by rw [if_pos (by rw [e0]; simp only [ByteArray.size]; simp; omega), wrap64_one, nil_ofL]) ?_
  refine more 1 _ _ (by omega) (by omega) (by omega) ?_
  refine more 2 _ _ (by omega) (by omega) (by simp; omega) ?_
  refine more 3 _ _ (by omega) (by omega) (by simp; omega) ?_
  refine Ev.step (f := fun _ => some (ofL (fourTxt (lo : Int)))) (fun k => by simp only [crosswayref03_Print.l0]; rw [if_neg (by omega)]; simp [fourTxt, Lib.join, List.intercalate, List.intersperse]) (Ev.now _)

theorem valid_yes (hi lo : Int) (h : hi = 0) (h2 : lo < 4294967296) : (false || (hi == 0 && decide (lo < 4294967296))) = true := by
  rw [decide_eq_true h2, h]; rfl

theorem refPrint_ev (six : Bool) (hi lo : Int) (h0 : 0 ≤ hi) (h1 : hi < 18446744073709551616) (l0 : 0 ≤ lo) (l1 : lo < 18446744073709551616) :
    Ev (fun k => Q.crosswayref03_Print.f k six hi lo) (ofL (printP six hi lo)) := by
  obtain ⟨hn, rfl⟩ := Int.eq_ofNat_of_zero_le h0
  obtain ⟨ln, rfl⟩ := Int.eq_ofNat_of_zero_le l0
  have ev : Q.crosswayref03_Valid.f six (hn : Int) (ln : Int) = some (six || ((hn : Int) == 0 && decide ((ln : Int) < 4294967296))) := valid_f six hn ln
  cases six with
  | true =>
    have hg : Ev (fun k => Q.crosswayref03_Groups.f k true (hn : Int) (ln : Int)) (intsOf (groupsN hn ln)) := ⟨100, fun k hk => groups_f hn ln (by omega) (by omega) k hk⟩
    have := Ev.bind (f := fun k t => Q.crosswayref03_Print.l1 k (⟨#[]⟩ : ByteArray) t 0 1) hg (refPrint_six hn ln)
    exact Ev.congr (fun k => by unfold Q.crosswayref03_Print.f; rw [ev]; simp only [Option.bind_some, Bool.true_or, if_true]) this
  | false =>
    unfold printP
    rw [if_neg (by simp)]
    by_cases hv : (hn : Int) = 0 ∧ (ln : Int) < 4294967296
    · rw [if_pos hv]
      have hb : Ev (fun k => Q.crosswayref03_Bytes.f k false (hn : Int) (ln : Int)) (bytesP false 0 (ln : Int)) := ⟨100, fun k hk => by have := refBytes_f false hn ln (by omega) (by omega) k hk; rw [hv.1] at this; rw [hv.1]; exact this⟩
      have := Ev.bind (f := fun k t => Q.crosswayref03_Print.l0 k (⟨#[]⟩ : ByteArray) t 0) hb (print_l0 ln (by omega))
      rw [valid_yes _ _ hv.1 hv.2] at ev
      refine Ev.congr (f := fun k => (Q.crosswayref03_Bytes.f k false (hn : Int) (ln : Int)).bind fun t => Q.crosswayref03_Print.l0 k (⟨#[]⟩ : ByteArray) t 0) (fun k => by unfold Q.crosswayref03_Print.f; rw [ev]; rfl) this
    · rw [if_neg hv]
      have e : (false || ((hn : Int) == 0 && decide ((ln : Int) < 4294967296))) = false := by
        simp only [Bool.false_or, Bool.and_eq_false_iff, beq_eq_false_iff_ne, decide_eq_false_iff_not]
        by_cases h0 : (hn : Int) = 0
        · exact Or.inr (fun hl => hv ⟨h0, hl⟩)
        · exact Or.inl h0
      exact Ev.congr (f := fun _ => some (ofL [])) (fun k => by unfold Q.crosswayref03_Print.f; rw [ev, e]; rfl) (Ev.now _)

open Q in
theorem same_l0 (xs : List Int) (h : xs.length < 100000) : ∀ (d i : Nat), i + d = xs.length → Ev (fun k => crosswayref01_Same.l0 k xs xs (i : Int)) true := by
  intro d
  induction d with
  | zero => exact fun i hd => Ev.step (f := fun _ => some true) (fun k => by simp only [crosswayref01_Same.l0]; rw [if_neg (by omega)]) (Ev.now _)
  | succ d ih => exact fun i hd => Ev.step (fun k => by simp only [crosswayref01_Same.l0]; rw [if_pos (by omega), if_pos (by omega), if_pos (by omega), if_pos trivial, wrap_small1 i (by omega)]) (ih (i + 1) (by omega))

theorem same_ev (xs : List Int) (h : xs.length < 100000) : Ev (fun k => Q.crosswayref01_Same.f k xs xs) true :=
  Ev.congr (fun k => by unfold Q.crosswayref01_Same.f; rw [if_pos rfl]; rfl) (same_l0 xs h xs.length 0 (by omega))

theorem sol_same (six : Bool) (hi lo : Int) (l0 : 0 ≤ lo) (l1 : lo < 18446744073709551616) : Q.crosswayref03_Solicited.f six hi lo = Q.addr_Solicited.f six hi lo := by
  obtain ⟨ln, rfl⟩ := Int.eq_ofNat_of_zero_le l0
  unfold Q.crosswayref03_Solicited.f Q.addr_Solicited.f
  have e1 : Go.bits .and .u64 (ln : Int) 16777215 = ((ln % 16777216 : Nat) : Int) := by
    rw [show (16777215 : Int) = ((16777215 : Nat) : Int) from rfl, u64_and_nat ln 16777215 (by omega) (by omega)]
    have := Nat.and_two_pow_sub_one_eq_mod ln 24
    simp only [show 2 ^ 24 - 1 = 16777215 from rfl, show 2 ^ 24 = 16777216 from rfl] at this
    rw [this]
  have e2 : Go.bits .or .u64 8573157376 ((ln % 16777216 : Nat) : Int) = ((8573157376 + ln % 16777216 : Nat) : Int) := by
    rw [show (8573157376 : Int) = ((8573157376 : Nat) : Int) from rfl, u64_or_nat 8573157376 _ (by omega) (by omega)]
    have h := Nat.two_pow_add_eq_or_of_lt (i := 24) (b := ln % 16777216) (Nat.mod_lt _ (by omega)) 511
    simp only [show (2 : Nat) ^ 24 = 16777216 from rfl, show 16777216 * 511 = 8573157376 from rfl] at h
    rw [h]
  have e3 : IntKind.u64.wrap (8573157376 + Int.tmod (ln : Int) 16777216) = ((8573157376 + ln % 16777216 : Nat) : Int) := by
    rw [Int.tmod_eq_emod_of_nonneg (by omega), show (8573157376 : Int) + (ln : Int) % 16777216 = ((8573157376 + ln % 16777216 : Nat) : Int) by omega, u64_nat (by omega)]
  rw [e1, e2, e3]

theorem tdiv_nat (a b : Nat) : Int.tdiv (a : Int) (b : Int) = ((a / b : Nat) : Int) := by rw [Int.tdiv_eq_ediv_of_nonneg (by omega)]; rfl

open Q in
theorem class_six (hn ln : Nat) (h1 : hn < 18446744073709551616) (l1 : ln < 18446744073709551616) : ∃ c, addr_Class.f true (hn : Int) (ln : Int) = some c ∧ Ev (fun k => crosswayref03_Class.f k true (hn : Int) (ln : Int)) c := by
  have ev : crosswayref03_Valid.f true (hn : Int) (ln : Int) = some (true || ((hn : Int) == 0 && decide ((ln : Int) < 4294967296))) := valid_f true hn ln
  have ev2 : addr_Valid.f true (hn : Int) (ln : Int) = some (true || ((hn : Int) == 0 && decide ((ln : Int) < 4294967296))) := valid_f true hn ln
  have hb : Ev (fun k => crosswayref03_Bytes.f k true (hn : Int) (ln : Int)) (bytesP true (hn : Int) (ln : Int)) := ⟨100, fun k hk => refBytes_f true hn ln h1 l1 k hk⟩
  have hlen : (bytesP true (hn : Int) (ln : Int)).length = 16 := rfl
  have b0 : rd (bytesP true (hn : Int) (ln : Int)) 0 = ((hn / 72057594037927936 % 256 : Nat) : Int) := by
    rw [show (0 : Int) = ((0 : Nat) : Int) from rfl, rd_at, get_hi _ _ 0 (by omega), byteAt_nat]
  have b1 : rd (bytesP true (hn : Int) (ln : Int)) 1 = ((hn / 281474976710656 % 256 : Nat) : Int) := by
    rw [show (1 : Int) = ((1 : Nat) : Int) from rfl, rd_at, get_hi _ _ 1 (by omega), byteAt_nat]
  have hw0 : wrap64 ((hn / 72057594037927936 % 256 : Nat) : Int) = ((hn / 72057594037927936 : Nat) : Int) := by rw [wrap_small _ (by omega)]; omega
  have start : ∀ c, Ev (fun k => if (hn : Int) = 0 then crosswayref03_Class.j0 k (bytesP true (hn : Int) (ln : Int)) ((hn / 72057594037927936 : Nat) : Int) ((ln : Int) == 0) true (hn : Int) (ln : Int) else crosswayref03_Class.j0 k (bytesP true (hn : Int) (ln : Int)) ((hn / 72057594037927936 : Nat) : Int) false true (hn : Int) (ln : Int)) c →
      Ev (fun k => crosswayref03_Class.f k true (hn : Int) (ln : Int)) c := fun c hc => by
    refine Ev.congr (f := fun k => (crosswayref03_Bytes.f k true (hn : Int) (ln : Int)).bind fun t => if 0 < (t.length : Int) then (if (hn : Int) = 0 then crosswayref03_Class.j0 k t (wrap64 (rd t 0)) ((ln : Int) == 0) true (hn : Int) (ln : Int) else crosswayref03_Class.j0 k t (wrap64 (rd t 0)) false true (hn : Int) (ln : Int)) else none)
      (fun k => by unfold crosswayref03_Class.f; rw [ev]; simp only [Option.bind_some, Bool.true_or, if_true]) (Ev.bind hb ?_)
    exact Ev.congr (fun k => by rw [if_pos (by omega), b0, hw0]) hc
  unfold addr_Class.f addr_classSix.f
  rw [ev2]
  simp only [Option.bind_some, Bool.true_or, if_true, Bool.true_and]
  have done : ∀ c : Int, Ev (fun _ : Nat => some c) c := fun c => Ev.now c
  have e54 : ((hn : Int) / 18014398509481984) = ((hn / 18014398509481984 : Nat) : Int) := rfl
  have e56 : ((hn : Int) / 72057594037927936) = ((hn / 72057594037927936 : Nat) : Int) := rfl
  have e64 : (Int.tdiv ((hn / 281474976710656 % 256 : Nat) : Int) 64) % 256 = ((hn / 281474976710656 % 256 / 64 : Nat) : Int) := by
    rw [show (64 : Int) = ((64 : Nat) : Int) from rfl, tdiv_nat]; omega
  by_cases hz : hn = 0
  · have tz : ((hn : Int) == 0) = true := by simp; omega
    by_cases lz : ln = 0
    · have t0 : ((ln : Int) == 0) = true := by simp; omega
      refine ⟨0, by rw [tz, t0, if_pos (by simp)]; rfl, start 0 (Ev.congr (fun k => by rw [if_pos (by omega), t0]) ?_)⟩
      exact Ev.step (f := fun _ => some 0) (fun k => by simp only [crosswayref03_Class.j0]; rfl) (done 0)
    · have f0 : ((ln : Int) == 0) = false := by simp; omega
      by_cases lo1 : ln = 1
      · have t1 : ((ln : Int) == 1) = true := by simp; omega
        refine ⟨1, by rw [tz, f0, t1, if_neg (by simp), if_pos (by simp)]; rfl, start 1 (Ev.congr (fun k => by rw [if_pos (by omega), f0]) ?_)⟩
        refine Ev.step (fun k => by simp only [crosswayref03_Class.j0]; rw [if_neg (by simp), if_pos (by omega), t1]) ?_
        exact Ev.step (f := fun _ => some 1) (fun k => by simp only [crosswayref03_Class.j1]; rfl) (done 1)
      · have f1 : ((ln : Int) == 1) = false := by simp; omega
        refine ⟨5, by rw [tz, f0, f1, if_neg (by simp), if_neg (by simp), e54, e56, if_neg (by omega), if_neg (by omega)]; rfl, start 5 (Ev.congr (fun k => by rw [if_pos (by omega), f0]) ?_)⟩
        refine Ev.step (fun k => by simp only [crosswayref03_Class.j0]; rw [if_neg (by simp), if_pos (by omega), f1]) ?_
        refine Ev.step (fun k => by simp only [crosswayref03_Class.j1]; rw [if_neg (by simp), if_neg (by omega)]) ?_
        exact Ev.step (f := fun _ => some 5) (fun k => by simp only [crosswayref03_Class.j2]; rw [if_neg (by simp), if_neg (by omega)]) (done 5)
  · have fz : ((hn : Int) == 0) = false := by simp; omega
    rw [fz, e54, e56]
    simp only [Bool.false_and]
    rw [if_neg (by simp), if_neg (by simp)]
    have tail : ∀ c, Ev (fun k => crosswayref03_Class.j1 k (bytesP true (hn : Int) (ln : Int)) ((hn / 72057594037927936 : Nat) : Int) false) c → Ev (fun k => crosswayref03_Class.f k true (hn : Int) (ln : Int)) c := fun c hc =>
      start c (Ev.congr (fun k => by rw [if_neg (by omega)]) (Ev.step (fun k => by simp only [crosswayref03_Class.j0]; rw [if_neg (by simp), if_neg (by omega)]) hc))
    by_cases h254 : hn / 72057594037927936 = 254
    · have j1s : ∀ c, Ev (fun k => crosswayref03_Class.j2 k ((hn / 72057594037927936 : Nat) : Int) (((hn / 281474976710656 % 256 / 64 : Nat) : Int) == 2)) c → Ev (fun k => crosswayref03_Class.j1 k (bytesP true (hn : Int) (ln : Int)) ((hn / 72057594037927936 : Nat) : Int) false) c := fun c hc =>
        Ev.step (fun k => by simp only [crosswayref03_Class.j1]; rw [if_neg (by simp), if_pos (by omega), if_pos (by omega), b1, e64]) hc
      by_cases h2 : hn / 281474976710656 % 256 / 64 = 2
      · refine ⟨2, by rw [if_pos (by omega)]; rfl, tail 2 (j1s 2 ?_)⟩
        rw [h2]
        exact Ev.step (f := fun _ => some 2) (fun k => by simp only [crosswayref03_Class.j2]; rfl) (done 2)
      · refine ⟨5, by rw [if_neg (by omega), if_neg (by omega)]; rfl, tail 5 (j1s 5 ?_)⟩
        rw [show (((hn / 281474976710656 % 256 / 64 : Nat) : Int) == 2) = false by simp; omega]
        exact Ev.step (f := fun _ => some 5) (fun k => by simp only [crosswayref03_Class.j2]; rw [if_neg (by simp), if_neg (by omega)]) (done 5)
    · have j1s : ∀ c, Ev (fun k => crosswayref03_Class.j2 k ((hn / 72057594037927936 : Nat) : Int) false) c → Ev (fun k => crosswayref03_Class.j1 k (bytesP true (hn : Int) (ln : Int)) ((hn / 72057594037927936 : Nat) : Int) false) c := fun c hc =>
        Ev.step (fun k => by simp only [crosswayref03_Class.j1]; rw [if_neg (by simp), if_neg (by omega)]) hc
      rw [if_neg (by omega)]
      by_cases h255 : hn / 72057594037927936 = 255
      · refine ⟨3, by rw [if_pos (by omega)]; rfl, tail 3 (j1s 3 ?_)⟩
        exact Ev.step (f := fun _ => some 3) (fun k => by simp only [crosswayref03_Class.j2]; rw [if_neg (by simp), if_pos (by omega)]) (done 3)
      · refine ⟨5, by rw [if_neg (by omega)]; rfl, tail 5 (j1s 5 ?_)⟩
        exact Ev.step (f := fun _ => some 5) (fun k => by simp only [crosswayref03_Class.j2]; rw [if_neg (by simp), if_neg (by omega)]) (done 5)

open Q in
theorem classF_four (k : Nat) (hi lo : Int) (ev : crosswayref03_Valid.f false hi lo = some true) : crosswayref03_Class.f k false hi lo = (crosswayref03_Bytes.f k false hi lo).bind fun t => if 0 < (t.length : Int) then (if lo = 0 then some 0 else if (wrap64 (rd t 0)) = 127 then some 1 else if (wrap64 (rd t 0)) = 169 then (if 1 < (t.length : Int) then crosswayref03_Class.j3 k (wrap64 (rd t 0)) ((rd t 1) == 254) false hi lo else none) else crosswayref03_Class.j3 k (wrap64 (rd t 0)) false false hi lo) else none := by
  unfold crosswayref03_Class.f
  rw [ev]
  simp only [Option.bind_some, if_true, Bool.false_eq_true, if_false]

open Q in
theorem class_four (hn ln : Nat) (h1 : hn < 18446744073709551616) (l1 : ln < 18446744073709551616) : ∃ c, addr_Class.f false (hn : Int) (ln : Int) = some c ∧ Ev (fun k => crosswayref03_Class.f k false (hn : Int) (ln : Int)) c := by
  have ev : crosswayref03_Valid.f false (hn : Int) (ln : Int) = some (false || ((hn : Int) == 0 && decide ((ln : Int) < 4294967296))) := valid_f false hn ln
  have ev2 : addr_Valid.f false (hn : Int) (ln : Int) = some (false || ((hn : Int) == 0 && decide ((ln : Int) < 4294967296))) := valid_f false hn ln
  have done : ∀ c : Int, Ev (fun _ : Nat => some c) c := fun c => Ev.now c
  by_cases hv : hn = 0 ∧ ln < 4294967296
  · obtain ⟨rfl, hl⟩ := hv
    have hb : Ev (fun k => crosswayref03_Bytes.f k false ((0 : Nat) : Int) (ln : Int)) (bytesP false 0 (ln : Int)) := ⟨100, fun k hk => refBytes_f false 0 ln h1 l1 k hk⟩
    have hlen := four_len (ln : Int) (by omega)
    have evt : (false || (((0 : Nat) : Int) == 0 && decide ((ln : Int) < 4294967296))) = true := valid_yes _ _ rfl (by omega)
    rw [evt] at ev ev2
    have b0 : rd (bytesP false 0 (ln : Int)) 0 = ((ln / 16777216 % 256 : Nat) : Int) := by
      rw [show (0 : Int) = ((0 : Nat) : Int) from rfl, rd_at]; rw [show (((0 : Nat) : Int)) = 0 from rfl, get_four _ 0 (by omega) (by omega), byteAt_nat]
    have b1 : rd (bytesP false 0 (ln : Int)) 1 = ((ln / 65536 % 256 : Nat) : Int) := by
      rw [show (1 : Int) = ((1 : Nat) : Int) from rfl, rd_at, get_four _ 1 (by omega) (by omega), byteAt_nat]
    have hw0 : wrap64 ((ln / 16777216 % 256 : Nat) : Int) = ((ln / 16777216 : Nat) : Int) := by rw [wrap_small _ (by omega)]; omega
    have d16 : wrap64 (Int.tdiv ((ln / 16777216 : Nat) : Int) 16) = ((ln / 16777216 / 16 : Nat) : Int) := by rw [show (16 : Int) = ((16 : Nat) : Int) from rfl, tdiv_nat, wrap_small _ (by omega)]
    have e24 : ((ln : Int) / 16777216) = ((ln / 16777216 : Nat) : Int) := rfl
    have e16 : ((ln : Int) / 65536) = ((ln / 65536 : Nat) : Int) := rfl
    have e28 : ((ln : Int) / 268435456) = ((ln / 268435456 : Nat) : Int) := rfl
    have start : ∀ c, Ev (fun k => if (ln : Int) = 0 then some 0 else if ((ln / 16777216 : Nat) : Int) = 127 then some 1 else if ((ln / 16777216 : Nat) : Int) = 169 then crosswayref03_Class.j3 k ((ln / 16777216 : Nat) : Int) (((ln / 65536 % 256 : Nat) : Int) == 254) false ((0 : Nat) : Int) (ln : Int) else crosswayref03_Class.j3 k ((ln / 16777216 : Nat) : Int) false false ((0 : Nat) : Int) (ln : Int)) c →
        Ev (fun k => crosswayref03_Class.f k false ((0 : Nat) : Int) (ln : Int)) c := fun c hc => by
      refine Ev.congr (fun k => classF_four k _ _ ev) (Ev.bind hb ?_)
      exact Ev.congr (fun k => by rw [if_pos (show 0 < ((bytesP false 0 (ln : Int)).length : Int) by omega), b0, hw0, b1, if_pos (show 1 < ((bytesP false 0 (ln : Int)).length : Int) by omega)]) hc
    unfold addr_Class.f
    rw [ev2]
    simp only [Option.bind_some, if_true]
    rw [if_neg (by simp), e24, e16, e28]
    by_cases lz : ln = 0
    · exact ⟨0, by rw [if_pos (by omega)], start 0 (Ev.congr (f := fun _ => some 0) (fun k => by rw [if_pos (by omega)]) (done 0))⟩
    · rw [if_neg (by omega)]
      by_cases h127 : ln / 16777216 = 127
      · exact ⟨1, by rw [if_pos (by omega)], start 1 (Ev.congr (f := fun _ => some 1) (fun k => by rw [if_neg (by omega), if_pos (by omega)]) (done 1))⟩
      · rw [if_neg (by omega)]
        have tail : ∀ c, (c : Int) = (if (ln : Int) = 4294967295 then 4 else if ((ln / 268435456 : Nat) : Int) = 14 then 3 else 5) → ∀ q k', k' = ((ln / 16777216 : Nat) : Int) → Ev (fun k => crosswayref03_Class.j3 k k' false q ((0 : Nat) : Int) (ln : Int)) c := fun c hc q k' hk' => by
          subst hk'
          rw [hc]
          refine Ev.step (f := fun _ => some (if (ln : Int) = 4294967295 then 4 else if ((ln / 268435456 : Nat) : Int) = 14 then 3 else 5)) (fun k => by
            simp only [crosswayref03_Class.j3]
            rw [if_neg (by simp), d16]
            by_cases hf : (ln : Int) = 4294967295
            · rw [if_pos hf, if_pos hf]
            · rw [if_neg hf, if_neg hf]
              by_cases h14 : ((ln / 268435456 : Nat) : Int) = 14
              · rw [if_pos (by omega), if_pos h14]
              · rw [if_neg (by omega), if_neg h14]) (Ev.now _)
        by_cases h169 : ln / 16777216 = 169
        · by_cases h254 : ln / 65536 % 256 = 254
          · refine ⟨2, by rw [if_pos (by omega)], start 2 (Ev.congr (fun k => by rw [if_neg (by omega), if_neg (by omega), if_pos (by omega), h254]) ?_)⟩
            exact Ev.step (f := fun _ => some 2) (fun k => by simp only [crosswayref03_Class.j3]; rfl) (done 2)
          · rw [if_neg (by omega)]
            refine ⟨if (ln : Int) = 4294967295 then 4 else if ((ln / 268435456 : Nat) : Int) = 14 then 3 else 5, by (split; rfl; (split <;> rfl)), start _ (Ev.congr (fun k => by rw [if_neg (by omega), if_neg (by omega), if_pos (by omega), show (((ln / 65536 % 256 : Nat) : Int) == 254) = false by simp; omega]) (tail _ rfl _ _ rfl))⟩
        · rw [if_neg (by omega)]
          refine ⟨if (ln : Int) = 4294967295 then 4 else if ((ln / 268435456 : Nat) : Int) = 14 then 3 else 5, by (split; rfl; (split <;> rfl)), start _ (Ev.congr (fun k => by rw [if_neg (by omega), if_neg (by omega), if_neg (by omega)]) (tail _ rfl _ _ rfl))⟩
  · have e : (false || ((hn : Int) == 0 && decide ((ln : Int) < 4294967296))) = false := by
      simp only [Bool.false_or, Bool.and_eq_false_iff, beq_eq_false_iff_ne, decide_eq_false_iff_not]
      by_cases h0 : hn = 0
      · exact Or.inr (fun hl => hv ⟨h0, by omega⟩)
      · exact Or.inl (by omega)
    rw [e] at ev ev2
    refine ⟨-1, by unfold addr_Class.f; rw [ev2]; rfl, Ev.congr (f := fun _ => some (-1)) (fun k => by unfold crosswayref03_Class.f; rw [ev]; rfl) (done _)⟩
end Go.Proofs.YtaekcldkfkiekaaDoor

namespace Go.Proofs.YtaekcldkfkiekaaDoor
open Go.RowKit Go.Proofs.YtaekcldkfkiekaaDoorW.PrintWords Go.Proofs.YtaekcldkfkiekaaDoorW.PrintLast Go.Proofs.YtaekcldkfkiekaaDoorW.PrintMore

open Q in
theorem prints_f (six : Bool) (hi lo : Int) (h0 : 0 ≤ hi) (h1 : hi < 18446744073709551616) (l0 : 0 ≤ lo) (l1 : lo < 18446744073709551616) : ∃ k, crosswaylaw03_AddrPrints.f k six hi lo = some true := by
  have hb : Ev (fun k => addr_Bytes.f k six hi lo) (bytesP six hi lo) := ⟨18, fun k hk => bytes_f six hi lo k hk⟩
  have hr : Ev (fun k => crosswayref03_Bytes.f k six hi lo) (bytesP six hi lo) := ⟨100, fun k hk => by
    have := refBytes_f six hi.toNat lo.toNat (by omega) (by omega) k hk
    rw [Int.toNat_of_nonneg h0, Int.toNat_of_nonneg l0] at this
    exact this⟩
  have hlen : (bytesP six hi lo).length < 100 := by
    unfold bytesP
    split
    · simp
    · split <;> simp
  have hs := same_ev (bytesP six hi lo) (by omega)
  have hp : addr_Print.f six hi lo = some (ofL (printP six hi lo)) := by unfold addr_Print.f; rw [if_pos ⟨h0, h1, l0, l1⟩]
  have hp2 := refPrint_ev six hi lo h0 h1 l0 l1
  have hv : addr_Valid.f six hi lo = some (six || (hi == 0 && decide (lo < 4294967296))) := valid_f six hi lo
  have hv2 : crosswayref03_Valid.f six hi lo = some (six || (hi == 0 && decide (lo < 4294967296))) := valid_f six hi lo
  obtain ⟨c, hc, hc2⟩ : ∃ c, addr_Class.f six hi lo = some c ∧ Ev (fun k => crosswayref03_Class.f k six hi lo) c := by
    obtain ⟨hn, rfl⟩ := Int.eq_ofNat_of_zero_le h0
    obtain ⟨ln, rfl⟩ := Int.eq_ofNat_of_zero_le l0
    cases six with
    | true => exact class_six hn ln (by omega) (by omega)
    | false => exact class_four hn ln (by omega) (by omega)
  have hsol := sol_same six hi lo l0 l1
  obtain ⟨sv, hsv⟩ : ∃ sv, addr_Solicited.f six hi lo = some sv := by unfold addr_Solicited.f; split <;> exact ⟨_, rfl⟩
  rw [hsv] at hsol
  -- behind the loop
  have hend : ∀ xs : List Int, xs.length < 100 → ∀ (d i : Nat), i + d = xs.length → Ev (fun k => crosswaylaw03_AddrPrints.l0 k true xs true (i : Int) six hi lo) true := by
    intro xs hx d
    induction d generalizing xs with
    | zero =>
      intro i hd
      refine Ev.step (fun k => by simp only [crosswaylaw03_AddrPrints.l0]; rw [if_neg (by omega)]) (Ev.bind hb (Ev.bind hr (Ev.bind hs ?_)))
      refine Ev.congr (f := fun k => (crosswayref03_Print.f k six hi lo).bind fun t276 => if (ofL (printP six hi lo)).toList = t276.toList then ((crosswayref03_Class.f k six hi lo).bind fun t280 => if c = t280 then some true else some false) else some false) (fun k => by
        simp only [if_true, hp, Option.bind_some, hv, hv2, hc, hsv, hsol, BEq.rfl, Bool.and_self]) (Ev.bind hp2 ?_)
      refine Ev.congr (fun k => by rw [if_pos rfl]) (Ev.bind hc2 ?_)
      exact Ev.congr (f := fun _ => some true) (fun k => by rw [if_pos rfl]) (Ev.now _)
    | succ d ih =>
      intro i hd
      refine Ev.step (fun k => by simp only [crosswaylaw03_AddrPrints.l0]; rw [if_pos (by omega), if_pos (by omega), wrap_small1 i (by omega)]) (ih (xs.set (i : Int).toNat 9) (by rw [List.length_set]; exact hx) (i + 1) (by rw [List.length_set]; omega))
  refine Ev.rounds (g := fun k => crosswaylaw03_AddrPrints.f k six hi lo) (Ev.congr (fun k => by unfold crosswaylaw03_AddrPrints.f crosswaylaw03_awake.f; rfl) (Ev.bind hb (Ev.bind hr (Ev.bind hs ?_))))
  exact hend (bytesP six hi lo) hlen (bytesP six hi lo).length 0 (by omega)

theorem prints_walk (six : Bool) (hi lo : Int) (h0 : 0 ≤ hi) (h1 : hi < 18446744073709551616) (l0 : 0 ≤ lo) (l1 : lo < 18446744073709551616) (w : World) (hG : GV w) :
    Calls Tryd.prog 4 #[.agg #[.bool six, .int .u64 hi, .int .u64 lo]] w fun e w' => e = .returned (.bool true) ∧ Below w.heap.size w w' := by
  obtain ⟨k, hk⟩ := prints_f six hi lo h0 h1 l0 l1
  exact Q.crosswaylaw03_AddrPrints.calls k six hi lo true w hk rfl hG
end Go.Proofs.YtaekcldkfkiekaaDoor

namespace Go.Proofs.YtaekcldkfkiekaaDoor
open Go.ChangeShapes Go.WideShapes Go.ChangeAt Go.RowKit

theorem u64_wf {a : Int} (h : (Lit.int .u64 a).wf = true) : 0 ≤ a ∧ a < 18446744073709551616 := by
  have h2 : 0 ≤ a ∧ a ≤ 18446744073709551615 := by simpa [Lit.wf, IntKind.min, IntKind.max, IntKind.signed, IntKind.bits] using h
  omega

set_option maxRecDepth 100000 in
theorem prints_lifted (os : Os) (started : os.Started) (H : Type) (enc : TypeId × Value → H) :
    ReturnsInHanded {} Tryd.checked os 4 .any (fun w args => (Rows.addrPrintsSpec.pre enc Tryd.prog Tryd.f4 [] false w args ∧ laidMetH Tryd.prog laidL w) ∧ sizedMet enc Tryd.prog Tryd.f4 (OpenSpec.ofChange Rows.addrPrintsSpec) false w args)
      (Rows.addrPrintsSpec.post enc Tryd.prog Tryd.f4 false true false false) := by
  refine wrap_laid (C := Tryd.checked) (X := fun w _ => laidMetH Tryd.prog laidL w) (fun _ _ _ hh h => h.of_heap hh) own started (by kernel_rfl) Tryd.func4
    (ChangeSpec.witness_shaped (enc := enc) (C := Tryd.checked) (os := os) (X := fun w _ => laidMetH Tryd.prog laidL w) false (World.laidAll Tryd.prog os laidL) #[.agg #[.bool false, .int .u64 0, .int .u64 0]] 8 (World.laidAll_os _ _ _)
      (World.shaped_of_ZipB (by kernel_rfl) (by kernel_rfl)) (by kernel_rfl) (by kernel_rfl) (by kernel_rfl)
      (by rw [MakeChecks.laidMetH_plain _ _ _ (by kernel_rfl)]; exact laidMet_laidAll _ (by kernel_rfl) (by kernel_rfl))) ?_
  intro W base args ds gs before hval0 hW _ hsh hL
  have hval : ∀ (j : Nat) t v, Tryd.f4.params[j]? = some t → args[j]? = some v → Value.okWide Tryd.prog W .any base t v := hval0
  have hG := gv_of_laid hL hsh
  have hW' := hW
  obtain ⟨p, q, hA0, hV, rfl, _, _⟩ := hW
  have hA : DataW.TrodAll enc Tryd.prog W 0 (fun _ => true) true Tryd.f4.params.toList args.toList ds p := hA0
  rw [Tryd.params4] at hA hval
  obtain ⟨v0, d0, rfl, rfl, h0⟩ := trodAll_one hA
  obtain ⟨rfl, rfl⟩ := trodVars_none hV
  have c25 : Tryd.prog.cellsOf 25 = 3 := by kernel_rfl
  obtain ⟨c0, c1, c2, y0, y1, y2, m, rfl, rfl, rfl, hy0, hy1, hy2⟩ := Joins.open_agg3 Tryd.underlying25 (by kernel_rfl) c25 (hval 0 25 v0 rfl rfl) h0
  obtain ⟨a, e0, rfl⟩ := DataW.trod_bool Tryd.underlying4 hy0
  obtain ⟨b, e1, rfl, wb⟩ := DataW.trod_int Tryd.underlying23 hy1
  obtain ⟨c, e2, rfl, wc⟩ := DataW.trod_int Tryd.underlying23 hy2
  simp at e0 e1 e2
  subst e0 e1 e2
  simp only [List.append_nil] at hW'
  obtain ⟨b0, b1⟩ := u64_wf wb
  obtain ⟨k0, k1⟩ := u64_wf wc
  refine (prints_walk a b c b0 b1 k0 k1 W hG).mono fun e W' ⟨he, bel⟩ => ?_
  subst he
  exact ⟨_, rfl, _, _, _, [], [], [], hW', trodAll_mk1 (shut_bool Tryd.underlying4 _),
    trodAll_mk1 (Joins.shut_agg3 Tryd.underlying25 (by kernel_rfl) c25 (Joins.field_of_Trod (shut_bool Tryd.underlying4 a) rfl) (Joins.field_of_Trod (shut_int Tryd.underlying23 wb) rfl) (Joins.field_of_Trod (shut_int Tryd.underlying23 wc) rfl)), rfl, bel.frame _, fun h => by cases h⟩

theorem prints_row : Rows.AddrPrintsSaid :=
  OpenClaim.holds_of_wide 4 Tryd.f4 rfl rfl rfl rfl rfl rfl rfl ⟨rfl, rfl, rfl, rfl, rfl⟩ rfl rfl rfl rfl rfl (by kernel_rfl) Tryd.func4 (by kernel_rfl)
    (of_decide_eq_true (by kernel_rfl)) (by unfold Func.isWrapper; first | (rw [if_pos (by decide +kernel)]; kernel_rfl) | (rw [if_neg (by decide +kernel)]; exact ⟨rfl, rfl⟩))
    (fun os started H enc _ => prints_lifted os started H enc)

theorem addrPrints_holds : Rows.AddrPrintsCardSaid :=
  Claim7.holds_tied_plain_at .later [] [.data, .data, .data, .data, .sentinel, .sentinel, .pinned] true (true, "c93ebde9351cadd70240bd9cb1d3c0fd0a1c943145c7cca455b2dd7a3a0aa2ed") true prints_row (fun _ h => by cases h) (by kernel_rfl) (fun _ h => by cases h) addrPrints_row_tie rfl ⟨rfl, rfl⟩ (by kernel_rfl) rfl
    (fun f fn hf hfn => by
      obtain rfl : f = 4 := Option.some.inj ((show Tryd.prog.funcNamed "crossway/crosswaylaw03.AddrPrints" = some 4 by kernel_rfl).symm.trans hf) |>.symm
      obtain rfl : fn = Tryd.f4 := (Option.some.inj (Tryd.func4.symm.trans hfn)).symm
      exact ⟨by kernel_rfl, fun j t ht => by
        rw [Tryd.params4] at ht
        have hm : t ∈ [25] := by simpa using Array.mem_of_getElem? ht
        have hall : ([25].all fun u => !Tryd.prog.wantsStandIn u) = true := by kernel_rfl
        exact (show Tryd.prog.wantsStandIn t = false by simpa using List.all_eq_true.1 hall t hm)⟩)
    (by kernel_rfl)
#print axioms addrPrints_holds
end Go.Proofs.YtaekcldkfkiekaaDoor
