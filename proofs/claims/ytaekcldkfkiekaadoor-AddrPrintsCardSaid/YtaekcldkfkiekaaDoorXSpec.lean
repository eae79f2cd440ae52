/- The plain meaning of numbers in a text: digits of a base. No condition. -/
import Derived.WalkKit
namespace Go.Proofs.YtaekcldkfkiekaaDoor

/-- a digit's number, below 36 -/
def digOf (c : UInt8) : Option Nat :=
  if 48 ≤ c.toNat ∧ c.toNat ≤ 57 then some (c.toNat - 48)
  else if (97 : Int) ≤ bits .or .u8 (c.toNat : Int) 32 ∧ bits .or .u8 (c.toNat : Int) 32 ≤ 122 then some (bits .or .u8 (c.toNat : Int) 32 - 87).toNat
  else none

/-- digits of a base behind a number -/
def num (b : Nat) : Nat → List UInt8 → Option Nat
  | n, [] => some n
  | n, c :: cs => match digOf c with
    | none => none
    | some d => if d < b then num b (n * b + d) cs else none

theorem num_digit (b n : Nat) (c : UInt8) (cs : List UInt8) (h0 : 48 ≤ c.toNat) (h1 : c.toNat ≤ 57) (hb : c.toNat - 48 < b) :
    num b n (c :: cs) = num b (n * b + (c.toNat - 48)) cs := by
  simp only [num, digOf]
  rw [if_pos ⟨h0, h1⟩]
  simp only [if_pos hb]

theorem num_letter (b n : Nat) (c : UInt8) (cs : List UInt8) (hd : ¬ (48 ≤ c.toNat ∧ c.toNat ≤ 57)) (h0 : (97 : Int) ≤ bits .or .u8 (c.toNat : Int) 32) (h1 : bits .or .u8 (c.toNat : Int) 32 ≤ 122)
    (hb : bits .or .u8 (c.toNat : Int) 32 - 87 < b) :
    num b n (c :: cs) = num b (n * b + (bits .or .u8 (c.toNat : Int) 32 - 87).toNat) cs := by
  simp only [num, digOf]
  rw [if_neg hd, if_pos ⟨h0, h1⟩]
  simp only []
  rw [if_pos (by omega)]

theorem num_high (b n : Nat) (c : UInt8) (cs : List UInt8) (hd : ¬ (48 ≤ c.toNat ∧ c.toNat ≤ 57)) (h0 : (97 : Int) ≤ bits .or .u8 (c.toNat : Int) 32) (h1 : bits .or .u8 (c.toNat : Int) 32 ≤ 122)
    (hb : ¬ bits .or .u8 (c.toNat : Int) 32 - 87 < b) : num b n (c :: cs) = none := by
  simp only [num, digOf]
  rw [if_neg hd, if_pos ⟨h0, h1⟩]
  simp only []
  rw [if_neg (by omega)]

theorem num_none (b n : Nat) (c : UInt8) (cs : List UInt8) (hd : ¬ (48 ≤ c.toNat ∧ c.toNat ≤ 57)) (h0 : ¬ ((97 : Int) ≤ bits .or .u8 (c.toNat : Int) 32 ∧ bits .or .u8 (c.toNat : Int) 32 ≤ 122)) :
    num b n (c :: cs) = none := by
  simp only [num, digOf]
  rw [if_neg hd, if_neg h0]

def puTuple : Option Nat → Value
  | some n => .tuple #[.int .u64 n, .nilIface]
  | none => .tuple #[.int .u64 0, .iface 107 (.int .i64 2)]

end Go.Proofs.YtaekcldkfkiekaaDoor
