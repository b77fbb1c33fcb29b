/- Kuhn's matching on codes: who has each slot (three bits a slot: 0: nobody; i + 1: mask i), which slots were seen (a bit each), the masks (four bits each). Plain; no world. -/
import Derived.KernelRfl
namespace Go.Proofs.Ytjmcdlehjgngfaa

/-- The owner at a slot, plus one. -/
def dig (oc k : Nat) : Nat := oc / 8 ^ k % 8
/-- Does a mask have a slot? -/
def has (mc i k : Nat) : Bool := Nat.beq (mc / 2 ^ (4 * i + k) % 2) 1
/-- Was a slot seen? -/
def sawn (sc k : Nat) : Bool := Nat.beq (sc / 2 ^ k % 2) 1

/-- 'takes' from slot k on, with some fuel: (found?, owners, seen). -/
def takesC (mc f : Nat) : Nat → Nat → Nat → Nat → Nat → Option (Bool × Nat × Nat)
  | 0, _, _, _, _ => none
  | g + 1, i, k, oc, sc =>
    bif Nat.blt k 4 then
      bif !has mc i k || sawn sc k then takesC mc f g i (k + 1) oc sc
      else
        bif Nat.beq (dig oc k) 0 then some (true, oc + (i + 1) * 8 ^ k, sc + 2 ^ k)
        else bif Nat.ble (dig oc k) f then takesC mc f g i (k + 1) oc (sc + 2 ^ k)
        else match takesC mc f g (dig oc k - 1) 0 oc (sc + 2 ^ k) with
          | none => none
          | some (true, oc', sc') => some (true, oc' - dig oc' k * 8 ^ k + (i + 1) * 8 ^ k, sc')
          | some (false, oc', sc') => takesC mc f g i (k + 1) oc' sc'
    else some (false, oc, sc)

/-- 'all' from mask i on, of n. -/
def allC (mc f n : Nat) : Nat → Nat → Nat → Option Bool
  | 0, _, _ => none
  | g + 1, i, oc =>
    bif Nat.blt i n then
      match takesC mc f 40 i 0 oc 0 with
      | none => none
      | some (true, oc', _) => allC mc f n g (i + 1) oc'
      | some (false, _, _) => some false
    else some true

end Go.Proofs.Ytjmcdlehjgngfaa
