/- What layer 1 says of floats: kinds, places, neighbours: plain functions of words. No program. -/
import Derived.Test.YtgljhgjjenengaaGreatDoorF64
namespace GFl
/-- The place of plus infinity. -/
def PI : Int := 9218868437227405312
def kindF (x : Nat) : Int := if 9218868437227405312 < rg x then 4 else if rg x = 9218868437227405312 then 3 else if 4503599627370496 ≤ rg x then 2 else if 0 < rg x then 1 else 0
def placeF (x : Nat) : Int := if isn x then 0 else plc x
def atW (p : Int) : Nat := wd (decide (p < 0)) p.natAbs
def atOk (p : Int) : Bool := decide (-PI ≤ p ∧ p ≤ PI)
def atF (p : Int) : Nat := if atOk p then atW p else 0
def nextP (p : Int) (up : Bool) : Int := if up then min (p + 1) PI else max (p - 1) (-PI)
def nextF (x : Nat) (up : Bool) : Nat := if isn x then x else atW (nextP (plc x) up)
def sameF (x y : Nat) : Bool := decide (x = y) || isn x && isn y
end GFl
