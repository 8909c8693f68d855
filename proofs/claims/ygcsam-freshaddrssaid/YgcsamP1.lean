/-
  KECCAK ON WHOLE NUMBERS: the same permutation, reckoned by the kernel in few steps. Plain: no Go. Own work.
-/
import Derived.KernelRfl
namespace Go.Proofs.Ygcsam

def m64 : Nat := 18446744073709551616
def hor : List Nat → Nat
  | [] => 0
  | e :: t => e ||| (hor t) <<< 64
def laneN (S p : Nat) : Nat := (S >>> (64 * p)) % 18446744073709551616
def rotN (l k : Nat) : Nat := (l <<< k) % 18446744073709551616 ||| l >>> (64 - k)
def colN (S : Nat) : Nat := S ^^^ (S >>> 64) ^^^ (S >>> 128) ^^^ (S >>> 192) ^^^ (S >>> 256)
def cN (T x : Nat) : Nat := (T >>> (320 * x)) % 18446744073709551616
def dN (T x : Nat) : Nat := cN T ((x + 4) % 5) ^^^ rotN (cN T ((x + 1) % 5)) 1
def tabN : List (Nat × Nat × Nat) :=
  [(0, 0, 0), (15, 3, 28), (5, 1, 1), (20, 4, 27), (10, 2, 62), (6, 1, 44), (21, 4, 20), (11, 2, 6), (1, 0, 36), (16, 3, 55), (12, 2, 43), (2, 0, 3), (17, 3, 25), (7, 1, 10), (22, 4, 39),
   (18, 3, 21), (8, 1, 45), (23, 4, 8), (13, 2, 15), (3, 0, 41), (24, 4, 14), (14, 2, 61), (4, 0, 18), (19, 3, 56), (9, 1, 2)]
def trpN (S : Nat) : Nat := hor (tabN.map fun e => rotN (laneN S e.1 ^^^ dN (colN S) e.2.1) e.2.2)
def rotG (k m S : Nat) : Nat := (S >>> k) ||| (S % 2 ^ k) <<< m
def chiG (n S N1 N2 : Nat) : Nat := S ^^^ (N2 &&& (N1 ^^^ (2 ^ n - 1)))
def chiN (S : Nat) : Nat := chiG 1600 S (rotG 320 1280 S) (rotG 640 960 S)
def roundN (rc S : Nat) : Nat := chiN (trpN S) ^^^ rc
def rcs : List Nat := [1, 32898, 9223372036854808714, 9223372039002292224, 32907, 2147483649, 9223372039002292353, 9223372036854808585, 138, 136, 2147516425, 2147483658, 2147516555, 9223372036854775947, 9223372036854808713, 9223372036854808579, 9223372036854808578, 9223372036854775936, 32778, 9223372039002259466, 9223372039002292353, 9223372036854808704, 2147483649, 9223372039002292232]
def tauT : List Nat := [0, 5, 10, 15, 20, 1, 6, 11, 16, 21, 2, 7, 12, 17, 22, 3, 8, 13, 18, 23, 4, 9, 14, 19, 24]
def tauN (S : Nat) : Nat := hor (tauT.map fun p => laneN S p)
def runN' (S : Nat) : List Nat → Nat
  | [] => S
  | rc :: t => runN' (roundN rc S) t
def permN (S : Nat) : Nat := tauN (runN' (tauN S) rcs)
def zst : Nat → Nat
  | 0 => 0
  | q + 1 => permN (zst q)
def innerN (n : Nat) : Nat := permN (zst (n / 136) ^^^ (2 ^ (8 * (n % 136)) ||| 2 ^ 1087))
def outerN (z : Nat) : Nat := permN (255 ||| 2 ^ 160 ||| (z % 2 ^ 256) <<< 424 ||| 2 ^ 680 ||| 2 ^ 1087)
def freshN (z : Nat) : Bool := !(Nat.beq ((z >>> 96) % 2 ^ 152) 0)
def okFrom (a : Nat) : Nat → Bool
  | 0 => true
  | k + 1 => freshN (outerN (innerN a)) && okFrom (a + 1) k
end Go.Proofs.Ygcsam
