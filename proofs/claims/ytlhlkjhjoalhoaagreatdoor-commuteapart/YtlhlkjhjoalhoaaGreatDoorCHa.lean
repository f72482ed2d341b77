/-
  Steps of the proof.
-/
import Derived.Test.YtlhlkjhjoalhoaaGreatDoorCA3
set_option linter.unusedSimpArgs false
set_option linter.unusedVariables false
namespace Go.AM
open Go
def rAdd (x y : Int) : Int := IntKind.u32.wrap (x + y)
def rAnd (x y : Int) : Int := IntKind.u32.wrap ((BitVec.ofInt IntKind.u32.bits x &&& BitVec.ofInt IntKind.u32.bits y).toNat : Nat)
def rOr (x y : Int) : Int := IntKind.u32.wrap ((BitVec.ofInt IntKind.u32.bits x ||| BitVec.ofInt IntKind.u32.bits y).toNat : Nat)
def rXor (x y : Int) : Int := IntKind.u32.wrap ((BitVec.ofInt IntKind.u32.bits x ^^^ BitVec.ofInt IntKind.u32.bits y).toNat : Nat)
def rNot (x : Int) : Int := rXor 4294967295 x
def rShl (x : Int) (n : Nat) : Int := IntKind.u32.wrap (x * 2 ^ n)
def rShr (x : Int) (n : Nat) : Int := x.fdiv (2 ^ n)
def rCv (x : Int) : Int := IntKind.u32.wrap x
def rRot (x : Int) (j : Nat) : Int := rOr (rShl x (32 - j)) (rShr x j)
def rMix (x : Int) (i j k : Nat) : Int := rXor (rXor (rRot x i) (rRot x j)) (rRot x k)
def rSa (p : Int) : Int := rXor (rXor (rRot p 7) (rRot p 18)) (rShr p 3)
def rSb (p : Int) : Int := rXor (rXor (rRot p 17) (rRot p 19)) (rShr p 10)
def rWord (a b c d : Int) : Int := rOr (rShl (rOr (rShl (rOr (rShl (rOr (rShl 0 8) (rCv a)) 8) (rCv b)) 8) (rCv c)) 8) (rCv d)
def rSched : Nat → List Int → List Int
 | 0, acc => acc
 | n + 1, acc => match acc with
  | a0 :: a1 :: a2 :: a3 :: a4 :: a5 :: a6 :: a7 :: a8 :: a9 :: a10 :: a11 :: a12 :: a13 :: a14 :: a15 :: r => rSched n (rAdd (rAdd (rAdd a15 (rSa a14)) a6) (rSb a1) :: a0 :: a1 :: a2 :: a3 :: a4 :: a5 :: a6 :: a7 :: a8 :: a9 :: a10 :: a11 :: a12 :: a13 :: a14 :: a15 :: r)
  | _ => acc
def rFirst : List Int → List Int → List Int
 | a :: b :: c :: d :: r, acc => rFirst r (rWord a b c d :: acc)
 | _, acc => acc
def rRev : List Int → List Int → List Int
 | [], acc => acc
 | x :: r, acc => rRev r (x :: acc)
def rX (e0 e1 e2 e3 k w : Int) : Int := rAdd (rAdd (rAdd (rAdd e3 (rMix e0 6 11 25)) (rXor (rAnd e0 e1) (rAnd (rNot e0) e2))) k) w
def rY (v0 v1 v2 : Int) : Int := rAdd (rMix v0 2 13 22) (rXor (rXor (rAnd v0 v1) (rAnd v0 v2)) (rAnd v1 v2))
def rGo : List Int → List Int → Int → Int → Int → Int → Int → Int → Int → Int → (Int → Int → Int → Int → Int → Int → Int → Int → List Value) → List Value
 | k :: ks, w :: ws, v0, v1, v2, v3, e0, e1, e2, e3, κ => (fun x => rGo ks ws (rAdd x (rY v0 v1 v2)) v0 v1 v2 (rAdd v3 x) e0 e1 e2 κ) (rX e0 e1 e2 e3 k w)
 | _, _, v0, v1, v2, v3, e0, e1, e2, e3, κ => κ v0 v1 v2 v3 e0 e1 e2 e3
def shaK : List Int := [1116352408, 1899447441, 3049323471, 3921009573, 961987163, 1508970993, 2453635748, 2870763221, 3624381080, 310598401, 607225278, 1426881987, 1925078388, 2162078206, 2614888103, 3248222580, 3835390401, 4022224774, 264347078, 604807628, 770255983, 1249150122, 1555081692, 1996064986, 2554220882, 2821834349, 2952996808, 3210313671, 3336571891, 3584528711, 113926993, 338241895, 666307205, 773529912, 1294757372, 1396182291, 1695183700, 1986661051, 2177026350, 2456956037, 2730485921, 2820302411, 3259730800, 3345764771, 3516065817, 3600352804, 4094571909, 275423344, 430227734, 506948616, 659060556, 883997877, 958139571, 1322822218, 1537002063, 1747873779, 1955562222, 2024104815, 2227730452, 2361852424, 2428436474, 2756734187, 3204031479, 3329325298]
def rCompress (s0 s1 s2 s3 s4 s5 s6 s7 : Int) (bs : List Int) : List Value :=
 rGo shaK (rRev (rSched 48 (rFirst bs [])) []) s0 s1 s2 s3 s4 s5 s6 s7 fun v0 v1 v2 v3 e0 e1 e2 e3 =>
  [.int .u32 (rAdd s0 v0), .int .u32 (rAdd s1 v1), .int .u32 (rAdd s2 v2), .int .u32 (rAdd s3 v3), .int .u32 (rAdd s4 e0), .int .u32 (rAdd s5 e1), .int .u32 (rAdd s6 e2), .int .u32 (rAdd s7 e3)]
end Go.AM
