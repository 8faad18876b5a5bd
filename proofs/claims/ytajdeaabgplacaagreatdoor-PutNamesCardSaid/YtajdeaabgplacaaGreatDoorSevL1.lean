/-
  Where the run is cut: states as literals.
-/
import Derived.Test.YtajdeaabgplacaaGreatDoorSevS0
import Derived.Test.YtajdeaabgplacaaGreatDoorSevOq
namespace Go.Proofs.YtajdeaabgplacaaGreatDoor
open Go Go.Proofs.YtajdeaabgplacaaGreatDoor.Sev
set_option linter.unusedVariables false
def lhs : Code → Code | .seq a _ => a | c => c
def rhs : Code → Code | .seq _ b => b | c => c
def inn : Code → Code | .block _ c => c | .loop c => c | c => c
noncomputable def B0 : Code := Tryz.f3.body.getD .skip
noncomputable def r0 : Code := lhs B0
noncomputable def B1 : Code := rhs B0
noncomputable def r1 : Code := lhs B1
noncomputable def B2 : Code := rhs B1
noncomputable def r2 : Code := lhs B2
noncomputable def B3 : Code := rhs B2
noncomputable def r3 : Code := lhs B3
noncomputable def B4 : Code := rhs B3
noncomputable def x4 : Code := lhs B4
noncomputable def B5 : Code := rhs B4
noncomputable def r6 : Code := lhs B5
noncomputable def B6 : Code := rhs B5
noncomputable def r7 : Code := lhs (lhs B6)
noncomputable def cLoop : Code := inn (inn (rhs (lhs B6)))
noncomputable def B7 : Code := rhs B6
noncomputable def r14 : Code := lhs B7
noncomputable def B8 : Code := rhs B7
noncomputable def r15 : Code := lhs B8
noncomputable def B9 : Code := rhs B8
noncomputable def r16 : Code := lhs (lhs B9)
noncomputable def dLoop : Code := inn (inn (rhs (lhs B9)))
noncomputable def B10 : Code := rhs B9
noncomputable def r24 : Code := lhs B10
noncomputable def B11 : Code := rhs B10
noncomputable def r25 : Code := lhs B11
noncomputable def B12 : Code := rhs B11
noncomputable def r26 : Code := lhs B12
noncomputable def B13 : Code := rhs B12
noncomputable def r27 : Code := lhs B13
noncomputable def B14 : Code := rhs B13
noncomputable def y17 : Code := lhs dLoop
noncomputable def D1 : Code := inn (lhs (rhs dLoop))
noncomputable def r18 : Code := rhs (rhs dLoop)
noncomputable def r19 : Code := lhs D1
noncomputable def D2 : Code := rhs D1
noncomputable def r20 : Code := lhs D2
noncomputable def D3 : Code := rhs D2
noncomputable def r21 : Code := lhs D3
noncomputable def D4 : Code := rhs D3
noncomputable def Ia (n : Nat) : AV := .int .i64 (.ofNat n)
noncomputable def Ua (n : Nat) : AV := .int .u8 (.ofNat n)
noncomputable def Fa : AV := .bool false
noncomputable def Ta : AV := .bool true
noncomputable def Ea : AV := .str []
noncomputable def lit1 : Go.Proofs.YtajdeaabgplacaaGreatDoor.Sev.Lit := ⟨[Fa, .nilptr, .ptr 22 0, Ia 0, .ptr 66 0, .tup [], .tup [], .tup [], .tup [], .tup [], .tup [], .tup [], .tup [], .tup [], .tup [], .tup [], .tup [], .tup [], .tup [], .tup [], .tup [], .tup [], .tup [.ptr 22 0, Ia 0], .agg [Ia 3, Ia 4, Ia 3, Ia 3, Ia 90, Ia 4, Ia 3, Ia 3], .tup [.ptr 22 0, Ia 0], .ptr 22 0, Ia 0, .agg [.nilsl], .ptr 66 0, Ta, Fa, Fa, Ia 0, Fa, Fa, Fa, .nilptr, .ptr 22 0, Ta, Fa, Fa, Fa, .nilptr, .agg [Ia 0, Fa, Ea, .nilsl], Ia 0, Fa, Fa, Fa, .agg [Ua 3, Ia 0, Ea, Ea, Ea, Ia 0, Ua 0], .ptr 66 0, .ptr 69 0, Ta, Fa, Fa, Fa, .agg [Ua 2, Ia 0, Ea, Ea, Ea, Ia 0, Ua 0], .ptr 66 0, .ptr 71 0, .ptr 22 0, Ta, Fa, Fa, Fa, .agg [Ua 0, Ia 0, Ea, Ea, Ea, Ia 0, Ua 0], .ptr 66 0, .ptr 73 0, .ptr 22 0, Ta, Fa, Fa, .ptr 22 0, .ptr 66 0, .agg [Ua 1, Ia 0, Ea, Ea, Ea, Ia 0, Ua 0], .tup [Ia 2, .agg [Ia 0, Fa, Ea, .nilsl]], .agg [Ua 3, Ia 2, .str [107], Ea, Ea, Ia 0, Ua 0], .agg [Ia 30, Fa, Ea, .nilsl], .agg [Ua 3, Ia 2, .str [107], Ea, Ea, Ia 0, Ua 0, Ia 1, Ia 30, Fa, Ea, .nilsl], .agg [Ua 3, Ia 1, .str [108, 111, 110, 103, 33], Ea, Ea, Ia 0, Ua 0], .agg [Ia 32, Fa, Ea, .nilsl], .agg [Ua 3, Ia 1, .str [108, 111, 110, 103, 33], Ea, Ea, Ia 0, Ua 0, Ia 1, Ia 32, Fa, Ea, .nilsl], .agg [Ua 3, Ia 1, Ea, Ea, Ea, Ia 0, Ua 0], .agg [Ia 32, Fa, Ea, .nilsl], .agg [Ua 3, Ia 1, Ea, Ea, Ea, Ia 0, Ua 0, Ia 1, Ia 32, Fa, Ea, .nilsl], .agg [Ua 3, Ia 1, .str [107], Ea, .str [108, 111, 110, 103], Ia 0, Ua 0], .agg [Ia 32, Fa, Ea, .nilsl], .agg [Ua 3, Ia 1, .str [107], Ea, .str [108, 111, 110, 103], Ia 0, Ua 0, Ia 1, Ia 32, Fa, Ea, .nilsl], .agg [Ua 4, Ia 1, .str [97], Ea, .str [108, 111, 110, 103], Ia 0, Ua 0], .agg [Ia 0, Fa, Ea, .nilsl], .agg [Ua 4, Ia 1, .str [97], Ea, .str [108, 111, 110, 103], Ia 0, Ua 0, Ia 4, Ia 0, Fa, Ea, .nilsl], .agg [Ua 3, Ia 1, .str [97], Ea, .str [49], Ia 0, Ua 0], .agg [Ia 0, Fa, Ea, .nilsl], .agg [Ua 3, Ia 1, .str [97], Ea, .str [49], Ia 0, Ua 0, Ia 8, Ia 0, Fa, Ea, .nilsl], .agg [Ua 3, Ia 1, .str [98], Ea, .str [50], Ia 0, Ua 0], .agg [Ia 0, Fa, Ea, .nilsl], .agg [Ua 3, Ia 1, .str [98], Ea, .str [50], Ia 0, Ua 0, Ia 8, Ia 0, Fa, Ea, .nilsl], .agg [Ua 3, Ia 1, .str [99], Ea, .str [51], Ia 0, Ua 0], .agg [Ia 0, Fa, Ea, .nilsl], .agg [Ua 3, Ia 1, .str [99], Ea, .str [51], Ia 0, Ua 0, Ia 8, Ia 0, Fa, Ea, .nilsl], .agg [Ua 3, Ia 1, .str [100], Ea, .str [52], Ia 0, Ua 0], .agg [Ia 34, Fa, Ea, .nilsl], .agg [Ua 3, Ia 1, .str [100], Ea, .str [52], Ia 0, Ua 0, Ia 4, Ia 34, Fa, Ea, .nilsl], .agg [Ua 4, Ia 1, .str [98], Ea, Ea, Ia 0, Ua 0], .agg [Ia 0, Ta, Ea, .nilsl], .agg [Ua 4, Ia 1, .str [98], Ea, Ea, Ia 0, Ua 0, Ia 8, Ia 0, Ta, Ea, .nilsl], .agg [Ua 4, Ia 1, .str [98], Ea, Ea, Ia 0, Ua 0], .agg [Ia 0, Fa, Ea, .nilsl], .agg [Ua 4, Ia 1, .str [98], Ea, Ea, Ia 0, Ua 0, Ia 7, Ia 0, Fa, Ea, .nilsl], .agg [Ua 6, Ia 1, Ea, Ea, Ea, Ia 0, Ua 0], .agg [Ia 0, Fa, Ea, .nilsl], .agg [Ua 6, Ia 1, Ea, Ea, Ea, Ia 0, Ua 0, Ia 2, Ia 0, Fa, Ea, .nilsl], .agg [Ua 3, Ia 1, .str [97], Ea, Ea, Ia 0, Ua 0], .agg [Ia 31, Fa, Ea, .nilsl], .agg [Ua 3, Ia 1, .str [97], Ea, Ea, Ia 0, Ua 0, Ia 1, Ia 31, Fa, Ea, .nilsl], .sl 128 0 13 13, Ia 13, Ia 0, .tup [], .tup [], .tup [], .tup [], .tup [], .tup [], .tup [], .tup [], .tup [], .tup [], .tup [], .tup [], .tup [], .tup [], .tup [], .tup [], .tup [], .tup [], .tup [], .tup [], .tup [], .tup [], .tup [], .tup [], .tup [], .tup [], .tup [], .tup [], .tup [], .tup [], .tup [], .tup [], .tup [], .tup [], .tup [], .tup [], .tup [], .tup [], .tup [], .tup [], .tup [], .tup [], .tup [], .tup [], .tup [], .tup [], .tup [], .tup [], .tup [], .tup [], .tup [], .tup [], .tup [], .tup [], .tup [], .tup [], .tup [], .tup [], .tup [], .tup [], .tup [], .tup [], .tup [], .tup [], .tup [], .tup [], .tup [], .tup [], .tup [], .tup [], .tup [], .tup [], .tup [], .tup [], .tup [], .tup [], .tup [], .tup [], .tup [], .tup [], .tup [], .tup [], .tup [], .tup [], .tup [], .tup [], .tup [], .tup [], .tup [], .tup [], .tup [], .tup [], .tup [], .tup [], .tup [], .tup [], .tup [], .tup [], .tup [], .tup [], .tup [], .tup [], .tup [], .tup [], .tup [], .tup [], .tup [], .tup [], .tup [], .tup [], .tup [], .tup [], .tup [], .tup [], .tup [], .tup [], .tup [], .tup [], .tup [], .tup [], .tup [], .tup [], .tup [], .tup [], .tup [], .tup [], .tup []],
  [(0, .cells [] 3 false false [] false),
   (1, .cells [Ua 0, Ua 0, Ua 1, Ua 1, Ua 2] 398 false false [] false),
   (22, .cells [Ia 3, Ia 4, Ia 3, Ia 3, Ia 90, Ia 4, Ia 3, Ia 3, .ptr 19 0, .ptr 21 0, .ptr 25 0, .ptr 30 0, .ptr 46 0, .ptr 63 0, .ptr 65 0] 56 false false [] false),
   (66, .cells [.slo 114 0 1 0] 33 false false [] false),
   (69, .cells [Ua 3, Ia 0, Ea, Ea, Ea, Ia 0, Ua 0, .ptr 66 0, Ia 0, Ia 0, Ia 0, Ia 0, .nilsl, Ia 0, Fa, Ea, .nilsl, Fa, .nilptr, .int .u64 (.ofNat 0), .nilptr, .int .u64 (.ofNat 0), Ua 0, .nilsl, .nilsl, Ia 0, Fa, Fa, Fa, Fa, Ia 0, Ua 0, .nilptr, .nilptr, .nilptr, .fn (.func 26) [.ptr 69 0] []] 99 false false [] false),
   (71, .cells [Ua 2, Ia 0, Ea, Ea, Ea, Ia 0, Ua 0, .ptr 66 0, Ia 0, Ia 0, Ia 0, Ia 0, .nilsl, Ia 0, Fa, Ea, .nilsl, Fa, .nilptr, .int .u64 (.ofNat 0), .nilptr, .int .u64 (.ofNat 0), Ua 0, .nilsl, .nilsl, Ia 0, Fa, Fa, Fa, Fa, Ia 0, Ua 0, .nilptr, .nilptr, .nilptr, .nilfn] 99 false false [] false),
   (73, .cells [Ua 0, Ia 0, Ea, Ea, Ea, Ia 0, Ua 0, .ptr 66 0, Ia 0, Ia 0, Ia 0, Ia 0, .nilsl, Ia 0, Fa, Ea, .nilsl, Fa, .nilptr, .int .u64 (.ofNat 0), .nilptr, .int .u64 (.ofNat 0), Ua 0, .nilsl, .nilsl, Ia 0, Fa, Fa, Fa, Fa, Ia 0, Ua 0, .nilptr, .nilptr, .nilptr, .nilfn] 99 false false [] false),
   (128, .cells [Ua 3, Ia 2, .str [107], Ea, Ea, Ia 0, Ua 0, Ia 1, Ia 30, Fa, Ea, .nilsl, Ua 3, Ia 1, .str [108, 111, 110, 103, 33], Ea, Ea, Ia 0, Ua 0, Ia 1, Ia 32, Fa, Ea, .nilsl, Ua 3, Ia 1, Ea, Ea, Ea, Ia 0, Ua 0, Ia 1, Ia 32, Fa, Ea, .nilsl, Ua 3, Ia 1, .str [107], Ea, .str [108, 111, 110, 103], Ia 0, Ua 0, Ia 1, Ia 32, Fa, Ea, .nilsl, Ua 4, Ia 1, .str [97], Ea, .str [108, 111, 110, 103], Ia 0, Ua 0, Ia 4, Ia 0, Fa, Ea, .nilsl, Ua 3, Ia 1, .str [97], Ea, .str [49], Ia 0, Ua 0, Ia 8, Ia 0, Fa, Ea, .nilsl, Ua 3, Ia 1, .str [98], Ea, .str [50], Ia 0, Ua 0, Ia 8, Ia 0, Fa, Ea, .nilsl, Ua 3, Ia 1, .str [99], Ea, .str [51], Ia 0, Ua 0, Ia 8, Ia 0, Fa, Ea, .nilsl, Ua 3, Ia 1, .str [100], Ea, .str [52], Ia 0, Ua 0, Ia 4, Ia 34, Fa, Ea, .nilsl, Ua 4, Ia 1, .str [98], Ea, Ea, Ia 0, Ua 0, Ia 8, Ia 0, Ta, Ea, .nilsl, Ua 4, Ia 1, .str [98], Ea, Ea, Ia 0, Ua 0, Ia 7, Ia 0, Fa, Ea, .nilsl, Ua 6, Ia 1, Ea, Ea, Ea, Ia 0, Ua 0, Ia 2, Ia 0, Fa, Ea, .nilsl, Ua 3, Ia 1, .str [97], Ea, Ea, Ia 0, Ua 0, Ia 1, Ia 31, Fa, Ea, .nilsl] 45 false false [] false),
   (19, .cells [Ia 3, Ia 4, Ia 3, Ia 3, Ia 90, Ia 4, Ia 3, Ia 3, Ua 2, .ptr 14 0, .ptr 16 0, Ia 0, Ia 0, .map 17, .map 18] 120 false false [] false),
   (21, .cells [.map 20] 108 false false [] false),
   (25, .cells [Ia 3, .map 23, Ia 1, Ia 1] 126 false false [] false),
   (30, .cells [Ia 9, .nilsl, .map 29, Ia 0, Ia 0] 133 false false [] false),
   (46, .cells [Ia 3, Ia 4, Ia 3, Ia 3, Ia 90, Ia 4, Ia 3, Ia 3, .ptr 45 0] 135 false false [] false),
   (63, .cells [Ia 3, Ia 4, Ia 3, Ia 3, Ia 90, Ia 4, Ia 3, Ia 3, .ptr 61 0, .map 62] 111 false false [] false),
   (65, .cells [.sl 64 0 3 3, .slo 126 0 3 0] 139 false false [] false),
   (114, .cells [Ia 1] 3 true false [] false),
   (14, .cells [.slo 105 0 1 0, Ia 0] 162 false false [] false),
   (16, .cells [.map 15, Ia 0] 165 false false [] false),
   (17, .map [(Ia 1, .agg [Ia 0, Ia 1, Ia 1, .sl 109 0 0 0])] 110),
   (18, .map [(Ia 1, .map 111)] 112),
   (20, .map [] 20),
   (23, .map [(Ia 1, .agg [Ta, .nilsl, .nilsl, .nilsl])] 24),
   (29, .map [] 29),
   (45, .cells [Ia 30, .nilsl, .map 44, Ia 0, Ia 0] 133 false false [] false),
   (61, .cells [Ia 35, .nilsl, .map 60, Ia 0, Ia 0] 133 false false [] false),
   (62, .map [] 62),
   (64, .cells [Ia 0, Ia 1, Ia 0, Ia 0, Ia 0, Ia 0] 239 false false [] false),
   (126, .cells [Ua 1, Ia 0, Ia 0, Ia 0, Fa, Ea, .nilsl, Ua 2, Ia 0, Ia 0, Ia 0, Fa, Ea, .nilsl, Ua 3, Ia 0, Ia 0, Ia 0, Fa, Ea, .nilsl] 196 true false [119, 83] false),
   (105, .cells [Ua 1, Ia 0] 289 true false [] false),
   (15, .map [] 15),
   (109, .cells [] 3 false false [] false),
   (111, .map [] 111),
   (44, .map [] 44),
   (60, .map [] 60),
   (119, .bare 14 196 true true [83] false),
   (83, .bare 7 196 true true [] false)],
  129, 2⟩
noncomputable def lit2 : Go.Proofs.YtajdeaabgplacaaGreatDoor.Sev.Lit := ⟨[Fa, .nilptr, .ptr 22 0, Ia 0, .ptr 66 0, .tup [], .ptr 129 0, Ia 1, .ptr 154 0, .tup [], .tup [], .tup [], .tup [], .tup [], .tup [], .tup [], .tup [], .tup [], .tup [], .tup [], .tup [], .tup [], .tup [.ptr 22 0, Ia 0], .agg [Ia 3, Ia 4, Ia 3, Ia 3, Ia 90, Ia 4, Ia 3, Ia 3], .tup [.ptr 22 0, Ia 0], .ptr 22 0, Ia 0, .agg [.nilsl], .ptr 66 0, Ta, Fa, Fa, Ia 0, Fa, Fa, Fa, .nilptr, .ptr 22 0, Ta, Fa, Fa, Fa, .nilptr, .agg [Ia 0, Fa, Ea, .nilsl], Ia 0, Fa, Fa, Fa, .agg [Ua 3, Ia 0, Ea, Ea, Ea, Ia 0, Ua 0], .ptr 66 0, .ptr 69 0, Ta, Fa, Fa, Fa, .agg [Ua 2, Ia 0, Ea, Ea, Ea, Ia 0, Ua 0], .ptr 66 0, .ptr 71 0, .ptr 22 0, Ta, Fa, Fa, Fa, .agg [Ua 0, Ia 0, Ea, Ea, Ea, Ia 0, Ua 0], .ptr 66 0, .ptr 73 0, .ptr 22 0, Ta, Fa, Fa, .ptr 22 0, .ptr 66 0, .agg [Ua 1, Ia 0, Ea, Ea, Ea, Ia 0, Ua 0], .tup [Ia 2, .agg [Ia 0, Fa, Ea, .nilsl]], .agg [Ua 3, Ia 2, .str [107], Ea, Ea, Ia 0, Ua 0], .agg [Ia 30, Fa, Ea, .nilsl], .agg [Ua 3, Ia 2, .str [107], Ea, Ea, Ia 0, Ua 0, Ia 1, Ia 30, Fa, Ea, .nilsl], .agg [Ua 3, Ia 1, .str [108, 111, 110, 103, 33], Ea, Ea, Ia 0, Ua 0], .agg [Ia 32, Fa, Ea, .nilsl], .agg [Ua 3, Ia 1, .str [108, 111, 110, 103, 33], Ea, Ea, Ia 0, Ua 0, Ia 1, Ia 32, Fa, Ea, .nilsl], .agg [Ua 3, Ia 1, Ea, Ea, Ea, Ia 0, Ua 0], .agg [Ia 32, Fa, Ea, .nilsl], .agg [Ua 3, Ia 1, Ea, Ea, Ea, Ia 0, Ua 0, Ia 1, Ia 32, Fa, Ea, .nilsl], .agg [Ua 3, Ia 1, .str [107], Ea, .str [108, 111, 110, 103], Ia 0, Ua 0], .agg [Ia 32, Fa, Ea, .nilsl], .agg [Ua 3, Ia 1, .str [107], Ea, .str [108, 111, 110, 103], Ia 0, Ua 0, Ia 1, Ia 32, Fa, Ea, .nilsl], .agg [Ua 4, Ia 1, .str [97], Ea, .str [108, 111, 110, 103], Ia 0, Ua 0], .agg [Ia 0, Fa, Ea, .nilsl], .agg [Ua 4, Ia 1, .str [97], Ea, .str [108, 111, 110, 103], Ia 0, Ua 0, Ia 4, Ia 0, Fa, Ea, .nilsl], .agg [Ua 3, Ia 1, .str [97], Ea, .str [49], Ia 0, Ua 0], .agg [Ia 0, Fa, Ea, .nilsl], .agg [Ua 3, Ia 1, .str [97], Ea, .str [49], Ia 0, Ua 0, Ia 8, Ia 0, Fa, Ea, .nilsl], .agg [Ua 3, Ia 1, .str [98], Ea, .str [50], Ia 0, Ua 0], .agg [Ia 0, Fa, Ea, .nilsl], .agg [Ua 3, Ia 1, .str [98], Ea, .str [50], Ia 0, Ua 0, Ia 8, Ia 0, Fa, Ea, .nilsl], .agg [Ua 3, Ia 1, .str [99], Ea, .str [51], Ia 0, Ua 0], .agg [Ia 0, Fa, Ea, .nilsl], .agg [Ua 3, Ia 1, .str [99], Ea, .str [51], Ia 0, Ua 0, Ia 8, Ia 0, Fa, Ea, .nilsl], .agg [Ua 3, Ia 1, .str [100], Ea, .str [52], Ia 0, Ua 0], .agg [Ia 34, Fa, Ea, .nilsl], .agg [Ua 3, Ia 1, .str [100], Ea, .str [52], Ia 0, Ua 0, Ia 4, Ia 34, Fa, Ea, .nilsl], .agg [Ua 4, Ia 1, .str [98], Ea, Ea, Ia 0, Ua 0], .agg [Ia 0, Ta, Ea, .nilsl], .agg [Ua 4, Ia 1, .str [98], Ea, Ea, Ia 0, Ua 0, Ia 8, Ia 0, Ta, Ea, .nilsl], .agg [Ua 4, Ia 1, .str [98], Ea, Ea, Ia 0, Ua 0], .agg [Ia 0, Fa, Ea, .nilsl], .agg [Ua 4, Ia 1, .str [98], Ea, Ea, Ia 0, Ua 0, Ia 7, Ia 0, Fa, Ea, .nilsl], .agg [Ua 6, Ia 1, Ea, Ea, Ea, Ia 0, Ua 0], .agg [Ia 0, Fa, Ea, .nilsl], .agg [Ua 6, Ia 1, Ea, Ea, Ea, Ia 0, Ua 0, Ia 2, Ia 0, Fa, Ea, .nilsl], .agg [Ua 3, Ia 1, .str [97], Ea, Ea, Ia 0, Ua 0], .agg [Ia 31, Fa, Ea, .nilsl], .agg [Ua 3, Ia 1, .str [97], Ea, Ea, Ia 0, Ua 0, Ia 1, Ia 31, Fa, Ea, .nilsl], .sl 128 0 13 13, Ia 13, Ia 1, Ta, .ptr 128 0, .agg [Ua 3, Ia 2, .str [107], Ea, Ea, Ia 0, Ua 0, Ia 1, Ia 30, Fa, Ea, .nilsl], .tup [Ia 1, .agg [Ia 30, Fa, Ea, .nilsl]], .ptr 22 0, .ptr 66 0, .ptr 129 0, .agg [Ua 3, Ia 2, .str [107], Ea, Ea, Ia 0, Ua 0], .tup [Ia 1, .agg [Ia 30, Fa, Ea, .nilsl]], Ia 1, .agg [Ia 30, Fa, Ea, .nilsl], Ia 1, .ptr 129 7, Ia 1, Fa, Fa, .agg [Ia 30, Fa, Ea, .nilsl], .ptr 129 8, .agg [Ia 30, Fa, Ea, .nilsl], Ta, Fa, Fa, Fa, .ptr 22 0, .ptr 22 0, .ptr 22 9, .ptr 21 0, Ia 0, Fa, Fa, Ia 1, .tup [], .tup [], .tup [], .tup [], .tup [], .tup [], .tup [], .tup [], .tup [], .tup [], .tup [], .tup [], .tup [], .tup [], .tup [], .tup [], .tup [], .tup [], .tup [], .tup [], .tup [], .tup [], .tup [], .tup [], .tup [], .tup [], .tup [], .tup [], .tup [], .tup [], .tup [], .tup [], .tup [], .tup [], .tup [], .tup [], .tup [], .tup [], .tup [], .tup [], .tup [], .tup [], .tup [], .tup [], .tup [], .tup [], .tup [], .tup [], .tup [], .tup [], .tup [], .tup [], .tup [], .tup [], .tup [], .tup [], .tup [], .tup [], .tup [], .tup [], .tup [], .tup [], .tup [], .tup [], .tup [], .tup [], .tup [], .tup [], .tup [], .tup [], .tup [], .tup [], .tup [], .tup [], .tup [], .tup [], .tup [], .tup [], .tup [], .tup [], .tup [], .tup [], .tup [], .tup [], .tup [], .tup [], .tup [], .tup [], .tup [], .tup [], .tup [], .tup [], .tup [], .tup [], .tup [], .tup []],
  [(0, .cells [] 3 false false [] false),
   (1, .cells [Ua 0, Ua 0, Ua 1, Ua 1, Ua 2] 398 false false [] false),
   (22, .cells [Ia 3, Ia 4, Ia 3, Ia 3, Ia 90, Ia 4, Ia 3, Ia 3, .ptr 19 0, .ptr 21 0, .ptr 25 0, .ptr 30 0, .ptr 46 0, .ptr 63 0, .ptr 65 0] 56 false false [] false),
   (66, .cells [.slo 114 0 1 0] 33 false false [] false),
   (129, .cells [Ua 3, Ia 2, .str [107], Ea, Ea, Ia 0, Ua 0, Ia 1, Ia 30, Fa, Ea, .nilsl] 45 false false [] false),
   (154, .cells [Ia 30, Fa, Ea, .nilsl] 38 false false [] false),
   (69, .cells [Ua 3, Ia 0, Ea, Ea, Ea, Ia 0, Ua 0, .ptr 66 0, Ia 0, Ia 0, Ia 0, Ia 0, .nilsl, Ia 0, Fa, Ea, .nilsl, Fa, .nilptr, .int .u64 (.ofNat 0), .nilptr, .int .u64 (.ofNat 0), Ua 0, .nilsl, .nilsl, Ia 0, Fa, Fa, Fa, Fa, Ia 0, Ua 0, .nilptr, .nilptr, .nilptr, .fn (.func 26) [.ptr 69 0] []] 99 false false [] false),
   (71, .cells [Ua 2, Ia 0, Ea, Ea, Ea, Ia 0, Ua 0, .ptr 66 0, Ia 0, Ia 0, Ia 0, Ia 0, .nilsl, Ia 0, Fa, Ea, .nilsl, Fa, .nilptr, .int .u64 (.ofNat 0), .nilptr, .int .u64 (.ofNat 0), Ua 0, .nilsl, .nilsl, Ia 0, Fa, Fa, Fa, Fa, Ia 0, Ua 0, .nilptr, .nilptr, .nilptr, .nilfn] 99 false false [] false),
   (73, .cells [Ua 0, Ia 0, Ea, Ea, Ea, Ia 0, Ua 0, .ptr 66 0, Ia 0, Ia 0, Ia 0, Ia 0, .nilsl, Ia 0, Fa, Ea, .nilsl, Fa, .nilptr, .int .u64 (.ofNat 0), .nilptr, .int .u64 (.ofNat 0), Ua 0, .nilsl, .nilsl, Ia 0, Fa, Fa, Fa, Fa, Ia 0, Ua 0, .nilptr, .nilptr, .nilptr, .nilfn] 99 false false [] false),
   (128, .cells [Ua 3, Ia 2, .str [107], Ea, Ea, Ia 0, Ua 0, Ia 1, Ia 30, Fa, Ea, .nilsl, Ua 3, Ia 1, .str [108, 111, 110, 103, 33], Ea, Ea, Ia 0, Ua 0, Ia 1, Ia 32, Fa, Ea, .nilsl, Ua 3, Ia 1, Ea, Ea, Ea, Ia 0, Ua 0, Ia 1, Ia 32, Fa, Ea, .nilsl, Ua 3, Ia 1, .str [107], Ea, .str [108, 111, 110, 103], Ia 0, Ua 0, Ia 1, Ia 32, Fa, Ea, .nilsl, Ua 4, Ia 1, .str [97], Ea, .str [108, 111, 110, 103], Ia 0, Ua 0, Ia 4, Ia 0, Fa, Ea, .nilsl, Ua 3, Ia 1, .str [97], Ea, .str [49], Ia 0, Ua 0, Ia 8, Ia 0, Fa, Ea, .nilsl, Ua 3, Ia 1, .str [98], Ea, .str [50], Ia 0, Ua 0, Ia 8, Ia 0, Fa, Ea, .nilsl, Ua 3, Ia 1, .str [99], Ea, .str [51], Ia 0, Ua 0, Ia 8, Ia 0, Fa, Ea, .nilsl, Ua 3, Ia 1, .str [100], Ea, .str [52], Ia 0, Ua 0, Ia 4, Ia 34, Fa, Ea, .nilsl, Ua 4, Ia 1, .str [98], Ea, Ea, Ia 0, Ua 0, Ia 8, Ia 0, Ta, Ea, .nilsl, Ua 4, Ia 1, .str [98], Ea, Ea, Ia 0, Ua 0, Ia 7, Ia 0, Fa, Ea, .nilsl, Ua 6, Ia 1, Ea, Ea, Ea, Ia 0, Ua 0, Ia 2, Ia 0, Fa, Ea, .nilsl, Ua 3, Ia 1, .str [97], Ea, Ea, Ia 0, Ua 0, Ia 1, Ia 31, Fa, Ea, .nilsl] 45 false false [] false),
   (21, .cells [.map 20] 108 false false [] false),
   (19, .cells [Ia 3, Ia 4, Ia 3, Ia 3, Ia 90, Ia 4, Ia 3, Ia 3, Ua 2, .ptr 14 0, .ptr 16 0, Ia 0, Ia 0, .map 17, .map 18] 120 false false [] false),
   (25, .cells [Ia 3, .map 23, Ia 1, Ia 1] 126 false false [] false),
   (30, .cells [Ia 9, .nilsl, .map 29, Ia 0, Ia 0] 133 false false [] false),
   (46, .cells [Ia 3, Ia 4, Ia 3, Ia 3, Ia 90, Ia 4, Ia 3, Ia 3, .ptr 45 0] 135 false false [] false),
   (63, .cells [Ia 3, Ia 4, Ia 3, Ia 3, Ia 90, Ia 4, Ia 3, Ia 3, .ptr 61 0, .map 62] 111 false false [] false),
   (65, .cells [.sl 64 0 3 3, .slo 152 0 6 0] 139 false false [] false),
   (114, .cells [Ia 1] 3 true false [] false),
   (20, .map [] 20),
   (14, .cells [.slo 105 0 1 0, Ia 0] 162 false false [] false),
   (16, .cells [.map 15, Ia 0] 165 false false [] false),
   (17, .map [(Ia 1, .agg [Ia 0, Ia 1, Ia 1, .sl 109 0 0 0])] 110),
   (18, .map [(Ia 1, .map 111)] 112),
   (23, .map [(Ia 1, .agg [Ta, .nilsl, .nilsl, .nilsl])] 24),
   (29, .map [] 29),
   (45, .cells [Ia 30, .nilsl, .map 44, Ia 0, Ia 0] 133 false false [] false),
   (61, .cells [Ia 35, .nilsl, .map 60, Ia 0, Ia 0] 133 false false [] false),
   (62, .map [] 62),
   (64, .cells [Ia 0, Ia 2, Ia 0, Ia 0, Ia 0, Ia 0] 239 false false [] false),
   (152, .cells [Ua 1, Ia 0, Ia 0, Ia 0, Fa, Ea, .nilsl, Ua 2, Ia 0, Ia 0, Ia 0, Fa, Ea, .nilsl, Ua 3, Ia 0, Ia 0, Ia 0, Fa, Ea, .nilsl, Ua 1, Ia 0, Ia 1, Ia 0, Fa, Ea, .nilsl, Ua 2, Ia 0, Ia 1, Ia 0, Fa, Ea, .nilsl, Ua 3, Ia 0, Ia 1, Ia 30, Fa, Ea, .nilsl] 196 true false [145, 139, 126, 119, 83] false),
   (105, .cells [Ua 1, Ia 0] 289 true false [] false),
   (15, .map [] 15),
   (109, .cells [] 3 false false [] false),
   (111, .map [] 111),
   (44, .map [] 44),
   (60, .map [] 60),
   (145, .bare 35 196 true true [139, 126, 119, 83] false),
   (139, .bare 28 196 true true [126, 119, 83] false),
   (126, .bare 21 196 true true [119, 83] false),
   (119, .bare 14 196 true true [83] false),
   (83, .bare 7 196 true true [] false)],
  157, 2⟩
noncomputable def lit3 : Go.Proofs.YtajdeaabgplacaaGreatDoor.Sev.Lit := ⟨[Fa, .nilptr, .ptr 22 0, Ia 0, .ptr 66 0, .tup [], .ptr 302 0, Ia 4, .ptr 421 0, .tup [], .tup [], .tup [], .tup [], .tup [], .tup [], .tup [], .tup [], .tup [], .tup [], .tup [], .tup [], .tup [], .tup [.ptr 22 0, Ia 0], .agg [Ia 3, Ia 4, Ia 3, Ia 3, Ia 90, Ia 4, Ia 3, Ia 3], .tup [.ptr 22 0, Ia 0], .ptr 22 0, Ia 0, .agg [.nilsl], .ptr 66 0, Ta, Fa, Fa, Ia 0, Fa, Fa, Fa, .nilptr, .ptr 22 0, Ta, Fa, Fa, Fa, .nilptr, .agg [Ia 0, Fa, Ea, .nilsl], Ia 0, Fa, Fa, Fa, .agg [Ua 3, Ia 0, Ea, Ea, Ea, Ia 0, Ua 0], .ptr 66 0, .ptr 69 0, Ta, Fa, Fa, Fa, .agg [Ua 2, Ia 0, Ea, Ea, Ea, Ia 0, Ua 0], .ptr 66 0, .ptr 71 0, .ptr 22 0, Ta, Fa, Fa, Fa, .agg [Ua 0, Ia 0, Ea, Ea, Ea, Ia 0, Ua 0], .ptr 66 0, .ptr 73 0, .ptr 22 0, Ta, Fa, Fa, .ptr 22 0, .ptr 66 0, .agg [Ua 1, Ia 0, Ea, Ea, Ea, Ia 0, Ua 0], .tup [Ia 2, .agg [Ia 0, Fa, Ea, .nilsl]], .agg [Ua 3, Ia 2, .str [107], Ea, Ea, Ia 0, Ua 0], .agg [Ia 30, Fa, Ea, .nilsl], .agg [Ua 3, Ia 2, .str [107], Ea, Ea, Ia 0, Ua 0, Ia 1, Ia 30, Fa, Ea, .nilsl], .agg [Ua 3, Ia 1, .str [108, 111, 110, 103, 33], Ea, Ea, Ia 0, Ua 0], .agg [Ia 32, Fa, Ea, .nilsl], .agg [Ua 3, Ia 1, .str [108, 111, 110, 103, 33], Ea, Ea, Ia 0, Ua 0, Ia 1, Ia 32, Fa, Ea, .nilsl], .agg [Ua 3, Ia 1, Ea, Ea, Ea, Ia 0, Ua 0], .agg [Ia 32, Fa, Ea, .nilsl], .agg [Ua 3, Ia 1, Ea, Ea, Ea, Ia 0, Ua 0, Ia 1, Ia 32, Fa, Ea, .nilsl], .agg [Ua 3, Ia 1, .str [107], Ea, .str [108, 111, 110, 103], Ia 0, Ua 0], .agg [Ia 32, Fa, Ea, .nilsl], .agg [Ua 3, Ia 1, .str [107], Ea, .str [108, 111, 110, 103], Ia 0, Ua 0, Ia 1, Ia 32, Fa, Ea, .nilsl], .agg [Ua 4, Ia 1, .str [97], Ea, .str [108, 111, 110, 103], Ia 0, Ua 0], .agg [Ia 0, Fa, Ea, .nilsl], .agg [Ua 4, Ia 1, .str [97], Ea, .str [108, 111, 110, 103], Ia 0, Ua 0, Ia 4, Ia 0, Fa, Ea, .nilsl], .agg [Ua 3, Ia 1, .str [97], Ea, .str [49], Ia 0, Ua 0], .agg [Ia 0, Fa, Ea, .nilsl], .agg [Ua 3, Ia 1, .str [97], Ea, .str [49], Ia 0, Ua 0, Ia 8, Ia 0, Fa, Ea, .nilsl], .agg [Ua 3, Ia 1, .str [98], Ea, .str [50], Ia 0, Ua 0], .agg [Ia 0, Fa, Ea, .nilsl], .agg [Ua 3, Ia 1, .str [98], Ea, .str [50], Ia 0, Ua 0, Ia 8, Ia 0, Fa, Ea, .nilsl], .agg [Ua 3, Ia 1, .str [99], Ea, .str [51], Ia 0, Ua 0], .agg [Ia 0, Fa, Ea, .nilsl], .agg [Ua 3, Ia 1, .str [99], Ea, .str [51], Ia 0, Ua 0, Ia 8, Ia 0, Fa, Ea, .nilsl], .agg [Ua 3, Ia 1, .str [100], Ea, .str [52], Ia 0, Ua 0], .agg [Ia 34, Fa, Ea, .nilsl], .agg [Ua 3, Ia 1, .str [100], Ea, .str [52], Ia 0, Ua 0, Ia 4, Ia 34, Fa, Ea, .nilsl], .agg [Ua 4, Ia 1, .str [98], Ea, Ea, Ia 0, Ua 0], .agg [Ia 0, Ta, Ea, .nilsl], .agg [Ua 4, Ia 1, .str [98], Ea, Ea, Ia 0, Ua 0, Ia 8, Ia 0, Ta, Ea, .nilsl], .agg [Ua 4, Ia 1, .str [98], Ea, Ea, Ia 0, Ua 0], .agg [Ia 0, Fa, Ea, .nilsl], .agg [Ua 4, Ia 1, .str [98], Ea, Ea, Ia 0, Ua 0, Ia 7, Ia 0, Fa, Ea, .nilsl], .agg [Ua 6, Ia 1, Ea, Ea, Ea, Ia 0, Ua 0], .agg [Ia 0, Fa, Ea, .nilsl], .agg [Ua 6, Ia 1, Ea, Ea, Ea, Ia 0, Ua 0, Ia 2, Ia 0, Fa, Ea, .nilsl], .agg [Ua 3, Ia 1, .str [97], Ea, Ea, Ia 0, Ua 0], .agg [Ia 31, Fa, Ea, .nilsl], .agg [Ua 3, Ia 1, .str [97], Ea, Ea, Ia 0, Ua 0, Ia 1, Ia 31, Fa, Ea, .nilsl], .sl 128 0 13 13, Ia 13, Ia 5, Ta, .ptr 128 48, .agg [Ua 4, Ia 1, .str [97], Ea, .str [108, 111, 110, 103], Ia 0, Ua 0, Ia 4, Ia 0, Fa, Ea, .nilsl], .tup [Ia 4, .agg [Ia 0, Fa, Ea, .nilsl]], .ptr 22 0, .ptr 66 0, .ptr 302 0, .agg [Ua 4, Ia 1, .str [97], Ea, .str [108, 111, 110, 103], Ia 0, Ua 0], .tup [Ia 4, .agg [Ia 0, Fa, Ea, .nilsl]], Ia 4, .agg [Ia 0, Fa, Ea, .nilsl], Ia 4, .ptr 302 7, Ia 4, Fa, Fa, .agg [Ia 0, Fa, Ea, .nilsl], .ptr 302 8, .agg [Ia 0, Fa, Ea, .nilsl], Ta, Fa, Fa, Fa, .ptr 22 0, .ptr 22 0, .ptr 22 9, .ptr 21 0, Ia 0, Fa, Fa, Ia 5, .tup [], .tup [], .tup [], .tup [], .tup [], .tup [], .tup [], .tup [], .tup [], .tup [], .tup [], .tup [], .tup [], .tup [], .tup [], .tup [], .tup [], .tup [], .tup [], .tup [], .tup [], .tup [], .tup [], .tup [], .tup [], .tup [], .tup [], .tup [], .tup [], .tup [], .tup [], .tup [], .tup [], .tup [], .tup [], .tup [], .tup [], .tup [], .tup [], .tup [], .tup [], .tup [], .tup [], .tup [], .tup [], .tup [], .tup [], .tup [], .tup [], .tup [], .tup [], .tup [], .tup [], .tup [], .tup [], .tup [], .tup [], .tup [], .tup [], .tup [], .tup [], .tup [], .tup [], .tup [], .tup [], .tup [], .tup [], .tup [], .tup [], .tup [], .tup [], .tup [], .tup [], .tup [], .tup [], .tup [], .tup [], .tup [], .tup [], .tup [], .tup [], .tup [], .tup [], .tup [], .tup [], .tup [], .tup [], .tup [], .tup [], .tup [], .tup [], .tup [], .tup [], .tup [], .tup [], .tup []],
  [(0, .cells [] 3 false false [] false),
   (1, .cells [Ua 0, Ua 0, Ua 1, Ua 1, Ua 2] 398 false false [] false),
   (22, .cells [Ia 3, Ia 4, Ia 3, Ia 3, Ia 90, Ia 4, Ia 3, Ia 3, .ptr 19 0, .ptr 21 0, .ptr 25 0, .ptr 30 0, .ptr 46 0, .ptr 63 0, .ptr 65 0] 56 false false [] false),
   (66, .cells [.slo 114 0 1 0] 33 false false [] false),
   (302, .cells [Ua 4, Ia 1, .str [97], Ea, .str [108, 111, 110, 103], Ia 0, Ua 0, Ia 4, Ia 0, Fa, Ea, .nilsl] 45 false false [] false),
   (421, .cells [Ia 0, Fa, Ea, .nilsl] 38 false false [] false),
   (69, .cells [Ua 3, Ia 0, Ea, Ea, Ea, Ia 0, Ua 0, .ptr 66 0, Ia 0, Ia 0, Ia 0, Ia 0, .nilsl, Ia 0, Fa, Ea, .nilsl, Fa, .nilptr, .int .u64 (.ofNat 0), .nilptr, .int .u64 (.ofNat 0), Ua 0, .nilsl, .nilsl, Ia 0, Fa, Fa, Fa, Fa, Ia 0, Ua 0, .nilptr, .nilptr, .nilptr, .fn (.func 26) [.ptr 69 0] []] 99 false false [] false),
   (71, .cells [Ua 2, Ia 0, Ea, Ea, Ea, Ia 0, Ua 0, .ptr 66 0, Ia 0, Ia 0, Ia 0, Ia 0, .nilsl, Ia 0, Fa, Ea, .nilsl, Fa, .nilptr, .int .u64 (.ofNat 0), .nilptr, .int .u64 (.ofNat 0), Ua 0, .nilsl, .nilsl, Ia 0, Fa, Fa, Fa, Fa, Ia 0, Ua 0, .nilptr, .nilptr, .nilptr, .nilfn] 99 false false [] false),
   (73, .cells [Ua 0, Ia 0, Ea, Ea, Ea, Ia 0, Ua 0, .ptr 66 0, Ia 0, Ia 0, Ia 0, Ia 0, .nilsl, Ia 0, Fa, Ea, .nilsl, Fa, .nilptr, .int .u64 (.ofNat 0), .nilptr, .int .u64 (.ofNat 0), Ua 0, .nilsl, .nilsl, Ia 0, Fa, Fa, Fa, Fa, Ia 0, Ua 0, .nilptr, .nilptr, .nilptr, .nilfn] 99 false false [] false),
   (128, .cells [Ua 3, Ia 2, .str [107], Ea, Ea, Ia 0, Ua 0, Ia 1, Ia 30, Fa, Ea, .nilsl, Ua 3, Ia 1, .str [108, 111, 110, 103, 33], Ea, Ea, Ia 0, Ua 0, Ia 1, Ia 32, Fa, Ea, .nilsl, Ua 3, Ia 1, Ea, Ea, Ea, Ia 0, Ua 0, Ia 1, Ia 32, Fa, Ea, .nilsl, Ua 3, Ia 1, .str [107], Ea, .str [108, 111, 110, 103], Ia 0, Ua 0, Ia 1, Ia 32, Fa, Ea, .nilsl, Ua 4, Ia 1, .str [97], Ea, .str [108, 111, 110, 103], Ia 0, Ua 0, Ia 4, Ia 0, Fa, Ea, .nilsl, Ua 3, Ia 1, .str [97], Ea, .str [49], Ia 0, Ua 0, Ia 8, Ia 0, Fa, Ea, .nilsl, Ua 3, Ia 1, .str [98], Ea, .str [50], Ia 0, Ua 0, Ia 8, Ia 0, Fa, Ea, .nilsl, Ua 3, Ia 1, .str [99], Ea, .str [51], Ia 0, Ua 0, Ia 8, Ia 0, Fa, Ea, .nilsl, Ua 3, Ia 1, .str [100], Ea, .str [52], Ia 0, Ua 0, Ia 4, Ia 34, Fa, Ea, .nilsl, Ua 4, Ia 1, .str [98], Ea, Ea, Ia 0, Ua 0, Ia 8, Ia 0, Ta, Ea, .nilsl, Ua 4, Ia 1, .str [98], Ea, Ea, Ia 0, Ua 0, Ia 7, Ia 0, Fa, Ea, .nilsl, Ua 6, Ia 1, Ea, Ea, Ea, Ia 0, Ua 0, Ia 2, Ia 0, Fa, Ea, .nilsl, Ua 3, Ia 1, .str [97], Ea, Ea, Ia 0, Ua 0, Ia 1, Ia 31, Fa, Ea, .nilsl] 45 false false [] false),
   (21, .cells [.map 20] 108 false false [] false),
   (19, .cells [Ia 3, Ia 4, Ia 3, Ia 3, Ia 90, Ia 4, Ia 3, Ia 3, Ua 2, .ptr 14 0, .ptr 16 0, Ia 0, Ia 0, .map 17, .map 18] 120 false false [] false),
   (25, .cells [Ia 3, .map 23, Ia 1, Ia 1] 126 false false [] false),
   (30, .cells [Ia 9, .nilsl, .map 29, Ia 0, Ia 0] 133 false false [] false),
   (46, .cells [Ia 3, Ia 4, Ia 3, Ia 3, Ia 90, Ia 4, Ia 3, Ia 3, .ptr 45 0] 135 false false [] false),
   (63, .cells [Ia 3, Ia 4, Ia 3, Ia 3, Ia 90, Ia 4, Ia 3, Ia 3, .ptr 61 0, .map 62] 111 false false [] false),
   (65, .cells [.sl 64 0 3 3, .slo 419 0 18 0] 139 false false [] false),
   (114, .cells [Ia 1] 3 true false [] false),
   (20, .map [] 353),
   (14, .cells [.slo 105 0 1 0, Ia 0] 162 false false [] false),
   (16, .cells [.map 15, Ia 0] 165 false false [] false),
   (17, .map [(Ia 1, .agg [Ia 0, Ia 1, Ia 1, .sl 109 0 0 0])] 110),
   (18, .map [(Ia 1, .map 111)] 112),
   (23, .map [(Ia 1, .agg [Ta, .nilsl, .nilsl, .nilsl])] 24),
   (29, .map [] 29),
   (45, .cells [Ia 30, .nilsl, .map 44, Ia 0, Ia 0] 133 false false [] false),
   (61, .cells [Ia 35, .nilsl, .map 60, Ia 0, Ia 0] 133 false false [] false),
   (62, .map [] 62),
   (64, .cells [Ia 0, Ia 6, Ia 0, Ia 0, Ia 0, Ia 0] 239 false false [] false),
   (419, .cells [Ua 1, Ia 0, Ia 0, Ia 0, Fa, Ea, .nilsl, Ua 2, Ia 0, Ia 0, Ia 0, Fa, Ea, .nilsl, Ua 3, Ia 0, Ia 0, Ia 0, Fa, Ea, .nilsl, Ua 1, Ia 0, Ia 1, Ia 0, Fa, Ea, .nilsl, Ua 2, Ia 0, Ia 1, Ia 0, Fa, Ea, .nilsl, Ua 3, Ia 0, Ia 1, Ia 30, Fa, Ea, .nilsl, Ua 1, Ia 0, Ia 2, Ia 0, Fa, Ea, .nilsl, Ua 2, Ia 0, Ia 2, Ia 0, Fa, Ea, .nilsl, Ua 3, Ia 0, Ia 2, Ia 32, Fa, Ea, .nilsl, Ua 1, Ia 0, Ia 3, Ia 0, Fa, Ea, .nilsl, Ua 2, Ia 0, Ia 3, Ia 0, Fa, Ea, .nilsl, Ua 3, Ia 0, Ia 3, Ia 32, Fa, Ea, .nilsl, Ua 1, Ia 0, Ia 4, Ia 0, Fa, Ea, .nilsl, Ua 2, Ia 0, Ia 4, Ia 0, Fa, Ea, .nilsl, Ua 3, Ia 0, Ia 4, Ia 32, Fa, Ea, .nilsl, Ua 1, Ia 0, Ia 5, Ia 0, Fa, Ea, .nilsl, Ua 2, Ia 0, Ia 5, Ia 0, Fa, Ea, .nilsl, Ua 3, Ia 0, Ia 5, Ia 0, Fa, Ea, .nilsl] 196 true false [401, 312, 297, 290, 255, 240, 233, 211, 196, 189, 167, 152, 145, 139, 126, 119, 83] false),
   (105, .cells [Ua 1, Ia 0] 289 true false [] false),
   (15, .map [] 15),
   (109, .cells [] 3 false false [] false),
   (111, .map [] 111),
   (44, .map [] 44),
   (60, .map [] 60),
   (401, .bare 119 196 true true [312, 297, 290, 255, 240, 233, 211, 196, 189, 167, 152, 145, 139, 126, 119, 83] false),
   (312, .bare 112 196 true true [297, 290, 255, 240, 233, 211, 196, 189, 167, 152, 145, 139, 126, 119, 83] false),
   (297, .bare 105 196 true true [290, 255, 240, 233, 211, 196, 189, 167, 152, 145, 139, 126, 119, 83] false),
   (290, .bare 98 196 true true [255, 240, 233, 211, 196, 189, 167, 152, 145, 139, 126, 119, 83] false),
   (255, .bare 91 196 true true [240, 233, 211, 196, 189, 167, 152, 145, 139, 126, 119, 83] false),
   (240, .bare 84 196 true true [233, 211, 196, 189, 167, 152, 145, 139, 126, 119, 83] false),
   (233, .bare 77 196 true true [211, 196, 189, 167, 152, 145, 139, 126, 119, 83] false),
   (211, .bare 70 196 true true [196, 189, 167, 152, 145, 139, 126, 119, 83] false),
   (196, .bare 63 196 true true [189, 167, 152, 145, 139, 126, 119, 83] false),
   (189, .bare 56 196 true true [167, 152, 145, 139, 126, 119, 83] false),
   (167, .bare 49 196 true true [152, 145, 139, 126, 119, 83] false),
   (152, .bare 42 196 true true [145, 139, 126, 119, 83] false),
   (145, .bare 35 196 true true [139, 126, 119, 83] false),
   (139, .bare 28 196 true true [126, 119, 83] false),
   (126, .bare 21 196 true true [119, 83] false),
   (119, .bare 14 196 true true [83] false),
   (83, .bare 7 196 true true [] false)],
  424, 2⟩
noncomputable def lit4t0 : Tr AV := .nd (.lf) (Ua 0) (.lf)
noncomputable def lit4t1 : Tr AV := .nd (lit4t0) (Ua 0) (lit4t0)
noncomputable def lit4t2 : Tr AV := .nd (lit4t1) (Ua 0) (lit4t1)
noncomputable def lit4t3 : Tr AV := .nd (lit4t2) (Ua 0) (lit4t2)
noncomputable def lit4t4 : Tr AV := .nd (lit4t3) (Ua 0) (lit4t3)
noncomputable def lit4t5 : Tr AV := .nd (lit4t4) (Ua 0) (lit4t4)
noncomputable def lit4t6 : Tr AV := .nd (lit4t5) (Ua 0) (lit4t5)
noncomputable def lit4t7 : Tr AV := .nd (lit4t6) (Ua 0) (lit4t6)
noncomputable def lit4t8 : Tr AV := .nd (lit4t7) (Ua 0) (lit4t7)
noncomputable def lit4t9 : Tr AV := .nd (.nd (.nd (.nd (.nd (.nd (.nd (.nd (.nd (lit4t0) (Ua 0) (.lf)) (Ua 0) (lit4t0)) (Ua 0) (lit4t1)) (Ua 0) (lit4t2)) (Ua 0) (lit4t3)) (Ua 0) (lit4t4)) (Ua 0) (lit4t5)) (Ua 0) (lit4t6)) (Ua 0) (lit4t7)
noncomputable def lit4t10 : Tr AV := .nd (.nd (.nd (.nd (.nd (.nd (.nd (.nd (.nd (.nd (.nd (.lf) (Ia 1) (.lf)) (Ua 0) (.lf)) (Ua 0) (lit4t0)) (Ua 0) (lit4t1)) (Ua 0) (lit4t2)) (Ua 0) (lit4t3)) (Ua 0) (lit4t4)) (Ua 0) (lit4t5)) (Ua 0) (lit4t6)) (Ua 0) (lit4t7)) (Ua 0) (lit4t8)
noncomputable def lit4t11 : Tr AV := .nd (.nd (.nd (.nd (.nd (.nd (.nd (.nd (.nd (.nd (.nd (.lf) (.int .u16 (.ofNat 65535)) (.lf)) (Ua 0) (.lf)) (Ua 0) (lit4t0)) (Ua 0) (lit4t1)) (Ua 0) (lit4t2)) (Ua 0) (lit4t3)) (Ua 0) (lit4t4)) (Ua 0) (lit4t5)) (Ua 0) (lit4t6)) (Ua 0) (lit4t7)) (Ua 0) (lit4t8)
noncomputable def lit4 : Go.Proofs.YtajdeaabgplacaaGreatDoor.Sev.Lit := ⟨[Fa, .nilptr, .ptr 22 0, Ia 0, .ptr 66 0, .tup [], .ptr 424 0, Ia 8, .ptr 677 0, .tup [], .tup [], .tup [], .tup [], .tup [], .tup [], .tup [], .tup [], .tup [], .tup [], .tup [], .tup [], .tup [], .tup [.ptr 22 0, Ia 0], .agg [Ia 3, Ia 4, Ia 3, Ia 3, Ia 90, Ia 4, Ia 3, Ia 3], .tup [.ptr 22 0, Ia 0], .ptr 22 0, Ia 0, .agg [.nilsl], .ptr 66 0, Ta, Fa, Fa, Ia 0, Fa, Fa, Fa, .nilptr, .ptr 22 0, Ta, Fa, Fa, Fa, .nilptr, .agg [Ia 0, Fa, Ea, .nilsl], Ia 0, Fa, Fa, Fa, .agg [Ua 3, Ia 0, Ea, Ea, Ea, Ia 0, Ua 0], .ptr 66 0, .ptr 69 0, Ta, Fa, Fa, Fa, .agg [Ua 2, Ia 0, Ea, Ea, Ea, Ia 0, Ua 0], .ptr 66 0, .ptr 71 0, .ptr 22 0, Ta, Fa, Fa, Fa, .agg [Ua 0, Ia 0, Ea, Ea, Ea, Ia 0, Ua 0], .ptr 66 0, .ptr 73 0, .ptr 22 0, Ta, Fa, Fa, .ptr 22 0, .ptr 66 0, .agg [Ua 1, Ia 0, Ea, Ea, Ea, Ia 0, Ua 0], .tup [Ia 2, .agg [Ia 0, Fa, Ea, .nilsl]], .agg [Ua 3, Ia 2, .str [107], Ea, Ea, Ia 0, Ua 0], .agg [Ia 30, Fa, Ea, .nilsl], .agg [Ua 3, Ia 2, .str [107], Ea, Ea, Ia 0, Ua 0, Ia 1, Ia 30, Fa, Ea, .nilsl], .agg [Ua 3, Ia 1, .str [108, 111, 110, 103, 33], Ea, Ea, Ia 0, Ua 0], .agg [Ia 32, Fa, Ea, .nilsl], .agg [Ua 3, Ia 1, .str [108, 111, 110, 103, 33], Ea, Ea, Ia 0, Ua 0, Ia 1, Ia 32, Fa, Ea, .nilsl], .agg [Ua 3, Ia 1, Ea, Ea, Ea, Ia 0, Ua 0], .agg [Ia 32, Fa, Ea, .nilsl], .agg [Ua 3, Ia 1, Ea, Ea, Ea, Ia 0, Ua 0, Ia 1, Ia 32, Fa, Ea, .nilsl], .agg [Ua 3, Ia 1, .str [107], Ea, .str [108, 111, 110, 103], Ia 0, Ua 0], .agg [Ia 32, Fa, Ea, .nilsl], .agg [Ua 3, Ia 1, .str [107], Ea, .str [108, 111, 110, 103], Ia 0, Ua 0, Ia 1, Ia 32, Fa, Ea, .nilsl], .agg [Ua 4, Ia 1, .str [97], Ea, .str [108, 111, 110, 103], Ia 0, Ua 0], .agg [Ia 0, Fa, Ea, .nilsl], .agg [Ua 4, Ia 1, .str [97], Ea, .str [108, 111, 110, 103], Ia 0, Ua 0, Ia 4, Ia 0, Fa, Ea, .nilsl], .agg [Ua 3, Ia 1, .str [97], Ea, .str [49], Ia 0, Ua 0], .agg [Ia 0, Fa, Ea, .nilsl], .agg [Ua 3, Ia 1, .str [97], Ea, .str [49], Ia 0, Ua 0, Ia 8, Ia 0, Fa, Ea, .nilsl], .agg [Ua 3, Ia 1, .str [98], Ea, .str [50], Ia 0, Ua 0], .agg [Ia 0, Fa, Ea, .nilsl], .agg [Ua 3, Ia 1, .str [98], Ea, .str [50], Ia 0, Ua 0, Ia 8, Ia 0, Fa, Ea, .nilsl], .agg [Ua 3, Ia 1, .str [99], Ea, .str [51], Ia 0, Ua 0], .agg [Ia 0, Fa, Ea, .nilsl], .agg [Ua 3, Ia 1, .str [99], Ea, .str [51], Ia 0, Ua 0, Ia 8, Ia 0, Fa, Ea, .nilsl], .agg [Ua 3, Ia 1, .str [100], Ea, .str [52], Ia 0, Ua 0], .agg [Ia 34, Fa, Ea, .nilsl], .agg [Ua 3, Ia 1, .str [100], Ea, .str [52], Ia 0, Ua 0, Ia 4, Ia 34, Fa, Ea, .nilsl], .agg [Ua 4, Ia 1, .str [98], Ea, Ea, Ia 0, Ua 0], .agg [Ia 0, Ta, Ea, .nilsl], .agg [Ua 4, Ia 1, .str [98], Ea, Ea, Ia 0, Ua 0, Ia 8, Ia 0, Ta, Ea, .nilsl], .agg [Ua 4, Ia 1, .str [98], Ea, Ea, Ia 0, Ua 0], .agg [Ia 0, Fa, Ea, .nilsl], .agg [Ua 4, Ia 1, .str [98], Ea, Ea, Ia 0, Ua 0, Ia 7, Ia 0, Fa, Ea, .nilsl], .agg [Ua 6, Ia 1, Ea, Ea, Ea, Ia 0, Ua 0], .agg [Ia 0, Fa, Ea, .nilsl], .agg [Ua 6, Ia 1, Ea, Ea, Ea, Ia 0, Ua 0, Ia 2, Ia 0, Fa, Ea, .nilsl], .agg [Ua 3, Ia 1, .str [97], Ea, Ea, Ia 0, Ua 0], .agg [Ia 31, Fa, Ea, .nilsl], .agg [Ua 3, Ia 1, .str [97], Ea, Ea, Ia 0, Ua 0, Ia 1, Ia 31, Fa, Ea, .nilsl], .sl 128 0 13 13, Ia 13, Ia 6, Ta, .ptr 128 60, .agg [Ua 3, Ia 1, .str [97], Ea, .str [49], Ia 0, Ua 0, Ia 8, Ia 0, Fa, Ea, .nilsl], .tup [Ia 8, .agg [Ia 0, Fa, Ea, .nilsl]], .ptr 22 0, .ptr 66 0, .ptr 424 0, .agg [Ua 3, Ia 1, .str [97], Ea, .str [49], Ia 0, Ua 0], .tup [Ia 8, .agg [Ia 0, Fa, Ea, .nilsl]], Ia 8, .agg [Ia 0, Fa, Ea, .nilsl], Ia 8, .ptr 424 7, Ia 8, Fa, Fa, .agg [Ia 0, Fa, Ea, .nilsl], .ptr 424 8, .agg [Ia 0, Fa, Ea, .nilsl], Ta, Fa, Fa, Fa, .ptr 22 0, .ptr 22 0, .ptr 22 9, .ptr 21 0, Ia 0, Fa, Fa, Ia 6, .tup [], .tup [], .tup [], .tup [], .tup [], .tup [], .tup [], .tup [], .tup [], .tup [], .tup [], .tup [], .tup [], .tup [], .tup [], .tup [], .tup [], .tup [], .tup [], .tup [], .tup [], .tup [], .tup [], .tup [], .tup [], .tup [], .tup [], .tup [], .tup [], .tup [], .tup [], .tup [], .tup [], .tup [], .tup [], .tup [], .tup [], .tup [], .tup [], .tup [], .tup [], .tup [], .tup [], .tup [], .tup [], .tup [], .tup [], .tup [], .tup [], .tup [], .tup [], .tup [], .tup [], .tup [], .tup [], .tup [], .tup [], .tup [], .tup [], .tup [], .tup [], .tup [], .tup [], .tup [], .tup [], .tup [], .tup [], .tup [], .tup [], .tup [], .tup [], .tup [], .tup [], .tup [], .tup [], .tup [], .tup [], .tup [], .tup [], .tup [], .tup [], .tup [], .tup [], .tup [], .tup [], .tup [], .tup [], .tup [], .tup [], .tup [], .tup [], .tup [], .tup [], .tup [], .tup [], .tup []],
  [(0, .cells [] 3 false false [] false),
   (1, .cells [Ua 0, Ua 0, Ua 1, Ua 1, Ua 2] 398 false false [] false),
   (22, .cells [Ia 3, Ia 4, Ia 3, Ia 3, Ia 90, Ia 4, Ia 3, Ia 3, .ptr 19 0, .ptr 21 0, .ptr 25 0, .ptr 30 0, .ptr 46 0, .ptr 63 0, .ptr 65 0] 56 false false [] false),
   (66, .cells [.slo 114 0 1 0] 33 false false [] false),
   (424, .cells [Ua 3, Ia 1, .str [97], Ea, .str [49], Ia 0, Ua 0, Ia 8, Ia 0, Fa, Ea, .nilsl] 45 false false [] false),
   (677, .cells [Ia 0, Fa, Ea, .nilsl] 38 false false [] false),
   (69, .cells [Ua 3, Ia 0, Ea, Ea, Ea, Ia 0, Ua 0, .ptr 66 0, Ia 0, Ia 0, Ia 0, Ia 0, .nilsl, Ia 0, Fa, Ea, .nilsl, Fa, .nilptr, .int .u64 (.ofNat 0), .nilptr, .int .u64 (.ofNat 0), Ua 0, .nilsl, .nilsl, Ia 0, Fa, Fa, Fa, Fa, Ia 0, Ua 0, .nilptr, .nilptr, .nilptr, .fn (.func 26) [.ptr 69 0] []] 99 false false [] false),
   (71, .cells [Ua 2, Ia 0, Ea, Ea, Ea, Ia 0, Ua 0, .ptr 66 0, Ia 0, Ia 0, Ia 0, Ia 0, .nilsl, Ia 0, Fa, Ea, .nilsl, Fa, .nilptr, .int .u64 (.ofNat 0), .nilptr, .int .u64 (.ofNat 0), Ua 0, .nilsl, .nilsl, Ia 0, Fa, Fa, Fa, Fa, Ia 0, Ua 0, .nilptr, .nilptr, .nilptr, .nilfn] 99 false false [] false),
   (73, .cells [Ua 0, Ia 0, Ea, Ea, Ea, Ia 0, Ua 0, .ptr 66 0, Ia 0, Ia 0, Ia 0, Ia 0, .nilsl, Ia 0, Fa, Ea, .nilsl, Fa, .nilptr, .int .u64 (.ofNat 0), .nilptr, .int .u64 (.ofNat 0), Ua 0, .nilsl, .nilsl, Ia 0, Fa, Fa, Fa, Fa, Ia 0, Ua 0, .nilptr, .nilptr, .nilptr, .nilfn] 99 false false [] false),
   (128, .cells [Ua 3, Ia 2, .str [107], Ea, Ea, Ia 0, Ua 0, Ia 1, Ia 30, Fa, Ea, .nilsl, Ua 3, Ia 1, .str [108, 111, 110, 103, 33], Ea, Ea, Ia 0, Ua 0, Ia 1, Ia 32, Fa, Ea, .nilsl, Ua 3, Ia 1, Ea, Ea, Ea, Ia 0, Ua 0, Ia 1, Ia 32, Fa, Ea, .nilsl, Ua 3, Ia 1, .str [107], Ea, .str [108, 111, 110, 103], Ia 0, Ua 0, Ia 1, Ia 32, Fa, Ea, .nilsl, Ua 4, Ia 1, .str [97], Ea, .str [108, 111, 110, 103], Ia 0, Ua 0, Ia 4, Ia 0, Fa, Ea, .nilsl, Ua 3, Ia 1, .str [97], Ea, .str [49], Ia 0, Ua 0, Ia 8, Ia 0, Fa, Ea, .nilsl, Ua 3, Ia 1, .str [98], Ea, .str [50], Ia 0, Ua 0, Ia 8, Ia 0, Fa, Ea, .nilsl, Ua 3, Ia 1, .str [99], Ea, .str [51], Ia 0, Ua 0, Ia 8, Ia 0, Fa, Ea, .nilsl, Ua 3, Ia 1, .str [100], Ea, .str [52], Ia 0, Ua 0, Ia 4, Ia 34, Fa, Ea, .nilsl, Ua 4, Ia 1, .str [98], Ea, Ea, Ia 0, Ua 0, Ia 8, Ia 0, Ta, Ea, .nilsl, Ua 4, Ia 1, .str [98], Ea, Ea, Ia 0, Ua 0, Ia 7, Ia 0, Fa, Ea, .nilsl, Ua 6, Ia 1, Ea, Ea, Ea, Ia 0, Ua 0, Ia 2, Ia 0, Fa, Ea, .nilsl, Ua 3, Ia 1, .str [97], Ea, Ea, Ia 0, Ua 0, Ia 1, Ia 31, Fa, Ea, .nilsl] 45 false false [] false),
   (21, .cells [.map 20] 108 false false [] false),
   (19, .cells [Ia 3, Ia 4, Ia 3, Ia 3, Ia 90, Ia 4, Ia 3, Ia 3, Ua 2, .ptr 14 0, .ptr 16 0, Ia 0, Ia 1, .map 17, .map 18] 120 false false [] false),
   (25, .cells [Ia 3, .map 23, Ia 1, Ia 1] 126 false false [] false),
   (30, .cells [Ia 9, .slo 544 0 1 0, .map 29, Ia 1, Ia 0] 133 false false [] false),
   (46, .cells [Ia 3, Ia 4, Ia 3, Ia 3, Ia 90, Ia 4, Ia 3, Ia 3, .ptr 45 0] 135 false false [] false),
   (63, .cells [Ia 3, Ia 4, Ia 3, Ia 3, Ia 90, Ia 4, Ia 3, Ia 3, .ptr 61 0, .map 62] 111 false false [] false),
   (65, .cells [.sl 64 0 3 3, .slo 675 0 21 0] 139 false false [] false),
   (114, .cells [Ia 1] 3 true false [] false),
   (20, .map [] 555),
   (14, .cells [.slo 105 0 1 0, Ia 0] 162 false false [] false),
   (16, .cells [.map 15, Ia 0] 165 false false [] false),
   (17, .map [(Ia 1, .agg [Ia 0, Ia 1, Ia 1, .sl 109 0 0 0])] 110),
   (18, .map [(Ia 1, .map 111)] 112),
   (23, .map [(Ia 1, .agg [Ta, .slo 594 0 1 0, .nilsl, .slo 596 0 1 0])] 24),
   (544, .cells [.ptr 542 0] 127 true false [] false),
   (29, .map [(.agg [.int .u16 (.ofNat 0), .int .u16 (.ofNat 0)], .int .u32 (.ofNat 1))] 547),
   (45, .cells [Ia 30, .nilsl, .map 44, Ia 0, Ia 0] 133 false false [] false),
   (61, .cells [Ia 35, .slo 646 0 1 0, .map 60, Ia 1, Ia 0] 133 false false [] false),
   (62, .map [] 62),
   (64, .cells [Ia 0, Ia 7, Ia 0, Ia 0, Ia 0, Ia 0] 239 false false [] false),
   (675, .cells [Ua 1, Ia 0, Ia 0, Ia 0, Fa, Ea, .nilsl, Ua 2, Ia 0, Ia 0, Ia 0, Fa, Ea, .nilsl, Ua 3, Ia 0, Ia 0, Ia 0, Fa, Ea, .nilsl, Ua 1, Ia 0, Ia 1, Ia 0, Fa, Ea, .nilsl, Ua 2, Ia 0, Ia 1, Ia 0, Fa, Ea, .nilsl, Ua 3, Ia 0, Ia 1, Ia 30, Fa, Ea, .nilsl, Ua 1, Ia 0, Ia 2, Ia 0, Fa, Ea, .nilsl, Ua 2, Ia 0, Ia 2, Ia 0, Fa, Ea, .nilsl, Ua 3, Ia 0, Ia 2, Ia 32, Fa, Ea, .nilsl, Ua 1, Ia 0, Ia 3, Ia 0, Fa, Ea, .nilsl, Ua 2, Ia 0, Ia 3, Ia 0, Fa, Ea, .nilsl, Ua 3, Ia 0, Ia 3, Ia 32, Fa, Ea, .nilsl, Ua 1, Ia 0, Ia 4, Ia 0, Fa, Ea, .nilsl, Ua 2, Ia 0, Ia 4, Ia 0, Fa, Ea, .nilsl, Ua 3, Ia 0, Ia 4, Ia 32, Fa, Ea, .nilsl, Ua 1, Ia 0, Ia 5, Ia 0, Fa, Ea, .nilsl, Ua 2, Ia 0, Ia 5, Ia 0, Fa, Ea, .nilsl, Ua 3, Ia 0, Ia 5, Ia 0, Fa, Ea, .nilsl, Ua 1, Ia 0, Ia 6, Ia 0, Fa, Ea, .nilsl, Ua 2, Ia 0, Ia 6, Ia 0, Fa, Ea, .nilsl, Ua 3, Ia 0, Ia 6, Ia 0, Fa, Ea, .nilsl] 196 true false [539, 434, 419, 401, 312, 297, 290, 255, 240, 233, 211, 196, 189, 167, 152, 145, 139, 126, 119, 83] false),
   (105, .cells [Ua 1, Ia 0] 289 true false [] false),
   (15, .map [] 15),
   (109, .cells [] 3 false false [] false),
   (111, .map [(.str [97], .agg [Fa, .nilsl])] 532),
   (594, .cells [.str [97]] 9 true false [] false),
   (596, .cells [.int .u64 (.ofNat 1)] 74 true false [] false),
   (542, .tree (.nd (.nd (.nd (.nd (.nd (.nd (.nd (.nd (.nd (.nd (.nd (.nd (lit4t0) (Ua 0) (.lf)) (Ua 0) (lit4t0)) (Ua 0) (lit4t1)) (Ua 0) (lit4t2)) (Ua 0) (lit4t3)) (Ua 0) (lit4t4)) (Ua 0) (lit4t5)) (Ua 0) (lit4t6)) (Ua 0) (lit4t7)) (Ua 0) (.nd (.nd (.nd (.nd (.nd (.nd (.nd (.nd (.nd (.nd (.lf) (.map 540) (.lf)) (Ua 0) (.lf)) (Ua 0) (lit4t0)) (Ua 0) (lit4t1)) (Ua 0) (lit4t2)) (Ua 0) (lit4t3)) (Ua 0) (lit4t4)) (Ua 0) (lit4t5)) (Ua 0) (lit4t6)) (Ua 0) (lit4t7))) (Ua 0) (.nd (.nd (.nd (.nd (.nd (.nd (.nd (.nd (.nd (.nd (.nd (.lf) (Ia 1) (.lf)) (Ua 0) (.lf)) (Ua 0) (lit4t0)) (Ua 0) (lit4t1)) (Ua 0) (lit4t2)) (Ua 0) (lit4t3)) (Ua 0) (lit4t4)) (Ua 0) (lit4t5)) (Ua 0) (lit4t6)) (Ua 0) (lit4t7)) (Ua 0) (lit4t8))) (Ua 2) (.nd (.nd (.nd (.nd (.nd (.nd (.nd (.nd (.nd (.nd (.nd (.nd (.lf) (Ia 9) (.lf)) (Ua 0) (.lf)) (Ua 0) (lit4t0)) (Ua 0) (lit4t1)) (Ua 0) (lit4t2)) (Ua 0) (lit4t3)) (Ua 0) (lit4t4)) (Ua 0) (lit4t5)) (Ua 0) (lit4t6)) (Ua 1) (lit4t7)) (Ua 0) (lit4t8)) (Ua 0) (.nd (.nd (.nd (.nd (.nd (.nd (.nd (.nd (.nd (.nd (.nd (.lf) (.int .u16 (.ofNat 65535)) (.lf)) (Ua 0) (.lf)) (Ua 0) (lit4t0)) (Ua 0) (lit4t1)) (Ua 0) (lit4t2)) (Ua 0) (lit4t3)) (Ua 0) (lit4t4)) (Ua 0) (lit4t5)) (Ua 0) (lit4t6)) (Ua 0) (lit4t7)) (Ua 0) (lit4t8)))) 4100 170 false false [] false),
   (44, .map [] 44),
   (646, .cells [.ptr 644 0] 127 true false [] false),
   (60, .map [(.agg [.int .u16 (.ofNat 0), .int .u16 (.ofNat 0)], .int .u32 (.ofNat 1))] 649),
   (540, .map [(.int .u16 (.ofNat 0), .agg [])] 545),
   (644, .tree (.nd (.nd (.nd (lit4t9) (Ua 0) (.nd (.nd (.nd (.nd (.nd (.nd (.nd (.nd (.nd (.nd (.lf) (.map 642) (.lf)) (Ua 0) (.lf)) (Ua 0) (lit4t0)) (Ua 0) (lit4t1)) (Ua 0) (lit4t2)) (Ua 0) (lit4t3)) (Ua 0) (lit4t4)) (Ua 0) (lit4t5)) (Ua 1) (lit4t6)) (Ua 0) (lit4t7))) (Ua 0) (lit4t10)) (Ua 1) (.nd (.nd (.nd (.nd (.nd (.nd (.nd (.nd (.nd (.nd (.nd (.nd (.lf) (Ia 35) (.lf)) (Ua 0) (.lf)) (Ua 0) (lit4t0)) (Ua 0) (lit4t1)) (Ua 0) (lit4t2)) (Ua 0) (lit4t3)) (Ua 0) (lit4t4)) (Ua 0) (lit4t5)) (Ua 0) (lit4t6)) (Ua 1) (lit4t7)) (Ua 0) (.nd (.nd (lit4t6) (Ua 49) (lit4t6)) (Ua 0) (lit4t7))) (Ua 0) (lit4t11))) 4100 170 false false [] false),
   (642, .map [(.int .u16 (.ofNat 0), .agg [])] 647),
   (539, .bare 140 196 true true [434, 419, 401, 312, 297, 290, 255, 240, 233, 211, 196, 189, 167, 152, 145, 139, 126, 119, 83] false),
   (434, .bare 133 196 true true [419, 401, 312, 297, 290, 255, 240, 233, 211, 196, 189, 167, 152, 145, 139, 126, 119, 83] false),
   (419, .bare 126 196 true true [401, 312, 297, 290, 255, 240, 233, 211, 196, 189, 167, 152, 145, 139, 126, 119, 83] false),
   (401, .bare 119 196 true true [312, 297, 290, 255, 240, 233, 211, 196, 189, 167, 152, 145, 139, 126, 119, 83] false),
   (312, .bare 112 196 true true [297, 290, 255, 240, 233, 211, 196, 189, 167, 152, 145, 139, 126, 119, 83] false),
   (297, .bare 105 196 true true [290, 255, 240, 233, 211, 196, 189, 167, 152, 145, 139, 126, 119, 83] false),
   (290, .bare 98 196 true true [255, 240, 233, 211, 196, 189, 167, 152, 145, 139, 126, 119, 83] false),
   (255, .bare 91 196 true true [240, 233, 211, 196, 189, 167, 152, 145, 139, 126, 119, 83] false),
   (240, .bare 84 196 true true [233, 211, 196, 189, 167, 152, 145, 139, 126, 119, 83] false),
   (233, .bare 77 196 true true [211, 196, 189, 167, 152, 145, 139, 126, 119, 83] false),
   (211, .bare 70 196 true true [196, 189, 167, 152, 145, 139, 126, 119, 83] false),
   (196, .bare 63 196 true true [189, 167, 152, 145, 139, 126, 119, 83] false),
   (189, .bare 56 196 true true [167, 152, 145, 139, 126, 119, 83] false),
   (167, .bare 49 196 true true [152, 145, 139, 126, 119, 83] false),
   (152, .bare 42 196 true true [145, 139, 126, 119, 83] false),
   (145, .bare 35 196 true true [139, 126, 119, 83] false),
   (139, .bare 28 196 true true [126, 119, 83] false),
   (126, .bare 21 196 true true [119, 83] false),
   (119, .bare 14 196 true true [83] false),
   (83, .bare 7 196 true true [] false)],
  680, 2⟩
noncomputable def lit5t0 : Tr AV := .nd (.lf) (Ua 0) (.lf)
noncomputable def lit5t1 : Tr AV := .nd (lit5t0) (Ua 0) (lit5t0)
noncomputable def lit5t2 : Tr AV := .nd (lit5t1) (Ua 0) (lit5t1)
noncomputable def lit5t3 : Tr AV := .nd (lit5t2) (Ua 0) (lit5t2)
noncomputable def lit5t4 : Tr AV := .nd (lit5t3) (Ua 0) (lit5t3)
noncomputable def lit5t5 : Tr AV := .nd (lit5t4) (Ua 0) (lit5t4)
noncomputable def lit5t6 : Tr AV := .nd (lit5t5) (Ua 0) (lit5t5)
noncomputable def lit5t7 : Tr AV := .nd (lit5t6) (Ua 0) (lit5t6)
noncomputable def lit5t8 : Tr AV := .nd (lit5t7) (Ua 0) (lit5t7)
noncomputable def lit5t9 : Tr AV := .nd (.nd (.nd (.nd (.nd (.nd (.nd (.nd (lit5t0) (Ua 0) (.lf)) (Ua 0) (lit5t0)) (Ua 0) (lit5t1)) (Ua 0) (lit5t2)) (Ua 0) (lit5t3)) (Ua 0) (lit5t4)) (Ua 0) (lit5t5)) (Ua 0) (lit5t6)
noncomputable def lit5t10 : Tr AV := .nd (lit5t5) (Ua 1) (lit5t5)
noncomputable def lit5t11 : Tr AV := .nd (.nd (.nd (.nd (.nd (.nd (.nd (.nd (.lf) (Ia 2) (.lf)) (Ua 0) (.lf)) (Ua 0) (lit5t0)) (Ua 0) (lit5t1)) (Ua 0) (lit5t2)) (Ua 0) (lit5t3)) (Ua 0) (lit5t4)) (Ua 0) (lit5t5)
noncomputable def lit5t12 : Tr AV := .nd (.nd (.nd (.nd (.nd (.nd (.nd (.nd (.nd (.nd (.lf) (.int .u16 (.ofNat 65535)) (.lf)) (Ua 0) (.lf)) (Ua 0) (lit5t0)) (Ua 0) (lit5t1)) (Ua 0) (lit5t2)) (Ua 0) (lit5t3)) (Ua 0) (lit5t4)) (Ua 0) (lit5t5)) (Ua 0) (lit5t6)) (Ua 0) (lit5t7)
noncomputable def lit5 : Go.Proofs.YtajdeaabgplacaaGreatDoor.Sev.Lit := ⟨[Fa, .nilptr, .ptr 22 0, Ia 0, .ptr 66 0, .tup [], .ptr 680 0, Ia 8, .ptr 939 0, .tup [], .tup [], .tup [], .tup [], .tup [], .tup [], .tup [], .tup [], .tup [], .tup [], .tup [], .tup [], .tup [], .tup [.ptr 22 0, Ia 0], .agg [Ia 3, Ia 4, Ia 3, Ia 3, Ia 90, Ia 4, Ia 3, Ia 3], .tup [.ptr 22 0, Ia 0], .ptr 22 0, Ia 0, .agg [.nilsl], .ptr 66 0, Ta, Fa, Fa, Ia 0, Fa, Fa, Fa, .nilptr, .ptr 22 0, Ta, Fa, Fa, Fa, .nilptr, .agg [Ia 0, Fa, Ea, .nilsl], Ia 0, Fa, Fa, Fa, .agg [Ua 3, Ia 0, Ea, Ea, Ea, Ia 0, Ua 0], .ptr 66 0, .ptr 69 0, Ta, Fa, Fa, Fa, .agg [Ua 2, Ia 0, Ea, Ea, Ea, Ia 0, Ua 0], .ptr 66 0, .ptr 71 0, .ptr 22 0, Ta, Fa, Fa, Fa, .agg [Ua 0, Ia 0, Ea, Ea, Ea, Ia 0, Ua 0], .ptr 66 0, .ptr 73 0, .ptr 22 0, Ta, Fa, Fa, .ptr 22 0, .ptr 66 0, .agg [Ua 1, Ia 0, Ea, Ea, Ea, Ia 0, Ua 0], .tup [Ia 2, .agg [Ia 0, Fa, Ea, .nilsl]], .agg [Ua 3, Ia 2, .str [107], Ea, Ea, Ia 0, Ua 0], .agg [Ia 30, Fa, Ea, .nilsl], .agg [Ua 3, Ia 2, .str [107], Ea, Ea, Ia 0, Ua 0, Ia 1, Ia 30, Fa, Ea, .nilsl], .agg [Ua 3, Ia 1, .str [108, 111, 110, 103, 33], Ea, Ea, Ia 0, Ua 0], .agg [Ia 32, Fa, Ea, .nilsl], .agg [Ua 3, Ia 1, .str [108, 111, 110, 103, 33], Ea, Ea, Ia 0, Ua 0, Ia 1, Ia 32, Fa, Ea, .nilsl], .agg [Ua 3, Ia 1, Ea, Ea, Ea, Ia 0, Ua 0], .agg [Ia 32, Fa, Ea, .nilsl], .agg [Ua 3, Ia 1, Ea, Ea, Ea, Ia 0, Ua 0, Ia 1, Ia 32, Fa, Ea, .nilsl], .agg [Ua 3, Ia 1, .str [107], Ea, .str [108, 111, 110, 103], Ia 0, Ua 0], .agg [Ia 32, Fa, Ea, .nilsl], .agg [Ua 3, Ia 1, .str [107], Ea, .str [108, 111, 110, 103], Ia 0, Ua 0, Ia 1, Ia 32, Fa, Ea, .nilsl], .agg [Ua 4, Ia 1, .str [97], Ea, .str [108, 111, 110, 103], Ia 0, Ua 0], .agg [Ia 0, Fa, Ea, .nilsl], .agg [Ua 4, Ia 1, .str [97], Ea, .str [108, 111, 110, 103], Ia 0, Ua 0, Ia 4, Ia 0, Fa, Ea, .nilsl], .agg [Ua 3, Ia 1, .str [97], Ea, .str [49], Ia 0, Ua 0], .agg [Ia 0, Fa, Ea, .nilsl], .agg [Ua 3, Ia 1, .str [97], Ea, .str [49], Ia 0, Ua 0, Ia 8, Ia 0, Fa, Ea, .nilsl], .agg [Ua 3, Ia 1, .str [98], Ea, .str [50], Ia 0, Ua 0], .agg [Ia 0, Fa, Ea, .nilsl], .agg [Ua 3, Ia 1, .str [98], Ea, .str [50], Ia 0, Ua 0, Ia 8, Ia 0, Fa, Ea, .nilsl], .agg [Ua 3, Ia 1, .str [99], Ea, .str [51], Ia 0, Ua 0], .agg [Ia 0, Fa, Ea, .nilsl], .agg [Ua 3, Ia 1, .str [99], Ea, .str [51], Ia 0, Ua 0, Ia 8, Ia 0, Fa, Ea, .nilsl], .agg [Ua 3, Ia 1, .str [100], Ea, .str [52], Ia 0, Ua 0], .agg [Ia 34, Fa, Ea, .nilsl], .agg [Ua 3, Ia 1, .str [100], Ea, .str [52], Ia 0, Ua 0, Ia 4, Ia 34, Fa, Ea, .nilsl], .agg [Ua 4, Ia 1, .str [98], Ea, Ea, Ia 0, Ua 0], .agg [Ia 0, Ta, Ea, .nilsl], .agg [Ua 4, Ia 1, .str [98], Ea, Ea, Ia 0, Ua 0, Ia 8, Ia 0, Ta, Ea, .nilsl], .agg [Ua 4, Ia 1, .str [98], Ea, Ea, Ia 0, Ua 0], .agg [Ia 0, Fa, Ea, .nilsl], .agg [Ua 4, Ia 1, .str [98], Ea, Ea, Ia 0, Ua 0, Ia 7, Ia 0, Fa, Ea, .nilsl], .agg [Ua 6, Ia 1, Ea, Ea, Ea, Ia 0, Ua 0], .agg [Ia 0, Fa, Ea, .nilsl], .agg [Ua 6, Ia 1, Ea, Ea, Ea, Ia 0, Ua 0, Ia 2, Ia 0, Fa, Ea, .nilsl], .agg [Ua 3, Ia 1, .str [97], Ea, Ea, Ia 0, Ua 0], .agg [Ia 31, Fa, Ea, .nilsl], .agg [Ua 3, Ia 1, .str [97], Ea, Ea, Ia 0, Ua 0, Ia 1, Ia 31, Fa, Ea, .nilsl], .sl 128 0 13 13, Ia 13, Ia 7, Ta, .ptr 128 72, .agg [Ua 3, Ia 1, .str [98], Ea, .str [50], Ia 0, Ua 0, Ia 8, Ia 0, Fa, Ea, .nilsl], .tup [Ia 8, .agg [Ia 0, Fa, Ea, .nilsl]], .ptr 22 0, .ptr 66 0, .ptr 680 0, .agg [Ua 3, Ia 1, .str [98], Ea, .str [50], Ia 0, Ua 0], .tup [Ia 8, .agg [Ia 0, Fa, Ea, .nilsl]], Ia 8, .agg [Ia 0, Fa, Ea, .nilsl], Ia 8, .ptr 680 7, Ia 8, Fa, Fa, .agg [Ia 0, Fa, Ea, .nilsl], .ptr 680 8, .agg [Ia 0, Fa, Ea, .nilsl], Ta, Fa, Fa, Fa, .ptr 22 0, .ptr 22 0, .ptr 22 9, .ptr 21 0, Ia 0, Fa, Fa, Ia 7, .tup [], .tup [], .tup [], .tup [], .tup [], .tup [], .tup [], .tup [], .tup [], .tup [], .tup [], .tup [], .tup [], .tup [], .tup [], .tup [], .tup [], .tup [], .tup [], .tup [], .tup [], .tup [], .tup [], .tup [], .tup [], .tup [], .tup [], .tup [], .tup [], .tup [], .tup [], .tup [], .tup [], .tup [], .tup [], .tup [], .tup [], .tup [], .tup [], .tup [], .tup [], .tup [], .tup [], .tup [], .tup [], .tup [], .tup [], .tup [], .tup [], .tup [], .tup [], .tup [], .tup [], .tup [], .tup [], .tup [], .tup [], .tup [], .tup [], .tup [], .tup [], .tup [], .tup [], .tup [], .tup [], .tup [], .tup [], .tup [], .tup [], .tup [], .tup [], .tup [], .tup [], .tup [], .tup [], .tup [], .tup [], .tup [], .tup [], .tup [], .tup [], .tup [], .tup [], .tup [], .tup [], .tup [], .tup [], .tup [], .tup [], .tup [], .tup [], .tup [], .tup [], .tup [], .tup [], .tup []],
  [(0, .cells [] 3 false false [] false),
   (1, .cells [Ua 0, Ua 0, Ua 1, Ua 1, Ua 2] 398 false false [] false),
   (22, .cells [Ia 3, Ia 4, Ia 3, Ia 3, Ia 90, Ia 4, Ia 3, Ia 3, .ptr 19 0, .ptr 21 0, .ptr 25 0, .ptr 30 0, .ptr 46 0, .ptr 63 0, .ptr 65 0] 56 false false [] false),
   (66, .cells [.slo 114 0 1 0] 33 false false [] false),
   (680, .cells [Ua 3, Ia 1, .str [98], Ea, .str [50], Ia 0, Ua 0, Ia 8, Ia 0, Fa, Ea, .nilsl] 45 false false [] false),
   (939, .cells [Ia 0, Fa, Ea, .nilsl] 38 false false [] false),
   (69, .cells [Ua 3, Ia 0, Ea, Ea, Ea, Ia 0, Ua 0, .ptr 66 0, Ia 0, Ia 0, Ia 0, Ia 0, .nilsl, Ia 0, Fa, Ea, .nilsl, Fa, .nilptr, .int .u64 (.ofNat 0), .nilptr, .int .u64 (.ofNat 0), Ua 0, .nilsl, .nilsl, Ia 0, Fa, Fa, Fa, Fa, Ia 0, Ua 0, .nilptr, .nilptr, .nilptr, .fn (.func 26) [.ptr 69 0] []] 99 false false [] false),
   (71, .cells [Ua 2, Ia 0, Ea, Ea, Ea, Ia 0, Ua 0, .ptr 66 0, Ia 0, Ia 0, Ia 0, Ia 0, .nilsl, Ia 0, Fa, Ea, .nilsl, Fa, .nilptr, .int .u64 (.ofNat 0), .nilptr, .int .u64 (.ofNat 0), Ua 0, .nilsl, .nilsl, Ia 0, Fa, Fa, Fa, Fa, Ia 0, Ua 0, .nilptr, .nilptr, .nilptr, .nilfn] 99 false false [] false),
   (73, .cells [Ua 0, Ia 0, Ea, Ea, Ea, Ia 0, Ua 0, .ptr 66 0, Ia 0, Ia 0, Ia 0, Ia 0, .nilsl, Ia 0, Fa, Ea, .nilsl, Fa, .nilptr, .int .u64 (.ofNat 0), .nilptr, .int .u64 (.ofNat 0), Ua 0, .nilsl, .nilsl, Ia 0, Fa, Fa, Fa, Fa, Ia 0, Ua 0, .nilptr, .nilptr, .nilptr, .nilfn] 99 false false [] false),
   (128, .cells [Ua 3, Ia 2, .str [107], Ea, Ea, Ia 0, Ua 0, Ia 1, Ia 30, Fa, Ea, .nilsl, Ua 3, Ia 1, .str [108, 111, 110, 103, 33], Ea, Ea, Ia 0, Ua 0, Ia 1, Ia 32, Fa, Ea, .nilsl, Ua 3, Ia 1, Ea, Ea, Ea, Ia 0, Ua 0, Ia 1, Ia 32, Fa, Ea, .nilsl, Ua 3, Ia 1, .str [107], Ea, .str [108, 111, 110, 103], Ia 0, Ua 0, Ia 1, Ia 32, Fa, Ea, .nilsl, Ua 4, Ia 1, .str [97], Ea, .str [108, 111, 110, 103], Ia 0, Ua 0, Ia 4, Ia 0, Fa, Ea, .nilsl, Ua 3, Ia 1, .str [97], Ea, .str [49], Ia 0, Ua 0, Ia 8, Ia 0, Fa, Ea, .nilsl, Ua 3, Ia 1, .str [98], Ea, .str [50], Ia 0, Ua 0, Ia 8, Ia 0, Fa, Ea, .nilsl, Ua 3, Ia 1, .str [99], Ea, .str [51], Ia 0, Ua 0, Ia 8, Ia 0, Fa, Ea, .nilsl, Ua 3, Ia 1, .str [100], Ea, .str [52], Ia 0, Ua 0, Ia 4, Ia 34, Fa, Ea, .nilsl, Ua 4, Ia 1, .str [98], Ea, Ea, Ia 0, Ua 0, Ia 8, Ia 0, Ta, Ea, .nilsl, Ua 4, Ia 1, .str [98], Ea, Ea, Ia 0, Ua 0, Ia 7, Ia 0, Fa, Ea, .nilsl, Ua 6, Ia 1, Ea, Ea, Ea, Ia 0, Ua 0, Ia 2, Ia 0, Fa, Ea, .nilsl, Ua 3, Ia 1, .str [97], Ea, Ea, Ia 0, Ua 0, Ia 1, Ia 31, Fa, Ea, .nilsl] 45 false false [] false),
   (21, .cells [.map 20] 108 false false [] false),
   (19, .cells [Ia 3, Ia 4, Ia 3, Ia 3, Ia 90, Ia 4, Ia 3, Ia 3, Ua 2, .ptr 14 0, .ptr 16 0, Ia 0, Ia 2, .map 17, .map 18] 120 false false [] false),
   (25, .cells [Ia 3, .map 23, Ia 1, Ia 1] 126 false false [] false),
   (30, .cells [Ia 9, .slo 544 0 1 0, .map 29, Ia 2, Ia 0] 133 false false [] false),
   (46, .cells [Ia 3, Ia 4, Ia 3, Ia 3, Ia 90, Ia 4, Ia 3, Ia 3, .ptr 45 0] 135 false false [] false),
   (63, .cells [Ia 3, Ia 4, Ia 3, Ia 3, Ia 90, Ia 4, Ia 3, Ia 3, .ptr 61 0, .map 62] 111 false false [] false),
   (65, .cells [.sl 64 0 3 3, .slo 937 0 24 0] 139 false false [] false),
   (114, .cells [Ia 1] 3 true false [] false),
   (20, .map [] 814),
   (14, .cells [.slo 105 0 1 0, Ia 0] 162 false false [] false),
   (16, .cells [.map 15, Ia 0] 165 false false [] false),
   (17, .map [(Ia 1, .agg [Ia 0, Ia 1, Ia 1, .sl 109 0 0 0])] 110),
   (18, .map [(Ia 1, .map 111)] 112),
   (23, .map [(Ia 1, .agg [Ta, .slo 861 0 2 0, .nilsl, .slo 863 0 2 0])] 24),
   (544, .cells [.ptr 542 0] 127 true false [] false),
   (29, .map [(.agg [.int .u16 (.ofNat 0), .int .u16 (.ofNat 0)], .int .u32 (.ofNat 1)), (.agg [.int .u16 (.ofNat 0), .int .u16 (.ofNat 9)], .int .u32 (.ofNat 1))] 806),
   (45, .cells [Ia 30, .nilsl, .map 44, Ia 0, Ia 0] 133 false false [] false),
   (61, .cells [Ia 35, .slo 646 0 1 0, .map 60, Ia 2, Ia 0] 133 false false [] false),
   (62, .map [] 62),
   (64, .cells [Ia 0, Ia 8, Ia 0, Ia 0, Ia 0, Ia 0] 239 false false [] false),
   (937, .cells [Ua 1, Ia 0, Ia 0, Ia 0, Fa, Ea, .nilsl, Ua 2, Ia 0, Ia 0, Ia 0, Fa, Ea, .nilsl, Ua 3, Ia 0, Ia 0, Ia 0, Fa, Ea, .nilsl, Ua 1, Ia 0, Ia 1, Ia 0, Fa, Ea, .nilsl, Ua 2, Ia 0, Ia 1, Ia 0, Fa, Ea, .nilsl, Ua 3, Ia 0, Ia 1, Ia 30, Fa, Ea, .nilsl, Ua 1, Ia 0, Ia 2, Ia 0, Fa, Ea, .nilsl, Ua 2, Ia 0, Ia 2, Ia 0, Fa, Ea, .nilsl, Ua 3, Ia 0, Ia 2, Ia 32, Fa, Ea, .nilsl, Ua 1, Ia 0, Ia 3, Ia 0, Fa, Ea, .nilsl, Ua 2, Ia 0, Ia 3, Ia 0, Fa, Ea, .nilsl, Ua 3, Ia 0, Ia 3, Ia 32, Fa, Ea, .nilsl, Ua 1, Ia 0, Ia 4, Ia 0, Fa, Ea, .nilsl, Ua 2, Ia 0, Ia 4, Ia 0, Fa, Ea, .nilsl, Ua 3, Ia 0, Ia 4, Ia 32, Fa, Ea, .nilsl, Ua 1, Ia 0, Ia 5, Ia 0, Fa, Ea, .nilsl, Ua 2, Ia 0, Ia 5, Ia 0, Fa, Ea, .nilsl, Ua 3, Ia 0, Ia 5, Ia 0, Fa, Ea, .nilsl, Ua 1, Ia 0, Ia 6, Ia 0, Fa, Ea, .nilsl, Ua 2, Ia 0, Ia 6, Ia 0, Fa, Ea, .nilsl, Ua 3, Ia 0, Ia 6, Ia 0, Fa, Ea, .nilsl, Ua 1, Ia 0, Ia 7, Ia 0, Fa, Ea, .nilsl, Ua 2, Ia 0, Ia 7, Ia 0, Fa, Ea, .nilsl, Ua 3, Ia 0, Ia 7, Ia 0, Fa, Ea, .nilsl] 196 true false [803, 690, 675, 539, 434, 419, 401, 312, 297, 290, 255, 240, 233, 211, 196, 189, 167, 152, 145, 139, 126, 119, 83] false),
   (105, .cells [Ua 1, Ia 0] 289 true false [] false),
   (15, .map [] 15),
   (109, .cells [] 3 false false [] false),
   (111, .map [(.str [97], .agg [Fa, .nilsl]), (.str [98], .agg [Fa, .nilsl])] 796),
   (861, .cells [.str [97], .str [98]] 9 true false [] false),
   (863, .cells [.int .u64 (.ofNat 1), .int .u64 (.ofNat 38654705665)] 74 true false [] false),
   (542, .tree (.nd (.nd (.nd (.nd (.nd (.nd (.nd (.nd (.nd (.nd (.nd (.nd (lit5t0) (Ua 0) (.lf)) (Ua 0) (lit5t0)) (Ua 0) (lit5t1)) (Ua 0) (lit5t2)) (Ua 0) (lit5t3)) (Ua 0) (lit5t4)) (Ua 0) (lit5t5)) (Ua 0) (lit5t6)) (Ua 0) (lit5t7)) (Ua 0) (.nd (.nd (.nd (.nd (.nd (.nd (.nd (.nd (.nd (.nd (.lf) (.map 540) (.lf)) (Ua 0) (.lf)) (Ua 0) (lit5t0)) (Ua 0) (lit5t1)) (Ua 0) (lit5t2)) (Ua 0) (lit5t3)) (Ua 0) (lit5t4)) (Ua 0) (lit5t5)) (Ua 0) (lit5t6)) (Ua 0) (lit5t7))) (Ua 0) (.nd (.nd (.nd (.nd (.nd (.nd (.nd (.nd (.nd (.nd (.nd (.lf) (Ia 2) (.lf)) (Ua 0) (.lf)) (Ua 0) (lit5t0)) (Ua 0) (lit5t1)) (Ua 0) (lit5t2)) (Ua 0) (lit5t3)) (Ua 0) (lit5t4)) (Ua 0) (lit5t5)) (Ua 1) (lit5t6)) (Ua 2) (lit5t7)) (Ua 0) (.nd (lit5t7) (Ua 35) (lit5t7)))) (Ua 2) (.nd (.nd (.nd (.nd (.nd (.nd (.nd (.nd (.nd (.nd (.nd (.nd (.lf) (Ia 9) (.lf)) (Ua 0) (.lf)) (Ua 0) (lit5t0)) (Ua 0) (lit5t1)) (Ua 0) (lit5t2)) (Ua 0) (lit5t3)) (Ua 0) (lit5t4)) (Ua 0) (lit5t5)) (Ua 0) (lit5t6)) (Ua 1) (lit5t7)) (Ua 0) (lit5t8)) (Ua 0) (.nd (.nd (.nd (.nd (.nd (.nd (.nd (.nd (.nd (.nd (.nd (.lf) (.int .u16 (.ofNat 65535)) (.lf)) (Ua 0) (.lf)) (Ua 0) (lit5t0)) (Ua 0) (lit5t1)) (Ua 0) (lit5t2)) (Ua 0) (lit5t3)) (Ua 0) (lit5t4)) (Ua 0) (lit5t5)) (Ua 0) (lit5t6)) (Ua 0) (lit5t7)) (Ua 0) (lit5t8)))) 4100 170 false false [] false),
   (44, .map [] 44),
   (646, .cells [.ptr 644 0] 127 true false [] false),
   (60, .map [(.agg [.int .u16 (.ofNat 0), .int .u16 (.ofNat 0)], .int .u32 (.ofNat 1)), (.agg [.int .u16 (.ofNat 0), .int .u16 (.ofNat 35)], .int .u32 (.ofNat 1))] 911),
   (540, .map [(.int .u16 (.ofNat 0), .agg []), (.int .u16 (.ofNat 9), .agg [])] 804),
   (644, .tree (.nd (.nd (.nd (.nd (lit5t9) (Ua 0) (.nd (lit5t6) (Ua 0) (.nd (lit5t5) (Ua 50) (lit5t5)))) (Ua 0) (.nd (.nd (.nd (.nd (.nd (.nd (.nd (.nd (.nd (.nd (.lf) (.map 642) (.lf)) (Ua 0) (.lf)) (Ua 0) (lit5t0)) (Ua 0) (lit5t1)) (Ua 0) (lit5t2)) (Ua 0) (lit5t3)) (Ua 0) (lit5t4)) (Ua 1) (lit5t5)) (Ua 1) (lit5t6)) (Ua 0) (.nd (lit5t10) (Ua 0) (lit5t6)))) (Ua 0) (.nd (.nd (.nd (lit5t11) (Ua 0) (lit5t6)) (Ua 0) (lit5t7)) (Ua 0) (lit5t8))) (Ua 1) (.nd (.nd (.nd (.nd (.nd (.nd (.nd (.nd (.nd (.nd (.nd (.nd (.lf) (Ia 35) (.lf)) (Ua 0) (.lf)) (Ua 0) (lit5t0)) (Ua 0) (lit5t1)) (Ua 0) (lit5t2)) (Ua 0) (lit5t3)) (Ua 0) (lit5t4)) (Ua 0) (lit5t5)) (Ua 0) (lit5t6)) (Ua 1) (lit5t7)) (Ua 0) (.nd (.nd (lit5t6) (Ua 49) (lit5t6)) (Ua 0) (lit5t7))) (Ua 0) (.nd (lit5t12) (Ua 0) (.nd (.nd (lit5t6) (Ua 0) (lit5t10)) (Ua 0) (lit5t7))))) 4100 170 false false [] false),
   (642, .map [(.int .u16 (.ofNat 0), .agg []), (.int .u16 (.ofNat 35), .agg [])] 909),
   (803, .bare 161 196 true true [690, 675, 539, 434, 419, 401, 312, 297, 290, 255, 240, 233, 211, 196, 189, 167, 152, 145, 139, 126, 119, 83] false),
   (690, .bare 154 196 true true [675, 539, 434, 419, 401, 312, 297, 290, 255, 240, 233, 211, 196, 189, 167, 152, 145, 139, 126, 119, 83] false),
   (675, .bare 147 196 true true [539, 434, 419, 401, 312, 297, 290, 255, 240, 233, 211, 196, 189, 167, 152, 145, 139, 126, 119, 83] false),
   (539, .bare 140 196 true true [434, 419, 401, 312, 297, 290, 255, 240, 233, 211, 196, 189, 167, 152, 145, 139, 126, 119, 83] false),
   (434, .bare 133 196 true true [419, 401, 312, 297, 290, 255, 240, 233, 211, 196, 189, 167, 152, 145, 139, 126, 119, 83] false),
   (419, .bare 126 196 true true [401, 312, 297, 290, 255, 240, 233, 211, 196, 189, 167, 152, 145, 139, 126, 119, 83] false),
   (401, .bare 119 196 true true [312, 297, 290, 255, 240, 233, 211, 196, 189, 167, 152, 145, 139, 126, 119, 83] false),
   (312, .bare 112 196 true true [297, 290, 255, 240, 233, 211, 196, 189, 167, 152, 145, 139, 126, 119, 83] false),
   (297, .bare 105 196 true true [290, 255, 240, 233, 211, 196, 189, 167, 152, 145, 139, 126, 119, 83] false),
   (290, .bare 98 196 true true [255, 240, 233, 211, 196, 189, 167, 152, 145, 139, 126, 119, 83] false),
   (255, .bare 91 196 true true [240, 233, 211, 196, 189, 167, 152, 145, 139, 126, 119, 83] false),
   (240, .bare 84 196 true true [233, 211, 196, 189, 167, 152, 145, 139, 126, 119, 83] false),
   (233, .bare 77 196 true true [211, 196, 189, 167, 152, 145, 139, 126, 119, 83] false),
   (211, .bare 70 196 true true [196, 189, 167, 152, 145, 139, 126, 119, 83] false),
   (196, .bare 63 196 true true [189, 167, 152, 145, 139, 126, 119, 83] false),
   (189, .bare 56 196 true true [167, 152, 145, 139, 126, 119, 83] false),
   (167, .bare 49 196 true true [152, 145, 139, 126, 119, 83] false),
   (152, .bare 42 196 true true [145, 139, 126, 119, 83] false),
   (145, .bare 35 196 true true [139, 126, 119, 83] false),
   (139, .bare 28 196 true true [126, 119, 83] false),
   (126, .bare 21 196 true true [119, 83] false),
   (119, .bare 14 196 true true [83] false),
   (83, .bare 7 196 true true [] false)],
  942, 2⟩
noncomputable def lit6t0 : Tr AV := .nd (.lf) (Ua 0) (.lf)
noncomputable def lit6t1 : Tr AV := .nd (lit6t0) (Ua 0) (lit6t0)
noncomputable def lit6t2 : Tr AV := .nd (lit6t1) (Ua 0) (lit6t1)
noncomputable def lit6t3 : Tr AV := .nd (lit6t2) (Ua 0) (lit6t2)
noncomputable def lit6t4 : Tr AV := .nd (lit6t3) (Ua 0) (lit6t3)
noncomputable def lit6t5 : Tr AV := .nd (lit6t4) (Ua 0) (lit6t4)
noncomputable def lit6t6 : Tr AV := .nd (lit6t5) (Ua 0) (lit6t5)
noncomputable def lit6t7 : Tr AV := .nd (lit6t6) (Ua 0) (lit6t6)
noncomputable def lit6t8 : Tr AV := .nd (.nd (.nd (.nd (.nd (.nd (.nd (.nd (lit6t0) (Ua 0) (.lf)) (Ua 0) (lit6t0)) (Ua 0) (lit6t1)) (Ua 0) (lit6t2)) (Ua 0) (lit6t3)) (Ua 0) (lit6t4)) (Ua 0) (lit6t5)) (Ua 0) (lit6t6)
noncomputable def lit6t9 : Tr AV := .nd (lit6t5) (Ua 1) (lit6t5)
noncomputable def lit6t10 : Tr AV := .nd (.nd (.nd (.nd (.nd (.nd (.nd (.nd (.lf) (Ia 3) (.lf)) (Ua 0) (.lf)) (Ua 0) (lit6t0)) (Ua 0) (lit6t1)) (Ua 0) (lit6t2)) (Ua 0) (lit6t3)) (Ua 0) (lit6t4)) (Ua 0) (lit6t5)
noncomputable def lit6t11 : Tr AV := .nd (.nd (lit6t4) (Ua 1) (lit6t4)) (Ua 0) (lit6t5)
noncomputable def lit6t12 : Tr AV := .nd (lit6t7) (Ua 0) (lit6t7)
noncomputable def lit6t13 : Tr AV := .nd (.nd (.nd (.nd (.nd (.nd (.nd (.nd (.lf) (.int .u16 (.ofNat 65535)) (.lf)) (Ua 0) (.lf)) (Ua 0) (lit6t0)) (Ua 0) (lit6t1)) (Ua 0) (lit6t2)) (Ua 0) (lit6t3)) (Ua 0) (lit6t4)) (Ua 0) (lit6t5)
noncomputable def lit6 : Go.Proofs.YtajdeaabgplacaaGreatDoor.Sev.Lit := ⟨[Fa, .nilptr, .ptr 22 0, Ia 0, .ptr 66 0, .tup [], .ptr 942 0, Ia 8, .ptr 1201 0, .tup [], .tup [], .tup [], .tup [], .tup [], .tup [], .tup [], .tup [], .tup [], .tup [], .tup [], .tup [], .tup [], .tup [.ptr 22 0, Ia 0], .agg [Ia 3, Ia 4, Ia 3, Ia 3, Ia 90, Ia 4, Ia 3, Ia 3], .tup [.ptr 22 0, Ia 0], .ptr 22 0, Ia 0, .agg [.nilsl], .ptr 66 0, Ta, Fa, Fa, Ia 0, Fa, Fa, Fa, .nilptr, .ptr 22 0, Ta, Fa, Fa, Fa, .nilptr, .agg [Ia 0, Fa, Ea, .nilsl], Ia 0, Fa, Fa, Fa, .agg [Ua 3, Ia 0, Ea, Ea, Ea, Ia 0, Ua 0], .ptr 66 0, .ptr 69 0, Ta, Fa, Fa, Fa, .agg [Ua 2, Ia 0, Ea, Ea, Ea, Ia 0, Ua 0], .ptr 66 0, .ptr 71 0, .ptr 22 0, Ta, Fa, Fa, Fa, .agg [Ua 0, Ia 0, Ea, Ea, Ea, Ia 0, Ua 0], .ptr 66 0, .ptr 73 0, .ptr 22 0, Ta, Fa, Fa, .ptr 22 0, .ptr 66 0, .agg [Ua 1, Ia 0, Ea, Ea, Ea, Ia 0, Ua 0], .tup [Ia 2, .agg [Ia 0, Fa, Ea, .nilsl]], .agg [Ua 3, Ia 2, .str [107], Ea, Ea, Ia 0, Ua 0], .agg [Ia 30, Fa, Ea, .nilsl], .agg [Ua 3, Ia 2, .str [107], Ea, Ea, Ia 0, Ua 0, Ia 1, Ia 30, Fa, Ea, .nilsl], .agg [Ua 3, Ia 1, .str [108, 111, 110, 103, 33], Ea, Ea, Ia 0, Ua 0], .agg [Ia 32, Fa, Ea, .nilsl], .agg [Ua 3, Ia 1, .str [108, 111, 110, 103, 33], Ea, Ea, Ia 0, Ua 0, Ia 1, Ia 32, Fa, Ea, .nilsl], .agg [Ua 3, Ia 1, Ea, Ea, Ea, Ia 0, Ua 0], .agg [Ia 32, Fa, Ea, .nilsl], .agg [Ua 3, Ia 1, Ea, Ea, Ea, Ia 0, Ua 0, Ia 1, Ia 32, Fa, Ea, .nilsl], .agg [Ua 3, Ia 1, .str [107], Ea, .str [108, 111, 110, 103], Ia 0, Ua 0], .agg [Ia 32, Fa, Ea, .nilsl], .agg [Ua 3, Ia 1, .str [107], Ea, .str [108, 111, 110, 103], Ia 0, Ua 0, Ia 1, Ia 32, Fa, Ea, .nilsl], .agg [Ua 4, Ia 1, .str [97], Ea, .str [108, 111, 110, 103], Ia 0, Ua 0], .agg [Ia 0, Fa, Ea, .nilsl], .agg [Ua 4, Ia 1, .str [97], Ea, .str [108, 111, 110, 103], Ia 0, Ua 0, Ia 4, Ia 0, Fa, Ea, .nilsl], .agg [Ua 3, Ia 1, .str [97], Ea, .str [49], Ia 0, Ua 0], .agg [Ia 0, Fa, Ea, .nilsl], .agg [Ua 3, Ia 1, .str [97], Ea, .str [49], Ia 0, Ua 0, Ia 8, Ia 0, Fa, Ea, .nilsl], .agg [Ua 3, Ia 1, .str [98], Ea, .str [50], Ia 0, Ua 0], .agg [Ia 0, Fa, Ea, .nilsl], .agg [Ua 3, Ia 1, .str [98], Ea, .str [50], Ia 0, Ua 0, Ia 8, Ia 0, Fa, Ea, .nilsl], .agg [Ua 3, Ia 1, .str [99], Ea, .str [51], Ia 0, Ua 0], .agg [Ia 0, Fa, Ea, .nilsl], .agg [Ua 3, Ia 1, .str [99], Ea, .str [51], Ia 0, Ua 0, Ia 8, Ia 0, Fa, Ea, .nilsl], .agg [Ua 3, Ia 1, .str [100], Ea, .str [52], Ia 0, Ua 0], .agg [Ia 34, Fa, Ea, .nilsl], .agg [Ua 3, Ia 1, .str [100], Ea, .str [52], Ia 0, Ua 0, Ia 4, Ia 34, Fa, Ea, .nilsl], .agg [Ua 4, Ia 1, .str [98], Ea, Ea, Ia 0, Ua 0], .agg [Ia 0, Ta, Ea, .nilsl], .agg [Ua 4, Ia 1, .str [98], Ea, Ea, Ia 0, Ua 0, Ia 8, Ia 0, Ta, Ea, .nilsl], .agg [Ua 4, Ia 1, .str [98], Ea, Ea, Ia 0, Ua 0], .agg [Ia 0, Fa, Ea, .nilsl], .agg [Ua 4, Ia 1, .str [98], Ea, Ea, Ia 0, Ua 0, Ia 7, Ia 0, Fa, Ea, .nilsl], .agg [Ua 6, Ia 1, Ea, Ea, Ea, Ia 0, Ua 0], .agg [Ia 0, Fa, Ea, .nilsl], .agg [Ua 6, Ia 1, Ea, Ea, Ea, Ia 0, Ua 0, Ia 2, Ia 0, Fa, Ea, .nilsl], .agg [Ua 3, Ia 1, .str [97], Ea, Ea, Ia 0, Ua 0], .agg [Ia 31, Fa, Ea, .nilsl], .agg [Ua 3, Ia 1, .str [97], Ea, Ea, Ia 0, Ua 0, Ia 1, Ia 31, Fa, Ea, .nilsl], .sl 128 0 13 13, Ia 13, Ia 8, Ta, .ptr 128 84, .agg [Ua 3, Ia 1, .str [99], Ea, .str [51], Ia 0, Ua 0, Ia 8, Ia 0, Fa, Ea, .nilsl], .tup [Ia 8, .agg [Ia 0, Fa, Ea, .nilsl]], .ptr 22 0, .ptr 66 0, .ptr 942 0, .agg [Ua 3, Ia 1, .str [99], Ea, .str [51], Ia 0, Ua 0], .tup [Ia 8, .agg [Ia 0, Fa, Ea, .nilsl]], Ia 8, .agg [Ia 0, Fa, Ea, .nilsl], Ia 8, .ptr 942 7, Ia 8, Fa, Fa, .agg [Ia 0, Fa, Ea, .nilsl], .ptr 942 8, .agg [Ia 0, Fa, Ea, .nilsl], Ta, Fa, Fa, Fa, .ptr 22 0, .ptr 22 0, .ptr 22 9, .ptr 21 0, Ia 0, Fa, Fa, Ia 8, .tup [], .tup [], .tup [], .tup [], .tup [], .tup [], .tup [], .tup [], .tup [], .tup [], .tup [], .tup [], .tup [], .tup [], .tup [], .tup [], .tup [], .tup [], .tup [], .tup [], .tup [], .tup [], .tup [], .tup [], .tup [], .tup [], .tup [], .tup [], .tup [], .tup [], .tup [], .tup [], .tup [], .tup [], .tup [], .tup [], .tup [], .tup [], .tup [], .tup [], .tup [], .tup [], .tup [], .tup [], .tup [], .tup [], .tup [], .tup [], .tup [], .tup [], .tup [], .tup [], .tup [], .tup [], .tup [], .tup [], .tup [], .tup [], .tup [], .tup [], .tup [], .tup [], .tup [], .tup [], .tup [], .tup [], .tup [], .tup [], .tup [], .tup [], .tup [], .tup [], .tup [], .tup [], .tup [], .tup [], .tup [], .tup [], .tup [], .tup [], .tup [], .tup [], .tup [], .tup [], .tup [], .tup [], .tup [], .tup [], .tup [], .tup [], .tup [], .tup [], .tup [], .tup [], .tup [], .tup []],
  [(0, .cells [] 3 false false [] false),
   (1, .cells [Ua 0, Ua 0, Ua 1, Ua 1, Ua 2] 398 false false [] false),
   (22, .cells [Ia 3, Ia 4, Ia 3, Ia 3, Ia 90, Ia 4, Ia 3, Ia 3, .ptr 19 0, .ptr 21 0, .ptr 25 0, .ptr 30 0, .ptr 46 0, .ptr 63 0, .ptr 65 0] 56 false false [] false),
   (66, .cells [.slo 114 0 1 0] 33 false false [] false),
   (942, .cells [Ua 3, Ia 1, .str [99], Ea, .str [51], Ia 0, Ua 0, Ia 8, Ia 0, Fa, Ea, .nilsl] 45 false false [] false),
   (1201, .cells [Ia 0, Fa, Ea, .nilsl] 38 false false [] false),
   (69, .cells [Ua 3, Ia 0, Ea, Ea, Ea, Ia 0, Ua 0, .ptr 66 0, Ia 0, Ia 0, Ia 0, Ia 0, .nilsl, Ia 0, Fa, Ea, .nilsl, Fa, .nilptr, .int .u64 (.ofNat 0), .nilptr, .int .u64 (.ofNat 0), Ua 0, .nilsl, .nilsl, Ia 0, Fa, Fa, Fa, Fa, Ia 0, Ua 0, .nilptr, .nilptr, .nilptr, .fn (.func 26) [.ptr 69 0] []] 99 false false [] false),
   (71, .cells [Ua 2, Ia 0, Ea, Ea, Ea, Ia 0, Ua 0, .ptr 66 0, Ia 0, Ia 0, Ia 0, Ia 0, .nilsl, Ia 0, Fa, Ea, .nilsl, Fa, .nilptr, .int .u64 (.ofNat 0), .nilptr, .int .u64 (.ofNat 0), Ua 0, .nilsl, .nilsl, Ia 0, Fa, Fa, Fa, Fa, Ia 0, Ua 0, .nilptr, .nilptr, .nilptr, .nilfn] 99 false false [] false),
   (73, .cells [Ua 0, Ia 0, Ea, Ea, Ea, Ia 0, Ua 0, .ptr 66 0, Ia 0, Ia 0, Ia 0, Ia 0, .nilsl, Ia 0, Fa, Ea, .nilsl, Fa, .nilptr, .int .u64 (.ofNat 0), .nilptr, .int .u64 (.ofNat 0), Ua 0, .nilsl, .nilsl, Ia 0, Fa, Fa, Fa, Fa, Ia 0, Ua 0, .nilptr, .nilptr, .nilptr, .nilfn] 99 false false [] false),
   (128, .cells [Ua 3, Ia 2, .str [107], Ea, Ea, Ia 0, Ua 0, Ia 1, Ia 30, Fa, Ea, .nilsl, Ua 3, Ia 1, .str [108, 111, 110, 103, 33], Ea, Ea, Ia 0, Ua 0, Ia 1, Ia 32, Fa, Ea, .nilsl, Ua 3, Ia 1, Ea, Ea, Ea, Ia 0, Ua 0, Ia 1, Ia 32, Fa, Ea, .nilsl, Ua 3, Ia 1, .str [107], Ea, .str [108, 111, 110, 103], Ia 0, Ua 0, Ia 1, Ia 32, Fa, Ea, .nilsl, Ua 4, Ia 1, .str [97], Ea, .str [108, 111, 110, 103], Ia 0, Ua 0, Ia 4, Ia 0, Fa, Ea, .nilsl, Ua 3, Ia 1, .str [97], Ea, .str [49], Ia 0, Ua 0, Ia 8, Ia 0, Fa, Ea, .nilsl, Ua 3, Ia 1, .str [98], Ea, .str [50], Ia 0, Ua 0, Ia 8, Ia 0, Fa, Ea, .nilsl, Ua 3, Ia 1, .str [99], Ea, .str [51], Ia 0, Ua 0, Ia 8, Ia 0, Fa, Ea, .nilsl, Ua 3, Ia 1, .str [100], Ea, .str [52], Ia 0, Ua 0, Ia 4, Ia 34, Fa, Ea, .nilsl, Ua 4, Ia 1, .str [98], Ea, Ea, Ia 0, Ua 0, Ia 8, Ia 0, Ta, Ea, .nilsl, Ua 4, Ia 1, .str [98], Ea, Ea, Ia 0, Ua 0, Ia 7, Ia 0, Fa, Ea, .nilsl, Ua 6, Ia 1, Ea, Ea, Ea, Ia 0, Ua 0, Ia 2, Ia 0, Fa, Ea, .nilsl, Ua 3, Ia 1, .str [97], Ea, Ea, Ia 0, Ua 0, Ia 1, Ia 31, Fa, Ea, .nilsl] 45 false false [] false),
   (21, .cells [.map 20] 108 false false [] false),
   (19, .cells [Ia 3, Ia 4, Ia 3, Ia 3, Ia 90, Ia 4, Ia 3, Ia 3, Ua 2, .ptr 14 0, .ptr 16 0, Ia 0, Ia 3, .map 17, .map 18] 120 false false [] false),
   (25, .cells [Ia 3, .map 23, Ia 1, Ia 1] 126 false false [] false),
   (30, .cells [Ia 9, .slo 544 0 1 0, .map 29, Ia 3, Ia 0] 133 false false [] false),
   (46, .cells [Ia 3, Ia 4, Ia 3, Ia 3, Ia 90, Ia 4, Ia 3, Ia 3, .ptr 45 0] 135 false false [] false),
   (63, .cells [Ia 3, Ia 4, Ia 3, Ia 3, Ia 90, Ia 4, Ia 3, Ia 3, .ptr 61 0, .map 62] 111 false false [] false),
   (65, .cells [.sl 64 0 3 3, .slo 1199 0 27 0] 139 false false [] false),
   (114, .cells [Ia 1] 3 true false [] false),
   (20, .map [] 1076),
   (14, .cells [.slo 105 0 1 0, Ia 0] 162 false false [] false),
   (16, .cells [.map 15, Ia 0] 165 false false [] false),
   (17, .map [(Ia 1, .agg [Ia 0, Ia 1, Ia 1, .sl 109 0 0 0])] 110),
   (18, .map [(Ia 1, .map 111)] 112),
   (23, .map [(Ia 1, .agg [Ta, .slo 1123 0 3 0, .nilsl, .slo 1125 0 3 0])] 24),
   (544, .cells [.ptr 542 0] 127 true false [] false),
   (29, .map [(.agg [.int .u16 (.ofNat 0), .int .u16 (.ofNat 0)], .int .u32 (.ofNat 1)), (.agg [.int .u16 (.ofNat 0), .int .u16 (.ofNat 9)], .int .u32 (.ofNat 1)), (.agg [.int .u16 (.ofNat 0), .int .u16 (.ofNat 18)], .int .u32 (.ofNat 1))] 1068),
   (45, .cells [Ia 30, .nilsl, .map 44, Ia 0, Ia 0] 133 false false [] false),
   (61, .cells [Ia 35, .slo 646 0 1 0, .map 60, Ia 3, Ia 0] 133 false false [] false),
   (62, .map [] 62),
   (64, .cells [Ia 0, Ia 9, Ia 0, Ia 0, Ia 0, Ia 0] 239 false false [] false),
   (1199, .cells [Ua 1, Ia 0, Ia 0, Ia 0, Fa, Ea, .nilsl, Ua 2, Ia 0, Ia 0, Ia 0, Fa, Ea, .nilsl, Ua 3, Ia 0, Ia 0, Ia 0, Fa, Ea, .nilsl, Ua 1, Ia 0, Ia 1, Ia 0, Fa, Ea, .nilsl, Ua 2, Ia 0, Ia 1, Ia 0, Fa, Ea, .nilsl, Ua 3, Ia 0, Ia 1, Ia 30, Fa, Ea, .nilsl, Ua 1, Ia 0, Ia 2, Ia 0, Fa, Ea, .nilsl, Ua 2, Ia 0, Ia 2, Ia 0, Fa, Ea, .nilsl, Ua 3, Ia 0, Ia 2, Ia 32, Fa, Ea, .nilsl, Ua 1, Ia 0, Ia 3, Ia 0, Fa, Ea, .nilsl, Ua 2, Ia 0, Ia 3, Ia 0, Fa, Ea, .nilsl, Ua 3, Ia 0, Ia 3, Ia 32, Fa, Ea, .nilsl, Ua 1, Ia 0, Ia 4, Ia 0, Fa, Ea, .nilsl, Ua 2, Ia 0, Ia 4, Ia 0, Fa, Ea, .nilsl, Ua 3, Ia 0, Ia 4, Ia 32, Fa, Ea, .nilsl, Ua 1, Ia 0, Ia 5, Ia 0, Fa, Ea, .nilsl, Ua 2, Ia 0, Ia 5, Ia 0, Fa, Ea, .nilsl, Ua 3, Ia 0, Ia 5, Ia 0, Fa, Ea, .nilsl, Ua 1, Ia 0, Ia 6, Ia 0, Fa, Ea, .nilsl, Ua 2, Ia 0, Ia 6, Ia 0, Fa, Ea, .nilsl, Ua 3, Ia 0, Ia 6, Ia 0, Fa, Ea, .nilsl, Ua 1, Ia 0, Ia 7, Ia 0, Fa, Ea, .nilsl, Ua 2, Ia 0, Ia 7, Ia 0, Fa, Ea, .nilsl, Ua 3, Ia 0, Ia 7, Ia 0, Fa, Ea, .nilsl, Ua 1, Ia 0, Ia 8, Ia 0, Fa, Ea, .nilsl, Ua 2, Ia 0, Ia 8, Ia 0, Fa, Ea, .nilsl, Ua 3, Ia 0, Ia 8, Ia 0, Fa, Ea, .nilsl] 196 true false [1065, 952, 937, 803, 690, 675, 539, 434, 419, 401, 312, 297, 290, 255, 240, 233, 211, 196, 189, 167, 152, 145, 139, 126, 119, 83] false),
   (105, .cells [Ua 1, Ia 0] 289 true false [] false),
   (15, .map [] 15),
   (109, .cells [] 3 false false [] false),
   (111, .map [(.str [97], .agg [Fa, .nilsl]), (.str [98], .agg [Fa, .nilsl]), (.str [99], .agg [Fa, .nilsl])] 1058),
   (1123, .cells [.str [97], .str [98], .str [99]] 9 true false [] false),
   (1125, .cells [.int .u64 (.ofNat 1), .int .u64 (.ofNat 38654705665), .int .u64 (.ofNat 77309411329)] 74 true false [] false),
   (542, .tree (.nd (.nd (.nd (.nd (.nd (.nd (.nd (.nd (.nd (.nd (.nd (.nd (lit6t0) (Ua 0) (.lf)) (Ua 0) (lit6t0)) (Ua 0) (lit6t1)) (Ua 0) (lit6t2)) (Ua 0) (lit6t3)) (Ua 0) (lit6t4)) (Ua 0) (lit6t5)) (Ua 0) (lit6t6)) (Ua 0) (lit6t7)) (Ua 0) (.nd (.nd (.nd (.nd (.nd (.nd (.nd (.nd (.nd (.nd (.lf) (.map 540) (.lf)) (Ua 0) (.lf)) (Ua 0) (lit6t0)) (Ua 0) (lit6t1)) (Ua 0) (lit6t2)) (Ua 0) (lit6t3)) (Ua 0) (lit6t4)) (Ua 0) (lit6t5)) (Ua 0) (lit6t6)) (Ua 0) (lit6t7))) (Ua 0) (.nd (.nd (.nd (.nd (.nd (.nd (.nd (.nd (.nd (.nd (.nd (.lf) (Ia 3) (.lf)) (Ua 0) (.lf)) (Ua 0) (lit6t0)) (Ua 0) (lit6t1)) (Ua 0) (lit6t2)) (Ua 0) (lit6t3)) (Ua 0) (lit6t4)) (Ua 0) (lit6t5)) (Ua 1) (lit6t6)) (Ua 2) (lit6t7)) (Ua 0) (.nd (lit6t7) (Ua 35) (lit6t7)))) (Ua 2) (.nd (.nd (.nd (.nd (.nd (.nd (.nd (.nd (.nd (.nd (.nd (.nd (.lf) (Ia 9) (.lf)) (Ua 0) (.lf)) (Ua 0) (lit6t0)) (Ua 0) (lit6t1)) (Ua 0) (lit6t2)) (Ua 0) (lit6t3)) (Ua 0) (lit6t4)) (Ua 0) (lit6t5)) (Ua 0) (lit6t6)) (Ua 1) (lit6t7)) (Ua 0) (.nd (lit6t7) (Ua 0) (lit6t7))) (Ua 0) (.nd (.nd (.nd (.nd (.nd (.nd (.nd (.nd (.nd (.nd (.nd (.lf) (.int .u16 (.ofNat 65535)) (.lf)) (Ua 0) (.lf)) (Ua 0) (lit6t0)) (Ua 0) (lit6t1)) (Ua 0) (lit6t2)) (Ua 0) (lit6t3)) (Ua 0) (lit6t4)) (Ua 0) (lit6t5)) (Ua 2) (lit6t6)) (Ua 0) (.nd (lit6t6) (Ua 1) (lit6t6))) (Ua 0) (.nd (.nd (lit6t6) (Ua 70) (lit6t6)) (Ua 0) (lit6t7))))) 4100 170 false false [] false),
   (44, .map [] 44),
   (646, .cells [.ptr 644 0] 127 true false [] false),
   (60, .map [(.agg [.int .u16 (.ofNat 0), .int .u16 (.ofNat 0)], .int .u32 (.ofNat 1)), (.agg [.int .u16 (.ofNat 0), .int .u16 (.ofNat 35)], .int .u32 (.ofNat 1)), (.agg [.int .u16 (.ofNat 0), .int .u16 (.ofNat 70)], .int .u32 (.ofNat 1))] 1173),
   (540, .map [(.int .u16 (.ofNat 0), .agg []), (.int .u16 (.ofNat 9), .agg []), (.int .u16 (.ofNat 18), .agg [])] 1066),
   (644, .tree (.nd (.nd (.nd (.nd (lit6t8) (Ua 0) (.nd (lit6t6) (Ua 0) (.nd (lit6t5) (Ua 50) (lit6t5)))) (Ua 0) (.nd (.nd (.nd (.nd (.nd (.nd (.nd (.nd (.nd (.nd (.lf) (.map 642) (.lf)) (Ua 0) (.lf)) (Ua 0) (lit6t0)) (Ua 0) (lit6t1)) (Ua 0) (lit6t2)) (Ua 0) (lit6t3)) (Ua 0) (lit6t4)) (Ua 1) (lit6t5)) (Ua 1) (lit6t6)) (Ua 0) (.nd (lit6t9) (Ua 0) (lit6t6)))) (Ua 0) (.nd (.nd (.nd (lit6t10) (Ua 0) (lit6t6)) (Ua 0) (.nd (lit6t6) (Ua 0) (lit6t11))) (Ua 0) (lit6t12))) (Ua 1) (.nd (.nd (.nd (.nd (.nd (.nd (.nd (.nd (.nd (.nd (.nd (.nd (.lf) (Ia 35) (.lf)) (Ua 0) (.lf)) (Ua 0) (lit6t0)) (Ua 0) (lit6t1)) (Ua 0) (lit6t2)) (Ua 0) (lit6t3)) (Ua 0) (lit6t4)) (Ua 0) (lit6t5)) (Ua 0) (lit6t6)) (Ua 1) (lit6t7)) (Ua 0) (.nd (.nd (lit6t6) (Ua 49) (lit6t6)) (Ua 0) (lit6t7))) (Ua 0) (.nd (.nd (.nd (lit6t13) (Ua 0) (lit6t6)) (Ua 0) (.nd (lit6t6) (Ua 0) (.nd (.nd (lit6t4) (Ua 51) (lit6t4)) (Ua 0) (lit6t5)))) (Ua 0) (.nd (.nd (lit6t11) (Ua 0) (lit6t9)) (Ua 0) (.nd (lit6t11) (Ua 0) (lit6t6)))))) 4100 170 false false [] false),
   (642, .map [(.int .u16 (.ofNat 0), .agg []), (.int .u16 (.ofNat 35), .agg []), (.int .u16 (.ofNat 70), .agg [])] 1171),
   (1065, .bare 182 196 true true [952, 937, 803, 690, 675, 539, 434, 419, 401, 312, 297, 290, 255, 240, 233, 211, 196, 189, 167, 152, 145, 139, 126, 119, 83] false),
   (952, .bare 175 196 true true [937, 803, 690, 675, 539, 434, 419, 401, 312, 297, 290, 255, 240, 233, 211, 196, 189, 167, 152, 145, 139, 126, 119, 83] false),
   (937, .bare 168 196 true true [803, 690, 675, 539, 434, 419, 401, 312, 297, 290, 255, 240, 233, 211, 196, 189, 167, 152, 145, 139, 126, 119, 83] false),
   (803, .bare 161 196 true true [690, 675, 539, 434, 419, 401, 312, 297, 290, 255, 240, 233, 211, 196, 189, 167, 152, 145, 139, 126, 119, 83] false),
   (690, .bare 154 196 true true [675, 539, 434, 419, 401, 312, 297, 290, 255, 240, 233, 211, 196, 189, 167, 152, 145, 139, 126, 119, 83] false),
   (675, .bare 147 196 true true [539, 434, 419, 401, 312, 297, 290, 255, 240, 233, 211, 196, 189, 167, 152, 145, 139, 126, 119, 83] false),
   (539, .bare 140 196 true true [434, 419, 401, 312, 297, 290, 255, 240, 233, 211, 196, 189, 167, 152, 145, 139, 126, 119, 83] false),
   (434, .bare 133 196 true true [419, 401, 312, 297, 290, 255, 240, 233, 211, 196, 189, 167, 152, 145, 139, 126, 119, 83] false),
   (419, .bare 126 196 true true [401, 312, 297, 290, 255, 240, 233, 211, 196, 189, 167, 152, 145, 139, 126, 119, 83] false),
   (401, .bare 119 196 true true [312, 297, 290, 255, 240, 233, 211, 196, 189, 167, 152, 145, 139, 126, 119, 83] false),
   (312, .bare 112 196 true true [297, 290, 255, 240, 233, 211, 196, 189, 167, 152, 145, 139, 126, 119, 83] false),
   (297, .bare 105 196 true true [290, 255, 240, 233, 211, 196, 189, 167, 152, 145, 139, 126, 119, 83] false),
   (290, .bare 98 196 true true [255, 240, 233, 211, 196, 189, 167, 152, 145, 139, 126, 119, 83] false),
   (255, .bare 91 196 true true [240, 233, 211, 196, 189, 167, 152, 145, 139, 126, 119, 83] false),
   (240, .bare 84 196 true true [233, 211, 196, 189, 167, 152, 145, 139, 126, 119, 83] false),
   (233, .bare 77 196 true true [211, 196, 189, 167, 152, 145, 139, 126, 119, 83] false),
   (211, .bare 70 196 true true [196, 189, 167, 152, 145, 139, 126, 119, 83] false),
   (196, .bare 63 196 true true [189, 167, 152, 145, 139, 126, 119, 83] false),
   (189, .bare 56 196 true true [167, 152, 145, 139, 126, 119, 83] false),
   (167, .bare 49 196 true true [152, 145, 139, 126, 119, 83] false),
   (152, .bare 42 196 true true [145, 139, 126, 119, 83] false),
   (145, .bare 35 196 true true [139, 126, 119, 83] false),
   (139, .bare 28 196 true true [126, 119, 83] false),
   (126, .bare 21 196 true true [119, 83] false),
   (119, .bare 14 196 true true [83] false),
   (83, .bare 7 196 true true [] false)],
  1204, 2⟩
noncomputable def lit7t0 : Tr AV := .nd (.lf) (Ua 0) (.lf)
noncomputable def lit7t1 : Tr AV := .nd (lit7t0) (Ua 0) (lit7t0)
noncomputable def lit7t2 : Tr AV := .nd (lit7t1) (Ua 0) (lit7t1)
noncomputable def lit7t3 : Tr AV := .nd (lit7t2) (Ua 0) (lit7t2)
noncomputable def lit7t4 : Tr AV := .nd (lit7t3) (Ua 0) (lit7t3)
noncomputable def lit7t5 : Tr AV := .nd (lit7t4) (Ua 0) (lit7t4)
noncomputable def lit7t6 : Tr AV := .nd (lit7t5) (Ua 0) (lit7t5)
noncomputable def lit7t7 : Tr AV := .nd (lit7t6) (Ua 0) (lit7t6)
noncomputable def lit7t8 : Tr AV := .nd (.nd (.nd (.nd (.nd (.nd (.nd (.nd (lit7t0) (Ua 0) (.lf)) (Ua 0) (lit7t0)) (Ua 0) (lit7t1)) (Ua 0) (lit7t2)) (Ua 0) (lit7t3)) (Ua 0) (lit7t4)) (Ua 0) (lit7t5)) (Ua 0) (lit7t6)
noncomputable def lit7t9 : Tr AV := .nd (lit7t5) (Ua 1) (lit7t5)
noncomputable def lit7t10 : Tr AV := .nd (.nd (.nd (.nd (.nd (.nd (.nd (.nd (.lf) (Ia 3) (.lf)) (Ua 0) (.lf)) (Ua 0) (lit7t0)) (Ua 0) (lit7t1)) (Ua 0) (lit7t2)) (Ua 0) (lit7t3)) (Ua 0) (lit7t4)) (Ua 0) (lit7t5)
noncomputable def lit7t11 : Tr AV := .nd (.nd (lit7t4) (Ua 1) (lit7t4)) (Ua 0) (lit7t5)
noncomputable def lit7t12 : Tr AV := .nd (lit7t7) (Ua 0) (lit7t7)
noncomputable def lit7t13 : Tr AV := .nd (.nd (.nd (.nd (.nd (.nd (.nd (.nd (.lf) (.int .u16 (.ofNat 65535)) (.lf)) (Ua 0) (.lf)) (Ua 0) (lit7t0)) (Ua 0) (lit7t1)) (Ua 0) (lit7t2)) (Ua 0) (lit7t3)) (Ua 0) (lit7t4)) (Ua 0) (lit7t5)
noncomputable def lit7 : Go.Proofs.YtajdeaabgplacaaGreatDoor.Sev.Lit := ⟨[Fa, .nilptr, .ptr 22 0, Ia 0, .ptr 66 0, .tup [], .ptr 1204 0, Ia 4, .ptr 1337 0, .tup [], .tup [], .tup [], .tup [], .tup [], .tup [], .tup [], .tup [], .tup [], .tup [], .tup [], .tup [], .tup [], .tup [.ptr 22 0, Ia 0], .agg [Ia 3, Ia 4, Ia 3, Ia 3, Ia 90, Ia 4, Ia 3, Ia 3], .tup [.ptr 22 0, Ia 0], .ptr 22 0, Ia 0, .agg [.nilsl], .ptr 66 0, Ta, Fa, Fa, Ia 0, Fa, Fa, Fa, .nilptr, .ptr 22 0, Ta, Fa, Fa, Fa, .nilptr, .agg [Ia 0, Fa, Ea, .nilsl], Ia 0, Fa, Fa, Fa, .agg [Ua 3, Ia 0, Ea, Ea, Ea, Ia 0, Ua 0], .ptr 66 0, .ptr 69 0, Ta, Fa, Fa, Fa, .agg [Ua 2, Ia 0, Ea, Ea, Ea, Ia 0, Ua 0], .ptr 66 0, .ptr 71 0, .ptr 22 0, Ta, Fa, Fa, Fa, .agg [Ua 0, Ia 0, Ea, Ea, Ea, Ia 0, Ua 0], .ptr 66 0, .ptr 73 0, .ptr 22 0, Ta, Fa, Fa, .ptr 22 0, .ptr 66 0, .agg [Ua 1, Ia 0, Ea, Ea, Ea, Ia 0, Ua 0], .tup [Ia 2, .agg [Ia 0, Fa, Ea, .nilsl]], .agg [Ua 3, Ia 2, .str [107], Ea, Ea, Ia 0, Ua 0], .agg [Ia 30, Fa, Ea, .nilsl], .agg [Ua 3, Ia 2, .str [107], Ea, Ea, Ia 0, Ua 0, Ia 1, Ia 30, Fa, Ea, .nilsl], .agg [Ua 3, Ia 1, .str [108, 111, 110, 103, 33], Ea, Ea, Ia 0, Ua 0], .agg [Ia 32, Fa, Ea, .nilsl], .agg [Ua 3, Ia 1, .str [108, 111, 110, 103, 33], Ea, Ea, Ia 0, Ua 0, Ia 1, Ia 32, Fa, Ea, .nilsl], .agg [Ua 3, Ia 1, Ea, Ea, Ea, Ia 0, Ua 0], .agg [Ia 32, Fa, Ea, .nilsl], .agg [Ua 3, Ia 1, Ea, Ea, Ea, Ia 0, Ua 0, Ia 1, Ia 32, Fa, Ea, .nilsl], .agg [Ua 3, Ia 1, .str [107], Ea, .str [108, 111, 110, 103], Ia 0, Ua 0], .agg [Ia 32, Fa, Ea, .nilsl], .agg [Ua 3, Ia 1, .str [107], Ea, .str [108, 111, 110, 103], Ia 0, Ua 0, Ia 1, Ia 32, Fa, Ea, .nilsl], .agg [Ua 4, Ia 1, .str [97], Ea, .str [108, 111, 110, 103], Ia 0, Ua 0], .agg [Ia 0, Fa, Ea, .nilsl], .agg [Ua 4, Ia 1, .str [97], Ea, .str [108, 111, 110, 103], Ia 0, Ua 0, Ia 4, Ia 0, Fa, Ea, .nilsl], .agg [Ua 3, Ia 1, .str [97], Ea, .str [49], Ia 0, Ua 0], .agg [Ia 0, Fa, Ea, .nilsl], .agg [Ua 3, Ia 1, .str [97], Ea, .str [49], Ia 0, Ua 0, Ia 8, Ia 0, Fa, Ea, .nilsl], .agg [Ua 3, Ia 1, .str [98], Ea, .str [50], Ia 0, Ua 0], .agg [Ia 0, Fa, Ea, .nilsl], .agg [Ua 3, Ia 1, .str [98], Ea, .str [50], Ia 0, Ua 0, Ia 8, Ia 0, Fa, Ea, .nilsl], .agg [Ua 3, Ia 1, .str [99], Ea, .str [51], Ia 0, Ua 0], .agg [Ia 0, Fa, Ea, .nilsl], .agg [Ua 3, Ia 1, .str [99], Ea, .str [51], Ia 0, Ua 0, Ia 8, Ia 0, Fa, Ea, .nilsl], .agg [Ua 3, Ia 1, .str [100], Ea, .str [52], Ia 0, Ua 0], .agg [Ia 34, Fa, Ea, .nilsl], .agg [Ua 3, Ia 1, .str [100], Ea, .str [52], Ia 0, Ua 0, Ia 4, Ia 34, Fa, Ea, .nilsl], .agg [Ua 4, Ia 1, .str [98], Ea, Ea, Ia 0, Ua 0], .agg [Ia 0, Ta, Ea, .nilsl], .agg [Ua 4, Ia 1, .str [98], Ea, Ea, Ia 0, Ua 0, Ia 8, Ia 0, Ta, Ea, .nilsl], .agg [Ua 4, Ia 1, .str [98], Ea, Ea, Ia 0, Ua 0], .agg [Ia 0, Fa, Ea, .nilsl], .agg [Ua 4, Ia 1, .str [98], Ea, Ea, Ia 0, Ua 0, Ia 7, Ia 0, Fa, Ea, .nilsl], .agg [Ua 6, Ia 1, Ea, Ea, Ea, Ia 0, Ua 0], .agg [Ia 0, Fa, Ea, .nilsl], .agg [Ua 6, Ia 1, Ea, Ea, Ea, Ia 0, Ua 0, Ia 2, Ia 0, Fa, Ea, .nilsl], .agg [Ua 3, Ia 1, .str [97], Ea, Ea, Ia 0, Ua 0], .agg [Ia 31, Fa, Ea, .nilsl], .agg [Ua 3, Ia 1, .str [97], Ea, Ea, Ia 0, Ua 0, Ia 1, Ia 31, Fa, Ea, .nilsl], .sl 128 0 13 13, Ia 13, Ia 9, Ta, .ptr 128 96, .agg [Ua 3, Ia 1, .str [100], Ea, .str [52], Ia 0, Ua 0, Ia 4, Ia 34, Fa, Ea, .nilsl], .tup [Ia 4, .agg [Ia 34, Fa, Ea, .nilsl]], .ptr 22 0, .ptr 66 0, .ptr 1204 0, .agg [Ua 3, Ia 1, .str [100], Ea, .str [52], Ia 0, Ua 0], .tup [Ia 4, .agg [Ia 34, Fa, Ea, .nilsl]], Ia 4, .agg [Ia 34, Fa, Ea, .nilsl], Ia 4, .ptr 1204 7, Ia 4, Fa, Fa, .agg [Ia 34, Fa, Ea, .nilsl], .ptr 1204 8, .agg [Ia 34, Fa, Ea, .nilsl], Ta, Fa, Fa, Fa, .ptr 22 0, .ptr 22 0, .ptr 22 9, .ptr 21 0, Ia 0, Fa, Fa, Ia 9, .tup [], .tup [], .tup [], .tup [], .tup [], .tup [], .tup [], .tup [], .tup [], .tup [], .tup [], .tup [], .tup [], .tup [], .tup [], .tup [], .tup [], .tup [], .tup [], .tup [], .tup [], .tup [], .tup [], .tup [], .tup [], .tup [], .tup [], .tup [], .tup [], .tup [], .tup [], .tup [], .tup [], .tup [], .tup [], .tup [], .tup [], .tup [], .tup [], .tup [], .tup [], .tup [], .tup [], .tup [], .tup [], .tup [], .tup [], .tup [], .tup [], .tup [], .tup [], .tup [], .tup [], .tup [], .tup [], .tup [], .tup [], .tup [], .tup [], .tup [], .tup [], .tup [], .tup [], .tup [], .tup [], .tup [], .tup [], .tup [], .tup [], .tup [], .tup [], .tup [], .tup [], .tup [], .tup [], .tup [], .tup [], .tup [], .tup [], .tup [], .tup [], .tup [], .tup [], .tup [], .tup [], .tup [], .tup [], .tup [], .tup [], .tup [], .tup [], .tup [], .tup [], .tup [], .tup [], .tup []],
  [(0, .cells [] 3 false false [] false),
   (1, .cells [Ua 0, Ua 0, Ua 1, Ua 1, Ua 2] 398 false false [] false),
   (22, .cells [Ia 3, Ia 4, Ia 3, Ia 3, Ia 90, Ia 4, Ia 3, Ia 3, .ptr 19 0, .ptr 21 0, .ptr 25 0, .ptr 30 0, .ptr 46 0, .ptr 63 0, .ptr 65 0] 56 false false [] false),
   (66, .cells [.slo 114 0 1 0] 33 false false [] false),
   (1204, .cells [Ua 3, Ia 1, .str [100], Ea, .str [52], Ia 0, Ua 0, Ia 4, Ia 34, Fa, Ea, .nilsl] 45 false false [] false),
   (1337, .cells [Ia 34, Fa, Ea, .nilsl] 38 false false [] false),
   (69, .cells [Ua 3, Ia 0, Ea, Ea, Ea, Ia 0, Ua 0, .ptr 66 0, Ia 0, Ia 0, Ia 0, Ia 0, .nilsl, Ia 0, Fa, Ea, .nilsl, Fa, .nilptr, .int .u64 (.ofNat 0), .nilptr, .int .u64 (.ofNat 0), Ua 0, .nilsl, .nilsl, Ia 0, Fa, Fa, Fa, Fa, Ia 0, Ua 0, .nilptr, .nilptr, .nilptr, .fn (.func 26) [.ptr 69 0] []] 99 false false [] false),
   (71, .cells [Ua 2, Ia 0, Ea, Ea, Ea, Ia 0, Ua 0, .ptr 66 0, Ia 0, Ia 0, Ia 0, Ia 0, .nilsl, Ia 0, Fa, Ea, .nilsl, Fa, .nilptr, .int .u64 (.ofNat 0), .nilptr, .int .u64 (.ofNat 0), Ua 0, .nilsl, .nilsl, Ia 0, Fa, Fa, Fa, Fa, Ia 0, Ua 0, .nilptr, .nilptr, .nilptr, .nilfn] 99 false false [] false),
   (73, .cells [Ua 0, Ia 0, Ea, Ea, Ea, Ia 0, Ua 0, .ptr 66 0, Ia 0, Ia 0, Ia 0, Ia 0, .nilsl, Ia 0, Fa, Ea, .nilsl, Fa, .nilptr, .int .u64 (.ofNat 0), .nilptr, .int .u64 (.ofNat 0), Ua 0, .nilsl, .nilsl, Ia 0, Fa, Fa, Fa, Fa, Ia 0, Ua 0, .nilptr, .nilptr, .nilptr, .nilfn] 99 false false [] false),
   (128, .cells [Ua 3, Ia 2, .str [107], Ea, Ea, Ia 0, Ua 0, Ia 1, Ia 30, Fa, Ea, .nilsl, Ua 3, Ia 1, .str [108, 111, 110, 103, 33], Ea, Ea, Ia 0, Ua 0, Ia 1, Ia 32, Fa, Ea, .nilsl, Ua 3, Ia 1, Ea, Ea, Ea, Ia 0, Ua 0, Ia 1, Ia 32, Fa, Ea, .nilsl, Ua 3, Ia 1, .str [107], Ea, .str [108, 111, 110, 103], Ia 0, Ua 0, Ia 1, Ia 32, Fa, Ea, .nilsl, Ua 4, Ia 1, .str [97], Ea, .str [108, 111, 110, 103], Ia 0, Ua 0, Ia 4, Ia 0, Fa, Ea, .nilsl, Ua 3, Ia 1, .str [97], Ea, .str [49], Ia 0, Ua 0, Ia 8, Ia 0, Fa, Ea, .nilsl, Ua 3, Ia 1, .str [98], Ea, .str [50], Ia 0, Ua 0, Ia 8, Ia 0, Fa, Ea, .nilsl, Ua 3, Ia 1, .str [99], Ea, .str [51], Ia 0, Ua 0, Ia 8, Ia 0, Fa, Ea, .nilsl, Ua 3, Ia 1, .str [100], Ea, .str [52], Ia 0, Ua 0, Ia 4, Ia 34, Fa, Ea, .nilsl, Ua 4, Ia 1, .str [98], Ea, Ea, Ia 0, Ua 0, Ia 8, Ia 0, Ta, Ea, .nilsl, Ua 4, Ia 1, .str [98], Ea, Ea, Ia 0, Ua 0, Ia 7, Ia 0, Fa, Ea, .nilsl, Ua 6, Ia 1, Ea, Ea, Ea, Ia 0, Ua 0, Ia 2, Ia 0, Fa, Ea, .nilsl, Ua 3, Ia 1, .str [97], Ea, Ea, Ia 0, Ua 0, Ia 1, Ia 31, Fa, Ea, .nilsl] 45 false false [] false),
   (21, .cells [.map 20] 108 false false [] false),
   (19, .cells [Ia 3, Ia 4, Ia 3, Ia 3, Ia 90, Ia 4, Ia 3, Ia 3, Ua 2, .ptr 14 0, .ptr 16 0, Ia 0, Ia 3, .map 17, .map 18] 120 false false [] false),
   (25, .cells [Ia 3, .map 23, Ia 1, Ia 1] 126 false false [] false),
   (30, .cells [Ia 9, .slo 544 0 1 0, .map 29, Ia 3, Ia 0] 133 false false [] false),
   (46, .cells [Ia 3, Ia 4, Ia 3, Ia 3, Ia 90, Ia 4, Ia 3, Ia 3, .ptr 45 0] 135 false false [] false),
   (63, .cells [Ia 3, Ia 4, Ia 3, Ia 3, Ia 90, Ia 4, Ia 3, Ia 3, .ptr 61 0, .map 62] 111 false false [] false),
   (65, .cells [.sl 64 0 3 3, .slo 1335 0 30 0] 139 false false [] false),
   (114, .cells [Ia 1] 3 true false [] false),
   (20, .map [] 1272),
   (14, .cells [.slo 105 0 1 0, Ia 0] 162 false false [] false),
   (16, .cells [.map 15, Ia 0] 165 false false [] false),
   (17, .map [(Ia 1, .agg [Ia 0, Ia 1, Ia 1, .sl 109 0 0 0])] 110),
   (18, .map [(Ia 1, .map 111)] 112),
   (23, .map [(Ia 1, .agg [Ta, .slo 1123 0 3 0, .nilsl, .slo 1125 0 3 0])] 24),
   (544, .cells [.ptr 542 0] 127 true false [] false),
   (29, .map [(.agg [.int .u16 (.ofNat 0), .int .u16 (.ofNat 0)], .int .u32 (.ofNat 1)), (.agg [.int .u16 (.ofNat 0), .int .u16 (.ofNat 9)], .int .u32 (.ofNat 1)), (.agg [.int .u16 (.ofNat 0), .int .u16 (.ofNat 18)], .int .u32 (.ofNat 1))] 1068),
   (45, .cells [Ia 30, .nilsl, .map 44, Ia 0, Ia 0] 133 false false [] false),
   (61, .cells [Ia 35, .slo 646 0 1 0, .map 60, Ia 3, Ia 0] 133 false false [] false),
   (62, .map [] 62),
   (64, .cells [Ia 0, Ia 10, Ia 0, Ia 0, Ia 0, Ia 0] 239 false false [] false),
   (1335, .cells [Ua 1, Ia 0, Ia 0, Ia 0, Fa, Ea, .nilsl, Ua 2, Ia 0, Ia 0, Ia 0, Fa, Ea, .nilsl, Ua 3, Ia 0, Ia 0, Ia 0, Fa, Ea, .nilsl, Ua 1, Ia 0, Ia 1, Ia 0, Fa, Ea, .nilsl, Ua 2, Ia 0, Ia 1, Ia 0, Fa, Ea, .nilsl, Ua 3, Ia 0, Ia 1, Ia 30, Fa, Ea, .nilsl, Ua 1, Ia 0, Ia 2, Ia 0, Fa, Ea, .nilsl, Ua 2, Ia 0, Ia 2, Ia 0, Fa, Ea, .nilsl, Ua 3, Ia 0, Ia 2, Ia 32, Fa, Ea, .nilsl, Ua 1, Ia 0, Ia 3, Ia 0, Fa, Ea, .nilsl, Ua 2, Ia 0, Ia 3, Ia 0, Fa, Ea, .nilsl, Ua 3, Ia 0, Ia 3, Ia 32, Fa, Ea, .nilsl, Ua 1, Ia 0, Ia 4, Ia 0, Fa, Ea, .nilsl, Ua 2, Ia 0, Ia 4, Ia 0, Fa, Ea, .nilsl, Ua 3, Ia 0, Ia 4, Ia 32, Fa, Ea, .nilsl, Ua 1, Ia 0, Ia 5, Ia 0, Fa, Ea, .nilsl, Ua 2, Ia 0, Ia 5, Ia 0, Fa, Ea, .nilsl, Ua 3, Ia 0, Ia 5, Ia 0, Fa, Ea, .nilsl, Ua 1, Ia 0, Ia 6, Ia 0, Fa, Ea, .nilsl, Ua 2, Ia 0, Ia 6, Ia 0, Fa, Ea, .nilsl, Ua 3, Ia 0, Ia 6, Ia 0, Fa, Ea, .nilsl, Ua 1, Ia 0, Ia 7, Ia 0, Fa, Ea, .nilsl, Ua 2, Ia 0, Ia 7, Ia 0, Fa, Ea, .nilsl, Ua 3, Ia 0, Ia 7, Ia 0, Fa, Ea, .nilsl, Ua 1, Ia 0, Ia 8, Ia 0, Fa, Ea, .nilsl, Ua 2, Ia 0, Ia 8, Ia 0, Fa, Ea, .nilsl, Ua 3, Ia 0, Ia 8, Ia 0, Fa, Ea, .nilsl, Ua 1, Ia 0, Ia 9, Ia 0, Fa, Ea, .nilsl, Ua 2, Ia 0, Ia 9, Ia 0, Fa, Ea, .nilsl, Ua 3, Ia 0, Ia 9, Ia 34, Fa, Ea, .nilsl] 196 true false [1314, 1214, 1199, 1065, 952, 937, 803, 690, 675, 539, 434, 419, 401, 312, 297, 290, 255, 240, 233, 211, 196, 189, 167, 152, 145, 139, 126, 119, 83] false),
   (105, .cells [Ua 1, Ia 0] 289 true false [] false),
   (15, .map [] 15),
   (109, .cells [] 3 false false [] false),
   (111, .map [(.str [97], .agg [Fa, .nilsl]), (.str [98], .agg [Fa, .nilsl]), (.str [99], .agg [Fa, .nilsl])] 1058),
   (1123, .cells [.str [97], .str [98], .str [99]] 9 true false [] false),
   (1125, .cells [.int .u64 (.ofNat 1), .int .u64 (.ofNat 38654705665), .int .u64 (.ofNat 77309411329)] 74 true false [] false),
   (542, .tree (.nd (.nd (.nd (.nd (.nd (.nd (.nd (.nd (.nd (.nd (.nd (.nd (lit7t0) (Ua 0) (.lf)) (Ua 0) (lit7t0)) (Ua 0) (lit7t1)) (Ua 0) (lit7t2)) (Ua 0) (lit7t3)) (Ua 0) (lit7t4)) (Ua 0) (lit7t5)) (Ua 0) (lit7t6)) (Ua 0) (lit7t7)) (Ua 0) (.nd (.nd (.nd (.nd (.nd (.nd (.nd (.nd (.nd (.nd (.lf) (.map 540) (.lf)) (Ua 0) (.lf)) (Ua 0) (lit7t0)) (Ua 0) (lit7t1)) (Ua 0) (lit7t2)) (Ua 0) (lit7t3)) (Ua 0) (lit7t4)) (Ua 0) (lit7t5)) (Ua 0) (lit7t6)) (Ua 0) (lit7t7))) (Ua 0) (.nd (.nd (.nd (.nd (.nd (.nd (.nd (.nd (.nd (.nd (.nd (.lf) (Ia 3) (.lf)) (Ua 0) (.lf)) (Ua 0) (lit7t0)) (Ua 0) (lit7t1)) (Ua 0) (lit7t2)) (Ua 0) (lit7t3)) (Ua 0) (lit7t4)) (Ua 0) (lit7t5)) (Ua 1) (lit7t6)) (Ua 2) (lit7t7)) (Ua 0) (.nd (lit7t7) (Ua 35) (lit7t7)))) (Ua 2) (.nd (.nd (.nd (.nd (.nd (.nd (.nd (.nd (.nd (.nd (.nd (.nd (.lf) (Ia 9) (.lf)) (Ua 0) (.lf)) (Ua 0) (lit7t0)) (Ua 0) (lit7t1)) (Ua 0) (lit7t2)) (Ua 0) (lit7t3)) (Ua 0) (lit7t4)) (Ua 0) (lit7t5)) (Ua 0) (lit7t6)) (Ua 1) (lit7t7)) (Ua 0) (.nd (lit7t7) (Ua 0) (lit7t7))) (Ua 0) (.nd (.nd (.nd (.nd (.nd (.nd (.nd (.nd (.nd (.nd (.nd (.lf) (.int .u16 (.ofNat 65535)) (.lf)) (Ua 0) (.lf)) (Ua 0) (lit7t0)) (Ua 0) (lit7t1)) (Ua 0) (lit7t2)) (Ua 0) (lit7t3)) (Ua 0) (lit7t4)) (Ua 0) (lit7t5)) (Ua 2) (lit7t6)) (Ua 0) (.nd (lit7t6) (Ua 1) (lit7t6))) (Ua 0) (.nd (.nd (lit7t6) (Ua 70) (lit7t6)) (Ua 0) (lit7t7))))) 4100 170 false false [] false),
   (44, .map [] 44),
   (646, .cells [.ptr 644 0] 127 true false [] false),
   (60, .map [(.agg [.int .u16 (.ofNat 0), .int .u16 (.ofNat 0)], .int .u32 (.ofNat 1)), (.agg [.int .u16 (.ofNat 0), .int .u16 (.ofNat 35)], .int .u32 (.ofNat 1)), (.agg [.int .u16 (.ofNat 0), .int .u16 (.ofNat 70)], .int .u32 (.ofNat 1))] 1173),
   (540, .map [(.int .u16 (.ofNat 0), .agg []), (.int .u16 (.ofNat 9), .agg []), (.int .u16 (.ofNat 18), .agg [])] 1066),
   (644, .tree (.nd (.nd (.nd (.nd (lit7t8) (Ua 0) (.nd (lit7t6) (Ua 0) (.nd (lit7t5) (Ua 50) (lit7t5)))) (Ua 0) (.nd (.nd (.nd (.nd (.nd (.nd (.nd (.nd (.nd (.nd (.lf) (.map 642) (.lf)) (Ua 0) (.lf)) (Ua 0) (lit7t0)) (Ua 0) (lit7t1)) (Ua 0) (lit7t2)) (Ua 0) (lit7t3)) (Ua 0) (lit7t4)) (Ua 1) (lit7t5)) (Ua 1) (lit7t6)) (Ua 0) (.nd (lit7t9) (Ua 0) (lit7t6)))) (Ua 0) (.nd (.nd (.nd (lit7t10) (Ua 0) (lit7t6)) (Ua 0) (.nd (lit7t6) (Ua 0) (lit7t11))) (Ua 0) (lit7t12))) (Ua 1) (.nd (.nd (.nd (.nd (.nd (.nd (.nd (.nd (.nd (.nd (.nd (.nd (.lf) (Ia 35) (.lf)) (Ua 0) (.lf)) (Ua 0) (lit7t0)) (Ua 0) (lit7t1)) (Ua 0) (lit7t2)) (Ua 0) (lit7t3)) (Ua 0) (lit7t4)) (Ua 0) (lit7t5)) (Ua 0) (lit7t6)) (Ua 1) (lit7t7)) (Ua 0) (.nd (.nd (lit7t6) (Ua 49) (lit7t6)) (Ua 0) (lit7t7))) (Ua 0) (.nd (.nd (.nd (lit7t13) (Ua 0) (lit7t6)) (Ua 0) (.nd (lit7t6) (Ua 0) (.nd (.nd (lit7t4) (Ua 51) (lit7t4)) (Ua 0) (lit7t5)))) (Ua 0) (.nd (.nd (lit7t11) (Ua 0) (lit7t9)) (Ua 0) (.nd (lit7t11) (Ua 0) (lit7t6)))))) 4100 170 false false [] false),
   (642, .map [(.int .u16 (.ofNat 0), .agg []), (.int .u16 (.ofNat 35), .agg []), (.int .u16 (.ofNat 70), .agg [])] 1171),
   (1314, .bare 203 196 true true [1214, 1199, 1065, 952, 937, 803, 690, 675, 539, 434, 419, 401, 312, 297, 290, 255, 240, 233, 211, 196, 189, 167, 152, 145, 139, 126, 119, 83] false),
   (1214, .bare 196 196 true true [1199, 1065, 952, 937, 803, 690, 675, 539, 434, 419, 401, 312, 297, 290, 255, 240, 233, 211, 196, 189, 167, 152, 145, 139, 126, 119, 83] false),
   (1199, .bare 189 196 true true [1065, 952, 937, 803, 690, 675, 539, 434, 419, 401, 312, 297, 290, 255, 240, 233, 211, 196, 189, 167, 152, 145, 139, 126, 119, 83] false),
   (1065, .bare 182 196 true true [952, 937, 803, 690, 675, 539, 434, 419, 401, 312, 297, 290, 255, 240, 233, 211, 196, 189, 167, 152, 145, 139, 126, 119, 83] false),
   (952, .bare 175 196 true true [937, 803, 690, 675, 539, 434, 419, 401, 312, 297, 290, 255, 240, 233, 211, 196, 189, 167, 152, 145, 139, 126, 119, 83] false),
   (937, .bare 168 196 true true [803, 690, 675, 539, 434, 419, 401, 312, 297, 290, 255, 240, 233, 211, 196, 189, 167, 152, 145, 139, 126, 119, 83] false),
   (803, .bare 161 196 true true [690, 675, 539, 434, 419, 401, 312, 297, 290, 255, 240, 233, 211, 196, 189, 167, 152, 145, 139, 126, 119, 83] false),
   (690, .bare 154 196 true true [675, 539, 434, 419, 401, 312, 297, 290, 255, 240, 233, 211, 196, 189, 167, 152, 145, 139, 126, 119, 83] false),
   (675, .bare 147 196 true true [539, 434, 419, 401, 312, 297, 290, 255, 240, 233, 211, 196, 189, 167, 152, 145, 139, 126, 119, 83] false),
   (539, .bare 140 196 true true [434, 419, 401, 312, 297, 290, 255, 240, 233, 211, 196, 189, 167, 152, 145, 139, 126, 119, 83] false),
   (434, .bare 133 196 true true [419, 401, 312, 297, 290, 255, 240, 233, 211, 196, 189, 167, 152, 145, 139, 126, 119, 83] false),
   (419, .bare 126 196 true true [401, 312, 297, 290, 255, 240, 233, 211, 196, 189, 167, 152, 145, 139, 126, 119, 83] false),
   (401, .bare 119 196 true true [312, 297, 290, 255, 240, 233, 211, 196, 189, 167, 152, 145, 139, 126, 119, 83] false),
   (312, .bare 112 196 true true [297, 290, 255, 240, 233, 211, 196, 189, 167, 152, 145, 139, 126, 119, 83] false),
   (297, .bare 105 196 true true [290, 255, 240, 233, 211, 196, 189, 167, 152, 145, 139, 126, 119, 83] false),
   (290, .bare 98 196 true true [255, 240, 233, 211, 196, 189, 167, 152, 145, 139, 126, 119, 83] false),
   (255, .bare 91 196 true true [240, 233, 211, 196, 189, 167, 152, 145, 139, 126, 119, 83] false),
   (240, .bare 84 196 true true [233, 211, 196, 189, 167, 152, 145, 139, 126, 119, 83] false),
   (233, .bare 77 196 true true [211, 196, 189, 167, 152, 145, 139, 126, 119, 83] false),
   (211, .bare 70 196 true true [196, 189, 167, 152, 145, 139, 126, 119, 83] false),
   (196, .bare 63 196 true true [189, 167, 152, 145, 139, 126, 119, 83] false),
   (189, .bare 56 196 true true [167, 152, 145, 139, 126, 119, 83] false),
   (167, .bare 49 196 true true [152, 145, 139, 126, 119, 83] false),
   (152, .bare 42 196 true true [145, 139, 126, 119, 83] false),
   (145, .bare 35 196 true true [139, 126, 119, 83] false),
   (139, .bare 28 196 true true [126, 119, 83] false),
   (126, .bare 21 196 true true [119, 83] false),
   (119, .bare 14 196 true true [83] false),
   (83, .bare 7 196 true true [] false)],
  1340, 2⟩
noncomputable def lit8t0 : Tr AV := .nd (.lf) (Ua 0) (.lf)
noncomputable def lit8t1 : Tr AV := .nd (lit8t0) (Ua 0) (lit8t0)
noncomputable def lit8t2 : Tr AV := .nd (lit8t1) (Ua 0) (lit8t1)
noncomputable def lit8t3 : Tr AV := .nd (lit8t2) (Ua 0) (lit8t2)
noncomputable def lit8t4 : Tr AV := .nd (lit8t3) (Ua 0) (lit8t3)
noncomputable def lit8t5 : Tr AV := .nd (lit8t4) (Ua 0) (lit8t4)
noncomputable def lit8t6 : Tr AV := .nd (lit8t5) (Ua 0) (lit8t5)
noncomputable def lit8t7 : Tr AV := .nd (lit8t6) (Ua 0) (lit8t6)
noncomputable def lit8t8 : Tr AV := .nd (.nd (.nd (.nd (.nd (.nd (.nd (.nd (.nd (lit8t0) (Ua 0) (.lf)) (Ua 0) (lit8t0)) (Ua 0) (lit8t1)) (Ua 0) (lit8t2)) (Ua 0) (lit8t3)) (Ua 0) (lit8t4)) (Ua 0) (lit8t5)) (Ua 0) (lit8t6)) (Ua 0) (lit8t7)
noncomputable def lit8t9 : Tr AV := .nd (.nd (lit8t5) (Ua 1) (lit8t5)) (Ua 0) (lit8t6)
noncomputable def lit8t10 : Tr AV := .nd (.nd (.nd (.nd (.nd (.nd (.nd (.nd (.lf) (Ia 3) (.lf)) (Ua 0) (.lf)) (Ua 0) (lit8t0)) (Ua 0) (lit8t1)) (Ua 0) (lit8t2)) (Ua 0) (lit8t3)) (Ua 0) (lit8t4)) (Ua 0) (lit8t5)
noncomputable def lit8t11 : Tr AV := .nd (.nd (lit8t4) (Ua 1) (lit8t4)) (Ua 0) (lit8t5)
noncomputable def lit8t12 : Tr AV := .nd (lit8t7) (Ua 0) (lit8t7)
noncomputable def lit8t13 : Tr AV := .nd (.nd (.nd (.nd (.nd (.nd (.nd (.nd (.lf) (.int .u16 (.ofNat 65535)) (.lf)) (Ua 0) (.lf)) (Ua 0) (lit8t0)) (Ua 0) (lit8t1)) (Ua 0) (lit8t2)) (Ua 0) (lit8t3)) (Ua 0) (lit8t4)) (Ua 0) (lit8t5)
noncomputable def lit8t14 : Tr AV := .nd (lit8t11) (Ua 0) (lit8t6)
noncomputable def lit8 : Go.Proofs.YtajdeaabgplacaaGreatDoor.Sev.Lit := ⟨[Fa, .nilptr, .ptr 22 0, Ia 0, .ptr 66 0, .tup [], .ptr 1340 0, Ia 8, .ptr 1575 0, .tup [], .tup [], .tup [], .tup [], .tup [], .tup [], .tup [], .tup [], .tup [], .tup [], .tup [], .tup [], .tup [], .tup [.ptr 22 0, Ia 0], .agg [Ia 3, Ia 4, Ia 3, Ia 3, Ia 90, Ia 4, Ia 3, Ia 3], .tup [.ptr 22 0, Ia 0], .ptr 22 0, Ia 0, .agg [.nilsl], .ptr 66 0, Ta, Fa, Fa, Ia 0, Fa, Fa, Fa, .nilptr, .ptr 22 0, Ta, Fa, Fa, Fa, .nilptr, .agg [Ia 0, Fa, Ea, .nilsl], Ia 0, Fa, Fa, Fa, .agg [Ua 3, Ia 0, Ea, Ea, Ea, Ia 0, Ua 0], .ptr 66 0, .ptr 69 0, Ta, Fa, Fa, Fa, .agg [Ua 2, Ia 0, Ea, Ea, Ea, Ia 0, Ua 0], .ptr 66 0, .ptr 71 0, .ptr 22 0, Ta, Fa, Fa, Fa, .agg [Ua 0, Ia 0, Ea, Ea, Ea, Ia 0, Ua 0], .ptr 66 0, .ptr 73 0, .ptr 22 0, Ta, Fa, Fa, .ptr 22 0, .ptr 66 0, .agg [Ua 1, Ia 0, Ea, Ea, Ea, Ia 0, Ua 0], .tup [Ia 2, .agg [Ia 0, Fa, Ea, .nilsl]], .agg [Ua 3, Ia 2, .str [107], Ea, Ea, Ia 0, Ua 0], .agg [Ia 30, Fa, Ea, .nilsl], .agg [Ua 3, Ia 2, .str [107], Ea, Ea, Ia 0, Ua 0, Ia 1, Ia 30, Fa, Ea, .nilsl], .agg [Ua 3, Ia 1, .str [108, 111, 110, 103, 33], Ea, Ea, Ia 0, Ua 0], .agg [Ia 32, Fa, Ea, .nilsl], .agg [Ua 3, Ia 1, .str [108, 111, 110, 103, 33], Ea, Ea, Ia 0, Ua 0, Ia 1, Ia 32, Fa, Ea, .nilsl], .agg [Ua 3, Ia 1, Ea, Ea, Ea, Ia 0, Ua 0], .agg [Ia 32, Fa, Ea, .nilsl], .agg [Ua 3, Ia 1, Ea, Ea, Ea, Ia 0, Ua 0, Ia 1, Ia 32, Fa, Ea, .nilsl], .agg [Ua 3, Ia 1, .str [107], Ea, .str [108, 111, 110, 103], Ia 0, Ua 0], .agg [Ia 32, Fa, Ea, .nilsl], .agg [Ua 3, Ia 1, .str [107], Ea, .str [108, 111, 110, 103], Ia 0, Ua 0, Ia 1, Ia 32, Fa, Ea, .nilsl], .agg [Ua 4, Ia 1, .str [97], Ea, .str [108, 111, 110, 103], Ia 0, Ua 0], .agg [Ia 0, Fa, Ea, .nilsl], .agg [Ua 4, Ia 1, .str [97], Ea, .str [108, 111, 110, 103], Ia 0, Ua 0, Ia 4, Ia 0, Fa, Ea, .nilsl], .agg [Ua 3, Ia 1, .str [97], Ea, .str [49], Ia 0, Ua 0], .agg [Ia 0, Fa, Ea, .nilsl], .agg [Ua 3, Ia 1, .str [97], Ea, .str [49], Ia 0, Ua 0, Ia 8, Ia 0, Fa, Ea, .nilsl], .agg [Ua 3, Ia 1, .str [98], Ea, .str [50], Ia 0, Ua 0], .agg [Ia 0, Fa, Ea, .nilsl], .agg [Ua 3, Ia 1, .str [98], Ea, .str [50], Ia 0, Ua 0, Ia 8, Ia 0, Fa, Ea, .nilsl], .agg [Ua 3, Ia 1, .str [99], Ea, .str [51], Ia 0, Ua 0], .agg [Ia 0, Fa, Ea, .nilsl], .agg [Ua 3, Ia 1, .str [99], Ea, .str [51], Ia 0, Ua 0, Ia 8, Ia 0, Fa, Ea, .nilsl], .agg [Ua 3, Ia 1, .str [100], Ea, .str [52], Ia 0, Ua 0], .agg [Ia 34, Fa, Ea, .nilsl], .agg [Ua 3, Ia 1, .str [100], Ea, .str [52], Ia 0, Ua 0, Ia 4, Ia 34, Fa, Ea, .nilsl], .agg [Ua 4, Ia 1, .str [98], Ea, Ea, Ia 0, Ua 0], .agg [Ia 0, Ta, Ea, .nilsl], .agg [Ua 4, Ia 1, .str [98], Ea, Ea, Ia 0, Ua 0, Ia 8, Ia 0, Ta, Ea, .nilsl], .agg [Ua 4, Ia 1, .str [98], Ea, Ea, Ia 0, Ua 0], .agg [Ia 0, Fa, Ea, .nilsl], .agg [Ua 4, Ia 1, .str [98], Ea, Ea, Ia 0, Ua 0, Ia 7, Ia 0, Fa, Ea, .nilsl], .agg [Ua 6, Ia 1, Ea, Ea, Ea, Ia 0, Ua 0], .agg [Ia 0, Fa, Ea, .nilsl], .agg [Ua 6, Ia 1, Ea, Ea, Ea, Ia 0, Ua 0, Ia 2, Ia 0, Fa, Ea, .nilsl], .agg [Ua 3, Ia 1, .str [97], Ea, Ea, Ia 0, Ua 0], .agg [Ia 31, Fa, Ea, .nilsl], .agg [Ua 3, Ia 1, .str [97], Ea, Ea, Ia 0, Ua 0, Ia 1, Ia 31, Fa, Ea, .nilsl], .sl 128 0 13 13, Ia 13, Ia 10, Ta, .ptr 128 108, .agg [Ua 4, Ia 1, .str [98], Ea, Ea, Ia 0, Ua 0, Ia 8, Ia 0, Ta, Ea, .nilsl], .tup [Ia 8, .agg [Ia 0, Ta, Ea, .nilsl]], .ptr 22 0, .ptr 66 0, .ptr 1340 0, .agg [Ua 4, Ia 1, .str [98], Ea, Ea, Ia 0, Ua 0], .tup [Ia 8, .agg [Ia 0, Ta, Ea, .nilsl]], Ia 8, .agg [Ia 0, Ta, Ea, .nilsl], Ia 8, .ptr 1340 7, Ia 8, Fa, Fa, .agg [Ia 0, Ta, Ea, .nilsl], .ptr 1340 8, .agg [Ia 0, Ta, Ea, .nilsl], Ta, Fa, Fa, Fa, .ptr 22 0, .ptr 22 0, .ptr 22 9, .ptr 21 0, Ia 0, Fa, Fa, Ia 10, .tup [], .tup [], .tup [], .tup [], .tup [], .tup [], .tup [], .tup [], .tup [], .tup [], .tup [], .tup [], .tup [], .tup [], .tup [], .tup [], .tup [], .tup [], .tup [], .tup [], .tup [], .tup [], .tup [], .tup [], .tup [], .tup [], .tup [], .tup [], .tup [], .tup [], .tup [], .tup [], .tup [], .tup [], .tup [], .tup [], .tup [], .tup [], .tup [], .tup [], .tup [], .tup [], .tup [], .tup [], .tup [], .tup [], .tup [], .tup [], .tup [], .tup [], .tup [], .tup [], .tup [], .tup [], .tup [], .tup [], .tup [], .tup [], .tup [], .tup [], .tup [], .tup [], .tup [], .tup [], .tup [], .tup [], .tup [], .tup [], .tup [], .tup [], .tup [], .tup [], .tup [], .tup [], .tup [], .tup [], .tup [], .tup [], .tup [], .tup [], .tup [], .tup [], .tup [], .tup [], .tup [], .tup [], .tup [], .tup [], .tup [], .tup [], .tup [], .tup [], .tup [], .tup [], .tup [], .tup []],
  [(0, .cells [] 3 false false [] false),
   (1, .cells [Ua 0, Ua 0, Ua 1, Ua 1, Ua 2] 398 false false [] false),
   (22, .cells [Ia 3, Ia 4, Ia 3, Ia 3, Ia 90, Ia 4, Ia 3, Ia 3, .ptr 19 0, .ptr 21 0, .ptr 25 0, .ptr 30 0, .ptr 46 0, .ptr 63 0, .ptr 65 0] 56 false false [] false),
   (66, .cells [.slo 114 0 1 0] 33 false false [] false),
   (1340, .cells [Ua 4, Ia 1, .str [98], Ea, Ea, Ia 0, Ua 0, Ia 8, Ia 0, Ta, Ea, .nilsl] 45 false false [] false),
   (1575, .cells [Ia 0, Ta, Ea, .nilsl] 38 false false [] false),
   (69, .cells [Ua 3, Ia 0, Ea, Ea, Ea, Ia 0, Ua 0, .ptr 66 0, Ia 0, Ia 0, Ia 0, Ia 0, .nilsl, Ia 0, Fa, Ea, .nilsl, Fa, .nilptr, .int .u64 (.ofNat 0), .nilptr, .int .u64 (.ofNat 0), Ua 0, .nilsl, .nilsl, Ia 0, Fa, Fa, Fa, Fa, Ia 0, Ua 0, .nilptr, .nilptr, .nilptr, .fn (.func 26) [.ptr 69 0] []] 99 false false [] false),
   (71, .cells [Ua 2, Ia 0, Ea, Ea, Ea, Ia 0, Ua 0, .ptr 66 0, Ia 0, Ia 0, Ia 0, Ia 0, .nilsl, Ia 0, Fa, Ea, .nilsl, Fa, .nilptr, .int .u64 (.ofNat 0), .nilptr, .int .u64 (.ofNat 0), Ua 0, .nilsl, .nilsl, Ia 0, Fa, Fa, Fa, Fa, Ia 0, Ua 0, .nilptr, .nilptr, .nilptr, .nilfn] 99 false false [] false),
   (73, .cells [Ua 0, Ia 0, Ea, Ea, Ea, Ia 0, Ua 0, .ptr 66 0, Ia 0, Ia 0, Ia 0, Ia 0, .nilsl, Ia 0, Fa, Ea, .nilsl, Fa, .nilptr, .int .u64 (.ofNat 0), .nilptr, .int .u64 (.ofNat 0), Ua 0, .nilsl, .nilsl, Ia 0, Fa, Fa, Fa, Fa, Ia 0, Ua 0, .nilptr, .nilptr, .nilptr, .nilfn] 99 false false [] false),
   (128, .cells [Ua 3, Ia 2, .str [107], Ea, Ea, Ia 0, Ua 0, Ia 1, Ia 30, Fa, Ea, .nilsl, Ua 3, Ia 1, .str [108, 111, 110, 103, 33], Ea, Ea, Ia 0, Ua 0, Ia 1, Ia 32, Fa, Ea, .nilsl, Ua 3, Ia 1, Ea, Ea, Ea, Ia 0, Ua 0, Ia 1, Ia 32, Fa, Ea, .nilsl, Ua 3, Ia 1, .str [107], Ea, .str [108, 111, 110, 103], Ia 0, Ua 0, Ia 1, Ia 32, Fa, Ea, .nilsl, Ua 4, Ia 1, .str [97], Ea, .str [108, 111, 110, 103], Ia 0, Ua 0, Ia 4, Ia 0, Fa, Ea, .nilsl, Ua 3, Ia 1, .str [97], Ea, .str [49], Ia 0, Ua 0, Ia 8, Ia 0, Fa, Ea, .nilsl, Ua 3, Ia 1, .str [98], Ea, .str [50], Ia 0, Ua 0, Ia 8, Ia 0, Fa, Ea, .nilsl, Ua 3, Ia 1, .str [99], Ea, .str [51], Ia 0, Ua 0, Ia 8, Ia 0, Fa, Ea, .nilsl, Ua 3, Ia 1, .str [100], Ea, .str [52], Ia 0, Ua 0, Ia 4, Ia 34, Fa, Ea, .nilsl, Ua 4, Ia 1, .str [98], Ea, Ea, Ia 0, Ua 0, Ia 8, Ia 0, Ta, Ea, .nilsl, Ua 4, Ia 1, .str [98], Ea, Ea, Ia 0, Ua 0, Ia 7, Ia 0, Fa, Ea, .nilsl, Ua 6, Ia 1, Ea, Ea, Ea, Ia 0, Ua 0, Ia 2, Ia 0, Fa, Ea, .nilsl, Ua 3, Ia 1, .str [97], Ea, Ea, Ia 0, Ua 0, Ia 1, Ia 31, Fa, Ea, .nilsl] 45 false false [] false),
   (21, .cells [.map 20] 108 false false [] false),
   (19, .cells [Ia 3, Ia 4, Ia 3, Ia 3, Ia 90, Ia 4, Ia 3, Ia 3, Ua 2, .ptr 14 0, .ptr 16 0, Ia 0, Ia 3, .map 17, .map 18] 120 false false [] false),
   (25, .cells [Ia 3, .map 23, Ia 1, Ia 1] 126 false false [] false),
   (30, .cells [Ia 9, .slo 544 0 1 0, .map 29, Ia 3, Ia 0] 133 false false [] false),
   (46, .cells [Ia 3, Ia 4, Ia 3, Ia 3, Ia 90, Ia 4, Ia 3, Ia 3, .ptr 45 0] 135 false false [] false),
   (63, .cells [Ia 3, Ia 4, Ia 3, Ia 3, Ia 90, Ia 4, Ia 3, Ia 3, .ptr 61 0, .map 62] 111 false false [] false),
   (65, .cells [.sl 64 0 3 3, .slo 1573 0 33 0] 139 false false [] false),
   (114, .cells [Ia 1] 3 true false [] false),
   (20, .map [] 1435),
   (14, .cells [.slo 105 0 1 0, Ia 0] 162 false false [] false),
   (16, .cells [.map 15, Ia 0] 165 false false [] false),
   (17, .map [(Ia 1, .agg [Ia 0, Ia 1, Ia 1, .sl 109 0 0 0])] 110),
   (18, .map [(Ia 1, .map 111)] 112),
   (23, .map [(Ia 1, .agg [Ta, .slo 1123 0 3 0, .nilsl, .slo 1125 0 3 0])] 24),
   (544, .cells [.ptr 542 0] 127 true false [] false),
   (29, .map [(.agg [.int .u16 (.ofNat 0), .int .u16 (.ofNat 0)], .int .u32 (.ofNat 1)), (.agg [.int .u16 (.ofNat 0), .int .u16 (.ofNat 9)], .int .u32 (.ofNat 1)), (.agg [.int .u16 (.ofNat 0), .int .u16 (.ofNat 18)], .int .u32 (.ofNat 1))] 1068),
   (45, .cells [Ia 30, .nilsl, .map 44, Ia 0, Ia 0] 133 false false [] false),
   (61, .cells [Ia 35, .slo 646 0 1 0, .map 60, Ia 3, Ia 0] 133 false false [] false),
   (62, .map [] 62),
   (64, .cells [Ia 0, Ia 11, Ia 0, Ia 0, Ia 0, Ia 0] 239 false false [] false),
   (1573, .cells [Ua 1, Ia 0, Ia 0, Ia 0, Fa, Ea, .nilsl, Ua 2, Ia 0, Ia 0, Ia 0, Fa, Ea, .nilsl, Ua 3, Ia 0, Ia 0, Ia 0, Fa, Ea, .nilsl, Ua 1, Ia 0, Ia 1, Ia 0, Fa, Ea, .nilsl, Ua 2, Ia 0, Ia 1, Ia 0, Fa, Ea, .nilsl, Ua 3, Ia 0, Ia 1, Ia 30, Fa, Ea, .nilsl, Ua 1, Ia 0, Ia 2, Ia 0, Fa, Ea, .nilsl, Ua 2, Ia 0, Ia 2, Ia 0, Fa, Ea, .nilsl, Ua 3, Ia 0, Ia 2, Ia 32, Fa, Ea, .nilsl, Ua 1, Ia 0, Ia 3, Ia 0, Fa, Ea, .nilsl, Ua 2, Ia 0, Ia 3, Ia 0, Fa, Ea, .nilsl, Ua 3, Ia 0, Ia 3, Ia 32, Fa, Ea, .nilsl, Ua 1, Ia 0, Ia 4, Ia 0, Fa, Ea, .nilsl, Ua 2, Ia 0, Ia 4, Ia 0, Fa, Ea, .nilsl, Ua 3, Ia 0, Ia 4, Ia 32, Fa, Ea, .nilsl, Ua 1, Ia 0, Ia 5, Ia 0, Fa, Ea, .nilsl, Ua 2, Ia 0, Ia 5, Ia 0, Fa, Ea, .nilsl, Ua 3, Ia 0, Ia 5, Ia 0, Fa, Ea, .nilsl, Ua 1, Ia 0, Ia 6, Ia 0, Fa, Ea, .nilsl, Ua 2, Ia 0, Ia 6, Ia 0, Fa, Ea, .nilsl, Ua 3, Ia 0, Ia 6, Ia 0, Fa, Ea, .nilsl, Ua 1, Ia 0, Ia 7, Ia 0, Fa, Ea, .nilsl, Ua 2, Ia 0, Ia 7, Ia 0, Fa, Ea, .nilsl, Ua 3, Ia 0, Ia 7, Ia 0, Fa, Ea, .nilsl, Ua 1, Ia 0, Ia 8, Ia 0, Fa, Ea, .nilsl, Ua 2, Ia 0, Ia 8, Ia 0, Fa, Ea, .nilsl, Ua 3, Ia 0, Ia 8, Ia 0, Fa, Ea, .nilsl, Ua 1, Ia 0, Ia 9, Ia 0, Fa, Ea, .nilsl, Ua 2, Ia 0, Ia 9, Ia 0, Fa, Ea, .nilsl, Ua 3, Ia 0, Ia 9, Ia 34, Fa, Ea, .nilsl, Ua 1, Ia 0, Ia 10, Ia 0, Fa, Ea, .nilsl, Ua 2, Ia 0, Ia 10, Ia 0, Fa, Ea, .nilsl, Ua 3, Ia 0, Ia 10, Ia 0, Ta, Ea, .nilsl] 196 true false [1506, 1350, 1335, 1314, 1214, 1199, 1065, 952, 937, 803, 690, 675, 539, 434, 419, 401, 312, 297, 290, 255, 240, 233, 211, 196, 189, 167, 152, 145, 139, 126, 119, 83] false),
   (105, .cells [Ua 1, Ia 0] 289 true false [] false),
   (15, .map [] 15),
   (109, .cells [] 3 false false [] false),
   (111, .map [(.str [97], .agg [Fa, .nilsl]), (.str [98], .agg [Ta, .nilsl]), (.str [99], .agg [Fa, .nilsl])] 1058),
   (1123, .cells [.str [97], .str [98], .str [99]] 9 true false [] false),
   (1125, .cells [.int .u64 (.ofNat 1), .int .u64 (.ofNat 38654705665), .int .u64 (.ofNat 77309411329)] 74 true false [] false),
   (542, .tree (.nd (.nd (.nd (.nd (.nd (.nd (.nd (.nd (.nd (.nd (.nd (.nd (lit8t0) (Ua 0) (.lf)) (Ua 0) (lit8t0)) (Ua 0) (lit8t1)) (Ua 0) (lit8t2)) (Ua 0) (lit8t3)) (Ua 0) (lit8t4)) (Ua 0) (lit8t5)) (Ua 0) (lit8t6)) (Ua 0) (lit8t7)) (Ua 0) (.nd (.nd (.nd (.nd (.nd (.nd (.nd (.nd (.nd (.nd (.lf) (.map 540) (.lf)) (Ua 0) (.lf)) (Ua 0) (lit8t0)) (Ua 0) (lit8t1)) (Ua 0) (lit8t2)) (Ua 0) (lit8t3)) (Ua 0) (lit8t4)) (Ua 0) (lit8t5)) (Ua 0) (lit8t6)) (Ua 0) (lit8t7))) (Ua 0) (.nd (.nd (.nd (.nd (.nd (.nd (.nd (.nd (.nd (.nd (.nd (.lf) (Ia 3) (.lf)) (Ua 0) (.lf)) (Ua 0) (lit8t0)) (Ua 0) (lit8t1)) (Ua 0) (lit8t2)) (Ua 0) (lit8t3)) (Ua 0) (lit8t4)) (Ua 0) (lit8t5)) (Ua 1) (lit8t6)) (Ua 2) (lit8t7)) (Ua 0) (.nd (lit8t7) (Ua 35) (lit8t7)))) (Ua 2) (.nd (.nd (.nd (.nd (.nd (.nd (.nd (.nd (.nd (.nd (.nd (.nd (.lf) (Ia 9) (.lf)) (Ua 0) (.lf)) (Ua 0) (lit8t0)) (Ua 0) (lit8t1)) (Ua 0) (lit8t2)) (Ua 0) (lit8t3)) (Ua 0) (lit8t4)) (Ua 0) (lit8t5)) (Ua 0) (lit8t6)) (Ua 1) (lit8t7)) (Ua 0) (.nd (lit8t7) (Ua 0) (lit8t7))) (Ua 0) (.nd (.nd (.nd (.nd (.nd (.nd (.nd (.nd (.nd (.nd (.nd (.lf) (.int .u16 (.ofNat 65535)) (.lf)) (Ua 0) (.lf)) (Ua 0) (lit8t0)) (Ua 0) (lit8t1)) (Ua 0) (lit8t2)) (Ua 0) (lit8t3)) (Ua 0) (lit8t4)) (Ua 0) (lit8t5)) (Ua 2) (lit8t6)) (Ua 0) (.nd (lit8t6) (Ua 1) (lit8t6))) (Ua 0) (.nd (.nd (lit8t6) (Ua 70) (lit8t6)) (Ua 0) (lit8t7))))) 4100 170 false false [] false),
   (44, .map [] 44),
   (646, .cells [.ptr 644 0] 127 true false [] false),
   (60, .map [(.agg [.int .u16 (.ofNat 0), .int .u16 (.ofNat 0)], .int .u32 (.ofNat 1)), (.agg [.int .u16 (.ofNat 0), .int .u16 (.ofNat 35)], .int .u32 (.ofNat 1)), (.agg [.int .u16 (.ofNat 0), .int .u16 (.ofNat 70)], .int .u32 (.ofNat 1))] 1173),
   (540, .map [(.int .u16 (.ofNat 0), .agg []), (.int .u16 (.ofNat 9), .agg []), (.int .u16 (.ofNat 18), .agg [])] 1066),
   (644, .tree (.nd (.nd (.nd (lit8t8) (Ua 0) (.nd (.nd (.nd (.nd (.nd (.nd (.nd (.nd (.nd (.nd (.lf) (.map 642) (.lf)) (Ua 0) (.lf)) (Ua 0) (lit8t0)) (Ua 0) (lit8t1)) (Ua 0) (lit8t2)) (Ua 0) (lit8t3)) (Ua 0) (lit8t4)) (Ua 1) (lit8t5)) (Ua 1) (lit8t6)) (Ua 0) (lit8t9))) (Ua 0) (.nd (.nd (.nd (lit8t10) (Ua 0) (lit8t6)) (Ua 0) (.nd (lit8t6) (Ua 0) (lit8t11))) (Ua 0) (lit8t12))) (Ua 1) (.nd (.nd (.nd (.nd (.nd (.nd (.nd (.nd (.nd (.nd (.nd (.nd (.lf) (Ia 35) (.lf)) (Ua 0) (.lf)) (Ua 0) (lit8t0)) (Ua 0) (lit8t1)) (Ua 0) (lit8t2)) (Ua 0) (lit8t3)) (Ua 0) (lit8t4)) (Ua 0) (lit8t5)) (Ua 0) (lit8t6)) (Ua 1) (lit8t7)) (Ua 0) (.nd (.nd (lit8t6) (Ua 49) (lit8t6)) (Ua 0) (lit8t9))) (Ua 0) (.nd (.nd (.nd (lit8t13) (Ua 0) (lit8t6)) (Ua 0) (.nd (lit8t6) (Ua 0) (.nd (.nd (lit8t4) (Ua 51) (lit8t4)) (Ua 0) (lit8t5)))) (Ua 0) (.nd (lit8t14) (Ua 0) (lit8t14))))) 4100 170 false false [] false),
   (642, .map [(.int .u16 (.ofNat 0), .agg []), (.int .u16 (.ofNat 35), .agg []), (.int .u16 (.ofNat 70), .agg [])] 1171),
   (1506, .bare 224 196 true true [1350, 1335, 1314, 1214, 1199, 1065, 952, 937, 803, 690, 675, 539, 434, 419, 401, 312, 297, 290, 255, 240, 233, 211, 196, 189, 167, 152, 145, 139, 126, 119, 83] false),
   (1350, .bare 217 196 true true [1335, 1314, 1214, 1199, 1065, 952, 937, 803, 690, 675, 539, 434, 419, 401, 312, 297, 290, 255, 240, 233, 211, 196, 189, 167, 152, 145, 139, 126, 119, 83] false),
   (1335, .bare 210 196 true true [1314, 1214, 1199, 1065, 952, 937, 803, 690, 675, 539, 434, 419, 401, 312, 297, 290, 255, 240, 233, 211, 196, 189, 167, 152, 145, 139, 126, 119, 83] false),
   (1314, .bare 203 196 true true [1214, 1199, 1065, 952, 937, 803, 690, 675, 539, 434, 419, 401, 312, 297, 290, 255, 240, 233, 211, 196, 189, 167, 152, 145, 139, 126, 119, 83] false),
   (1214, .bare 196 196 true true [1199, 1065, 952, 937, 803, 690, 675, 539, 434, 419, 401, 312, 297, 290, 255, 240, 233, 211, 196, 189, 167, 152, 145, 139, 126, 119, 83] false),
   (1199, .bare 189 196 true true [1065, 952, 937, 803, 690, 675, 539, 434, 419, 401, 312, 297, 290, 255, 240, 233, 211, 196, 189, 167, 152, 145, 139, 126, 119, 83] false),
   (1065, .bare 182 196 true true [952, 937, 803, 690, 675, 539, 434, 419, 401, 312, 297, 290, 255, 240, 233, 211, 196, 189, 167, 152, 145, 139, 126, 119, 83] false),
   (952, .bare 175 196 true true [937, 803, 690, 675, 539, 434, 419, 401, 312, 297, 290, 255, 240, 233, 211, 196, 189, 167, 152, 145, 139, 126, 119, 83] false),
   (937, .bare 168 196 true true [803, 690, 675, 539, 434, 419, 401, 312, 297, 290, 255, 240, 233, 211, 196, 189, 167, 152, 145, 139, 126, 119, 83] false),
   (803, .bare 161 196 true true [690, 675, 539, 434, 419, 401, 312, 297, 290, 255, 240, 233, 211, 196, 189, 167, 152, 145, 139, 126, 119, 83] false),
   (690, .bare 154 196 true true [675, 539, 434, 419, 401, 312, 297, 290, 255, 240, 233, 211, 196, 189, 167, 152, 145, 139, 126, 119, 83] false),
   (675, .bare 147 196 true true [539, 434, 419, 401, 312, 297, 290, 255, 240, 233, 211, 196, 189, 167, 152, 145, 139, 126, 119, 83] false),
   (539, .bare 140 196 true true [434, 419, 401, 312, 297, 290, 255, 240, 233, 211, 196, 189, 167, 152, 145, 139, 126, 119, 83] false),
   (434, .bare 133 196 true true [419, 401, 312, 297, 290, 255, 240, 233, 211, 196, 189, 167, 152, 145, 139, 126, 119, 83] false),
   (419, .bare 126 196 true true [401, 312, 297, 290, 255, 240, 233, 211, 196, 189, 167, 152, 145, 139, 126, 119, 83] false),
   (401, .bare 119 196 true true [312, 297, 290, 255, 240, 233, 211, 196, 189, 167, 152, 145, 139, 126, 119, 83] false),
   (312, .bare 112 196 true true [297, 290, 255, 240, 233, 211, 196, 189, 167, 152, 145, 139, 126, 119, 83] false),
   (297, .bare 105 196 true true [290, 255, 240, 233, 211, 196, 189, 167, 152, 145, 139, 126, 119, 83] false),
   (290, .bare 98 196 true true [255, 240, 233, 211, 196, 189, 167, 152, 145, 139, 126, 119, 83] false),
   (255, .bare 91 196 true true [240, 233, 211, 196, 189, 167, 152, 145, 139, 126, 119, 83] false),
   (240, .bare 84 196 true true [233, 211, 196, 189, 167, 152, 145, 139, 126, 119, 83] false),
   (233, .bare 77 196 true true [211, 196, 189, 167, 152, 145, 139, 126, 119, 83] false),
   (211, .bare 70 196 true true [196, 189, 167, 152, 145, 139, 126, 119, 83] false),
   (196, .bare 63 196 true true [189, 167, 152, 145, 139, 126, 119, 83] false),
   (189, .bare 56 196 true true [167, 152, 145, 139, 126, 119, 83] false),
   (167, .bare 49 196 true true [152, 145, 139, 126, 119, 83] false),
   (152, .bare 42 196 true true [145, 139, 126, 119, 83] false),
   (145, .bare 35 196 true true [139, 126, 119, 83] false),
   (139, .bare 28 196 true true [126, 119, 83] false),
   (126, .bare 21 196 true true [119, 83] false),
   (119, .bare 14 196 true true [83] false),
   (83, .bare 7 196 true true [] false)],
  1578, 2⟩
noncomputable def lit9t0 : Tr AV := .nd (.lf) (Ia 0) (.lf)
noncomputable def lit9t1 : Tr AV := .nd (.lf) (Ia 9) (.lf)
noncomputable def lit9t2 : Tr AV := .nd (.lf) (Ea) (.lf)
noncomputable def lit9t3 : Tr AV := .nd (.lf) (.nilsl) (.lf)
noncomputable def lit9t4 : Tr AV := .nd (lit9t2) (Fa) (lit9t3)
noncomputable def lit9t5 : Tr AV := .nd (.lf) (Fa) (.lf)
noncomputable def lit9t6 : Tr AV := .nd (lit9t0) (Ia 3) (lit9t5)
noncomputable def lit9t7 : Tr AV := .nd (.lf) (Ua 2) (.lf)
noncomputable def lit9t8 : Tr AV := .nd (lit9t7) (.nilsl) (lit9t0)
noncomputable def lit9t9 : Tr AV := .nd (.lf) (Ia 6) (.lf)
noncomputable def lit9t10 : Tr AV := .nd (lit9t9) (Ia 0) (lit9t0)
noncomputable def lit9t11 : Tr AV := .nd (.lf) (Ua 1) (.lf)
noncomputable def lit9t12 : Tr AV := .nd (lit9t3) (Ea) (lit9t11)
noncomputable def lit9t13 : Tr AV := .nd (lit9t5) (Ia 0) (lit9t2)
noncomputable def lit9t14 : Tr AV := .nd (.lf) (Ia 11) (.lf)
noncomputable def lit9t15 : Tr AV := .nd (.nd (.lf) (Ia 7) (.lf)) (Ia 0) (lit9t0)
noncomputable def lit9t16 : Tr AV := .nd (lit9t11) (.nilsl) (lit9t0)
noncomputable def lit9t17 : Tr AV := .nd (.lf) (Ua 3) (.lf)
noncomputable def lit9t18 : Tr AV := .nd (lit9t3) (Ea) (lit9t17)
noncomputable def lit9t19 : Tr AV := .nd (lit9t0) (Ia 5) (lit9t5)
noncomputable def lit9t20 : Tr AV := .nd (.lf) (Ia 10) (.lf)
noncomputable def lit9t21 : Tr AV := .nd (lit9t17) (.nilsl) (lit9t0)
noncomputable def lit9t22 : Tr AV := .nd (.nd (.lf) (Ia 8) (.lf)) (Ia 0) (lit9t0)
noncomputable def lit9t23 : Tr AV := .nd (lit9t3) (Ea) (lit9t7)
noncomputable def lit9t24 : Tr AV := .nd (lit9t5) (Ia 32) (lit9t2)
noncomputable def lit9t25 : Tr AV := .nd (lit9t0) (Ia 4) (lit9t5)
noncomputable def lit9t26 : Tr AV := .nd (.lf) (Ua 0) (.lf)
noncomputable def lit9t27 : Tr AV := .nd (lit9t26) (Ua 0) (lit9t26)
noncomputable def lit9t28 : Tr AV := .nd (lit9t27) (Ua 0) (lit9t27)
noncomputable def lit9t29 : Tr AV := .nd (lit9t28) (Ua 0) (lit9t28)
noncomputable def lit9t30 : Tr AV := .nd (lit9t29) (Ua 0) (lit9t29)
noncomputable def lit9t31 : Tr AV := .nd (lit9t30) (Ua 0) (lit9t30)
noncomputable def lit9t32 : Tr AV := .nd (lit9t31) (Ua 0) (lit9t31)
noncomputable def lit9t33 : Tr AV := .nd (lit9t32) (Ua 0) (lit9t32)
noncomputable def lit9t34 : Tr AV := .nd (.nd (.nd (.nd (.nd (.nd (.nd (.nd (.nd (lit9t26) (Ua 0) (.lf)) (Ua 0) (lit9t26)) (Ua 0) (lit9t27)) (Ua 0) (lit9t28)) (Ua 0) (lit9t29)) (Ua 0) (lit9t30)) (Ua 0) (lit9t31)) (Ua 0) (lit9t32)) (Ua 0) (lit9t33)
noncomputable def lit9t35 : Tr AV := .nd (.nd (lit9t31) (Ua 1) (lit9t31)) (Ua 0) (lit9t32)
noncomputable def lit9t36 : Tr AV := .nd (.nd (.nd (.nd (.nd (.nd (.nd (.nd (.lf) (Ia 3) (.lf)) (Ua 0) (.lf)) (Ua 0) (lit9t26)) (Ua 0) (lit9t27)) (Ua 0) (lit9t28)) (Ua 0) (lit9t29)) (Ua 0) (lit9t30)) (Ua 0) (lit9t31)
noncomputable def lit9t37 : Tr AV := .nd (.nd (lit9t30) (Ua 1) (lit9t30)) (Ua 0) (lit9t31)
noncomputable def lit9t38 : Tr AV := .nd (lit9t33) (Ua 0) (lit9t33)
noncomputable def lit9t39 : Tr AV := .nd (.nd (.nd (.nd (.nd (.nd (.nd (.nd (.lf) (.int .u16 (.ofNat 65535)) (.lf)) (Ua 0) (.lf)) (Ua 0) (lit9t26)) (Ua 0) (lit9t27)) (Ua 0) (lit9t28)) (Ua 0) (lit9t29)) (Ua 0) (lit9t30)) (Ua 0) (lit9t31)
noncomputable def lit9t40 : Tr AV := .nd (lit9t37) (Ua 0) (lit9t32)
noncomputable def lit9 : Go.Proofs.YtajdeaabgplacaaGreatDoor.Sev.Lit := ⟨[Fa, .nilptr, .ptr 22 0, Ia 0, .ptr 66 0, .tup [], .ptr 1578 0, Ia 7, .ptr 1754 0, .tup [], .tup [], .tup [], .tup [], .tup [], .tup [], .tup [], .tup [], .tup [], .tup [], .tup [], .tup [], .tup [], .tup [.ptr 22 0, Ia 0], .agg [Ia 3, Ia 4, Ia 3, Ia 3, Ia 90, Ia 4, Ia 3, Ia 3], .tup [.ptr 22 0, Ia 0], .ptr 22 0, Ia 0, .agg [.nilsl], .ptr 66 0, Ta, Fa, Fa, Ia 0, Fa, Fa, Fa, .nilptr, .ptr 22 0, Ta, Fa, Fa, Fa, .nilptr, .agg [Ia 0, Fa, Ea, .nilsl], Ia 0, Fa, Fa, Fa, .agg [Ua 3, Ia 0, Ea, Ea, Ea, Ia 0, Ua 0], .ptr 66 0, .ptr 69 0, Ta, Fa, Fa, Fa, .agg [Ua 2, Ia 0, Ea, Ea, Ea, Ia 0, Ua 0], .ptr 66 0, .ptr 71 0, .ptr 22 0, Ta, Fa, Fa, Fa, .agg [Ua 0, Ia 0, Ea, Ea, Ea, Ia 0, Ua 0], .ptr 66 0, .ptr 73 0, .ptr 22 0, Ta, Fa, Fa, .ptr 22 0, .ptr 66 0, .agg [Ua 1, Ia 0, Ea, Ea, Ea, Ia 0, Ua 0], .tup [Ia 2, .agg [Ia 0, Fa, Ea, .nilsl]], .agg [Ua 3, Ia 2, .str [107], Ea, Ea, Ia 0, Ua 0], .agg [Ia 30, Fa, Ea, .nilsl], .agg [Ua 3, Ia 2, .str [107], Ea, Ea, Ia 0, Ua 0, Ia 1, Ia 30, Fa, Ea, .nilsl], .agg [Ua 3, Ia 1, .str [108, 111, 110, 103, 33], Ea, Ea, Ia 0, Ua 0], .agg [Ia 32, Fa, Ea, .nilsl], .agg [Ua 3, Ia 1, .str [108, 111, 110, 103, 33], Ea, Ea, Ia 0, Ua 0, Ia 1, Ia 32, Fa, Ea, .nilsl], .agg [Ua 3, Ia 1, Ea, Ea, Ea, Ia 0, Ua 0], .agg [Ia 32, Fa, Ea, .nilsl], .agg [Ua 3, Ia 1, Ea, Ea, Ea, Ia 0, Ua 0, Ia 1, Ia 32, Fa, Ea, .nilsl], .agg [Ua 3, Ia 1, .str [107], Ea, .str [108, 111, 110, 103], Ia 0, Ua 0], .agg [Ia 32, Fa, Ea, .nilsl], .agg [Ua 3, Ia 1, .str [107], Ea, .str [108, 111, 110, 103], Ia 0, Ua 0, Ia 1, Ia 32, Fa, Ea, .nilsl], .agg [Ua 4, Ia 1, .str [97], Ea, .str [108, 111, 110, 103], Ia 0, Ua 0], .agg [Ia 0, Fa, Ea, .nilsl], .agg [Ua 4, Ia 1, .str [97], Ea, .str [108, 111, 110, 103], Ia 0, Ua 0, Ia 4, Ia 0, Fa, Ea, .nilsl], .agg [Ua 3, Ia 1, .str [97], Ea, .str [49], Ia 0, Ua 0], .agg [Ia 0, Fa, Ea, .nilsl], .agg [Ua 3, Ia 1, .str [97], Ea, .str [49], Ia 0, Ua 0, Ia 8, Ia 0, Fa, Ea, .nilsl], .agg [Ua 3, Ia 1, .str [98], Ea, .str [50], Ia 0, Ua 0], .agg [Ia 0, Fa, Ea, .nilsl], .agg [Ua 3, Ia 1, .str [98], Ea, .str [50], Ia 0, Ua 0, Ia 8, Ia 0, Fa, Ea, .nilsl], .agg [Ua 3, Ia 1, .str [99], Ea, .str [51], Ia 0, Ua 0], .agg [Ia 0, Fa, Ea, .nilsl], .agg [Ua 3, Ia 1, .str [99], Ea, .str [51], Ia 0, Ua 0, Ia 8, Ia 0, Fa, Ea, .nilsl], .agg [Ua 3, Ia 1, .str [100], Ea, .str [52], Ia 0, Ua 0], .agg [Ia 34, Fa, Ea, .nilsl], .agg [Ua 3, Ia 1, .str [100], Ea, .str [52], Ia 0, Ua 0, Ia 4, Ia 34, Fa, Ea, .nilsl], .agg [Ua 4, Ia 1, .str [98], Ea, Ea, Ia 0, Ua 0], .agg [Ia 0, Ta, Ea, .nilsl], .agg [Ua 4, Ia 1, .str [98], Ea, Ea, Ia 0, Ua 0, Ia 8, Ia 0, Ta, Ea, .nilsl], .agg [Ua 4, Ia 1, .str [98], Ea, Ea, Ia 0, Ua 0], .agg [Ia 0, Fa, Ea, .nilsl], .agg [Ua 4, Ia 1, .str [98], Ea, Ea, Ia 0, Ua 0, Ia 7, Ia 0, Fa, Ea, .nilsl], .agg [Ua 6, Ia 1, Ea, Ea, Ea, Ia 0, Ua 0], .agg [Ia 0, Fa, Ea, .nilsl], .agg [Ua 6, Ia 1, Ea, Ea, Ea, Ia 0, Ua 0, Ia 2, Ia 0, Fa, Ea, .nilsl], .agg [Ua 3, Ia 1, .str [97], Ea, Ea, Ia 0, Ua 0], .agg [Ia 31, Fa, Ea, .nilsl], .agg [Ua 3, Ia 1, .str [97], Ea, Ea, Ia 0, Ua 0, Ia 1, Ia 31, Fa, Ea, .nilsl], .sl 128 0 13 13, Ia 13, Ia 11, Ta, .ptr 128 120, .agg [Ua 4, Ia 1, .str [98], Ea, Ea, Ia 0, Ua 0, Ia 7, Ia 0, Fa, Ea, .nilsl], .tup [Ia 7, .agg [Ia 0, Fa, Ea, .nilsl]], .ptr 22 0, .ptr 66 0, .ptr 1578 0, .agg [Ua 4, Ia 1, .str [98], Ea, Ea, Ia 0, Ua 0], .tup [Ia 7, .agg [Ia 0, Fa, Ea, .nilsl]], Ia 7, .agg [Ia 0, Fa, Ea, .nilsl], Ia 7, .ptr 1578 7, Ia 7, Fa, Fa, .agg [Ia 0, Fa, Ea, .nilsl], .ptr 1578 8, .agg [Ia 0, Fa, Ea, .nilsl], Ta, Fa, Fa, Fa, .ptr 22 0, .ptr 22 0, .ptr 22 9, .ptr 21 0, Ia 0, Fa, Fa, Ia 11, .tup [], .tup [], .tup [], .tup [], .tup [], .tup [], .tup [], .tup [], .tup [], .tup [], .tup [], .tup [], .tup [], .tup [], .tup [], .tup [], .tup [], .tup [], .tup [], .tup [], .tup [], .tup [], .tup [], .tup [], .tup [], .tup [], .tup [], .tup [], .tup [], .tup [], .tup [], .tup [], .tup [], .tup [], .tup [], .tup [], .tup [], .tup [], .tup [], .tup [], .tup [], .tup [], .tup [], .tup [], .tup [], .tup [], .tup [], .tup [], .tup [], .tup [], .tup [], .tup [], .tup [], .tup [], .tup [], .tup [], .tup [], .tup [], .tup [], .tup [], .tup [], .tup [], .tup [], .tup [], .tup [], .tup [], .tup [], .tup [], .tup [], .tup [], .tup [], .tup [], .tup [], .tup [], .tup [], .tup [], .tup [], .tup [], .tup [], .tup [], .tup [], .tup [], .tup [], .tup [], .tup [], .tup [], .tup [], .tup [], .tup [], .tup [], .tup [], .tup [], .tup [], .tup [], .tup [], .tup []],
  [(0, .cells [] 3 false false [] false),
   (1, .cells [Ua 0, Ua 0, Ua 1, Ua 1, Ua 2] 398 false false [] false),
   (22, .cells [Ia 3, Ia 4, Ia 3, Ia 3, Ia 90, Ia 4, Ia 3, Ia 3, .ptr 19 0, .ptr 21 0, .ptr 25 0, .ptr 30 0, .ptr 46 0, .ptr 63 0, .ptr 65 0] 56 false false [] false),
   (66, .cells [.slo 114 0 1 0] 33 false false [] false),
   (1578, .cells [Ua 4, Ia 1, .str [98], Ea, Ea, Ia 0, Ua 0, Ia 7, Ia 0, Fa, Ea, .nilsl] 45 false false [] false),
   (1754, .cells [Ia 0, Fa, Ea, .nilsl] 38 false false [] false),
   (69, .cells [Ua 3, Ia 0, Ea, Ea, Ea, Ia 0, Ua 0, .ptr 66 0, Ia 0, Ia 0, Ia 0, Ia 0, .nilsl, Ia 0, Fa, Ea, .nilsl, Fa, .nilptr, .int .u64 (.ofNat 0), .nilptr, .int .u64 (.ofNat 0), Ua 0, .nilsl, .nilsl, Ia 0, Fa, Fa, Fa, Fa, Ia 0, Ua 0, .nilptr, .nilptr, .nilptr, .fn (.func 26) [.ptr 69 0] []] 99 false false [] false),
   (71, .cells [Ua 2, Ia 0, Ea, Ea, Ea, Ia 0, Ua 0, .ptr 66 0, Ia 0, Ia 0, Ia 0, Ia 0, .nilsl, Ia 0, Fa, Ea, .nilsl, Fa, .nilptr, .int .u64 (.ofNat 0), .nilptr, .int .u64 (.ofNat 0), Ua 0, .nilsl, .nilsl, Ia 0, Fa, Fa, Fa, Fa, Ia 0, Ua 0, .nilptr, .nilptr, .nilptr, .nilfn] 99 false false [] false),
   (73, .cells [Ua 0, Ia 0, Ea, Ea, Ea, Ia 0, Ua 0, .ptr 66 0, Ia 0, Ia 0, Ia 0, Ia 0, .nilsl, Ia 0, Fa, Ea, .nilsl, Fa, .nilptr, .int .u64 (.ofNat 0), .nilptr, .int .u64 (.ofNat 0), Ua 0, .nilsl, .nilsl, Ia 0, Fa, Fa, Fa, Fa, Ia 0, Ua 0, .nilptr, .nilptr, .nilptr, .nilfn] 99 false false [] false),
   (128, .cells [Ua 3, Ia 2, .str [107], Ea, Ea, Ia 0, Ua 0, Ia 1, Ia 30, Fa, Ea, .nilsl, Ua 3, Ia 1, .str [108, 111, 110, 103, 33], Ea, Ea, Ia 0, Ua 0, Ia 1, Ia 32, Fa, Ea, .nilsl, Ua 3, Ia 1, Ea, Ea, Ea, Ia 0, Ua 0, Ia 1, Ia 32, Fa, Ea, .nilsl, Ua 3, Ia 1, .str [107], Ea, .str [108, 111, 110, 103], Ia 0, Ua 0, Ia 1, Ia 32, Fa, Ea, .nilsl, Ua 4, Ia 1, .str [97], Ea, .str [108, 111, 110, 103], Ia 0, Ua 0, Ia 4, Ia 0, Fa, Ea, .nilsl, Ua 3, Ia 1, .str [97], Ea, .str [49], Ia 0, Ua 0, Ia 8, Ia 0, Fa, Ea, .nilsl, Ua 3, Ia 1, .str [98], Ea, .str [50], Ia 0, Ua 0, Ia 8, Ia 0, Fa, Ea, .nilsl, Ua 3, Ia 1, .str [99], Ea, .str [51], Ia 0, Ua 0, Ia 8, Ia 0, Fa, Ea, .nilsl, Ua 3, Ia 1, .str [100], Ea, .str [52], Ia 0, Ua 0, Ia 4, Ia 34, Fa, Ea, .nilsl, Ua 4, Ia 1, .str [98], Ea, Ea, Ia 0, Ua 0, Ia 8, Ia 0, Ta, Ea, .nilsl, Ua 4, Ia 1, .str [98], Ea, Ea, Ia 0, Ua 0, Ia 7, Ia 0, Fa, Ea, .nilsl, Ua 6, Ia 1, Ea, Ea, Ea, Ia 0, Ua 0, Ia 2, Ia 0, Fa, Ea, .nilsl, Ua 3, Ia 1, .str [97], Ea, Ea, Ia 0, Ua 0, Ia 1, Ia 31, Fa, Ea, .nilsl] 45 false false [] false),
   (21, .cells [.map 20] 108 false false [] false),
   (19, .cells [Ia 3, Ia 4, Ia 3, Ia 3, Ia 90, Ia 4, Ia 3, Ia 3, Ua 2, .ptr 14 0, .ptr 16 0, Ia 0, Ia 3, .map 17, .map 18] 120 false false [] false),
   (25, .cells [Ia 3, .map 23, Ia 1, Ia 1] 126 false false [] false),
   (30, .cells [Ia 9, .slo 544 0 1 0, .map 29, Ia 3, Ia 0] 133 false false [] false),
   (46, .cells [Ia 3, Ia 4, Ia 3, Ia 3, Ia 90, Ia 4, Ia 3, Ia 3, .ptr 45 0] 135 false false [] false),
   (63, .cells [Ia 3, Ia 4, Ia 3, Ia 3, Ia 90, Ia 4, Ia 3, Ia 3, .ptr 61 0, .map 62] 111 false false [] false),
   (65, .cells [.sl 64 0 3 3, .slo 1752 0 36 0] 139 false false [] false),
   (114, .cells [Ia 1] 3 true false [] false),
   (20, .map [] 1673),
   (14, .cells [.slo 105 0 1 0, Ia 0] 162 false false [] false),
   (16, .cells [.map 15, Ia 0] 165 false false [] false),
   (17, .map [(Ia 1, .agg [Ia 0, Ia 1, Ia 1, .sl 109 0 0 0])] 110),
   (18, .map [(Ia 1, .map 111)] 112),
   (23, .map [(Ia 1, .agg [Ta, .slo 1123 0 3 0, .nilsl, .slo 1125 0 3 0])] 24),
   (544, .cells [.ptr 542 0] 127 true false [] false),
   (29, .map [(.agg [.int .u16 (.ofNat 0), .int .u16 (.ofNat 0)], .int .u32 (.ofNat 1)), (.agg [.int .u16 (.ofNat 0), .int .u16 (.ofNat 9)], .int .u32 (.ofNat 1)), (.agg [.int .u16 (.ofNat 0), .int .u16 (.ofNat 18)], .int .u32 (.ofNat 1))] 1068),
   (45, .cells [Ia 30, .nilsl, .map 44, Ia 0, Ia 0] 133 false false [] false),
   (61, .cells [Ia 35, .slo 646 0 1 0, .map 60, Ia 3, Ia 0] 133 false false [] false),
   (62, .map [] 62),
   (64, .cells [Ia 0, Ia 12, Ia 0, Ia 0, Ia 0, Ia 0] 239 false false [] false),
   (1752, .tree (.nd (.nd (.nd (.nd (.nd (.nd (.nd (lit9t0) (Ua 1) (lit9t1)) (Ia 0) (lit9t4)) (Ia 0) (.nd (lit9t6) (Ea) (lit9t8))) (Ua 2) (.nd (.nd (lit9t10) (Fa) (lit9t12)) (Ia 1) (.nd (lit9t13) (.nilsl) (.nd (lit9t0) (Ua 3) (lit9t14))))) (Ia 0) (.nd (.nd (.nd (lit9t4) (Ua 3) (lit9t15)) (Ea) (.nd (lit9t16) (Ia 2) (lit9t13))) (Fa) (.nd (.nd (lit9t18) (Ia 0) (lit9t19)) (.nilsl) (.nd (.nd (lit9t0) (Ua 2) (lit9t20)) (Ia 32) (lit9t4))))) (Ia 0) (.nd (.nd (.nd (.nd (lit9t6) (Ea) (lit9t21)) (Ia 0) (.nd (lit9t4) (Ua 2) (lit9t22))) (Ia 0) (.nd (.nd (lit9t13) (.nilsl) (.nd (lit9t0) (Ua 1) (lit9t14))) (Fa) (.nd (lit9t23) (Ia 0) (lit9t19)))) (Ea) (.nd (.nd (.nd (lit9t8) (Ia 1) (lit9t24)) (Ua 1) (.nd (lit9t15) (Fa) (lit9t18))) (.nilsl) (.nd (.nd (.nd (lit9t0) (Ua 3) (lit9t1)) (Ia 0) (lit9t4)) (Ia 0) (.nd (lit9t25) (Ea) (.nd (lit9t11) (.nilsl) (.lf))))))) (Ua 1) (.nd (.nd (.nd (.nd (.nd (lit9t10) (Fa) (lit9t18)) (Ia 0) (.nd (lit9t24) (.nilsl) (.nd (lit9t0) (Ua 2) (lit9t14)))) (Ia 0) (.nd (.nd (lit9t6) (Ea) (lit9t16)) (Ia 0) (.nd (lit9t4) (Ua 3) (lit9t22)))) (Fa) (.nd (.nd (.nd (lit9t23) (Ia 0) (.nd (lit9t0) (Ia 4) (.nd (.lf) (Ta) (.lf)))) (.nilsl) (.nd (.nd (lit9t0) (Ua 1) (lit9t20)) (Ia 0) (lit9t4))) (Ea) (.nd (.nd (lit9t21) (Ia 2) (lit9t13)) (Ua 2) (.nd (lit9t15) (Fa) (.nd (lit9t3) (Ea) (.lf)))))) (Ia 0) (.nd (.nd (.nd (.nd (lit9t13) (.nilsl) (.nd (lit9t0) (Ua 3) (lit9t20))) (Fa) (.nd (lit9t12) (Ia 0) (lit9t19))) (Ia 0) (.nd (.nd (lit9t4) (Ua 1) (lit9t22)) (Ea) (.nd (lit9t8) (Ia 2) (lit9t13)))) (.nilsl) (.nd (.nd (.nd (.nd (lit9t0) (Ua 2) (lit9t1)) (Ia 30) (lit9t4)) (Ia 0) (.nd (lit9t25) (Ea) (lit9t21))) (Ua 3) (.nd (.nd (.nd (lit9t9) (Ia 0) (.nd (.lf) (Ia 34) (.lf))) (Fa) (lit9t23)) (Ia 1) (.nd (lit9t13) (.nilsl) (.nd (lit9t0) (Ua 1) (.lf)))))))) 252 196 true false [1742, 1588, 1573, 1506, 1350, 1335, 1314, 1214, 1199, 1065, 952, 937, 803, 690, 675, 539, 434, 419, 401, 312, 297, 290, 255, 240, 233, 211, 196, 189, 167, 152, 145, 139, 126, 119, 83] false),
   (105, .cells [Ua 1, Ia 0] 289 true false [] false),
   (15, .map [] 15),
   (109, .cells [] 3 false false [] false),
   (111, .map [(.str [97], .agg [Fa, .nilsl]), (.str [98], .agg [Ta, .nilsl]), (.str [99], .agg [Fa, .nilsl])] 1058),
   (1123, .cells [.str [97], .str [98], .str [99]] 9 true false [] false),
   (1125, .cells [.int .u64 (.ofNat 1), .int .u64 (.ofNat 38654705665), .int .u64 (.ofNat 77309411329)] 74 true false [] false),
   (542, .tree (.nd (.nd (.nd (.nd (.nd (.nd (.nd (.nd (.nd (.nd (.nd (.nd (lit9t26) (Ua 0) (.lf)) (Ua 0) (lit9t26)) (Ua 0) (lit9t27)) (Ua 0) (lit9t28)) (Ua 0) (lit9t29)) (Ua 0) (lit9t30)) (Ua 0) (lit9t31)) (Ua 0) (lit9t32)) (Ua 0) (lit9t33)) (Ua 0) (.nd (.nd (.nd (.nd (.nd (.nd (.nd (.nd (.nd (.nd (.lf) (.map 540) (.lf)) (Ua 0) (.lf)) (Ua 0) (lit9t26)) (Ua 0) (lit9t27)) (Ua 0) (lit9t28)) (Ua 0) (lit9t29)) (Ua 0) (lit9t30)) (Ua 0) (lit9t31)) (Ua 0) (lit9t32)) (Ua 0) (lit9t33))) (Ua 0) (.nd (.nd (.nd (.nd (.nd (.nd (.nd (.nd (.nd (.nd (.nd (.lf) (Ia 3) (.lf)) (Ua 0) (.lf)) (Ua 0) (lit9t26)) (Ua 0) (lit9t27)) (Ua 0) (lit9t28)) (Ua 0) (lit9t29)) (Ua 0) (lit9t30)) (Ua 0) (lit9t31)) (Ua 1) (lit9t32)) (Ua 2) (lit9t33)) (Ua 0) (.nd (lit9t33) (Ua 35) (lit9t33)))) (Ua 2) (.nd (.nd (.nd (.nd (.nd (.nd (.nd (.nd (.nd (.nd (.nd (lit9t1) (Ua 0) (.lf)) (Ua 0) (lit9t26)) (Ua 0) (lit9t27)) (Ua 0) (lit9t28)) (Ua 0) (lit9t29)) (Ua 0) (lit9t30)) (Ua 0) (lit9t31)) (Ua 0) (lit9t32)) (Ua 1) (lit9t33)) (Ua 0) (.nd (lit9t33) (Ua 0) (lit9t33))) (Ua 0) (.nd (.nd (.nd (.nd (.nd (.nd (.nd (.nd (.nd (.nd (.nd (.lf) (.int .u16 (.ofNat 65535)) (.lf)) (Ua 0) (.lf)) (Ua 0) (lit9t26)) (Ua 0) (lit9t27)) (Ua 0) (lit9t28)) (Ua 0) (lit9t29)) (Ua 0) (lit9t30)) (Ua 0) (lit9t31)) (Ua 2) (lit9t32)) (Ua 0) (.nd (lit9t32) (Ua 1) (lit9t32))) (Ua 0) (.nd (.nd (lit9t32) (Ua 70) (lit9t32)) (Ua 0) (lit9t33))))) 4100 170 false false [] false),
   (44, .map [] 44),
   (646, .cells [.ptr 644 0] 127 true false [] false),
   (60, .map [(.agg [.int .u16 (.ofNat 0), .int .u16 (.ofNat 0)], .int .u32 (.ofNat 1)), (.agg [.int .u16 (.ofNat 0), .int .u16 (.ofNat 35)], .int .u32 (.ofNat 1)), (.agg [.int .u16 (.ofNat 0), .int .u16 (.ofNat 70)], .int .u32 (.ofNat 1))] 1173),
   (540, .map [(.int .u16 (.ofNat 0), .agg []), (.int .u16 (.ofNat 9), .agg []), (.int .u16 (.ofNat 18), .agg [])] 1066),
   (644, .tree (.nd (.nd (.nd (lit9t34) (Ua 0) (.nd (.nd (.nd (.nd (.nd (.nd (.nd (.nd (.nd (.nd (.lf) (.map 642) (.lf)) (Ua 0) (.lf)) (Ua 0) (lit9t26)) (Ua 0) (lit9t27)) (Ua 0) (lit9t28)) (Ua 0) (lit9t29)) (Ua 0) (lit9t30)) (Ua 1) (lit9t31)) (Ua 1) (lit9t32)) (Ua 0) (lit9t35))) (Ua 0) (.nd (.nd (.nd (lit9t36) (Ua 0) (lit9t32)) (Ua 0) (.nd (lit9t32) (Ua 0) (lit9t37))) (Ua 0) (lit9t38))) (Ua 1) (.nd (.nd (.nd (.nd (.nd (.nd (.nd (.nd (.nd (.nd (.nd (.nd (.lf) (Ia 35) (.lf)) (Ua 0) (.lf)) (Ua 0) (lit9t26)) (Ua 0) (lit9t27)) (Ua 0) (lit9t28)) (Ua 0) (lit9t29)) (Ua 0) (lit9t30)) (Ua 0) (lit9t31)) (Ua 0) (lit9t32)) (Ua 1) (lit9t33)) (Ua 0) (.nd (.nd (lit9t32) (Ua 49) (lit9t32)) (Ua 0) (lit9t35))) (Ua 0) (.nd (.nd (.nd (lit9t39) (Ua 0) (lit9t32)) (Ua 0) (.nd (lit9t32) (Ua 0) (.nd (.nd (lit9t30) (Ua 51) (lit9t30)) (Ua 0) (lit9t31)))) (Ua 0) (.nd (lit9t40) (Ua 0) (lit9t40))))) 4100 170 false false [] false),
   (642, .map [(.int .u16 (.ofNat 0), .agg []), (.int .u16 (.ofNat 35), .agg []), (.int .u16 (.ofNat 70), .agg [])] 1171),
   (1742, .bare 245 196 true true [1588, 1573, 1506, 1350, 1335, 1314, 1214, 1199, 1065, 952, 937, 803, 690, 675, 539, 434, 419, 401, 312, 297, 290, 255, 240, 233, 211, 196, 189, 167, 152, 145, 139, 126, 119, 83] false),
   (1588, .bare 238 196 true true [1573, 1506, 1350, 1335, 1314, 1214, 1199, 1065, 952, 937, 803, 690, 675, 539, 434, 419, 401, 312, 297, 290, 255, 240, 233, 211, 196, 189, 167, 152, 145, 139, 126, 119, 83] false),
   (1573, .bare 231 196 true true [1506, 1350, 1335, 1314, 1214, 1199, 1065, 952, 937, 803, 690, 675, 539, 434, 419, 401, 312, 297, 290, 255, 240, 233, 211, 196, 189, 167, 152, 145, 139, 126, 119, 83] false),
   (1506, .bare 224 196 true true [1350, 1335, 1314, 1214, 1199, 1065, 952, 937, 803, 690, 675, 539, 434, 419, 401, 312, 297, 290, 255, 240, 233, 211, 196, 189, 167, 152, 145, 139, 126, 119, 83] false),
   (1350, .bare 217 196 true true [1335, 1314, 1214, 1199, 1065, 952, 937, 803, 690, 675, 539, 434, 419, 401, 312, 297, 290, 255, 240, 233, 211, 196, 189, 167, 152, 145, 139, 126, 119, 83] false),
   (1335, .bare 210 196 true true [1314, 1214, 1199, 1065, 952, 937, 803, 690, 675, 539, 434, 419, 401, 312, 297, 290, 255, 240, 233, 211, 196, 189, 167, 152, 145, 139, 126, 119, 83] false),
   (1314, .bare 203 196 true true [1214, 1199, 1065, 952, 937, 803, 690, 675, 539, 434, 419, 401, 312, 297, 290, 255, 240, 233, 211, 196, 189, 167, 152, 145, 139, 126, 119, 83] false),
   (1214, .bare 196 196 true true [1199, 1065, 952, 937, 803, 690, 675, 539, 434, 419, 401, 312, 297, 290, 255, 240, 233, 211, 196, 189, 167, 152, 145, 139, 126, 119, 83] false),
   (1199, .bare 189 196 true true [1065, 952, 937, 803, 690, 675, 539, 434, 419, 401, 312, 297, 290, 255, 240, 233, 211, 196, 189, 167, 152, 145, 139, 126, 119, 83] false),
   (1065, .bare 182 196 true true [952, 937, 803, 690, 675, 539, 434, 419, 401, 312, 297, 290, 255, 240, 233, 211, 196, 189, 167, 152, 145, 139, 126, 119, 83] false),
   (952, .bare 175 196 true true [937, 803, 690, 675, 539, 434, 419, 401, 312, 297, 290, 255, 240, 233, 211, 196, 189, 167, 152, 145, 139, 126, 119, 83] false),
   (937, .bare 168 196 true true [803, 690, 675, 539, 434, 419, 401, 312, 297, 290, 255, 240, 233, 211, 196, 189, 167, 152, 145, 139, 126, 119, 83] false),
   (803, .bare 161 196 true true [690, 675, 539, 434, 419, 401, 312, 297, 290, 255, 240, 233, 211, 196, 189, 167, 152, 145, 139, 126, 119, 83] false),
   (690, .bare 154 196 true true [675, 539, 434, 419, 401, 312, 297, 290, 255, 240, 233, 211, 196, 189, 167, 152, 145, 139, 126, 119, 83] false),
   (675, .bare 147 196 true true [539, 434, 419, 401, 312, 297, 290, 255, 240, 233, 211, 196, 189, 167, 152, 145, 139, 126, 119, 83] false),
   (539, .bare 140 196 true true [434, 419, 401, 312, 297, 290, 255, 240, 233, 211, 196, 189, 167, 152, 145, 139, 126, 119, 83] false),
   (434, .bare 133 196 true true [419, 401, 312, 297, 290, 255, 240, 233, 211, 196, 189, 167, 152, 145, 139, 126, 119, 83] false),
   (419, .bare 126 196 true true [401, 312, 297, 290, 255, 240, 233, 211, 196, 189, 167, 152, 145, 139, 126, 119, 83] false),
   (401, .bare 119 196 true true [312, 297, 290, 255, 240, 233, 211, 196, 189, 167, 152, 145, 139, 126, 119, 83] false),
   (312, .bare 112 196 true true [297, 290, 255, 240, 233, 211, 196, 189, 167, 152, 145, 139, 126, 119, 83] false),
   (297, .bare 105 196 true true [290, 255, 240, 233, 211, 196, 189, 167, 152, 145, 139, 126, 119, 83] false),
   (290, .bare 98 196 true true [255, 240, 233, 211, 196, 189, 167, 152, 145, 139, 126, 119, 83] false),
   (255, .bare 91 196 true true [240, 233, 211, 196, 189, 167, 152, 145, 139, 126, 119, 83] false),
   (240, .bare 84 196 true true [233, 211, 196, 189, 167, 152, 145, 139, 126, 119, 83] false),
   (233, .bare 77 196 true true [211, 196, 189, 167, 152, 145, 139, 126, 119, 83] false),
   (211, .bare 70 196 true true [196, 189, 167, 152, 145, 139, 126, 119, 83] false),
   (196, .bare 63 196 true true [189, 167, 152, 145, 139, 126, 119, 83] false),
   (189, .bare 56 196 true true [167, 152, 145, 139, 126, 119, 83] false),
   (167, .bare 49 196 true true [152, 145, 139, 126, 119, 83] false),
   (152, .bare 42 196 true true [145, 139, 126, 119, 83] false),
   (145, .bare 35 196 true true [139, 126, 119, 83] false),
   (139, .bare 28 196 true true [126, 119, 83] false),
   (126, .bare 21 196 true true [119, 83] false),
   (119, .bare 14 196 true true [83] false),
   (83, .bare 7 196 true true [] false)],
  1757, 2⟩
noncomputable def lit10t0 : Tr AV := .nd (.lf) (Ua 0) (.lf)
noncomputable def lit10t1 : Tr AV := .nd (lit10t0) (Ua 0) (lit10t0)
noncomputable def lit10t2 : Tr AV := .nd (lit10t1) (Ua 0) (lit10t1)
noncomputable def lit10t3 : Tr AV := .nd (lit10t2) (Ua 0) (lit10t2)
noncomputable def lit10t4 : Tr AV := .nd (lit10t3) (Ua 0) (lit10t3)
noncomputable def lit10t5 : Tr AV := .nd (lit10t4) (Ua 0) (lit10t4)
noncomputable def lit10t6 : Tr AV := .nd (lit10t5) (Ua 0) (lit10t5)
noncomputable def lit10t7 : Tr AV := .nd (lit10t6) (Ua 0) (lit10t6)
noncomputable def lit10t8 : Tr AV := .nd (.nd (.nd (.nd (.nd (.nd (.nd (.nd (.nd (lit10t0) (Ua 0) (.lf)) (Ua 0) (lit10t0)) (Ua 0) (lit10t1)) (Ua 0) (lit10t2)) (Ua 0) (lit10t3)) (Ua 0) (lit10t4)) (Ua 0) (lit10t5)) (Ua 0) (lit10t6)) (Ua 0) (lit10t7)
noncomputable def lit10t9 : Tr AV := .nd (.nd (lit10t5) (Ua 1) (lit10t5)) (Ua 0) (lit10t6)
noncomputable def lit10t10 : Tr AV := .nd (.nd (.nd (.nd (.nd (.nd (.nd (.nd (.lf) (Ia 3) (.lf)) (Ua 0) (.lf)) (Ua 0) (lit10t0)) (Ua 0) (lit10t1)) (Ua 0) (lit10t2)) (Ua 0) (lit10t3)) (Ua 0) (lit10t4)) (Ua 0) (lit10t5)
noncomputable def lit10t11 : Tr AV := .nd (.nd (lit10t4) (Ua 1) (lit10t4)) (Ua 0) (lit10t5)
noncomputable def lit10t12 : Tr AV := .nd (lit10t7) (Ua 0) (lit10t7)
noncomputable def lit10t13 : Tr AV := .nd (.nd (.nd (.nd (.nd (.nd (.nd (.nd (.lf) (.int .u16 (.ofNat 65535)) (.lf)) (Ua 0) (.lf)) (Ua 0) (lit10t0)) (Ua 0) (lit10t1)) (Ua 0) (lit10t2)) (Ua 0) (lit10t3)) (Ua 0) (lit10t4)) (Ua 0) (lit10t5)
noncomputable def lit10t14 : Tr AV := .nd (lit10t11) (Ua 0) (lit10t6)
noncomputable def lit10 : Go.Proofs.YtajdeaabgplacaaGreatDoor.Sev.Lit := ⟨[Fa, .nilptr, .ptr 22 0, Ia 0, .ptr 66 0, .tup [], .ptr 1757 0, Ia 2, .ptr 1798 0, .tup [], .tup [], .tup [], .tup [], .tup [], .tup [], .tup [], .tup [], .tup [], .tup [], .tup [], .tup [], .tup [], .tup [.ptr 22 0, Ia 0], .agg [Ia 3, Ia 4, Ia 3, Ia 3, Ia 90, Ia 4, Ia 3, Ia 3], .tup [.ptr 22 0, Ia 0], .ptr 22 0, Ia 0, .agg [.nilsl], .ptr 66 0, Ta, Fa, Fa, Ia 0, Fa, Fa, Fa, .nilptr, .ptr 22 0, Ta, Fa, Fa, Fa, .nilptr, .agg [Ia 0, Fa, Ea, .nilsl], Ia 0, Fa, Fa, Fa, .agg [Ua 3, Ia 0, Ea, Ea, Ea, Ia 0, Ua 0], .ptr 66 0, .ptr 69 0, Ta, Fa, Fa, Fa, .agg [Ua 2, Ia 0, Ea, Ea, Ea, Ia 0, Ua 0], .ptr 66 0, .ptr 71 0, .ptr 22 0, Ta, Fa, Fa, Fa, .agg [Ua 0, Ia 0, Ea, Ea, Ea, Ia 0, Ua 0], .ptr 66 0, .ptr 73 0, .ptr 22 0, Ta, Fa, Fa, .ptr 22 0, .ptr 66 0, .agg [Ua 1, Ia 0, Ea, Ea, Ea, Ia 0, Ua 0], .tup [Ia 2, .agg [Ia 0, Fa, Ea, .nilsl]], .agg [Ua 3, Ia 2, .str [107], Ea, Ea, Ia 0, Ua 0], .agg [Ia 30, Fa, Ea, .nilsl], .agg [Ua 3, Ia 2, .str [107], Ea, Ea, Ia 0, Ua 0, Ia 1, Ia 30, Fa, Ea, .nilsl], .agg [Ua 3, Ia 1, .str [108, 111, 110, 103, 33], Ea, Ea, Ia 0, Ua 0], .agg [Ia 32, Fa, Ea, .nilsl], .agg [Ua 3, Ia 1, .str [108, 111, 110, 103, 33], Ea, Ea, Ia 0, Ua 0, Ia 1, Ia 32, Fa, Ea, .nilsl], .agg [Ua 3, Ia 1, Ea, Ea, Ea, Ia 0, Ua 0], .agg [Ia 32, Fa, Ea, .nilsl], .agg [Ua 3, Ia 1, Ea, Ea, Ea, Ia 0, Ua 0, Ia 1, Ia 32, Fa, Ea, .nilsl], .agg [Ua 3, Ia 1, .str [107], Ea, .str [108, 111, 110, 103], Ia 0, Ua 0], .agg [Ia 32, Fa, Ea, .nilsl], .agg [Ua 3, Ia 1, .str [107], Ea, .str [108, 111, 110, 103], Ia 0, Ua 0, Ia 1, Ia 32, Fa, Ea, .nilsl], .agg [Ua 4, Ia 1, .str [97], Ea, .str [108, 111, 110, 103], Ia 0, Ua 0], .agg [Ia 0, Fa, Ea, .nilsl], .agg [Ua 4, Ia 1, .str [97], Ea, .str [108, 111, 110, 103], Ia 0, Ua 0, Ia 4, Ia 0, Fa, Ea, .nilsl], .agg [Ua 3, Ia 1, .str [97], Ea, .str [49], Ia 0, Ua 0], .agg [Ia 0, Fa, Ea, .nilsl], .agg [Ua 3, Ia 1, .str [97], Ea, .str [49], Ia 0, Ua 0, Ia 8, Ia 0, Fa, Ea, .nilsl], .agg [Ua 3, Ia 1, .str [98], Ea, .str [50], Ia 0, Ua 0], .agg [Ia 0, Fa, Ea, .nilsl], .agg [Ua 3, Ia 1, .str [98], Ea, .str [50], Ia 0, Ua 0, Ia 8, Ia 0, Fa, Ea, .nilsl], .agg [Ua 3, Ia 1, .str [99], Ea, .str [51], Ia 0, Ua 0], .agg [Ia 0, Fa, Ea, .nilsl], .agg [Ua 3, Ia 1, .str [99], Ea, .str [51], Ia 0, Ua 0, Ia 8, Ia 0, Fa, Ea, .nilsl], .agg [Ua 3, Ia 1, .str [100], Ea, .str [52], Ia 0, Ua 0], .agg [Ia 34, Fa, Ea, .nilsl], .agg [Ua 3, Ia 1, .str [100], Ea, .str [52], Ia 0, Ua 0, Ia 4, Ia 34, Fa, Ea, .nilsl], .agg [Ua 4, Ia 1, .str [98], Ea, Ea, Ia 0, Ua 0], .agg [Ia 0, Ta, Ea, .nilsl], .agg [Ua 4, Ia 1, .str [98], Ea, Ea, Ia 0, Ua 0, Ia 8, Ia 0, Ta, Ea, .nilsl], .agg [Ua 4, Ia 1, .str [98], Ea, Ea, Ia 0, Ua 0], .agg [Ia 0, Fa, Ea, .nilsl], .agg [Ua 4, Ia 1, .str [98], Ea, Ea, Ia 0, Ua 0, Ia 7, Ia 0, Fa, Ea, .nilsl], .agg [Ua 6, Ia 1, Ea, Ea, Ea, Ia 0, Ua 0], .agg [Ia 0, Fa, Ea, .nilsl], .agg [Ua 6, Ia 1, Ea, Ea, Ea, Ia 0, Ua 0, Ia 2, Ia 0, Fa, Ea, .nilsl], .agg [Ua 3, Ia 1, .str [97], Ea, Ea, Ia 0, Ua 0], .agg [Ia 31, Fa, Ea, .nilsl], .agg [Ua 3, Ia 1, .str [97], Ea, Ea, Ia 0, Ua 0, Ia 1, Ia 31, Fa, Ea, .nilsl], .sl 128 0 13 13, Ia 13, Ia 12, Ta, .ptr 128 132, .agg [Ua 6, Ia 1, Ea, Ea, Ea, Ia 0, Ua 0, Ia 2, Ia 0, Fa, Ea, .nilsl], .tup [Ia 2, .agg [Ia 0, Fa, Ea, .nilsl]], .ptr 22 0, .ptr 66 0, .ptr 1757 0, .agg [Ua 6, Ia 1, Ea, Ea, Ea, Ia 0, Ua 0], .tup [Ia 2, .agg [Ia 0, Fa, Ea, .nilsl]], Ia 2, .agg [Ia 0, Fa, Ea, .nilsl], Ia 2, .ptr 1757 7, Ia 2, Fa, Fa, .agg [Ia 0, Fa, Ea, .nilsl], .ptr 1757 8, .agg [Ia 0, Fa, Ea, .nilsl], Ta, Fa, Fa, Fa, .ptr 22 0, .ptr 22 0, .ptr 22 9, .ptr 21 0, Ia 0, Fa, Fa, Ia 12, .tup [], .tup [], .tup [], .tup [], .tup [], .tup [], .tup [], .tup [], .tup [], .tup [], .tup [], .tup [], .tup [], .tup [], .tup [], .tup [], .tup [], .tup [], .tup [], .tup [], .tup [], .tup [], .tup [], .tup [], .tup [], .tup [], .tup [], .tup [], .tup [], .tup [], .tup [], .tup [], .tup [], .tup [], .tup [], .tup [], .tup [], .tup [], .tup [], .tup [], .tup [], .tup [], .tup [], .tup [], .tup [], .tup [], .tup [], .tup [], .tup [], .tup [], .tup [], .tup [], .tup [], .tup [], .tup [], .tup [], .tup [], .tup [], .tup [], .tup [], .tup [], .tup [], .tup [], .tup [], .tup [], .tup [], .tup [], .tup [], .tup [], .tup [], .tup [], .tup [], .tup [], .tup [], .tup [], .tup [], .tup [], .tup [], .tup [], .tup [], .tup [], .tup [], .tup [], .tup [], .tup [], .tup [], .tup [], .tup [], .tup [], .tup [], .tup [], .tup [], .tup [], .tup [], .tup [], .tup []],
  [(0, .cells [] 3 false false [] false),
   (1, .cells [Ua 0, Ua 0, Ua 1, Ua 1, Ua 2] 398 false false [] false),
   (22, .cells [Ia 3, Ia 4, Ia 3, Ia 3, Ia 90, Ia 4, Ia 3, Ia 3, .ptr 19 0, .ptr 21 0, .ptr 25 0, .ptr 30 0, .ptr 46 0, .ptr 63 0, .ptr 65 0] 56 false false [] false),
   (66, .cells [.slo 114 0 1 0] 33 false false [] false),
   (1757, .cells [Ua 6, Ia 1, Ea, Ea, Ea, Ia 0, Ua 0, Ia 2, Ia 0, Fa, Ea, .nilsl] 45 false false [] false),
   (1798, .cells [Ia 0, Fa, Ea, .nilsl] 38 false false [] false),
   (69, .cells [Ua 3, Ia 0, Ea, Ea, Ea, Ia 0, Ua 0, .ptr 66 0, Ia 0, Ia 0, Ia 0, Ia 0, .nilsl, Ia 0, Fa, Ea, .nilsl, Fa, .nilptr, .int .u64 (.ofNat 0), .nilptr, .int .u64 (.ofNat 0), Ua 0, .nilsl, .nilsl, Ia 0, Fa, Fa, Fa, Fa, Ia 0, Ua 0, .nilptr, .nilptr, .nilptr, .fn (.func 26) [.ptr 69 0] []] 99 false false [] false),
   (71, .cells [Ua 2, Ia 0, Ea, Ea, Ea, Ia 0, Ua 0, .ptr 66 0, Ia 0, Ia 0, Ia 0, Ia 0, .nilsl, Ia 0, Fa, Ea, .nilsl, Fa, .nilptr, .int .u64 (.ofNat 0), .nilptr, .int .u64 (.ofNat 0), Ua 0, .nilsl, .nilsl, Ia 0, Fa, Fa, Fa, Fa, Ia 0, Ua 0, .nilptr, .nilptr, .nilptr, .nilfn] 99 false false [] false),
   (73, .cells [Ua 0, Ia 0, Ea, Ea, Ea, Ia 0, Ua 0, .ptr 66 0, Ia 0, Ia 0, Ia 0, Ia 0, .nilsl, Ia 0, Fa, Ea, .nilsl, Fa, .nilptr, .int .u64 (.ofNat 0), .nilptr, .int .u64 (.ofNat 0), Ua 0, .nilsl, .nilsl, Ia 0, Fa, Fa, Fa, Fa, Ia 0, Ua 0, .nilptr, .nilptr, .nilptr, .nilfn] 99 false false [] false),
   (128, .cells [Ua 3, Ia 2, .str [107], Ea, Ea, Ia 0, Ua 0, Ia 1, Ia 30, Fa, Ea, .nilsl, Ua 3, Ia 1, .str [108, 111, 110, 103, 33], Ea, Ea, Ia 0, Ua 0, Ia 1, Ia 32, Fa, Ea, .nilsl, Ua 3, Ia 1, Ea, Ea, Ea, Ia 0, Ua 0, Ia 1, Ia 32, Fa, Ea, .nilsl, Ua 3, Ia 1, .str [107], Ea, .str [108, 111, 110, 103], Ia 0, Ua 0, Ia 1, Ia 32, Fa, Ea, .nilsl, Ua 4, Ia 1, .str [97], Ea, .str [108, 111, 110, 103], Ia 0, Ua 0, Ia 4, Ia 0, Fa, Ea, .nilsl, Ua 3, Ia 1, .str [97], Ea, .str [49], Ia 0, Ua 0, Ia 8, Ia 0, Fa, Ea, .nilsl, Ua 3, Ia 1, .str [98], Ea, .str [50], Ia 0, Ua 0, Ia 8, Ia 0, Fa, Ea, .nilsl, Ua 3, Ia 1, .str [99], Ea, .str [51], Ia 0, Ua 0, Ia 8, Ia 0, Fa, Ea, .nilsl, Ua 3, Ia 1, .str [100], Ea, .str [52], Ia 0, Ua 0, Ia 4, Ia 34, Fa, Ea, .nilsl, Ua 4, Ia 1, .str [98], Ea, Ea, Ia 0, Ua 0, Ia 8, Ia 0, Ta, Ea, .nilsl, Ua 4, Ia 1, .str [98], Ea, Ea, Ia 0, Ua 0, Ia 7, Ia 0, Fa, Ea, .nilsl, Ua 6, Ia 1, Ea, Ea, Ea, Ia 0, Ua 0, Ia 2, Ia 0, Fa, Ea, .nilsl, Ua 3, Ia 1, .str [97], Ea, Ea, Ia 0, Ua 0, Ia 1, Ia 31, Fa, Ea, .nilsl] 45 false false [] false),
   (21, .cells [.map 20] 108 false false [] false),
   (19, .cells [Ia 3, Ia 4, Ia 3, Ia 3, Ia 90, Ia 4, Ia 3, Ia 3, Ua 2, .ptr 14 0, .ptr 16 0, Ia 0, Ia 3, .map 17, .map 18] 120 false false [] false),
   (25, .cells [Ia 3, .map 23, Ia 1, Ia 1] 126 false false [] false),
   (30, .cells [Ia 9, .slo 544 0 1 0, .map 29, Ia 3, Ia 0] 133 false false [] false),
   (46, .cells [Ia 3, Ia 4, Ia 3, Ia 3, Ia 90, Ia 4, Ia 3, Ia 3, .ptr 45 0] 135 false false [] false),
   (63, .cells [Ia 3, Ia 4, Ia 3, Ia 3, Ia 90, Ia 4, Ia 3, Ia 3, .ptr 61 0, .map 62] 111 false false [] false),
   (65, .cells [.sl 64 0 3 3, .slo 1796 0 39 0] 139 false false [] false),
   (114, .cells [Ia 1] 3 true false [] false),
   (20, .map [] 1673),
   (14, .cells [.slo 105 0 1 0, Ia 1] 162 false false [] false),
   (16, .cells [.map 15, Ia 1] 165 false false [] false),
   (17, .map [] 110),
   (18, .map [] 112),
   (23, .map [(Ia 1, .agg [Ta, .slo 1123 0 3 0, .nilsl, .slo 1125 0 3 0])] 24),
   (544, .cells [.ptr 542 0] 127 true false [] false),
   (29, .map [(.agg [.int .u16 (.ofNat 0), .int .u16 (.ofNat 0)], .int .u32 (.ofNat 1)), (.agg [.int .u16 (.ofNat 0), .int .u16 (.ofNat 9)], .int .u32 (.ofNat 1)), (.agg [.int .u16 (.ofNat 0), .int .u16 (.ofNat 18)], .int .u32 (.ofNat 1))] 1068),
   (45, .cells [Ia 30, .nilsl, .map 44, Ia 0, Ia 0] 133 false false [] false),
   (61, .cells [Ia 35, .slo 646 0 1 0, .map 60, Ia 3, Ia 0] 133 false false [] false),
   (62, .map [] 62),
   (64, .cells [Ia 0, Ia 13, Ia 0, Ia 0, Ia 0, Ia 0] 239 false false [] false),
   (1796, .cells [Ua 1, Ia 0, Ia 0, Ia 0, Fa, Ea, .nilsl, Ua 2, Ia 0, Ia 0, Ia 0, Fa, Ea, .nilsl, Ua 3, Ia 0, Ia 0, Ia 0, Fa, Ea, .nilsl, Ua 1, Ia 0, Ia 1, Ia 0, Fa, Ea, .nilsl, Ua 2, Ia 0, Ia 1, Ia 0, Fa, Ea, .nilsl, Ua 3, Ia 0, Ia 1, Ia 30, Fa, Ea, .nilsl, Ua 1, Ia 0, Ia 2, Ia 0, Fa, Ea, .nilsl, Ua 2, Ia 0, Ia 2, Ia 0, Fa, Ea, .nilsl, Ua 3, Ia 0, Ia 2, Ia 32, Fa, Ea, .nilsl, Ua 1, Ia 0, Ia 3, Ia 0, Fa, Ea, .nilsl, Ua 2, Ia 0, Ia 3, Ia 0, Fa, Ea, .nilsl, Ua 3, Ia 0, Ia 3, Ia 32, Fa, Ea, .nilsl, Ua 1, Ia 0, Ia 4, Ia 0, Fa, Ea, .nilsl, Ua 2, Ia 0, Ia 4, Ia 0, Fa, Ea, .nilsl, Ua 3, Ia 0, Ia 4, Ia 32, Fa, Ea, .nilsl, Ua 1, Ia 0, Ia 5, Ia 0, Fa, Ea, .nilsl, Ua 2, Ia 0, Ia 5, Ia 0, Fa, Ea, .nilsl, Ua 3, Ia 0, Ia 5, Ia 0, Fa, Ea, .nilsl, Ua 1, Ia 0, Ia 6, Ia 0, Fa, Ea, .nilsl, Ua 2, Ia 0, Ia 6, Ia 0, Fa, Ea, .nilsl, Ua 3, Ia 0, Ia 6, Ia 0, Fa, Ea, .nilsl, Ua 1, Ia 0, Ia 7, Ia 0, Fa, Ea, .nilsl, Ua 2, Ia 0, Ia 7, Ia 0, Fa, Ea, .nilsl, Ua 3, Ia 0, Ia 7, Ia 0, Fa, Ea, .nilsl, Ua 1, Ia 0, Ia 8, Ia 0, Fa, Ea, .nilsl, Ua 2, Ia 0, Ia 8, Ia 0, Fa, Ea, .nilsl, Ua 3, Ia 0, Ia 8, Ia 0, Fa, Ea, .nilsl, Ua 1, Ia 0, Ia 9, Ia 0, Fa, Ea, .nilsl, Ua 2, Ia 0, Ia 9, Ia 0, Fa, Ea, .nilsl, Ua 3, Ia 0, Ia 9, Ia 34, Fa, Ea, .nilsl, Ua 1, Ia 0, Ia 10, Ia 0, Fa, Ea, .nilsl, Ua 2, Ia 0, Ia 10, Ia 0, Fa, Ea, .nilsl, Ua 3, Ia 0, Ia 10, Ia 0, Ta, Ea, .nilsl, Ua 1, Ia 0, Ia 11, Ia 0, Fa, Ea, .nilsl, Ua 2, Ia 0, Ia 11, Ia 0, Fa, Ea, .nilsl, Ua 3, Ia 0, Ia 11, Ia 0, Fa, Ea, .nilsl, Ua 1, Ia 0, Ia 12, Ia 0, Fa, Ea, .nilsl, Ua 2, Ia 0, Ia 12, Ia 0, Fa, Ea, .nilsl, Ua 3, Ia 0, Ia 12, Ia 0, Fa, Ea, .nilsl] 196 true false [1788, 1767, 1752, 1742, 1588, 1573, 1506, 1350, 1335, 1314, 1214, 1199, 1065, 952, 937, 803, 690, 675, 539, 434, 419, 401, 312, 297, 290, 255, 240, 233, 211, 196, 189, 167, 152, 145, 139, 126, 119, 83] false),
   (105, .cells [Ua 3, Ia 1] 289 true false [] false),
   (15, .map [(Ia 1, Ia 1)] 1781),
   (1123, .cells [.str [97], .str [98], .str [99]] 9 true false [] false),
   (1125, .cells [.int .u64 (.ofNat 1), .int .u64 (.ofNat 38654705665), .int .u64 (.ofNat 77309411329)] 74 true false [] false),
   (542, .tree (.nd (.nd (.nd (.nd (.nd (.nd (.nd (.nd (.nd (.nd (.nd (.nd (lit10t0) (Ua 0) (.lf)) (Ua 0) (lit10t0)) (Ua 0) (lit10t1)) (Ua 0) (lit10t2)) (Ua 0) (lit10t3)) (Ua 0) (lit10t4)) (Ua 0) (lit10t5)) (Ua 0) (lit10t6)) (Ua 0) (lit10t7)) (Ua 0) (.nd (.nd (.nd (.nd (.nd (.nd (.nd (.nd (.nd (.nd (.lf) (.map 540) (.lf)) (Ua 0) (.lf)) (Ua 0) (lit10t0)) (Ua 0) (lit10t1)) (Ua 0) (lit10t2)) (Ua 0) (lit10t3)) (Ua 0) (lit10t4)) (Ua 0) (lit10t5)) (Ua 0) (lit10t6)) (Ua 0) (lit10t7))) (Ua 0) (.nd (.nd (.nd (.nd (.nd (.nd (.nd (.nd (.nd (.nd (.nd (.lf) (Ia 3) (.lf)) (Ua 0) (.lf)) (Ua 0) (lit10t0)) (Ua 0) (lit10t1)) (Ua 0) (lit10t2)) (Ua 0) (lit10t3)) (Ua 0) (lit10t4)) (Ua 0) (lit10t5)) (Ua 1) (lit10t6)) (Ua 2) (lit10t7)) (Ua 0) (.nd (lit10t7) (Ua 35) (lit10t7)))) (Ua 2) (.nd (.nd (.nd (.nd (.nd (.nd (.nd (.nd (.nd (.nd (.nd (.nd (.lf) (Ia 9) (.lf)) (Ua 0) (.lf)) (Ua 0) (lit10t0)) (Ua 0) (lit10t1)) (Ua 0) (lit10t2)) (Ua 0) (lit10t3)) (Ua 0) (lit10t4)) (Ua 0) (lit10t5)) (Ua 0) (lit10t6)) (Ua 1) (lit10t7)) (Ua 0) (.nd (lit10t7) (Ua 0) (lit10t7))) (Ua 0) (.nd (.nd (.nd (.nd (.nd (.nd (.nd (.nd (.nd (.nd (.nd (.lf) (.int .u16 (.ofNat 65535)) (.lf)) (Ua 0) (.lf)) (Ua 0) (lit10t0)) (Ua 0) (lit10t1)) (Ua 0) (lit10t2)) (Ua 0) (lit10t3)) (Ua 0) (lit10t4)) (Ua 0) (lit10t5)) (Ua 2) (lit10t6)) (Ua 0) (.nd (lit10t6) (Ua 1) (lit10t6))) (Ua 0) (.nd (.nd (lit10t6) (Ua 70) (lit10t6)) (Ua 0) (lit10t7))))) 4100 170 false false [] false),
   (44, .map [] 44),
   (646, .cells [.ptr 644 0] 127 true false [] false),
   (60, .map [(.agg [.int .u16 (.ofNat 0), .int .u16 (.ofNat 0)], .int .u32 (.ofNat 1)), (.agg [.int .u16 (.ofNat 0), .int .u16 (.ofNat 35)], .int .u32 (.ofNat 1)), (.agg [.int .u16 (.ofNat 0), .int .u16 (.ofNat 70)], .int .u32 (.ofNat 1))] 1173),
   (540, .map [(.int .u16 (.ofNat 0), .agg []), (.int .u16 (.ofNat 9), .agg []), (.int .u16 (.ofNat 18), .agg [])] 1066),
   (644, .tree (.nd (.nd (.nd (lit10t8) (Ua 0) (.nd (.nd (.nd (.nd (.nd (.nd (.nd (.nd (.nd (.nd (.lf) (.map 642) (.lf)) (Ua 0) (.lf)) (Ua 0) (lit10t0)) (Ua 0) (lit10t1)) (Ua 0) (lit10t2)) (Ua 0) (lit10t3)) (Ua 0) (lit10t4)) (Ua 1) (lit10t5)) (Ua 1) (lit10t6)) (Ua 0) (lit10t9))) (Ua 0) (.nd (.nd (.nd (lit10t10) (Ua 0) (lit10t6)) (Ua 0) (.nd (lit10t6) (Ua 0) (lit10t11))) (Ua 0) (lit10t12))) (Ua 1) (.nd (.nd (.nd (.nd (.nd (.nd (.nd (.nd (.nd (.nd (.nd (.nd (.lf) (Ia 35) (.lf)) (Ua 0) (.lf)) (Ua 0) (lit10t0)) (Ua 0) (lit10t1)) (Ua 0) (lit10t2)) (Ua 0) (lit10t3)) (Ua 0) (lit10t4)) (Ua 0) (lit10t5)) (Ua 0) (lit10t6)) (Ua 1) (lit10t7)) (Ua 0) (.nd (.nd (lit10t6) (Ua 49) (lit10t6)) (Ua 0) (lit10t9))) (Ua 0) (.nd (.nd (.nd (lit10t13) (Ua 0) (lit10t6)) (Ua 0) (.nd (lit10t6) (Ua 0) (.nd (.nd (lit10t4) (Ua 51) (lit10t4)) (Ua 0) (lit10t5)))) (Ua 0) (.nd (lit10t14) (Ua 0) (lit10t14))))) 4100 170 false false [] false),
   (642, .map [(.int .u16 (.ofNat 0), .agg []), (.int .u16 (.ofNat 35), .agg []), (.int .u16 (.ofNat 70), .agg [])] 1171),
   (1788, .bare 266 196 true true [1767, 1752, 1742, 1588, 1573, 1506, 1350, 1335, 1314, 1214, 1199, 1065, 952, 937, 803, 690, 675, 539, 434, 419, 401, 312, 297, 290, 255, 240, 233, 211, 196, 189, 167, 152, 145, 139, 126, 119, 83] false),
   (1767, .bare 259 196 true true [1752, 1742, 1588, 1573, 1506, 1350, 1335, 1314, 1214, 1199, 1065, 952, 937, 803, 690, 675, 539, 434, 419, 401, 312, 297, 290, 255, 240, 233, 211, 196, 189, 167, 152, 145, 139, 126, 119, 83] false),
   (1752, .bare 252 196 true true [1742, 1588, 1573, 1506, 1350, 1335, 1314, 1214, 1199, 1065, 952, 937, 803, 690, 675, 539, 434, 419, 401, 312, 297, 290, 255, 240, 233, 211, 196, 189, 167, 152, 145, 139, 126, 119, 83] false),
   (1742, .bare 245 196 true true [1588, 1573, 1506, 1350, 1335, 1314, 1214, 1199, 1065, 952, 937, 803, 690, 675, 539, 434, 419, 401, 312, 297, 290, 255, 240, 233, 211, 196, 189, 167, 152, 145, 139, 126, 119, 83] false),
   (1588, .bare 238 196 true true [1573, 1506, 1350, 1335, 1314, 1214, 1199, 1065, 952, 937, 803, 690, 675, 539, 434, 419, 401, 312, 297, 290, 255, 240, 233, 211, 196, 189, 167, 152, 145, 139, 126, 119, 83] false),
   (1573, .bare 231 196 true true [1506, 1350, 1335, 1314, 1214, 1199, 1065, 952, 937, 803, 690, 675, 539, 434, 419, 401, 312, 297, 290, 255, 240, 233, 211, 196, 189, 167, 152, 145, 139, 126, 119, 83] false),
   (1506, .bare 224 196 true true [1350, 1335, 1314, 1214, 1199, 1065, 952, 937, 803, 690, 675, 539, 434, 419, 401, 312, 297, 290, 255, 240, 233, 211, 196, 189, 167, 152, 145, 139, 126, 119, 83] false),
   (1350, .bare 217 196 true true [1335, 1314, 1214, 1199, 1065, 952, 937, 803, 690, 675, 539, 434, 419, 401, 312, 297, 290, 255, 240, 233, 211, 196, 189, 167, 152, 145, 139, 126, 119, 83] false),
   (1335, .bare 210 196 true true [1314, 1214, 1199, 1065, 952, 937, 803, 690, 675, 539, 434, 419, 401, 312, 297, 290, 255, 240, 233, 211, 196, 189, 167, 152, 145, 139, 126, 119, 83] false),
   (1314, .bare 203 196 true true [1214, 1199, 1065, 952, 937, 803, 690, 675, 539, 434, 419, 401, 312, 297, 290, 255, 240, 233, 211, 196, 189, 167, 152, 145, 139, 126, 119, 83] false),
   (1214, .bare 196 196 true true [1199, 1065, 952, 937, 803, 690, 675, 539, 434, 419, 401, 312, 297, 290, 255, 240, 233, 211, 196, 189, 167, 152, 145, 139, 126, 119, 83] false),
   (1199, .bare 189 196 true true [1065, 952, 937, 803, 690, 675, 539, 434, 419, 401, 312, 297, 290, 255, 240, 233, 211, 196, 189, 167, 152, 145, 139, 126, 119, 83] false),
   (1065, .bare 182 196 true true [952, 937, 803, 690, 675, 539, 434, 419, 401, 312, 297, 290, 255, 240, 233, 211, 196, 189, 167, 152, 145, 139, 126, 119, 83] false),
   (952, .bare 175 196 true true [937, 803, 690, 675, 539, 434, 419, 401, 312, 297, 290, 255, 240, 233, 211, 196, 189, 167, 152, 145, 139, 126, 119, 83] false),
   (937, .bare 168 196 true true [803, 690, 675, 539, 434, 419, 401, 312, 297, 290, 255, 240, 233, 211, 196, 189, 167, 152, 145, 139, 126, 119, 83] false),
   (803, .bare 161 196 true true [690, 675, 539, 434, 419, 401, 312, 297, 290, 255, 240, 233, 211, 196, 189, 167, 152, 145, 139, 126, 119, 83] false),
   (690, .bare 154 196 true true [675, 539, 434, 419, 401, 312, 297, 290, 255, 240, 233, 211, 196, 189, 167, 152, 145, 139, 126, 119, 83] false),
   (675, .bare 147 196 true true [539, 434, 419, 401, 312, 297, 290, 255, 240, 233, 211, 196, 189, 167, 152, 145, 139, 126, 119, 83] false),
   (539, .bare 140 196 true true [434, 419, 401, 312, 297, 290, 255, 240, 233, 211, 196, 189, 167, 152, 145, 139, 126, 119, 83] false),
   (434, .bare 133 196 true true [419, 401, 312, 297, 290, 255, 240, 233, 211, 196, 189, 167, 152, 145, 139, 126, 119, 83] false),
   (419, .bare 126 196 true true [401, 312, 297, 290, 255, 240, 233, 211, 196, 189, 167, 152, 145, 139, 126, 119, 83] false),
   (401, .bare 119 196 true true [312, 297, 290, 255, 240, 233, 211, 196, 189, 167, 152, 145, 139, 126, 119, 83] false),
   (312, .bare 112 196 true true [297, 290, 255, 240, 233, 211, 196, 189, 167, 152, 145, 139, 126, 119, 83] false),
   (297, .bare 105 196 true true [290, 255, 240, 233, 211, 196, 189, 167, 152, 145, 139, 126, 119, 83] false),
   (290, .bare 98 196 true true [255, 240, 233, 211, 196, 189, 167, 152, 145, 139, 126, 119, 83] false),
   (255, .bare 91 196 true true [240, 233, 211, 196, 189, 167, 152, 145, 139, 126, 119, 83] false),
   (240, .bare 84 196 true true [233, 211, 196, 189, 167, 152, 145, 139, 126, 119, 83] false),
   (233, .bare 77 196 true true [211, 196, 189, 167, 152, 145, 139, 126, 119, 83] false),
   (211, .bare 70 196 true true [196, 189, 167, 152, 145, 139, 126, 119, 83] false),
   (196, .bare 63 196 true true [189, 167, 152, 145, 139, 126, 119, 83] false),
   (189, .bare 56 196 true true [167, 152, 145, 139, 126, 119, 83] false),
   (167, .bare 49 196 true true [152, 145, 139, 126, 119, 83] false),
   (152, .bare 42 196 true true [145, 139, 126, 119, 83] false),
   (145, .bare 35 196 true true [139, 126, 119, 83] false),
   (139, .bare 28 196 true true [126, 119, 83] false),
   (126, .bare 21 196 true true [119, 83] false),
   (119, .bare 14 196 true true [83] false),
   (83, .bare 7 196 true true [] false)],
  1801, 2⟩
noncomputable def lit11t0 : Tr AV := .nd (.lf) (Ua 0) (.lf)
noncomputable def lit11t1 : Tr AV := .nd (lit11t0) (Ua 0) (lit11t0)
noncomputable def lit11t2 : Tr AV := .nd (lit11t1) (Ua 0) (lit11t1)
noncomputable def lit11t3 : Tr AV := .nd (lit11t2) (Ua 0) (lit11t2)
noncomputable def lit11t4 : Tr AV := .nd (lit11t3) (Ua 0) (lit11t3)
noncomputable def lit11t5 : Tr AV := .nd (lit11t4) (Ua 0) (lit11t4)
noncomputable def lit11t6 : Tr AV := .nd (lit11t5) (Ua 0) (lit11t5)
noncomputable def lit11t7 : Tr AV := .nd (lit11t6) (Ua 0) (lit11t6)
noncomputable def lit11t8 : Tr AV := .nd (.nd (.nd (.nd (.nd (.nd (.nd (.nd (.nd (lit11t0) (Ua 0) (.lf)) (Ua 0) (lit11t0)) (Ua 0) (lit11t1)) (Ua 0) (lit11t2)) (Ua 0) (lit11t3)) (Ua 0) (lit11t4)) (Ua 0) (lit11t5)) (Ua 0) (lit11t6)) (Ua 0) (lit11t7)
noncomputable def lit11t9 : Tr AV := .nd (.nd (lit11t5) (Ua 1) (lit11t5)) (Ua 0) (lit11t6)
noncomputable def lit11t10 : Tr AV := .nd (.nd (.nd (.nd (.nd (.nd (.nd (.nd (.lf) (Ia 3) (.lf)) (Ua 0) (.lf)) (Ua 0) (lit11t0)) (Ua 0) (lit11t1)) (Ua 0) (lit11t2)) (Ua 0) (lit11t3)) (Ua 0) (lit11t4)) (Ua 0) (lit11t5)
noncomputable def lit11t11 : Tr AV := .nd (.nd (lit11t4) (Ua 1) (lit11t4)) (Ua 0) (lit11t5)
noncomputable def lit11t12 : Tr AV := .nd (lit11t7) (Ua 0) (lit11t7)
noncomputable def lit11t13 : Tr AV := .nd (.nd (.nd (.nd (.nd (.nd (.nd (.nd (.lf) (.int .u16 (.ofNat 65535)) (.lf)) (Ua 0) (.lf)) (Ua 0) (lit11t0)) (Ua 0) (lit11t1)) (Ua 0) (lit11t2)) (Ua 0) (lit11t3)) (Ua 0) (lit11t4)) (Ua 0) (lit11t5)
noncomputable def lit11t14 : Tr AV := .nd (lit11t11) (Ua 0) (lit11t6)
noncomputable def lit11 : Go.Proofs.YtajdeaabgplacaaGreatDoor.Sev.Lit := ⟨[Fa, .nilptr, .ptr 22 0, Ia 0, .ptr 66 0, .tup [], .ptr 1801 0, Ia 1, .ptr 1827 0, Ia 2, Ta, Ia 3, .tup [], .tup [], .tup [], .tup [], .tup [], .tup [], .tup [], .tup [], .tup [], .tup [], .tup [.ptr 22 0, Ia 0], .agg [Ia 3, Ia 4, Ia 3, Ia 3, Ia 90, Ia 4, Ia 3, Ia 3], .tup [.ptr 22 0, Ia 0], .ptr 22 0, Ia 0, .agg [.nilsl], .ptr 66 0, Ta, Fa, Fa, Ia 0, Fa, Fa, Fa, .nilptr, .ptr 22 0, Ta, Fa, Fa, Fa, .nilptr, .agg [Ia 0, Fa, Ea, .nilsl], Ia 0, Fa, Fa, Fa, .agg [Ua 3, Ia 0, Ea, Ea, Ea, Ia 0, Ua 0], .ptr 66 0, .ptr 69 0, Ta, Fa, Fa, Fa, .agg [Ua 2, Ia 0, Ea, Ea, Ea, Ia 0, Ua 0], .ptr 66 0, .ptr 71 0, .ptr 22 0, Ta, Fa, Fa, Fa, .agg [Ua 0, Ia 0, Ea, Ea, Ea, Ia 0, Ua 0], .ptr 66 0, .ptr 73 0, .ptr 22 0, Ta, Fa, Fa, .ptr 22 0, .ptr 66 0, .agg [Ua 1, Ia 0, Ea, Ea, Ea, Ia 0, Ua 0], .tup [Ia 2, .agg [Ia 0, Fa, Ea, .nilsl]], .agg [Ua 3, Ia 2, .str [107], Ea, Ea, Ia 0, Ua 0], .agg [Ia 30, Fa, Ea, .nilsl], .agg [Ua 3, Ia 2, .str [107], Ea, Ea, Ia 0, Ua 0, Ia 1, Ia 30, Fa, Ea, .nilsl], .agg [Ua 3, Ia 1, .str [108, 111, 110, 103, 33], Ea, Ea, Ia 0, Ua 0], .agg [Ia 32, Fa, Ea, .nilsl], .agg [Ua 3, Ia 1, .str [108, 111, 110, 103, 33], Ea, Ea, Ia 0, Ua 0, Ia 1, Ia 32, Fa, Ea, .nilsl], .agg [Ua 3, Ia 1, Ea, Ea, Ea, Ia 0, Ua 0], .agg [Ia 32, Fa, Ea, .nilsl], .agg [Ua 3, Ia 1, Ea, Ea, Ea, Ia 0, Ua 0, Ia 1, Ia 32, Fa, Ea, .nilsl], .agg [Ua 3, Ia 1, .str [107], Ea, .str [108, 111, 110, 103], Ia 0, Ua 0], .agg [Ia 32, Fa, Ea, .nilsl], .agg [Ua 3, Ia 1, .str [107], Ea, .str [108, 111, 110, 103], Ia 0, Ua 0, Ia 1, Ia 32, Fa, Ea, .nilsl], .agg [Ua 4, Ia 1, .str [97], Ea, .str [108, 111, 110, 103], Ia 0, Ua 0], .agg [Ia 0, Fa, Ea, .nilsl], .agg [Ua 4, Ia 1, .str [97], Ea, .str [108, 111, 110, 103], Ia 0, Ua 0, Ia 4, Ia 0, Fa, Ea, .nilsl], .agg [Ua 3, Ia 1, .str [97], Ea, .str [49], Ia 0, Ua 0], .agg [Ia 0, Fa, Ea, .nilsl], .agg [Ua 3, Ia 1, .str [97], Ea, .str [49], Ia 0, Ua 0, Ia 8, Ia 0, Fa, Ea, .nilsl], .agg [Ua 3, Ia 1, .str [98], Ea, .str [50], Ia 0, Ua 0], .agg [Ia 0, Fa, Ea, .nilsl], .agg [Ua 3, Ia 1, .str [98], Ea, .str [50], Ia 0, Ua 0, Ia 8, Ia 0, Fa, Ea, .nilsl], .agg [Ua 3, Ia 1, .str [99], Ea, .str [51], Ia 0, Ua 0], .agg [Ia 0, Fa, Ea, .nilsl], .agg [Ua 3, Ia 1, .str [99], Ea, .str [51], Ia 0, Ua 0, Ia 8, Ia 0, Fa, Ea, .nilsl], .agg [Ua 3, Ia 1, .str [100], Ea, .str [52], Ia 0, Ua 0], .agg [Ia 34, Fa, Ea, .nilsl], .agg [Ua 3, Ia 1, .str [100], Ea, .str [52], Ia 0, Ua 0, Ia 4, Ia 34, Fa, Ea, .nilsl], .agg [Ua 4, Ia 1, .str [98], Ea, Ea, Ia 0, Ua 0], .agg [Ia 0, Ta, Ea, .nilsl], .agg [Ua 4, Ia 1, .str [98], Ea, Ea, Ia 0, Ua 0, Ia 8, Ia 0, Ta, Ea, .nilsl], .agg [Ua 4, Ia 1, .str [98], Ea, Ea, Ia 0, Ua 0], .agg [Ia 0, Fa, Ea, .nilsl], .agg [Ua 4, Ia 1, .str [98], Ea, Ea, Ia 0, Ua 0, Ia 7, Ia 0, Fa, Ea, .nilsl], .agg [Ua 6, Ia 1, Ea, Ea, Ea, Ia 0, Ua 0], .agg [Ia 0, Fa, Ea, .nilsl], .agg [Ua 6, Ia 1, Ea, Ea, Ea, Ia 0, Ua 0, Ia 2, Ia 0, Fa, Ea, .nilsl], .agg [Ua 3, Ia 1, .str [97], Ea, Ea, Ia 0, Ua 0], .agg [Ia 31, Fa, Ea, .nilsl], .agg [Ua 3, Ia 1, .str [97], Ea, Ea, Ia 0, Ua 0, Ia 1, Ia 31, Fa, Ea, .nilsl], .sl 128 0 13 13, Ia 13, Ia 13, Fa, .ptr 128 144, .agg [Ua 3, Ia 1, .str [97], Ea, Ea, Ia 0, Ua 0, Ia 1, Ia 31, Fa, Ea, .nilsl], .tup [Ia 1, .agg [Ia 31, Fa, Ea, .nilsl]], .ptr 22 0, .ptr 66 0, .ptr 1801 0, .agg [Ua 3, Ia 1, .str [97], Ea, Ea, Ia 0, Ua 0], .tup [Ia 1, .agg [Ia 31, Fa, Ea, .nilsl]], Ia 1, .agg [Ia 31, Fa, Ea, .nilsl], Ia 1, .ptr 1801 7, Ia 1, Fa, Fa, .agg [Ia 31, Fa, Ea, .nilsl], .ptr 1801 8, .agg [Ia 31, Fa, Ea, .nilsl], Ta, Fa, Fa, Fa, .ptr 22 0, .ptr 22 0, .ptr 22 9, .ptr 21 0, Ia 0, Fa, Fa, Ia 13, .ptr 22 0, .ptr 66 0, .agg [Ua 1, Ia 0, Ea, Ea, Ea, Ia 0, Ua 0], .tup [Ia 2, .agg [Ia 0, Fa, Ea, .nilsl]], .tup [Ia 2, Ta], .ptr 66 0, .tup [Ia 2, Ta], Ia 2, Ta, .tup [], .tup [], .tup [], .tup [], .tup [], .tup [], .tup [], .tup [], .tup [], .tup [], .tup [], .tup [], .tup [], .tup [], .tup [], .tup [], .tup [], .tup [], .tup [], .tup [], .tup [], .tup [], .tup [], .tup [], .tup [], .tup [], .tup [], .tup [], .tup [], .tup [], .tup [], .tup [], .tup [], .tup [], .tup [], .tup [], .tup [], .tup [], .tup [], .tup [], .tup [], .tup [], .tup [], .tup [], .tup [], .tup [], .tup [], .tup [], .tup [], .tup [], .tup [], .tup [], .tup [], .tup [], .tup [], .tup [], .tup [], .tup [], .tup [], .tup [], .tup [], .tup [], .tup [], .tup [], .tup [], .tup [], .tup [], .tup [], .tup [], .tup [], .tup [], .tup [], .tup [], .tup [], .tup [], .tup [], .tup [], .tup [], .tup [], .tup [], .tup [], .tup [], .tup [], .tup [], .tup [], .tup [], .tup []],
  [(0, .cells [] 3 false false [] false),
   (1, .cells [Ua 0, Ua 0, Ua 1, Ua 1, Ua 2] 398 false false [] false),
   (22, .cells [Ia 3, Ia 4, Ia 3, Ia 3, Ia 90, Ia 4, Ia 3, Ia 3, .ptr 19 0, .ptr 21 0, .ptr 25 0, .ptr 30 0, .ptr 46 0, .ptr 63 0, .ptr 65 0] 56 false false [] false),
   (66, .cells [.slo 1872 0 2 0] 33 false false [] false),
   (1801, .cells [Ua 3, Ia 1, .str [97], Ea, Ea, Ia 0, Ua 0, Ia 1, Ia 31, Fa, Ea, .nilsl] 45 false false [] false),
   (1827, .cells [Ia 31, Fa, Ea, .nilsl] 38 false false [] false),
   (69, .cells [Ua 3, Ia 0, Ea, Ea, Ea, Ia 0, Ua 0, .ptr 66 0, Ia 0, Ia 0, Ia 0, Ia 0, .nilsl, Ia 0, Fa, Ea, .nilsl, Fa, .nilptr, .int .u64 (.ofNat 0), .nilptr, .int .u64 (.ofNat 0), Ua 0, .nilsl, .nilsl, Ia 0, Fa, Fa, Fa, Fa, Ia 0, Ua 0, .nilptr, .nilptr, .nilptr, .fn (.func 26) [.ptr 69 0] []] 99 false false [] false),
   (71, .cells [Ua 2, Ia 0, Ea, Ea, Ea, Ia 0, Ua 0, .ptr 66 0, Ia 0, Ia 0, Ia 0, Ia 0, .nilsl, Ia 0, Fa, Ea, .nilsl, Fa, .nilptr, .int .u64 (.ofNat 0), .nilptr, .int .u64 (.ofNat 0), Ua 0, .nilsl, .nilsl, Ia 0, Fa, Fa, Fa, Fa, Ia 0, Ua 0, .nilptr, .nilptr, .nilptr, .nilfn] 99 false false [] false),
   (73, .cells [Ua 0, Ia 0, Ea, Ea, Ea, Ia 0, Ua 0, .ptr 66 0, Ia 0, Ia 0, Ia 0, Ia 0, .nilsl, Ia 0, Fa, Ea, .nilsl, Fa, .nilptr, .int .u64 (.ofNat 0), .nilptr, .int .u64 (.ofNat 0), Ua 0, .nilsl, .nilsl, Ia 0, Fa, Fa, Fa, Fa, Ia 0, Ua 0, .nilptr, .nilptr, .nilptr, .nilfn] 99 false false [] false),
   (128, .cells [Ua 3, Ia 2, .str [107], Ea, Ea, Ia 0, Ua 0, Ia 1, Ia 30, Fa, Ea, .nilsl, Ua 3, Ia 1, .str [108, 111, 110, 103, 33], Ea, Ea, Ia 0, Ua 0, Ia 1, Ia 32, Fa, Ea, .nilsl, Ua 3, Ia 1, Ea, Ea, Ea, Ia 0, Ua 0, Ia 1, Ia 32, Fa, Ea, .nilsl, Ua 3, Ia 1, .str [107], Ea, .str [108, 111, 110, 103], Ia 0, Ua 0, Ia 1, Ia 32, Fa, Ea, .nilsl, Ua 4, Ia 1, .str [97], Ea, .str [108, 111, 110, 103], Ia 0, Ua 0, Ia 4, Ia 0, Fa, Ea, .nilsl, Ua 3, Ia 1, .str [97], Ea, .str [49], Ia 0, Ua 0, Ia 8, Ia 0, Fa, Ea, .nilsl, Ua 3, Ia 1, .str [98], Ea, .str [50], Ia 0, Ua 0, Ia 8, Ia 0, Fa, Ea, .nilsl, Ua 3, Ia 1, .str [99], Ea, .str [51], Ia 0, Ua 0, Ia 8, Ia 0, Fa, Ea, .nilsl, Ua 3, Ia 1, .str [100], Ea, .str [52], Ia 0, Ua 0, Ia 4, Ia 34, Fa, Ea, .nilsl, Ua 4, Ia 1, .str [98], Ea, Ea, Ia 0, Ua 0, Ia 8, Ia 0, Ta, Ea, .nilsl, Ua 4, Ia 1, .str [98], Ea, Ea, Ia 0, Ua 0, Ia 7, Ia 0, Fa, Ea, .nilsl, Ua 6, Ia 1, Ea, Ea, Ea, Ia 0, Ua 0, Ia 2, Ia 0, Fa, Ea, .nilsl, Ua 3, Ia 1, .str [97], Ea, Ea, Ia 0, Ua 0, Ia 1, Ia 31, Fa, Ea, .nilsl] 45 false false [] false),
   (21, .cells [.map 20] 108 false false [] false),
   (19, .cells [Ia 3, Ia 4, Ia 3, Ia 3, Ia 90, Ia 4, Ia 3, Ia 3, Ua 2, .ptr 14 0, .ptr 16 0, Ia 0, Ia 3, .map 17, .map 18] 120 false false [] false),
   (25, .cells [Ia 3, .map 23, Ia 1, Ia 1] 126 false false [] false),
   (30, .cells [Ia 9, .slo 544 0 1 0, .map 29, Ia 3, Ia 0] 133 false false [] false),
   (46, .cells [Ia 3, Ia 4, Ia 3, Ia 3, Ia 90, Ia 4, Ia 3, Ia 3, .ptr 45 0] 135 false false [] false),
   (63, .cells [Ia 3, Ia 4, Ia 3, Ia 3, Ia 90, Ia 4, Ia 3, Ia 3, .ptr 61 0, .map 62] 111 false false [] false),
   (65, .cells [.sl 64 0 3 3, .slo 1884 0 45 0] 139 false false [] false),
   (1872, .cells [Ia 1, Ia 2] 3 true false [114] false),
   (20, .map [] 1673),
   (14, .cells [.slo 1863 0 2 0, Ia 1] 162 false false [] false),
   (16, .cells [.map 15, Ia 1] 165 false false [] false),
   (17, .map [(Ia 2, .agg [Ia 1, Ia 2, Ia 2, .sl 1867 0 0 0])] 1868),
   (18, .map [(Ia 2, .map 1869)] 1870),
   (23, .map [(Ia 1, .agg [Ta, .slo 1123 0 3 0, .nilsl, .slo 1125 0 3 0])] 24),
   (544, .cells [.ptr 542 0] 127 true false [] false),
   (29, .map [(.agg [.int .u16 (.ofNat 0), .int .u16 (.ofNat 0)], .int .u32 (.ofNat 1)), (.agg [.int .u16 (.ofNat 0), .int .u16 (.ofNat 9)], .int .u32 (.ofNat 1)), (.agg [.int .u16 (.ofNat 0), .int .u16 (.ofNat 18)], .int .u32 (.ofNat 1))] 1068),
   (45, .cells [Ia 30, .nilsl, .map 44, Ia 0, Ia 0] 133 false false [] false),
   (61, .cells [Ia 35, .slo 646 0 1 0, .map 60, Ia 3, Ia 0] 133 false false [] false),
   (62, .map [] 62),
   (64, .cells [Ia 0, Ia 15, Ia 0, Ia 0, Ia 0, Ia 0] 239 false false [] false),
   (1884, .cells [Ua 1, Ia 0, Ia 0, Ia 0, Fa, Ea, .nilsl, Ua 2, Ia 0, Ia 0, Ia 0, Fa, Ea, .nilsl, Ua 3, Ia 0, Ia 0, Ia 0, Fa, Ea, .nilsl, Ua 1, Ia 0, Ia 1, Ia 0, Fa, Ea, .nilsl, Ua 2, Ia 0, Ia 1, Ia 0, Fa, Ea, .nilsl, Ua 3, Ia 0, Ia 1, Ia 30, Fa, Ea, .nilsl, Ua 1, Ia 0, Ia 2, Ia 0, Fa, Ea, .nilsl, Ua 2, Ia 0, Ia 2, Ia 0, Fa, Ea, .nilsl, Ua 3, Ia 0, Ia 2, Ia 32, Fa, Ea, .nilsl, Ua 1, Ia 0, Ia 3, Ia 0, Fa, Ea, .nilsl, Ua 2, Ia 0, Ia 3, Ia 0, Fa, Ea, .nilsl, Ua 3, Ia 0, Ia 3, Ia 32, Fa, Ea, .nilsl, Ua 1, Ia 0, Ia 4, Ia 0, Fa, Ea, .nilsl, Ua 2, Ia 0, Ia 4, Ia 0, Fa, Ea, .nilsl, Ua 3, Ia 0, Ia 4, Ia 32, Fa, Ea, .nilsl, Ua 1, Ia 0, Ia 5, Ia 0, Fa, Ea, .nilsl, Ua 2, Ia 0, Ia 5, Ia 0, Fa, Ea, .nilsl, Ua 3, Ia 0, Ia 5, Ia 0, Fa, Ea, .nilsl, Ua 1, Ia 0, Ia 6, Ia 0, Fa, Ea, .nilsl, Ua 2, Ia 0, Ia 6, Ia 0, Fa, Ea, .nilsl, Ua 3, Ia 0, Ia 6, Ia 0, Fa, Ea, .nilsl, Ua 1, Ia 0, Ia 7, Ia 0, Fa, Ea, .nilsl, Ua 2, Ia 0, Ia 7, Ia 0, Fa, Ea, .nilsl, Ua 3, Ia 0, Ia 7, Ia 0, Fa, Ea, .nilsl, Ua 1, Ia 0, Ia 8, Ia 0, Fa, Ea, .nilsl, Ua 2, Ia 0, Ia 8, Ia 0, Fa, Ea, .nilsl, Ua 3, Ia 0, Ia 8, Ia 0, Fa, Ea, .nilsl, Ua 1, Ia 0, Ia 9, Ia 0, Fa, Ea, .nilsl, Ua 2, Ia 0, Ia 9, Ia 0, Fa, Ea, .nilsl, Ua 3, Ia 0, Ia 9, Ia 34, Fa, Ea, .nilsl, Ua 1, Ia 0, Ia 10, Ia 0, Fa, Ea, .nilsl, Ua 2, Ia 0, Ia 10, Ia 0, Fa, Ea, .nilsl, Ua 3, Ia 0, Ia 10, Ia 0, Ta, Ea, .nilsl, Ua 1, Ia 0, Ia 11, Ia 0, Fa, Ea, .nilsl, Ua 2, Ia 0, Ia 11, Ia 0, Fa, Ea, .nilsl, Ua 3, Ia 0, Ia 11, Ia 0, Fa, Ea, .nilsl, Ua 1, Ia 0, Ia 12, Ia 0, Fa, Ea, .nilsl, Ua 2, Ia 0, Ia 12, Ia 0, Fa, Ea, .nilsl, Ua 3, Ia 0, Ia 12, Ia 0, Fa, Ea, .nilsl, Ua 1, Ia 0, Ia 13, Ia 0, Fa, Ea, .nilsl, Ua 2, Ia 0, Ia 13, Ia 0, Fa, Ea, .nilsl, Ua 3, Ia 0, Ia 13, Ia 31, Fa, Ea, .nilsl, Ua 1, Ia 0, Ia 14, Ia 0, Fa, Ea, .nilsl, Ua 2, Ia 0, Ia 14, Ia 0, Fa, Ea, .nilsl, Ua 3, Ia 0, Ia 14, Ia 0, Fa, Ea, .nilsl] 196 true false [1877, 1839, 1825, 1818, 1811, 1796, 1788, 1767, 1752, 1742, 1588, 1573, 1506, 1350, 1335, 1314, 1214, 1199, 1065, 952, 937, 803, 690, 675, 539, 434, 419, 401, 312, 297, 290, 255, 240, 233, 211, 196, 189, 167, 152, 145, 139, 126, 119, 83] false),
   (1863, .cells [Ua 3, Ia 1, Ua 1, Ia 0] 289 true false [105] false),
   (15, .map [(Ia 1, Ia 1)] 1781),
   (1867, .cells [] 3 false false [] false),
   (1869, .map [] 1869),
   (1123, .cells [.str [97], .str [98], .str [99]] 9 true false [] false),
   (1125, .cells [.int .u64 (.ofNat 1), .int .u64 (.ofNat 38654705665), .int .u64 (.ofNat 77309411329)] 74 true false [] false),
   (542, .tree (.nd (.nd (.nd (.nd (.nd (.nd (.nd (.nd (.nd (.nd (.nd (.nd (lit11t0) (Ua 0) (.lf)) (Ua 0) (lit11t0)) (Ua 0) (lit11t1)) (Ua 0) (lit11t2)) (Ua 0) (lit11t3)) (Ua 0) (lit11t4)) (Ua 0) (lit11t5)) (Ua 0) (lit11t6)) (Ua 0) (lit11t7)) (Ua 0) (.nd (.nd (.nd (.nd (.nd (.nd (.nd (.nd (.nd (.nd (.lf) (.map 540) (.lf)) (Ua 0) (.lf)) (Ua 0) (lit11t0)) (Ua 0) (lit11t1)) (Ua 0) (lit11t2)) (Ua 0) (lit11t3)) (Ua 0) (lit11t4)) (Ua 0) (lit11t5)) (Ua 0) (lit11t6)) (Ua 0) (lit11t7))) (Ua 0) (.nd (.nd (.nd (.nd (.nd (.nd (.nd (.nd (.nd (.nd (.nd (.lf) (Ia 3) (.lf)) (Ua 0) (.lf)) (Ua 0) (lit11t0)) (Ua 0) (lit11t1)) (Ua 0) (lit11t2)) (Ua 0) (lit11t3)) (Ua 0) (lit11t4)) (Ua 0) (lit11t5)) (Ua 1) (lit11t6)) (Ua 2) (lit11t7)) (Ua 0) (.nd (lit11t7) (Ua 35) (lit11t7)))) (Ua 2) (.nd (.nd (.nd (.nd (.nd (.nd (.nd (.nd (.nd (.nd (.nd (.nd (.lf) (Ia 9) (.lf)) (Ua 0) (.lf)) (Ua 0) (lit11t0)) (Ua 0) (lit11t1)) (Ua 0) (lit11t2)) (Ua 0) (lit11t3)) (Ua 0) (lit11t4)) (Ua 0) (lit11t5)) (Ua 0) (lit11t6)) (Ua 1) (lit11t7)) (Ua 0) (.nd (lit11t7) (Ua 0) (lit11t7))) (Ua 0) (.nd (.nd (.nd (.nd (.nd (.nd (.nd (.nd (.nd (.nd (.nd (.lf) (.int .u16 (.ofNat 65535)) (.lf)) (Ua 0) (.lf)) (Ua 0) (lit11t0)) (Ua 0) (lit11t1)) (Ua 0) (lit11t2)) (Ua 0) (lit11t3)) (Ua 0) (lit11t4)) (Ua 0) (lit11t5)) (Ua 2) (lit11t6)) (Ua 0) (.nd (lit11t6) (Ua 1) (lit11t6))) (Ua 0) (.nd (.nd (lit11t6) (Ua 70) (lit11t6)) (Ua 0) (lit11t7))))) 4100 170 false false [] false),
   (44, .map [] 44),
   (646, .cells [.ptr 644 0] 127 true false [] false),
   (60, .map [(.agg [.int .u16 (.ofNat 0), .int .u16 (.ofNat 0)], .int .u32 (.ofNat 1)), (.agg [.int .u16 (.ofNat 0), .int .u16 (.ofNat 35)], .int .u32 (.ofNat 1)), (.agg [.int .u16 (.ofNat 0), .int .u16 (.ofNat 70)], .int .u32 (.ofNat 1))] 1173),
   (540, .map [(.int .u16 (.ofNat 0), .agg []), (.int .u16 (.ofNat 9), .agg []), (.int .u16 (.ofNat 18), .agg [])] 1066),
   (644, .tree (.nd (.nd (.nd (lit11t8) (Ua 0) (.nd (.nd (.nd (.nd (.nd (.nd (.nd (.nd (.nd (.nd (.lf) (.map 642) (.lf)) (Ua 0) (.lf)) (Ua 0) (lit11t0)) (Ua 0) (lit11t1)) (Ua 0) (lit11t2)) (Ua 0) (lit11t3)) (Ua 0) (lit11t4)) (Ua 1) (lit11t5)) (Ua 1) (lit11t6)) (Ua 0) (lit11t9))) (Ua 0) (.nd (.nd (.nd (lit11t10) (Ua 0) (lit11t6)) (Ua 0) (.nd (lit11t6) (Ua 0) (lit11t11))) (Ua 0) (lit11t12))) (Ua 1) (.nd (.nd (.nd (.nd (.nd (.nd (.nd (.nd (.nd (.nd (.nd (.nd (.lf) (Ia 35) (.lf)) (Ua 0) (.lf)) (Ua 0) (lit11t0)) (Ua 0) (lit11t1)) (Ua 0) (lit11t2)) (Ua 0) (lit11t3)) (Ua 0) (lit11t4)) (Ua 0) (lit11t5)) (Ua 0) (lit11t6)) (Ua 1) (lit11t7)) (Ua 0) (.nd (.nd (lit11t6) (Ua 49) (lit11t6)) (Ua 0) (lit11t9))) (Ua 0) (.nd (.nd (.nd (lit11t13) (Ua 0) (lit11t6)) (Ua 0) (.nd (lit11t6) (Ua 0) (.nd (.nd (lit11t4) (Ua 51) (lit11t4)) (Ua 0) (lit11t5)))) (Ua 0) (.nd (lit11t14) (Ua 0) (lit11t14))))) 4100 170 false false [] false),
   (642, .map [(.int .u16 (.ofNat 0), .agg []), (.int .u16 (.ofNat 35), .agg []), (.int .u16 (.ofNat 70), .agg [])] 1171),
   (114, .bare 1 3 true true [] false),
   (1877, .bare 308 196 true true [1839, 1825, 1818, 1811, 1796, 1788, 1767, 1752, 1742, 1588, 1573, 1506, 1350, 1335, 1314, 1214, 1199, 1065, 952, 937, 803, 690, 675, 539, 434, 419, 401, 312, 297, 290, 255, 240, 233, 211, 196, 189, 167, 152, 145, 139, 126, 119, 83] false),
   (1839, .bare 301 196 true true [1825, 1818, 1811, 1796, 1788, 1767, 1752, 1742, 1588, 1573, 1506, 1350, 1335, 1314, 1214, 1199, 1065, 952, 937, 803, 690, 675, 539, 434, 419, 401, 312, 297, 290, 255, 240, 233, 211, 196, 189, 167, 152, 145, 139, 126, 119, 83] false),
   (1825, .bare 294 196 true true [1818, 1811, 1796, 1788, 1767, 1752, 1742, 1588, 1573, 1506, 1350, 1335, 1314, 1214, 1199, 1065, 952, 937, 803, 690, 675, 539, 434, 419, 401, 312, 297, 290, 255, 240, 233, 211, 196, 189, 167, 152, 145, 139, 126, 119, 83] false),
   (1818, .bare 287 196 true true [1811, 1796, 1788, 1767, 1752, 1742, 1588, 1573, 1506, 1350, 1335, 1314, 1214, 1199, 1065, 952, 937, 803, 690, 675, 539, 434, 419, 401, 312, 297, 290, 255, 240, 233, 211, 196, 189, 167, 152, 145, 139, 126, 119, 83] false),
   (1811, .bare 280 196 true true [1796, 1788, 1767, 1752, 1742, 1588, 1573, 1506, 1350, 1335, 1314, 1214, 1199, 1065, 952, 937, 803, 690, 675, 539, 434, 419, 401, 312, 297, 290, 255, 240, 233, 211, 196, 189, 167, 152, 145, 139, 126, 119, 83] false),
   (1796, .bare 273 196 true true [1788, 1767, 1752, 1742, 1588, 1573, 1506, 1350, 1335, 1314, 1214, 1199, 1065, 952, 937, 803, 690, 675, 539, 434, 419, 401, 312, 297, 290, 255, 240, 233, 211, 196, 189, 167, 152, 145, 139, 126, 119, 83] false),
   (1788, .bare 266 196 true true [1767, 1752, 1742, 1588, 1573, 1506, 1350, 1335, 1314, 1214, 1199, 1065, 952, 937, 803, 690, 675, 539, 434, 419, 401, 312, 297, 290, 255, 240, 233, 211, 196, 189, 167, 152, 145, 139, 126, 119, 83] false),
   (1767, .bare 259 196 true true [1752, 1742, 1588, 1573, 1506, 1350, 1335, 1314, 1214, 1199, 1065, 952, 937, 803, 690, 675, 539, 434, 419, 401, 312, 297, 290, 255, 240, 233, 211, 196, 189, 167, 152, 145, 139, 126, 119, 83] false),
   (1752, .bare 252 196 true true [1742, 1588, 1573, 1506, 1350, 1335, 1314, 1214, 1199, 1065, 952, 937, 803, 690, 675, 539, 434, 419, 401, 312, 297, 290, 255, 240, 233, 211, 196, 189, 167, 152, 145, 139, 126, 119, 83] false),
   (1742, .bare 245 196 true true [1588, 1573, 1506, 1350, 1335, 1314, 1214, 1199, 1065, 952, 937, 803, 690, 675, 539, 434, 419, 401, 312, 297, 290, 255, 240, 233, 211, 196, 189, 167, 152, 145, 139, 126, 119, 83] false),
   (1588, .bare 238 196 true true [1573, 1506, 1350, 1335, 1314, 1214, 1199, 1065, 952, 937, 803, 690, 675, 539, 434, 419, 401, 312, 297, 290, 255, 240, 233, 211, 196, 189, 167, 152, 145, 139, 126, 119, 83] false),
   (1573, .bare 231 196 true true [1506, 1350, 1335, 1314, 1214, 1199, 1065, 952, 937, 803, 690, 675, 539, 434, 419, 401, 312, 297, 290, 255, 240, 233, 211, 196, 189, 167, 152, 145, 139, 126, 119, 83] false),
   (1506, .bare 224 196 true true [1350, 1335, 1314, 1214, 1199, 1065, 952, 937, 803, 690, 675, 539, 434, 419, 401, 312, 297, 290, 255, 240, 233, 211, 196, 189, 167, 152, 145, 139, 126, 119, 83] false),
   (1350, .bare 217 196 true true [1335, 1314, 1214, 1199, 1065, 952, 937, 803, 690, 675, 539, 434, 419, 401, 312, 297, 290, 255, 240, 233, 211, 196, 189, 167, 152, 145, 139, 126, 119, 83] false),
   (1335, .bare 210 196 true true [1314, 1214, 1199, 1065, 952, 937, 803, 690, 675, 539, 434, 419, 401, 312, 297, 290, 255, 240, 233, 211, 196, 189, 167, 152, 145, 139, 126, 119, 83] false),
   (1314, .bare 203 196 true true [1214, 1199, 1065, 952, 937, 803, 690, 675, 539, 434, 419, 401, 312, 297, 290, 255, 240, 233, 211, 196, 189, 167, 152, 145, 139, 126, 119, 83] false),
   (1214, .bare 196 196 true true [1199, 1065, 952, 937, 803, 690, 675, 539, 434, 419, 401, 312, 297, 290, 255, 240, 233, 211, 196, 189, 167, 152, 145, 139, 126, 119, 83] false),
   (1199, .bare 189 196 true true [1065, 952, 937, 803, 690, 675, 539, 434, 419, 401, 312, 297, 290, 255, 240, 233, 211, 196, 189, 167, 152, 145, 139, 126, 119, 83] false),
   (1065, .bare 182 196 true true [952, 937, 803, 690, 675, 539, 434, 419, 401, 312, 297, 290, 255, 240, 233, 211, 196, 189, 167, 152, 145, 139, 126, 119, 83] false),
   (952, .bare 175 196 true true [937, 803, 690, 675, 539, 434, 419, 401, 312, 297, 290, 255, 240, 233, 211, 196, 189, 167, 152, 145, 139, 126, 119, 83] false),
   (937, .bare 168 196 true true [803, 690, 675, 539, 434, 419, 401, 312, 297, 290, 255, 240, 233, 211, 196, 189, 167, 152, 145, 139, 126, 119, 83] false),
   (803, .bare 161 196 true true [690, 675, 539, 434, 419, 401, 312, 297, 290, 255, 240, 233, 211, 196, 189, 167, 152, 145, 139, 126, 119, 83] false),
   (690, .bare 154 196 true true [675, 539, 434, 419, 401, 312, 297, 290, 255, 240, 233, 211, 196, 189, 167, 152, 145, 139, 126, 119, 83] false),
   (675, .bare 147 196 true true [539, 434, 419, 401, 312, 297, 290, 255, 240, 233, 211, 196, 189, 167, 152, 145, 139, 126, 119, 83] false),
   (539, .bare 140 196 true true [434, 419, 401, 312, 297, 290, 255, 240, 233, 211, 196, 189, 167, 152, 145, 139, 126, 119, 83] false),
   (434, .bare 133 196 true true [419, 401, 312, 297, 290, 255, 240, 233, 211, 196, 189, 167, 152, 145, 139, 126, 119, 83] false),
   (419, .bare 126 196 true true [401, 312, 297, 290, 255, 240, 233, 211, 196, 189, 167, 152, 145, 139, 126, 119, 83] false),
   (401, .bare 119 196 true true [312, 297, 290, 255, 240, 233, 211, 196, 189, 167, 152, 145, 139, 126, 119, 83] false),
   (312, .bare 112 196 true true [297, 290, 255, 240, 233, 211, 196, 189, 167, 152, 145, 139, 126, 119, 83] false),
   (297, .bare 105 196 true true [290, 255, 240, 233, 211, 196, 189, 167, 152, 145, 139, 126, 119, 83] false),
   (290, .bare 98 196 true true [255, 240, 233, 211, 196, 189, 167, 152, 145, 139, 126, 119, 83] false),
   (255, .bare 91 196 true true [240, 233, 211, 196, 189, 167, 152, 145, 139, 126, 119, 83] false),
   (240, .bare 84 196 true true [233, 211, 196, 189, 167, 152, 145, 139, 126, 119, 83] false),
   (233, .bare 77 196 true true [211, 196, 189, 167, 152, 145, 139, 126, 119, 83] false),
   (211, .bare 70 196 true true [196, 189, 167, 152, 145, 139, 126, 119, 83] false),
   (196, .bare 63 196 true true [189, 167, 152, 145, 139, 126, 119, 83] false),
   (189, .bare 56 196 true true [167, 152, 145, 139, 126, 119, 83] false),
   (167, .bare 49 196 true true [152, 145, 139, 126, 119, 83] false),
   (152, .bare 42 196 true true [145, 139, 126, 119, 83] false),
   (145, .bare 35 196 true true [139, 126, 119, 83] false),
   (139, .bare 28 196 true true [126, 119, 83] false),
   (126, .bare 21 196 true true [119, 83] false),
   (119, .bare 14 196 true true [83] false),
   (83, .bare 7 196 true true [] false),
   (105, .bare 2 289 true true [] false)],
  1886, 2⟩
noncomputable def lit12t0 : Tr AV := .nd (.lf) (Ua 0) (.lf)
noncomputable def lit12t1 : Tr AV := .nd (lit12t0) (Ua 0) (lit12t0)
noncomputable def lit12t2 : Tr AV := .nd (lit12t1) (Ua 0) (lit12t1)
noncomputable def lit12t3 : Tr AV := .nd (lit12t2) (Ua 0) (lit12t2)
noncomputable def lit12t4 : Tr AV := .nd (lit12t3) (Ua 0) (lit12t3)
noncomputable def lit12t5 : Tr AV := .nd (lit12t4) (Ua 0) (lit12t4)
noncomputable def lit12t6 : Tr AV := .nd (lit12t5) (Ua 0) (lit12t5)
noncomputable def lit12t7 : Tr AV := .nd (lit12t6) (Ua 0) (lit12t6)
noncomputable def lit12t8 : Tr AV := .nd (.nd (.nd (.nd (.nd (.nd (.nd (.nd (.nd (lit12t0) (Ua 0) (.lf)) (Ua 0) (lit12t0)) (Ua 0) (lit12t1)) (Ua 0) (lit12t2)) (Ua 0) (lit12t3)) (Ua 0) (lit12t4)) (Ua 0) (lit12t5)) (Ua 0) (lit12t6)) (Ua 0) (lit12t7)
noncomputable def lit12t9 : Tr AV := .nd (.nd (lit12t5) (Ua 1) (lit12t5)) (Ua 0) (lit12t6)
noncomputable def lit12t10 : Tr AV := .nd (.nd (.nd (.nd (.nd (.nd (.nd (.nd (.lf) (Ia 3) (.lf)) (Ua 0) (.lf)) (Ua 0) (lit12t0)) (Ua 0) (lit12t1)) (Ua 0) (lit12t2)) (Ua 0) (lit12t3)) (Ua 0) (lit12t4)) (Ua 0) (lit12t5)
noncomputable def lit12t11 : Tr AV := .nd (.nd (lit12t4) (Ua 1) (lit12t4)) (Ua 0) (lit12t5)
noncomputable def lit12t12 : Tr AV := .nd (lit12t7) (Ua 0) (lit12t7)
noncomputable def lit12t13 : Tr AV := .nd (.nd (.nd (.nd (.nd (.nd (.nd (.nd (.lf) (.int .u16 (.ofNat 65535)) (.lf)) (Ua 0) (.lf)) (Ua 0) (lit12t0)) (Ua 0) (lit12t1)) (Ua 0) (lit12t2)) (Ua 0) (lit12t3)) (Ua 0) (lit12t4)) (Ua 0) (lit12t5)
noncomputable def lit12t14 : Tr AV := .nd (lit12t11) (Ua 0) (lit12t6)
noncomputable def lit12 : Go.Proofs.YtajdeaabgplacaaGreatDoor.Sev.Lit := ⟨[Fa, .nilptr, .ptr 22 0, Ia 0, .ptr 66 0, .tup [], .ptr 1801 0, Ia 1, .ptr 1827 0, Ia 2, Ta, Ia 3, .tup [], .tup [], .tup [], .tup [], .tup [], .tup [], .tup [], .tup [], .tup [], .tup [], .tup [.ptr 22 0, Ia 0], .agg [Ia 3, Ia 4, Ia 3, Ia 3, Ia 90, Ia 4, Ia 3, Ia 3], .tup [.ptr 22 0, Ia 0], .ptr 22 0, Ia 0, .agg [.nilsl], .ptr 66 0, Ta, Fa, Fa, Ia 0, Fa, Fa, Fa, .nilptr, .ptr 22 0, Ta, Fa, Fa, Fa, .nilptr, .agg [Ia 0, Fa, Ea, .nilsl], Ia 0, Fa, Fa, Fa, .agg [Ua 3, Ia 0, Ea, Ea, Ea, Ia 0, Ua 0], .ptr 66 0, .ptr 69 0, Ta, Fa, Fa, Fa, .agg [Ua 2, Ia 0, Ea, Ea, Ea, Ia 0, Ua 0], .ptr 66 0, .ptr 71 0, .ptr 22 0, Ta, Fa, Fa, Fa, .agg [Ua 0, Ia 0, Ea, Ea, Ea, Ia 0, Ua 0], .ptr 66 0, .ptr 73 0, .ptr 22 0, Ta, Fa, Fa, .ptr 22 0, .ptr 66 0, .agg [Ua 1, Ia 0, Ea, Ea, Ea, Ia 0, Ua 0], .tup [Ia 2, .agg [Ia 0, Fa, Ea, .nilsl]], .agg [Ua 3, Ia 2, .str [107], Ea, Ea, Ia 0, Ua 0], .agg [Ia 30, Fa, Ea, .nilsl], .agg [Ua 3, Ia 2, .str [107], Ea, Ea, Ia 0, Ua 0, Ia 1, Ia 30, Fa, Ea, .nilsl], .agg [Ua 3, Ia 1, .str [108, 111, 110, 103, 33], Ea, Ea, Ia 0, Ua 0], .agg [Ia 32, Fa, Ea, .nilsl], .agg [Ua 3, Ia 1, .str [108, 111, 110, 103, 33], Ea, Ea, Ia 0, Ua 0, Ia 1, Ia 32, Fa, Ea, .nilsl], .agg [Ua 3, Ia 1, Ea, Ea, Ea, Ia 0, Ua 0], .agg [Ia 32, Fa, Ea, .nilsl], .agg [Ua 3, Ia 1, Ea, Ea, Ea, Ia 0, Ua 0, Ia 1, Ia 32, Fa, Ea, .nilsl], .agg [Ua 3, Ia 1, .str [107], Ea, .str [108, 111, 110, 103], Ia 0, Ua 0], .agg [Ia 32, Fa, Ea, .nilsl], .agg [Ua 3, Ia 1, .str [107], Ea, .str [108, 111, 110, 103], Ia 0, Ua 0, Ia 1, Ia 32, Fa, Ea, .nilsl], .agg [Ua 4, Ia 1, .str [97], Ea, .str [108, 111, 110, 103], Ia 0, Ua 0], .agg [Ia 0, Fa, Ea, .nilsl], .agg [Ua 4, Ia 1, .str [97], Ea, .str [108, 111, 110, 103], Ia 0, Ua 0, Ia 4, Ia 0, Fa, Ea, .nilsl], .agg [Ua 3, Ia 1, .str [97], Ea, .str [49], Ia 0, Ua 0], .agg [Ia 0, Fa, Ea, .nilsl], .agg [Ua 3, Ia 1, .str [97], Ea, .str [49], Ia 0, Ua 0, Ia 8, Ia 0, Fa, Ea, .nilsl], .agg [Ua 3, Ia 1, .str [98], Ea, .str [50], Ia 0, Ua 0], .agg [Ia 0, Fa, Ea, .nilsl], .agg [Ua 3, Ia 1, .str [98], Ea, .str [50], Ia 0, Ua 0, Ia 8, Ia 0, Fa, Ea, .nilsl], .agg [Ua 3, Ia 1, .str [99], Ea, .str [51], Ia 0, Ua 0], .agg [Ia 0, Fa, Ea, .nilsl], .agg [Ua 3, Ia 1, .str [99], Ea, .str [51], Ia 0, Ua 0, Ia 8, Ia 0, Fa, Ea, .nilsl], .agg [Ua 3, Ia 1, .str [100], Ea, .str [52], Ia 0, Ua 0], .agg [Ia 34, Fa, Ea, .nilsl], .agg [Ua 3, Ia 1, .str [100], Ea, .str [52], Ia 0, Ua 0, Ia 4, Ia 34, Fa, Ea, .nilsl], .agg [Ua 4, Ia 1, .str [98], Ea, Ea, Ia 0, Ua 0], .agg [Ia 0, Ta, Ea, .nilsl], .agg [Ua 4, Ia 1, .str [98], Ea, Ea, Ia 0, Ua 0, Ia 8, Ia 0, Ta, Ea, .nilsl], .agg [Ua 4, Ia 1, .str [98], Ea, Ea, Ia 0, Ua 0], .agg [Ia 0, Fa, Ea, .nilsl], .agg [Ua 4, Ia 1, .str [98], Ea, Ea, Ia 0, Ua 0, Ia 7, Ia 0, Fa, Ea, .nilsl], .agg [Ua 6, Ia 1, Ea, Ea, Ea, Ia 0, Ua 0], .agg [Ia 0, Fa, Ea, .nilsl], .agg [Ua 6, Ia 1, Ea, Ea, Ea, Ia 0, Ua 0, Ia 2, Ia 0, Fa, Ea, .nilsl], .agg [Ua 3, Ia 1, .str [97], Ea, Ea, Ia 0, Ua 0], .agg [Ia 31, Fa, Ea, .nilsl], .agg [Ua 3, Ia 1, .str [97], Ea, Ea, Ia 0, Ua 0, Ia 1, Ia 31, Fa, Ea, .nilsl], .sl 128 0 13 13, Ia 13, Ia 13, Fa, .ptr 128 144, .agg [Ua 3, Ia 1, .str [97], Ea, Ea, Ia 0, Ua 0, Ia 1, Ia 31, Fa, Ea, .nilsl], .tup [Ia 1, .agg [Ia 31, Fa, Ea, .nilsl]], .ptr 22 0, .ptr 66 0, .ptr 1801 0, .agg [Ua 3, Ia 1, .str [97], Ea, Ea, Ia 0, Ua 0], .tup [Ia 1, .agg [Ia 31, Fa, Ea, .nilsl]], Ia 1, .agg [Ia 31, Fa, Ea, .nilsl], Ia 1, .ptr 1801 7, Ia 1, Fa, Fa, .agg [Ia 31, Fa, Ea, .nilsl], .ptr 1801 8, .agg [Ia 31, Fa, Ea, .nilsl], Ta, Fa, Fa, Fa, .ptr 22 0, .ptr 22 0, .ptr 22 9, .ptr 21 0, Ia 0, Fa, Fa, Ia 13, .ptr 22 0, .ptr 66 0, .agg [Ua 1, Ia 0, Ea, Ea, Ea, Ia 0, Ua 0], .tup [Ia 2, .agg [Ia 0, Fa, Ea, .nilsl]], .tup [Ia 2, Ta], .ptr 66 0, .tup [Ia 2, Ta], Ia 2, Ta, Ia 3, Ta, .tup [], .tup [], .tup [], .tup [], .tup [], .tup [], .tup [], .tup [], .tup [], .tup [], .tup [], .tup [], .tup [], .tup [], .tup [], .tup [], .tup [], .tup [], .tup [], .tup [], .tup [], .tup [], .tup [], .tup [], .tup [], .tup [], .tup [], .tup [], .tup [], .tup [], .tup [], .tup [], .tup [], .tup [], .tup [], .tup [], .tup [], .tup [], .tup [], .tup [], .tup [], .tup [], .tup [], .tup [], .tup [], .tup [], .tup [], .tup [], .tup [], .tup [], .tup [], .tup [], .tup [], .tup [], .tup [], .tup [], .tup [], .tup [], .tup [], .tup [], .tup [], .tup [], .tup [], .tup [], .tup [], .tup [], .tup [], .tup [], .tup [], .tup [], .tup [], .tup [], .tup [], .tup [], .tup [], .tup [], .tup [], .tup [], .tup [], .tup [], .tup [], .tup [], .tup [], .tup [], .tup []],
  [(0, .cells [] 3 false false [] false),
   (1, .cells [Ua 0, Ua 0, Ua 1, Ua 1, Ua 2] 398 false false [] false),
   (22, .cells [Ia 3, Ia 4, Ia 3, Ia 3, Ia 90, Ia 4, Ia 3, Ia 3, .ptr 19 0, .ptr 21 0, .ptr 25 0, .ptr 30 0, .ptr 46 0, .ptr 63 0, .ptr 65 0] 56 false false [] false),
   (66, .cells [.slo 1872 0 2 0] 33 false false [] false),
   (1801, .cells [Ua 3, Ia 1, .str [97], Ea, Ea, Ia 0, Ua 0, Ia 1, Ia 31, Fa, Ea, .nilsl] 45 false false [] false),
   (1827, .cells [Ia 31, Fa, Ea, .nilsl] 38 false false [] false),
   (69, .cells [Ua 3, Ia 0, Ea, Ea, Ea, Ia 0, Ua 0, .ptr 66 0, Ia 0, Ia 0, Ia 0, Ia 0, .nilsl, Ia 0, Fa, Ea, .nilsl, Fa, .nilptr, .int .u64 (.ofNat 0), .nilptr, .int .u64 (.ofNat 0), Ua 0, .nilsl, .nilsl, Ia 0, Fa, Fa, Fa, Fa, Ia 0, Ua 0, .nilptr, .nilptr, .nilptr, .fn (.func 26) [.ptr 69 0] []] 99 false false [] false),
   (71, .cells [Ua 2, Ia 0, Ea, Ea, Ea, Ia 0, Ua 0, .ptr 66 0, Ia 0, Ia 0, Ia 0, Ia 0, .nilsl, Ia 0, Fa, Ea, .nilsl, Fa, .nilptr, .int .u64 (.ofNat 0), .nilptr, .int .u64 (.ofNat 0), Ua 0, .nilsl, .nilsl, Ia 0, Fa, Fa, Fa, Fa, Ia 0, Ua 0, .nilptr, .nilptr, .nilptr, .nilfn] 99 false false [] false),
   (73, .cells [Ua 0, Ia 0, Ea, Ea, Ea, Ia 0, Ua 0, .ptr 66 0, Ia 0, Ia 0, Ia 0, Ia 0, .nilsl, Ia 0, Fa, Ea, .nilsl, Fa, .nilptr, .int .u64 (.ofNat 0), .nilptr, .int .u64 (.ofNat 0), Ua 0, .nilsl, .nilsl, Ia 0, Fa, Fa, Fa, Fa, Ia 0, Ua 0, .nilptr, .nilptr, .nilptr, .nilfn] 99 false false [] false),
   (128, .cells [Ua 3, Ia 2, .str [107], Ea, Ea, Ia 0, Ua 0, Ia 1, Ia 30, Fa, Ea, .nilsl, Ua 3, Ia 1, .str [108, 111, 110, 103, 33], Ea, Ea, Ia 0, Ua 0, Ia 1, Ia 32, Fa, Ea, .nilsl, Ua 3, Ia 1, Ea, Ea, Ea, Ia 0, Ua 0, Ia 1, Ia 32, Fa, Ea, .nilsl, Ua 3, Ia 1, .str [107], Ea, .str [108, 111, 110, 103], Ia 0, Ua 0, Ia 1, Ia 32, Fa, Ea, .nilsl, Ua 4, Ia 1, .str [97], Ea, .str [108, 111, 110, 103], Ia 0, Ua 0, Ia 4, Ia 0, Fa, Ea, .nilsl, Ua 3, Ia 1, .str [97], Ea, .str [49], Ia 0, Ua 0, Ia 8, Ia 0, Fa, Ea, .nilsl, Ua 3, Ia 1, .str [98], Ea, .str [50], Ia 0, Ua 0, Ia 8, Ia 0, Fa, Ea, .nilsl, Ua 3, Ia 1, .str [99], Ea, .str [51], Ia 0, Ua 0, Ia 8, Ia 0, Fa, Ea, .nilsl, Ua 3, Ia 1, .str [100], Ea, .str [52], Ia 0, Ua 0, Ia 4, Ia 34, Fa, Ea, .nilsl, Ua 4, Ia 1, .str [98], Ea, Ea, Ia 0, Ua 0, Ia 8, Ia 0, Ta, Ea, .nilsl, Ua 4, Ia 1, .str [98], Ea, Ea, Ia 0, Ua 0, Ia 7, Ia 0, Fa, Ea, .nilsl, Ua 6, Ia 1, Ea, Ea, Ea, Ia 0, Ua 0, Ia 2, Ia 0, Fa, Ea, .nilsl, Ua 3, Ia 1, .str [97], Ea, Ea, Ia 0, Ua 0, Ia 1, Ia 31, Fa, Ea, .nilsl] 45 false false [] false),
   (21, .cells [.map 20] 108 false false [] false),
   (19, .cells [Ia 3, Ia 4, Ia 3, Ia 3, Ia 90, Ia 4, Ia 3, Ia 3, Ua 2, .ptr 14 0, .ptr 16 0, Ia 0, Ia 3, .map 17, .map 18] 120 false false [] false),
   (25, .cells [Ia 3, .map 23, Ia 1, Ia 1] 126 false false [] false),
   (30, .cells [Ia 9, .slo 544 0 1 0, .map 29, Ia 3, Ia 0] 133 false false [] false),
   (46, .cells [Ia 3, Ia 4, Ia 3, Ia 3, Ia 90, Ia 4, Ia 3, Ia 3, .ptr 45 0] 135 false false [] false),
   (63, .cells [Ia 3, Ia 4, Ia 3, Ia 3, Ia 90, Ia 4, Ia 3, Ia 3, .ptr 61 0, .map 62] 111 false false [] false),
   (65, .cells [.sl 64 0 3 3, .slo 1884 0 45 0] 139 false false [] false),
   (1872, .cells [Ia 1, Ia 2] 3 true false [114] false),
   (20, .map [] 1673),
   (14, .cells [.slo 1863 0 2 0, Ia 1] 162 false false [] false),
   (16, .cells [.map 15, Ia 1] 165 false false [] false),
   (17, .map [(Ia 2, .agg [Ia 1, Ia 2, Ia 2, .sl 1867 0 0 0])] 1868),
   (18, .map [(Ia 2, .map 1869)] 1870),
   (23, .map [(Ia 1, .agg [Ta, .slo 1123 0 3 0, .nilsl, .slo 1125 0 3 0])] 24),
   (544, .cells [.ptr 542 0] 127 true false [] false),
   (29, .map [(.agg [.int .u16 (.ofNat 0), .int .u16 (.ofNat 0)], .int .u32 (.ofNat 1)), (.agg [.int .u16 (.ofNat 0), .int .u16 (.ofNat 9)], .int .u32 (.ofNat 1)), (.agg [.int .u16 (.ofNat 0), .int .u16 (.ofNat 18)], .int .u32 (.ofNat 1))] 1068),
   (45, .cells [Ia 30, .nilsl, .map 44, Ia 0, Ia 0] 133 false false [] false),
   (61, .cells [Ia 35, .slo 646 0 1 0, .map 60, Ia 3, Ia 0] 133 false false [] false),
   (62, .map [] 62),
   (64, .cells [Ia 0, Ia 15, Ia 0, Ia 0, Ia 0, Ia 0] 239 false false [] false),
   (1884, .cells [Ua 1, Ia 0, Ia 0, Ia 0, Fa, Ea, .nilsl, Ua 2, Ia 0, Ia 0, Ia 0, Fa, Ea, .nilsl, Ua 3, Ia 0, Ia 0, Ia 0, Fa, Ea, .nilsl, Ua 1, Ia 0, Ia 1, Ia 0, Fa, Ea, .nilsl, Ua 2, Ia 0, Ia 1, Ia 0, Fa, Ea, .nilsl, Ua 3, Ia 0, Ia 1, Ia 30, Fa, Ea, .nilsl, Ua 1, Ia 0, Ia 2, Ia 0, Fa, Ea, .nilsl, Ua 2, Ia 0, Ia 2, Ia 0, Fa, Ea, .nilsl, Ua 3, Ia 0, Ia 2, Ia 32, Fa, Ea, .nilsl, Ua 1, Ia 0, Ia 3, Ia 0, Fa, Ea, .nilsl, Ua 2, Ia 0, Ia 3, Ia 0, Fa, Ea, .nilsl, Ua 3, Ia 0, Ia 3, Ia 32, Fa, Ea, .nilsl, Ua 1, Ia 0, Ia 4, Ia 0, Fa, Ea, .nilsl, Ua 2, Ia 0, Ia 4, Ia 0, Fa, Ea, .nilsl, Ua 3, Ia 0, Ia 4, Ia 32, Fa, Ea, .nilsl, Ua 1, Ia 0, Ia 5, Ia 0, Fa, Ea, .nilsl, Ua 2, Ia 0, Ia 5, Ia 0, Fa, Ea, .nilsl, Ua 3, Ia 0, Ia 5, Ia 0, Fa, Ea, .nilsl, Ua 1, Ia 0, Ia 6, Ia 0, Fa, Ea, .nilsl, Ua 2, Ia 0, Ia 6, Ia 0, Fa, Ea, .nilsl, Ua 3, Ia 0, Ia 6, Ia 0, Fa, Ea, .nilsl, Ua 1, Ia 0, Ia 7, Ia 0, Fa, Ea, .nilsl, Ua 2, Ia 0, Ia 7, Ia 0, Fa, Ea, .nilsl, Ua 3, Ia 0, Ia 7, Ia 0, Fa, Ea, .nilsl, Ua 1, Ia 0, Ia 8, Ia 0, Fa, Ea, .nilsl, Ua 2, Ia 0, Ia 8, Ia 0, Fa, Ea, .nilsl, Ua 3, Ia 0, Ia 8, Ia 0, Fa, Ea, .nilsl, Ua 1, Ia 0, Ia 9, Ia 0, Fa, Ea, .nilsl, Ua 2, Ia 0, Ia 9, Ia 0, Fa, Ea, .nilsl, Ua 3, Ia 0, Ia 9, Ia 34, Fa, Ea, .nilsl, Ua 1, Ia 0, Ia 10, Ia 0, Fa, Ea, .nilsl, Ua 2, Ia 0, Ia 10, Ia 0, Fa, Ea, .nilsl, Ua 3, Ia 0, Ia 10, Ia 0, Ta, Ea, .nilsl, Ua 1, Ia 0, Ia 11, Ia 0, Fa, Ea, .nilsl, Ua 2, Ia 0, Ia 11, Ia 0, Fa, Ea, .nilsl, Ua 3, Ia 0, Ia 11, Ia 0, Fa, Ea, .nilsl, Ua 1, Ia 0, Ia 12, Ia 0, Fa, Ea, .nilsl, Ua 2, Ia 0, Ia 12, Ia 0, Fa, Ea, .nilsl, Ua 3, Ia 0, Ia 12, Ia 0, Fa, Ea, .nilsl, Ua 1, Ia 0, Ia 13, Ia 0, Fa, Ea, .nilsl, Ua 2, Ia 0, Ia 13, Ia 0, Fa, Ea, .nilsl, Ua 3, Ia 0, Ia 13, Ia 31, Fa, Ea, .nilsl, Ua 1, Ia 0, Ia 14, Ia 0, Fa, Ea, .nilsl, Ua 2, Ia 0, Ia 14, Ia 0, Fa, Ea, .nilsl, Ua 3, Ia 0, Ia 14, Ia 0, Fa, Ea, .nilsl] 196 true false [1877, 1839, 1825, 1818, 1811, 1796, 1788, 1767, 1752, 1742, 1588, 1573, 1506, 1350, 1335, 1314, 1214, 1199, 1065, 952, 937, 803, 690, 675, 539, 434, 419, 401, 312, 297, 290, 255, 240, 233, 211, 196, 189, 167, 152, 145, 139, 126, 119, 83] false),
   (1863, .cells [Ua 3, Ia 1, Ua 1, Ia 0] 289 true false [105] false),
   (15, .map [(Ia 1, Ia 1)] 1781),
   (1867, .cells [] 3 false false [] false),
   (1869, .map [] 1869),
   (1123, .cells [.str [97], .str [98], .str [99]] 9 true false [] false),
   (1125, .cells [.int .u64 (.ofNat 1), .int .u64 (.ofNat 38654705665), .int .u64 (.ofNat 77309411329)] 74 true false [] false),
   (542, .tree (.nd (.nd (.nd (.nd (.nd (.nd (.nd (.nd (.nd (.nd (.nd (.nd (lit12t0) (Ua 0) (.lf)) (Ua 0) (lit12t0)) (Ua 0) (lit12t1)) (Ua 0) (lit12t2)) (Ua 0) (lit12t3)) (Ua 0) (lit12t4)) (Ua 0) (lit12t5)) (Ua 0) (lit12t6)) (Ua 0) (lit12t7)) (Ua 0) (.nd (.nd (.nd (.nd (.nd (.nd (.nd (.nd (.nd (.nd (.lf) (.map 540) (.lf)) (Ua 0) (.lf)) (Ua 0) (lit12t0)) (Ua 0) (lit12t1)) (Ua 0) (lit12t2)) (Ua 0) (lit12t3)) (Ua 0) (lit12t4)) (Ua 0) (lit12t5)) (Ua 0) (lit12t6)) (Ua 0) (lit12t7))) (Ua 0) (.nd (.nd (.nd (.nd (.nd (.nd (.nd (.nd (.nd (.nd (.nd (.lf) (Ia 3) (.lf)) (Ua 0) (.lf)) (Ua 0) (lit12t0)) (Ua 0) (lit12t1)) (Ua 0) (lit12t2)) (Ua 0) (lit12t3)) (Ua 0) (lit12t4)) (Ua 0) (lit12t5)) (Ua 1) (lit12t6)) (Ua 2) (lit12t7)) (Ua 0) (.nd (lit12t7) (Ua 35) (lit12t7)))) (Ua 2) (.nd (.nd (.nd (.nd (.nd (.nd (.nd (.nd (.nd (.nd (.nd (.nd (.lf) (Ia 9) (.lf)) (Ua 0) (.lf)) (Ua 0) (lit12t0)) (Ua 0) (lit12t1)) (Ua 0) (lit12t2)) (Ua 0) (lit12t3)) (Ua 0) (lit12t4)) (Ua 0) (lit12t5)) (Ua 0) (lit12t6)) (Ua 1) (lit12t7)) (Ua 0) (.nd (lit12t7) (Ua 0) (lit12t7))) (Ua 0) (.nd (.nd (.nd (.nd (.nd (.nd (.nd (.nd (.nd (.nd (.nd (.lf) (.int .u16 (.ofNat 65535)) (.lf)) (Ua 0) (.lf)) (Ua 0) (lit12t0)) (Ua 0) (lit12t1)) (Ua 0) (lit12t2)) (Ua 0) (lit12t3)) (Ua 0) (lit12t4)) (Ua 0) (lit12t5)) (Ua 2) (lit12t6)) (Ua 0) (.nd (lit12t6) (Ua 1) (lit12t6))) (Ua 0) (.nd (.nd (lit12t6) (Ua 70) (lit12t6)) (Ua 0) (lit12t7))))) 4100 170 false false [] false),
   (44, .map [] 44),
   (646, .cells [.ptr 644 0] 127 true false [] false),
   (60, .map [(.agg [.int .u16 (.ofNat 0), .int .u16 (.ofNat 0)], .int .u32 (.ofNat 1)), (.agg [.int .u16 (.ofNat 0), .int .u16 (.ofNat 35)], .int .u32 (.ofNat 1)), (.agg [.int .u16 (.ofNat 0), .int .u16 (.ofNat 70)], .int .u32 (.ofNat 1))] 1173),
   (540, .map [(.int .u16 (.ofNat 0), .agg []), (.int .u16 (.ofNat 9), .agg []), (.int .u16 (.ofNat 18), .agg [])] 1066),
   (644, .tree (.nd (.nd (.nd (lit12t8) (Ua 0) (.nd (.nd (.nd (.nd (.nd (.nd (.nd (.nd (.nd (.nd (.lf) (.map 642) (.lf)) (Ua 0) (.lf)) (Ua 0) (lit12t0)) (Ua 0) (lit12t1)) (Ua 0) (lit12t2)) (Ua 0) (lit12t3)) (Ua 0) (lit12t4)) (Ua 1) (lit12t5)) (Ua 1) (lit12t6)) (Ua 0) (lit12t9))) (Ua 0) (.nd (.nd (.nd (lit12t10) (Ua 0) (lit12t6)) (Ua 0) (.nd (lit12t6) (Ua 0) (lit12t11))) (Ua 0) (lit12t12))) (Ua 1) (.nd (.nd (.nd (.nd (.nd (.nd (.nd (.nd (.nd (.nd (.nd (.nd (.lf) (Ia 35) (.lf)) (Ua 0) (.lf)) (Ua 0) (lit12t0)) (Ua 0) (lit12t1)) (Ua 0) (lit12t2)) (Ua 0) (lit12t3)) (Ua 0) (lit12t4)) (Ua 0) (lit12t5)) (Ua 0) (lit12t6)) (Ua 1) (lit12t7)) (Ua 0) (.nd (.nd (lit12t6) (Ua 49) (lit12t6)) (Ua 0) (lit12t9))) (Ua 0) (.nd (.nd (.nd (lit12t13) (Ua 0) (lit12t6)) (Ua 0) (.nd (lit12t6) (Ua 0) (.nd (.nd (lit12t4) (Ua 51) (lit12t4)) (Ua 0) (lit12t5)))) (Ua 0) (.nd (lit12t14) (Ua 0) (lit12t14))))) 4100 170 false false [] false),
   (642, .map [(.int .u16 (.ofNat 0), .agg []), (.int .u16 (.ofNat 35), .agg []), (.int .u16 (.ofNat 70), .agg [])] 1171),
   (114, .bare 1 3 true true [] false),
   (1877, .bare 308 196 true true [1839, 1825, 1818, 1811, 1796, 1788, 1767, 1752, 1742, 1588, 1573, 1506, 1350, 1335, 1314, 1214, 1199, 1065, 952, 937, 803, 690, 675, 539, 434, 419, 401, 312, 297, 290, 255, 240, 233, 211, 196, 189, 167, 152, 145, 139, 126, 119, 83] false),
   (1839, .bare 301 196 true true [1825, 1818, 1811, 1796, 1788, 1767, 1752, 1742, 1588, 1573, 1506, 1350, 1335, 1314, 1214, 1199, 1065, 952, 937, 803, 690, 675, 539, 434, 419, 401, 312, 297, 290, 255, 240, 233, 211, 196, 189, 167, 152, 145, 139, 126, 119, 83] false),
   (1825, .bare 294 196 true true [1818, 1811, 1796, 1788, 1767, 1752, 1742, 1588, 1573, 1506, 1350, 1335, 1314, 1214, 1199, 1065, 952, 937, 803, 690, 675, 539, 434, 419, 401, 312, 297, 290, 255, 240, 233, 211, 196, 189, 167, 152, 145, 139, 126, 119, 83] false),
   (1818, .bare 287 196 true true [1811, 1796, 1788, 1767, 1752, 1742, 1588, 1573, 1506, 1350, 1335, 1314, 1214, 1199, 1065, 952, 937, 803, 690, 675, 539, 434, 419, 401, 312, 297, 290, 255, 240, 233, 211, 196, 189, 167, 152, 145, 139, 126, 119, 83] false),
   (1811, .bare 280 196 true true [1796, 1788, 1767, 1752, 1742, 1588, 1573, 1506, 1350, 1335, 1314, 1214, 1199, 1065, 952, 937, 803, 690, 675, 539, 434, 419, 401, 312, 297, 290, 255, 240, 233, 211, 196, 189, 167, 152, 145, 139, 126, 119, 83] false),
   (1796, .bare 273 196 true true [1788, 1767, 1752, 1742, 1588, 1573, 1506, 1350, 1335, 1314, 1214, 1199, 1065, 952, 937, 803, 690, 675, 539, 434, 419, 401, 312, 297, 290, 255, 240, 233, 211, 196, 189, 167, 152, 145, 139, 126, 119, 83] false),
   (1788, .bare 266 196 true true [1767, 1752, 1742, 1588, 1573, 1506, 1350, 1335, 1314, 1214, 1199, 1065, 952, 937, 803, 690, 675, 539, 434, 419, 401, 312, 297, 290, 255, 240, 233, 211, 196, 189, 167, 152, 145, 139, 126, 119, 83] false),
   (1767, .bare 259 196 true true [1752, 1742, 1588, 1573, 1506, 1350, 1335, 1314, 1214, 1199, 1065, 952, 937, 803, 690, 675, 539, 434, 419, 401, 312, 297, 290, 255, 240, 233, 211, 196, 189, 167, 152, 145, 139, 126, 119, 83] false),
   (1752, .bare 252 196 true true [1742, 1588, 1573, 1506, 1350, 1335, 1314, 1214, 1199, 1065, 952, 937, 803, 690, 675, 539, 434, 419, 401, 312, 297, 290, 255, 240, 233, 211, 196, 189, 167, 152, 145, 139, 126, 119, 83] false),
   (1742, .bare 245 196 true true [1588, 1573, 1506, 1350, 1335, 1314, 1214, 1199, 1065, 952, 937, 803, 690, 675, 539, 434, 419, 401, 312, 297, 290, 255, 240, 233, 211, 196, 189, 167, 152, 145, 139, 126, 119, 83] false),
   (1588, .bare 238 196 true true [1573, 1506, 1350, 1335, 1314, 1214, 1199, 1065, 952, 937, 803, 690, 675, 539, 434, 419, 401, 312, 297, 290, 255, 240, 233, 211, 196, 189, 167, 152, 145, 139, 126, 119, 83] false),
   (1573, .bare 231 196 true true [1506, 1350, 1335, 1314, 1214, 1199, 1065, 952, 937, 803, 690, 675, 539, 434, 419, 401, 312, 297, 290, 255, 240, 233, 211, 196, 189, 167, 152, 145, 139, 126, 119, 83] false),
   (1506, .bare 224 196 true true [1350, 1335, 1314, 1214, 1199, 1065, 952, 937, 803, 690, 675, 539, 434, 419, 401, 312, 297, 290, 255, 240, 233, 211, 196, 189, 167, 152, 145, 139, 126, 119, 83] false),
   (1350, .bare 217 196 true true [1335, 1314, 1214, 1199, 1065, 952, 937, 803, 690, 675, 539, 434, 419, 401, 312, 297, 290, 255, 240, 233, 211, 196, 189, 167, 152, 145, 139, 126, 119, 83] false),
   (1335, .bare 210 196 true true [1314, 1214, 1199, 1065, 952, 937, 803, 690, 675, 539, 434, 419, 401, 312, 297, 290, 255, 240, 233, 211, 196, 189, 167, 152, 145, 139, 126, 119, 83] false),
   (1314, .bare 203 196 true true [1214, 1199, 1065, 952, 937, 803, 690, 675, 539, 434, 419, 401, 312, 297, 290, 255, 240, 233, 211, 196, 189, 167, 152, 145, 139, 126, 119, 83] false),
   (1214, .bare 196 196 true true [1199, 1065, 952, 937, 803, 690, 675, 539, 434, 419, 401, 312, 297, 290, 255, 240, 233, 211, 196, 189, 167, 152, 145, 139, 126, 119, 83] false),
   (1199, .bare 189 196 true true [1065, 952, 937, 803, 690, 675, 539, 434, 419, 401, 312, 297, 290, 255, 240, 233, 211, 196, 189, 167, 152, 145, 139, 126, 119, 83] false),
   (1065, .bare 182 196 true true [952, 937, 803, 690, 675, 539, 434, 419, 401, 312, 297, 290, 255, 240, 233, 211, 196, 189, 167, 152, 145, 139, 126, 119, 83] false),
   (952, .bare 175 196 true true [937, 803, 690, 675, 539, 434, 419, 401, 312, 297, 290, 255, 240, 233, 211, 196, 189, 167, 152, 145, 139, 126, 119, 83] false),
   (937, .bare 168 196 true true [803, 690, 675, 539, 434, 419, 401, 312, 297, 290, 255, 240, 233, 211, 196, 189, 167, 152, 145, 139, 126, 119, 83] false),
   (803, .bare 161 196 true true [690, 675, 539, 434, 419, 401, 312, 297, 290, 255, 240, 233, 211, 196, 189, 167, 152, 145, 139, 126, 119, 83] false),
   (690, .bare 154 196 true true [675, 539, 434, 419, 401, 312, 297, 290, 255, 240, 233, 211, 196, 189, 167, 152, 145, 139, 126, 119, 83] false),
   (675, .bare 147 196 true true [539, 434, 419, 401, 312, 297, 290, 255, 240, 233, 211, 196, 189, 167, 152, 145, 139, 126, 119, 83] false),
   (539, .bare 140 196 true true [434, 419, 401, 312, 297, 290, 255, 240, 233, 211, 196, 189, 167, 152, 145, 139, 126, 119, 83] false),
   (434, .bare 133 196 true true [419, 401, 312, 297, 290, 255, 240, 233, 211, 196, 189, 167, 152, 145, 139, 126, 119, 83] false),
   (419, .bare 126 196 true true [401, 312, 297, 290, 255, 240, 233, 211, 196, 189, 167, 152, 145, 139, 126, 119, 83] false),
   (401, .bare 119 196 true true [312, 297, 290, 255, 240, 233, 211, 196, 189, 167, 152, 145, 139, 126, 119, 83] false),
   (312, .bare 112 196 true true [297, 290, 255, 240, 233, 211, 196, 189, 167, 152, 145, 139, 126, 119, 83] false),
   (297, .bare 105 196 true true [290, 255, 240, 233, 211, 196, 189, 167, 152, 145, 139, 126, 119, 83] false),
   (290, .bare 98 196 true true [255, 240, 233, 211, 196, 189, 167, 152, 145, 139, 126, 119, 83] false),
   (255, .bare 91 196 true true [240, 233, 211, 196, 189, 167, 152, 145, 139, 126, 119, 83] false),
   (240, .bare 84 196 true true [233, 211, 196, 189, 167, 152, 145, 139, 126, 119, 83] false),
   (233, .bare 77 196 true true [211, 196, 189, 167, 152, 145, 139, 126, 119, 83] false),
   (211, .bare 70 196 true true [196, 189, 167, 152, 145, 139, 126, 119, 83] false),
   (196, .bare 63 196 true true [189, 167, 152, 145, 139, 126, 119, 83] false),
   (189, .bare 56 196 true true [167, 152, 145, 139, 126, 119, 83] false),
   (167, .bare 49 196 true true [152, 145, 139, 126, 119, 83] false),
   (152, .bare 42 196 true true [145, 139, 126, 119, 83] false),
   (145, .bare 35 196 true true [139, 126, 119, 83] false),
   (139, .bare 28 196 true true [126, 119, 83] false),
   (126, .bare 21 196 true true [119, 83] false),
   (119, .bare 14 196 true true [83] false),
   (83, .bare 7 196 true true [] false),
   (105, .bare 2 289 true true [] false)],
  1886, 2⟩
noncomputable def lit13t0 : Tr AV := .nd (.lf) (Ua 0) (.lf)
noncomputable def lit13t1 : Tr AV := .nd (lit13t0) (Ua 0) (lit13t0)
noncomputable def lit13t2 : Tr AV := .nd (lit13t1) (Ua 0) (lit13t1)
noncomputable def lit13t3 : Tr AV := .nd (lit13t2) (Ua 0) (lit13t2)
noncomputable def lit13t4 : Tr AV := .nd (lit13t3) (Ua 0) (lit13t3)
noncomputable def lit13t5 : Tr AV := .nd (lit13t4) (Ua 0) (lit13t4)
noncomputable def lit13t6 : Tr AV := .nd (lit13t5) (Ua 0) (lit13t5)
noncomputable def lit13t7 : Tr AV := .nd (lit13t6) (Ua 0) (lit13t6)
noncomputable def lit13t8 : Tr AV := .nd (.nd (.nd (.nd (.nd (.nd (.nd (.nd (.nd (lit13t0) (Ua 0) (.lf)) (Ua 0) (lit13t0)) (Ua 0) (lit13t1)) (Ua 0) (lit13t2)) (Ua 0) (lit13t3)) (Ua 0) (lit13t4)) (Ua 0) (lit13t5)) (Ua 0) (lit13t6)) (Ua 0) (lit13t7)
noncomputable def lit13t9 : Tr AV := .nd (.nd (lit13t5) (Ua 1) (lit13t5)) (Ua 0) (lit13t6)
noncomputable def lit13t10 : Tr AV := .nd (lit13t4) (Ua 1) (lit13t4)
noncomputable def lit13t11 : Tr AV := .nd (lit13t10) (Ua 0) (lit13t5)
noncomputable def lit13t12 : Tr AV := .nd (.nd (.nd (.nd (.nd (.lf) (.int .u16 (.ofNat 65535)) (.lf)) (Ua 0) (.lf)) (Ua 0) (lit13t0)) (Ua 0) (lit13t1)) (Ua 0) (lit13t2)
noncomputable def lit13t13 : Tr AV := .nd (lit13t11) (Ua 0) (lit13t6)
noncomputable def lit13 : Go.Proofs.YtajdeaabgplacaaGreatDoor.Sev.Lit := ⟨[Fa, .nilptr, .ptr 22 0, Ia 0, .ptr 66 0, .tup [], .ptr 1801 0, Ia 1, .ptr 1827 0, Ia 2, Ta, Ia 3, Ia 9, .ptr 2232 0, .tup [], .tup [], .tup [], .tup [], .tup [], .tup [], .tup [], .tup [], .tup [.ptr 22 0, Ia 0], .agg [Ia 3, Ia 4, Ia 3, Ia 3, Ia 90, Ia 4, Ia 3, Ia 3], .tup [.ptr 22 0, Ia 0], .ptr 22 0, Ia 0, .agg [.nilsl], .ptr 66 0, Ta, Fa, Fa, Ia 0, Fa, Fa, Fa, .nilptr, .ptr 22 0, Ta, Fa, Fa, Fa, .nilptr, .agg [Ia 0, Fa, Ea, .nilsl], Ia 0, Fa, Fa, Fa, .agg [Ua 3, Ia 0, Ea, Ea, Ea, Ia 0, Ua 0], .ptr 66 0, .ptr 69 0, Ta, Fa, Fa, Fa, .agg [Ua 2, Ia 0, Ea, Ea, Ea, Ia 0, Ua 0], .ptr 66 0, .ptr 71 0, .ptr 22 0, Ta, Fa, Fa, Fa, .agg [Ua 0, Ia 0, Ea, Ea, Ea, Ia 0, Ua 0], .ptr 66 0, .ptr 73 0, .ptr 22 0, Ta, Fa, Fa, .ptr 22 0, .ptr 66 0, .agg [Ua 1, Ia 0, Ea, Ea, Ea, Ia 0, Ua 0], .tup [Ia 2, .agg [Ia 0, Fa, Ea, .nilsl]], .agg [Ua 3, Ia 2, .str [107], Ea, Ea, Ia 0, Ua 0], .agg [Ia 30, Fa, Ea, .nilsl], .agg [Ua 3, Ia 2, .str [107], Ea, Ea, Ia 0, Ua 0, Ia 1, Ia 30, Fa, Ea, .nilsl], .agg [Ua 3, Ia 1, .str [108, 111, 110, 103, 33], Ea, Ea, Ia 0, Ua 0], .agg [Ia 32, Fa, Ea, .nilsl], .agg [Ua 3, Ia 1, .str [108, 111, 110, 103, 33], Ea, Ea, Ia 0, Ua 0, Ia 1, Ia 32, Fa, Ea, .nilsl], .agg [Ua 3, Ia 1, Ea, Ea, Ea, Ia 0, Ua 0], .agg [Ia 32, Fa, Ea, .nilsl], .agg [Ua 3, Ia 1, Ea, Ea, Ea, Ia 0, Ua 0, Ia 1, Ia 32, Fa, Ea, .nilsl], .agg [Ua 3, Ia 1, .str [107], Ea, .str [108, 111, 110, 103], Ia 0, Ua 0], .agg [Ia 32, Fa, Ea, .nilsl], .agg [Ua 3, Ia 1, .str [107], Ea, .str [108, 111, 110, 103], Ia 0, Ua 0, Ia 1, Ia 32, Fa, Ea, .nilsl], .agg [Ua 4, Ia 1, .str [97], Ea, .str [108, 111, 110, 103], Ia 0, Ua 0], .agg [Ia 0, Fa, Ea, .nilsl], .agg [Ua 4, Ia 1, .str [97], Ea, .str [108, 111, 110, 103], Ia 0, Ua 0, Ia 4, Ia 0, Fa, Ea, .nilsl], .agg [Ua 3, Ia 1, .str [97], Ea, .str [49], Ia 0, Ua 0], .agg [Ia 0, Fa, Ea, .nilsl], .agg [Ua 3, Ia 1, .str [97], Ea, .str [49], Ia 0, Ua 0, Ia 8, Ia 0, Fa, Ea, .nilsl], .agg [Ua 3, Ia 1, .str [98], Ea, .str [50], Ia 0, Ua 0], .agg [Ia 0, Fa, Ea, .nilsl], .agg [Ua 3, Ia 1, .str [98], Ea, .str [50], Ia 0, Ua 0, Ia 8, Ia 0, Fa, Ea, .nilsl], .agg [Ua 3, Ia 1, .str [99], Ea, .str [51], Ia 0, Ua 0], .agg [Ia 0, Fa, Ea, .nilsl], .agg [Ua 3, Ia 1, .str [99], Ea, .str [51], Ia 0, Ua 0, Ia 8, Ia 0, Fa, Ea, .nilsl], .agg [Ua 3, Ia 1, .str [100], Ea, .str [52], Ia 0, Ua 0], .agg [Ia 34, Fa, Ea, .nilsl], .agg [Ua 3, Ia 1, .str [100], Ea, .str [52], Ia 0, Ua 0, Ia 4, Ia 34, Fa, Ea, .nilsl], .agg [Ua 4, Ia 1, .str [98], Ea, Ea, Ia 0, Ua 0], .agg [Ia 0, Ta, Ea, .nilsl], .agg [Ua 4, Ia 1, .str [98], Ea, Ea, Ia 0, Ua 0, Ia 8, Ia 0, Ta, Ea, .nilsl], .agg [Ua 4, Ia 1, .str [98], Ea, Ea, Ia 0, Ua 0], .agg [Ia 0, Fa, Ea, .nilsl], .agg [Ua 4, Ia 1, .str [98], Ea, Ea, Ia 0, Ua 0, Ia 7, Ia 0, Fa, Ea, .nilsl], .agg [Ua 6, Ia 1, Ea, Ea, Ea, Ia 0, Ua 0], .agg [Ia 0, Fa, Ea, .nilsl], .agg [Ua 6, Ia 1, Ea, Ea, Ea, Ia 0, Ua 0, Ia 2, Ia 0, Fa, Ea, .nilsl], .agg [Ua 3, Ia 1, .str [97], Ea, Ea, Ia 0, Ua 0], .agg [Ia 31, Fa, Ea, .nilsl], .agg [Ua 3, Ia 1, .str [97], Ea, Ea, Ia 0, Ua 0, Ia 1, Ia 31, Fa, Ea, .nilsl], .sl 128 0 13 13, Ia 13, Ia 13, Fa, .ptr 128 144, .agg [Ua 3, Ia 1, .str [97], Ea, Ea, Ia 0, Ua 0, Ia 1, Ia 31, Fa, Ea, .nilsl], .tup [Ia 1, .agg [Ia 31, Fa, Ea, .nilsl]], .ptr 22 0, .ptr 66 0, .ptr 1801 0, .agg [Ua 3, Ia 1, .str [97], Ea, Ea, Ia 0, Ua 0], .tup [Ia 1, .agg [Ia 31, Fa, Ea, .nilsl]], Ia 1, .agg [Ia 31, Fa, Ea, .nilsl], Ia 1, .ptr 1801 7, Ia 1, Fa, Fa, .agg [Ia 31, Fa, Ea, .nilsl], .ptr 1801 8, .agg [Ia 31, Fa, Ea, .nilsl], Ta, Fa, Fa, Fa, .ptr 22 0, .ptr 22 0, .ptr 22 9, .ptr 21 0, Ia 0, Fa, Fa, Ia 13, .ptr 22 0, .ptr 66 0, .agg [Ua 1, Ia 0, Ea, Ea, Ea, Ia 0, Ua 0], .tup [Ia 2, .agg [Ia 0, Fa, Ea, .nilsl]], .tup [Ia 2, Ta], .ptr 66 0, .tup [Ia 2, Ta], Ia 2, Ta, Ia 3, Ta, .tup [], .tup [], .ptr 22 0, .ptr 66 0, .agg [Ua 1, Ia 0, Ea, Ea, Ea, Ia 0, Ua 0], .tup [Ia 2, .agg [Ia 0, Fa, Ea, .nilsl]], .tup [Ia 9, .agg [Ia 0, Fa, Ea, .nilsl]], .ptr 22 0, .ptr 66 0, Ia 3, .agg [Ua 3, Ia 3, .str [97], Ea, .str [110], Ia 0, Ua 0], .tup [Ia 9, .agg [Ia 0, Fa, Ea, .nilsl]], Ia 9, .agg [Ia 0, Fa, Ea, .nilsl], .tup [], .tup [], .tup [], .tup [], .tup [], .tup [], .tup [], .tup [], .tup [], .tup [], .tup [], .tup [], .tup [], .tup [], .tup [], .tup [], .tup [], .tup [], .tup [], .tup [], .tup [], .tup [], .tup [], .tup [], .tup [], .tup [], .tup [], .tup [], .tup [], .tup [], .tup [], .tup [], .tup [], .tup [], .tup [], .tup [], .tup [], .tup [], .tup [], .tup [], .tup [], .tup [], .tup [], .tup [], .tup [], .tup [], .tup [], .tup [], .tup [], .tup [], .tup [], .tup [], .tup [], .tup [], .tup [], .tup [], .tup [], .tup [], .tup [], .tup [], .tup [], .tup [], .tup [], .tup [], .tup [], .tup [], .tup [], .tup [], .tup [], .tup [], .tup []],
  [(0, .cells [] 3 false false [] false),
   (1, .cells [Ua 0, Ua 0, Ua 1, Ua 1, Ua 2] 398 false false [] false),
   (22, .cells [Ia 3, Ia 4, Ia 3, Ia 3, Ia 90, Ia 4, Ia 3, Ia 3, .ptr 19 0, .ptr 21 0, .ptr 25 0, .ptr 30 0, .ptr 46 0, .ptr 63 0, .ptr 65 0] 56 false false [] false),
   (66, .cells [.slo 1932 0 3 0] 33 false false [] false),
   (1801, .cells [Ua 3, Ia 1, .str [97], Ea, Ea, Ia 0, Ua 0, Ia 1, Ia 31, Fa, Ea, .nilsl] 45 false false [] false),
   (1827, .cells [Ia 31, Fa, Ea, .nilsl] 38 false false [] false),
   (2232, .cells [Ia 0, Fa, Ea, .nilsl] 38 false false [] false),
   (69, .cells [Ua 3, Ia 0, Ea, Ea, Ea, Ia 0, Ua 0, .ptr 66 0, Ia 0, Ia 0, Ia 0, Ia 0, .nilsl, Ia 0, Fa, Ea, .nilsl, Fa, .nilptr, .int .u64 (.ofNat 0), .nilptr, .int .u64 (.ofNat 0), Ua 0, .nilsl, .nilsl, Ia 0, Fa, Fa, Fa, Fa, Ia 0, Ua 0, .nilptr, .nilptr, .nilptr, .fn (.func 26) [.ptr 69 0] []] 99 false false [] false),
   (71, .cells [Ua 2, Ia 0, Ea, Ea, Ea, Ia 0, Ua 0, .ptr 66 0, Ia 0, Ia 0, Ia 0, Ia 0, .nilsl, Ia 0, Fa, Ea, .nilsl, Fa, .nilptr, .int .u64 (.ofNat 0), .nilptr, .int .u64 (.ofNat 0), Ua 0, .nilsl, .nilsl, Ia 0, Fa, Fa, Fa, Fa, Ia 0, Ua 0, .nilptr, .nilptr, .nilptr, .nilfn] 99 false false [] false),
   (73, .cells [Ua 0, Ia 0, Ea, Ea, Ea, Ia 0, Ua 0, .ptr 66 0, Ia 0, Ia 0, Ia 0, Ia 0, .nilsl, Ia 0, Fa, Ea, .nilsl, Fa, .nilptr, .int .u64 (.ofNat 0), .nilptr, .int .u64 (.ofNat 0), Ua 0, .nilsl, .nilsl, Ia 0, Fa, Fa, Fa, Fa, Ia 0, Ua 0, .nilptr, .nilptr, .nilptr, .nilfn] 99 false false [] false),
   (128, .cells [Ua 3, Ia 2, .str [107], Ea, Ea, Ia 0, Ua 0, Ia 1, Ia 30, Fa, Ea, .nilsl, Ua 3, Ia 1, .str [108, 111, 110, 103, 33], Ea, Ea, Ia 0, Ua 0, Ia 1, Ia 32, Fa, Ea, .nilsl, Ua 3, Ia 1, Ea, Ea, Ea, Ia 0, Ua 0, Ia 1, Ia 32, Fa, Ea, .nilsl, Ua 3, Ia 1, .str [107], Ea, .str [108, 111, 110, 103], Ia 0, Ua 0, Ia 1, Ia 32, Fa, Ea, .nilsl, Ua 4, Ia 1, .str [97], Ea, .str [108, 111, 110, 103], Ia 0, Ua 0, Ia 4, Ia 0, Fa, Ea, .nilsl, Ua 3, Ia 1, .str [97], Ea, .str [49], Ia 0, Ua 0, Ia 8, Ia 0, Fa, Ea, .nilsl, Ua 3, Ia 1, .str [98], Ea, .str [50], Ia 0, Ua 0, Ia 8, Ia 0, Fa, Ea, .nilsl, Ua 3, Ia 1, .str [99], Ea, .str [51], Ia 0, Ua 0, Ia 8, Ia 0, Fa, Ea, .nilsl, Ua 3, Ia 1, .str [100], Ea, .str [52], Ia 0, Ua 0, Ia 4, Ia 34, Fa, Ea, .nilsl, Ua 4, Ia 1, .str [98], Ea, Ea, Ia 0, Ua 0, Ia 8, Ia 0, Ta, Ea, .nilsl, Ua 4, Ia 1, .str [98], Ea, Ea, Ia 0, Ua 0, Ia 7, Ia 0, Fa, Ea, .nilsl, Ua 6, Ia 1, Ea, Ea, Ea, Ia 0, Ua 0, Ia 2, Ia 0, Fa, Ea, .nilsl, Ua 3, Ia 1, .str [97], Ea, Ea, Ia 0, Ua 0, Ia 1, Ia 31, Fa, Ea, .nilsl] 45 false false [] false),
   (21, .cells [.map 20] 108 false false [] false),
   (19, .cells [Ia 3, Ia 4, Ia 3, Ia 3, Ia 90, Ia 4, Ia 3, Ia 3, Ua 2, .ptr 14 0, .ptr 16 0, Ia 0, Ia 3, .map 17, .map 18] 120 false false [] false),
   (25, .cells [Ia 3, .map 23, Ia 1, Ia 1] 126 false false [] false),
   (30, .cells [Ia 9, .slo 544 0 1 0, .map 29, Ia 3, Ia 0] 133 false false [] false),
   (46, .cells [Ia 3, Ia 4, Ia 3, Ia 3, Ia 90, Ia 4, Ia 3, Ia 3, .ptr 45 0] 135 false false [] false),
   (63, .cells [Ia 3, Ia 4, Ia 3, Ia 3, Ia 90, Ia 4, Ia 3, Ia 3, .ptr 61 0, .map 62] 111 false false [] false),
   (65, .cells [.sl 64 0 3 3, .slo 2230 0 51 0] 139 false false [] false),
   (1932, .cells [Ia 1, Ia 2, Ia 3] 3 true false [1872, 114] false),
   (20, .map [] 2046),
   (14, .cells [.slo 1923 0 3 0, Ia 1] 162 false false [] false),
   (16, .cells [.map 15, Ia 1] 165 false false [] false),
   (17, .map [(Ia 2, .agg [Ia 1, Ia 2, Ia 2, .sl 1867 0 0 0]), (Ia 3, .agg [Ia 1, Ia 3, Ia 3, .sl 1927 0 1 1])] 1928),
   (18, .map [(Ia 2, .map 1869), (Ia 3, .map 1929)] 1930),
   (23, .map [(Ia 1, .agg [Ta, .slo 1123 0 3 0, .nilsl, .slo 1125 0 3 0])] 24),
   (544, .cells [.ptr 542 0] 127 true false [] false),
   (29, .map [(.agg [.int .u16 (.ofNat 0), .int .u16 (.ofNat 0)], .int .u32 (.ofNat 1)), (.agg [.int .u16 (.ofNat 0), .int .u16 (.ofNat 9)], .int .u32 (.ofNat 1)), (.agg [.int .u16 (.ofNat 0), .int .u16 (.ofNat 18)], .int .u32 (.ofNat 1))] 1068),
   (45, .cells [Ia 30, .nilsl, .map 44, Ia 0, Ia 0] 133 false false [] false),
   (61, .cells [Ia 35, .slo 646 0 1 0, .map 60, Ia 4, Ia 0] 133 false false [] false),
   (62, .map [(Ia 3, .slo 2192 0 1 0)] 2193),
   (64, .cells [Ia 0, Ia 17, Ia 0, Ia 0, Ia 0, Ia 0] 239 false false [] false),
   (2230, .cells [Ua 1, Ia 0, Ia 0, Ia 0, Fa, Ea, .nilsl, Ua 2, Ia 0, Ia 0, Ia 0, Fa, Ea, .nilsl, Ua 3, Ia 0, Ia 0, Ia 0, Fa, Ea, .nilsl, Ua 1, Ia 0, Ia 1, Ia 0, Fa, Ea, .nilsl, Ua 2, Ia 0, Ia 1, Ia 0, Fa, Ea, .nilsl, Ua 3, Ia 0, Ia 1, Ia 30, Fa, Ea, .nilsl, Ua 1, Ia 0, Ia 2, Ia 0, Fa, Ea, .nilsl, Ua 2, Ia 0, Ia 2, Ia 0, Fa, Ea, .nilsl, Ua 3, Ia 0, Ia 2, Ia 32, Fa, Ea, .nilsl, Ua 1, Ia 0, Ia 3, Ia 0, Fa, Ea, .nilsl, Ua 2, Ia 0, Ia 3, Ia 0, Fa, Ea, .nilsl, Ua 3, Ia 0, Ia 3, Ia 32, Fa, Ea, .nilsl, Ua 1, Ia 0, Ia 4, Ia 0, Fa, Ea, .nilsl, Ua 2, Ia 0, Ia 4, Ia 0, Fa, Ea, .nilsl, Ua 3, Ia 0, Ia 4, Ia 32, Fa, Ea, .nilsl, Ua 1, Ia 0, Ia 5, Ia 0, Fa, Ea, .nilsl, Ua 2, Ia 0, Ia 5, Ia 0, Fa, Ea, .nilsl, Ua 3, Ia 0, Ia 5, Ia 0, Fa, Ea, .nilsl, Ua 1, Ia 0, Ia 6, Ia 0, Fa, Ea, .nilsl, Ua 2, Ia 0, Ia 6, Ia 0, Fa, Ea, .nilsl, Ua 3, Ia 0, Ia 6, Ia 0, Fa, Ea, .nilsl, Ua 1, Ia 0, Ia 7, Ia 0, Fa, Ea, .nilsl, Ua 2, Ia 0, Ia 7, Ia 0, Fa, Ea, .nilsl, Ua 3, Ia 0, Ia 7, Ia 0, Fa, Ea, .nilsl, Ua 1, Ia 0, Ia 8, Ia 0, Fa, Ea, .nilsl, Ua 2, Ia 0, Ia 8, Ia 0, Fa, Ea, .nilsl, Ua 3, Ia 0, Ia 8, Ia 0, Fa, Ea, .nilsl, Ua 1, Ia 0, Ia 9, Ia 0, Fa, Ea, .nilsl, Ua 2, Ia 0, Ia 9, Ia 0, Fa, Ea, .nilsl, Ua 3, Ia 0, Ia 9, Ia 34, Fa, Ea, .nilsl, Ua 1, Ia 0, Ia 10, Ia 0, Fa, Ea, .nilsl, Ua 2, Ia 0, Ia 10, Ia 0, Fa, Ea, .nilsl, Ua 3, Ia 0, Ia 10, Ia 0, Ta, Ea, .nilsl, Ua 1, Ia 0, Ia 11, Ia 0, Fa, Ea, .nilsl, Ua 2, Ia 0, Ia 11, Ia 0, Fa, Ea, .nilsl, Ua 3, Ia 0, Ia 11, Ia 0, Fa, Ea, .nilsl, Ua 1, Ia 0, Ia 12, Ia 0, Fa, Ea, .nilsl, Ua 2, Ia 0, Ia 12, Ia 0, Fa, Ea, .nilsl, Ua 3, Ia 0, Ia 12, Ia 0, Fa, Ea, .nilsl, Ua 1, Ia 0, Ia 13, Ia 0, Fa, Ea, .nilsl, Ua 2, Ia 0, Ia 13, Ia 0, Fa, Ea, .nilsl, Ua 3, Ia 0, Ia 13, Ia 31, Fa, Ea, .nilsl, Ua 1, Ia 0, Ia 14, Ia 0, Fa, Ea, .nilsl, Ua 2, Ia 0, Ia 14, Ia 0, Fa, Ea, .nilsl, Ua 3, Ia 0, Ia 14, Ia 0, Fa, Ea, .nilsl, Ua 1, Ia 0, Ia 15, Ia 0, Fa, Ea, .nilsl, Ua 2, Ia 0, Ia 15, Ia 0, Fa, Ea, .nilsl, Ua 3, Ia 0, Ia 15, Ia 0, Fa, Ea, .nilsl, Ua 1, Ia 0, Ia 16, Ia 0, Fa, Ea, .nilsl, Ua 2, Ia 0, Ia 16, Ia 0, Fa, Ea, .nilsl, Ua 3, Ia 0, Ia 16, Ia 0, Fa, Ea, .nilsl] 196 true false [2128, 1955, 1944, 1937, 1895, 1884, 1877, 1839, 1825, 1818, 1811, 1796, 1788, 1767, 1752, 1742, 1588, 1573, 1506, 1350, 1335, 1314, 1214, 1199, 1065, 952, 937, 803, 690, 675, 539, 434, 419, 401, 312, 297, 290, 255, 240, 233, 211, 196, 189, 167, 152, 145, 139, 126, 119, 83] false),
   (1923, .cells [Ua 3, Ia 1, Ua 1, Ia 0, Ua 1, Ia 0] 289 true false [1863, 105] false),
   (15, .map [(Ia 1, Ia 1)] 1781),
   (1867, .cells [] 3 false false [] false),
   (1927, .cells [Ia 2] 3 false false [] false),
   (1869, .map [] 1869),
   (1929, .map [(.str [97], .agg [Fa, .slo 2120 0 1 0])] 2121),
   (1123, .cells [.str [97], .str [98], .str [99]] 9 true false [] false),
   (1125, .cells [.int .u64 (.ofNat 1), .int .u64 (.ofNat 38654705665), .int .u64 (.ofNat 77309411329)] 74 true false [] false),
   (542, .tree (.nd (.nd (.nd (.nd (.nd (.nd (.nd (.nd (.nd (.nd (.nd (.nd (lit13t0) (Ua 0) (.lf)) (Ua 0) (lit13t0)) (Ua 0) (lit13t1)) (Ua 0) (lit13t2)) (Ua 0) (lit13t3)) (Ua 0) (lit13t4)) (Ua 0) (lit13t5)) (Ua 0) (lit13t6)) (Ua 0) (lit13t7)) (Ua 0) (.nd (.nd (.nd (.nd (.nd (.nd (.nd (.nd (.nd (.nd (.lf) (.map 540) (.lf)) (Ua 0) (.lf)) (Ua 0) (lit13t0)) (Ua 0) (lit13t1)) (Ua 0) (lit13t2)) (Ua 0) (lit13t3)) (Ua 0) (lit13t4)) (Ua 0) (lit13t5)) (Ua 0) (lit13t6)) (Ua 0) (lit13t7))) (Ua 0) (.nd (.nd (.nd (.nd (.nd (.nd (.nd (.nd (.nd (.nd (.nd (.lf) (Ia 3) (.lf)) (Ua 0) (.lf)) (Ua 0) (lit13t0)) (Ua 0) (lit13t1)) (Ua 0) (lit13t2)) (Ua 0) (lit13t3)) (Ua 0) (lit13t4)) (Ua 0) (lit13t5)) (Ua 1) (lit13t6)) (Ua 2) (lit13t7)) (Ua 0) (.nd (lit13t7) (Ua 35) (lit13t7)))) (Ua 2) (.nd (.nd (.nd (.nd (.nd (.nd (.nd (.nd (.nd (.nd (.nd (.nd (.lf) (Ia 9) (.lf)) (Ua 0) (.lf)) (Ua 0) (lit13t0)) (Ua 0) (lit13t1)) (Ua 0) (lit13t2)) (Ua 0) (lit13t3)) (Ua 0) (lit13t4)) (Ua 0) (lit13t5)) (Ua 0) (lit13t6)) (Ua 1) (lit13t7)) (Ua 0) (.nd (lit13t7) (Ua 0) (lit13t7))) (Ua 0) (.nd (.nd (.nd (.nd (.nd (.nd (.nd (.nd (.nd (.nd (.nd (.lf) (.int .u16 (.ofNat 65535)) (.lf)) (Ua 0) (.lf)) (Ua 0) (lit13t0)) (Ua 0) (lit13t1)) (Ua 0) (lit13t2)) (Ua 0) (lit13t3)) (Ua 0) (lit13t4)) (Ua 0) (lit13t5)) (Ua 2) (lit13t6)) (Ua 0) (.nd (lit13t6) (Ua 1) (lit13t6))) (Ua 0) (.nd (.nd (lit13t6) (Ua 70) (lit13t6)) (Ua 0) (lit13t7))))) 4100 170 false false [] false),
   (44, .map [] 44),
   (646, .cells [.ptr 644 0] 127 true false [] false),
   (60, .map [(.agg [.int .u16 (.ofNat 0), .int .u16 (.ofNat 0)], .int .u32 (.ofNat 1)), (.agg [.int .u16 (.ofNat 0), .int .u16 (.ofNat 35)], .int .u32 (.ofNat 1)), (.agg [.int .u16 (.ofNat 0), .int .u16 (.ofNat 70)], .int .u32 (.ofNat 1)), (.agg [.int .u16 (.ofNat 0), .int .u16 (.ofNat 105)], .int .u32 (.ofNat 1))] 2177),
   (2192, .cells [.int .u64 (.ofNat 450971566081)] 74 true false [] false),
   (2120, .cells [Ia 1, Ia 1, Fa, .str [49]] 83 true false [] false),
   (540, .map [(.int .u16 (.ofNat 0), .agg []), (.int .u16 (.ofNat 9), .agg []), (.int .u16 (.ofNat 18), .agg [])] 1066),
   (644, .tree (.nd (.nd (.nd (lit13t8) (Ua 0) (.nd (.nd (.nd (.nd (.nd (.nd (.nd (.nd (.nd (.nd (.lf) (.map 642) (.lf)) (Ua 0) (.lf)) (Ua 0) (lit13t0)) (Ua 0) (lit13t1)) (Ua 0) (lit13t2)) (Ua 0) (lit13t3)) (Ua 0) (lit13t4)) (Ua 1) (lit13t5)) (Ua 1) (lit13t6)) (Ua 0) (lit13t9))) (Ua 0) (.nd (.nd (.nd (.nd (.nd (.nd (.nd (.nd (.nd (.nd (.nd (.lf) (Ia 4) (.lf)) (Ua 0) (.lf)) (Ua 0) (lit13t0)) (Ua 0) (lit13t1)) (Ua 0) (lit13t2)) (Ua 0) (lit13t3)) (Ua 0) (lit13t4)) (Ua 0) (lit13t5)) (Ua 1) (.nd (lit13t5) (Ua 0) (lit13t10))) (Ua 0) (.nd (.nd (.nd (.nd (lit13t3) (Ua 49) (lit13t3)) (Ua 0) (lit13t4)) (Ua 0) (.nd (lit13t4) (Ua 2) (lit13t4))) (Ua 0) (lit13t11))) (Ua 0) (.nd (lit13t7) (Ua 105) (lit13t7)))) (Ua 1) (.nd (.nd (.nd (.nd (.nd (.nd (.nd (.nd (.nd (.nd (.nd (.nd (.lf) (Ia 35) (.lf)) (Ua 0) (.lf)) (Ua 0) (lit13t0)) (Ua 0) (lit13t1)) (Ua 0) (lit13t2)) (Ua 0) (lit13t3)) (Ua 0) (lit13t4)) (Ua 0) (lit13t5)) (Ua 0) (lit13t6)) (Ua 3) (lit13t7)) (Ua 0) (.nd (.nd (.nd (.nd (.nd (lit13t3) (Ua 5) (lit13t3)) (Ua 0) (lit13t4)) (Ua 0) (lit13t5)) (Ua 110) (lit13t6)) (Ua 0) (lit13t9))) (Ua 0) (.nd (.nd (.nd (.nd (.nd (.nd (lit13t12) (Ua 3) (lit13t3)) (Ua 0) (lit13t4)) (Ua 0) (lit13t5)) (Ua 0) (lit13t6)) (Ua 0) (.nd (lit13t6) (Ua 0) (.nd (.nd (lit13t4) (Ua 51) (lit13t4)) (Ua 0) (lit13t5)))) (Ua 0) (.nd (lit13t13) (Ua 0) (lit13t13))))) 4100 170 false false [] false),
   (642, .map [(.int .u16 (.ofNat 0), .agg []), (.int .u16 (.ofNat 35), .agg []), (.int .u16 (.ofNat 70), .agg []), (.int .u16 (.ofNat 105), .agg [])] 2175),
   (1872, .bare 2 3 true true [114] false),
   (114, .bare 1 3 true true [] false),
   (2128, .bare 350 196 true true [1955, 1944, 1937, 1895, 1884, 1877, 1839, 1825, 1818, 1811, 1796, 1788, 1767, 1752, 1742, 1588, 1573, 1506, 1350, 1335, 1314, 1214, 1199, 1065, 952, 937, 803, 690, 675, 539, 434, 419, 401, 312, 297, 290, 255, 240, 233, 211, 196, 189, 167, 152, 145, 139, 126, 119, 83] false),
   (1955, .bare 343 196 true true [1944, 1937, 1895, 1884, 1877, 1839, 1825, 1818, 1811, 1796, 1788, 1767, 1752, 1742, 1588, 1573, 1506, 1350, 1335, 1314, 1214, 1199, 1065, 952, 937, 803, 690, 675, 539, 434, 419, 401, 312, 297, 290, 255, 240, 233, 211, 196, 189, 167, 152, 145, 139, 126, 119, 83] false),
   (1944, .bare 336 196 true true [1937, 1895, 1884, 1877, 1839, 1825, 1818, 1811, 1796, 1788, 1767, 1752, 1742, 1588, 1573, 1506, 1350, 1335, 1314, 1214, 1199, 1065, 952, 937, 803, 690, 675, 539, 434, 419, 401, 312, 297, 290, 255, 240, 233, 211, 196, 189, 167, 152, 145, 139, 126, 119, 83] false),
   (1937, .bare 329 196 true true [1895, 1884, 1877, 1839, 1825, 1818, 1811, 1796, 1788, 1767, 1752, 1742, 1588, 1573, 1506, 1350, 1335, 1314, 1214, 1199, 1065, 952, 937, 803, 690, 675, 539, 434, 419, 401, 312, 297, 290, 255, 240, 233, 211, 196, 189, 167, 152, 145, 139, 126, 119, 83] false),
   (1895, .bare 322 196 true true [1884, 1877, 1839, 1825, 1818, 1811, 1796, 1788, 1767, 1752, 1742, 1588, 1573, 1506, 1350, 1335, 1314, 1214, 1199, 1065, 952, 937, 803, 690, 675, 539, 434, 419, 401, 312, 297, 290, 255, 240, 233, 211, 196, 189, 167, 152, 145, 139, 126, 119, 83] false),
   (1884, .bare 315 196 true true [1877, 1839, 1825, 1818, 1811, 1796, 1788, 1767, 1752, 1742, 1588, 1573, 1506, 1350, 1335, 1314, 1214, 1199, 1065, 952, 937, 803, 690, 675, 539, 434, 419, 401, 312, 297, 290, 255, 240, 233, 211, 196, 189, 167, 152, 145, 139, 126, 119, 83] false),
   (1877, .bare 308 196 true true [1839, 1825, 1818, 1811, 1796, 1788, 1767, 1752, 1742, 1588, 1573, 1506, 1350, 1335, 1314, 1214, 1199, 1065, 952, 937, 803, 690, 675, 539, 434, 419, 401, 312, 297, 290, 255, 240, 233, 211, 196, 189, 167, 152, 145, 139, 126, 119, 83] false),
   (1839, .bare 301 196 true true [1825, 1818, 1811, 1796, 1788, 1767, 1752, 1742, 1588, 1573, 1506, 1350, 1335, 1314, 1214, 1199, 1065, 952, 937, 803, 690, 675, 539, 434, 419, 401, 312, 297, 290, 255, 240, 233, 211, 196, 189, 167, 152, 145, 139, 126, 119, 83] false),
   (1825, .bare 294 196 true true [1818, 1811, 1796, 1788, 1767, 1752, 1742, 1588, 1573, 1506, 1350, 1335, 1314, 1214, 1199, 1065, 952, 937, 803, 690, 675, 539, 434, 419, 401, 312, 297, 290, 255, 240, 233, 211, 196, 189, 167, 152, 145, 139, 126, 119, 83] false),
   (1818, .bare 287 196 true true [1811, 1796, 1788, 1767, 1752, 1742, 1588, 1573, 1506, 1350, 1335, 1314, 1214, 1199, 1065, 952, 937, 803, 690, 675, 539, 434, 419, 401, 312, 297, 290, 255, 240, 233, 211, 196, 189, 167, 152, 145, 139, 126, 119, 83] false),
   (1811, .bare 280 196 true true [1796, 1788, 1767, 1752, 1742, 1588, 1573, 1506, 1350, 1335, 1314, 1214, 1199, 1065, 952, 937, 803, 690, 675, 539, 434, 419, 401, 312, 297, 290, 255, 240, 233, 211, 196, 189, 167, 152, 145, 139, 126, 119, 83] false),
   (1796, .bare 273 196 true true [1788, 1767, 1752, 1742, 1588, 1573, 1506, 1350, 1335, 1314, 1214, 1199, 1065, 952, 937, 803, 690, 675, 539, 434, 419, 401, 312, 297, 290, 255, 240, 233, 211, 196, 189, 167, 152, 145, 139, 126, 119, 83] false),
   (1788, .bare 266 196 true true [1767, 1752, 1742, 1588, 1573, 1506, 1350, 1335, 1314, 1214, 1199, 1065, 952, 937, 803, 690, 675, 539, 434, 419, 401, 312, 297, 290, 255, 240, 233, 211, 196, 189, 167, 152, 145, 139, 126, 119, 83] false),
   (1767, .bare 259 196 true true [1752, 1742, 1588, 1573, 1506, 1350, 1335, 1314, 1214, 1199, 1065, 952, 937, 803, 690, 675, 539, 434, 419, 401, 312, 297, 290, 255, 240, 233, 211, 196, 189, 167, 152, 145, 139, 126, 119, 83] false),
   (1752, .bare 252 196 true true [1742, 1588, 1573, 1506, 1350, 1335, 1314, 1214, 1199, 1065, 952, 937, 803, 690, 675, 539, 434, 419, 401, 312, 297, 290, 255, 240, 233, 211, 196, 189, 167, 152, 145, 139, 126, 119, 83] false),
   (1742, .bare 245 196 true true [1588, 1573, 1506, 1350, 1335, 1314, 1214, 1199, 1065, 952, 937, 803, 690, 675, 539, 434, 419, 401, 312, 297, 290, 255, 240, 233, 211, 196, 189, 167, 152, 145, 139, 126, 119, 83] false),
   (1588, .bare 238 196 true true [1573, 1506, 1350, 1335, 1314, 1214, 1199, 1065, 952, 937, 803, 690, 675, 539, 434, 419, 401, 312, 297, 290, 255, 240, 233, 211, 196, 189, 167, 152, 145, 139, 126, 119, 83] false),
   (1573, .bare 231 196 true true [1506, 1350, 1335, 1314, 1214, 1199, 1065, 952, 937, 803, 690, 675, 539, 434, 419, 401, 312, 297, 290, 255, 240, 233, 211, 196, 189, 167, 152, 145, 139, 126, 119, 83] false),
   (1506, .bare 224 196 true true [1350, 1335, 1314, 1214, 1199, 1065, 952, 937, 803, 690, 675, 539, 434, 419, 401, 312, 297, 290, 255, 240, 233, 211, 196, 189, 167, 152, 145, 139, 126, 119, 83] false),
   (1350, .bare 217 196 true true [1335, 1314, 1214, 1199, 1065, 952, 937, 803, 690, 675, 539, 434, 419, 401, 312, 297, 290, 255, 240, 233, 211, 196, 189, 167, 152, 145, 139, 126, 119, 83] false),
   (1335, .bare 210 196 true true [1314, 1214, 1199, 1065, 952, 937, 803, 690, 675, 539, 434, 419, 401, 312, 297, 290, 255, 240, 233, 211, 196, 189, 167, 152, 145, 139, 126, 119, 83] false),
   (1314, .bare 203 196 true true [1214, 1199, 1065, 952, 937, 803, 690, 675, 539, 434, 419, 401, 312, 297, 290, 255, 240, 233, 211, 196, 189, 167, 152, 145, 139, 126, 119, 83] false),
   (1214, .bare 196 196 true true [1199, 1065, 952, 937, 803, 690, 675, 539, 434, 419, 401, 312, 297, 290, 255, 240, 233, 211, 196, 189, 167, 152, 145, 139, 126, 119, 83] false),
   (1199, .bare 189 196 true true [1065, 952, 937, 803, 690, 675, 539, 434, 419, 401, 312, 297, 290, 255, 240, 233, 211, 196, 189, 167, 152, 145, 139, 126, 119, 83] false),
   (1065, .bare 182 196 true true [952, 937, 803, 690, 675, 539, 434, 419, 401, 312, 297, 290, 255, 240, 233, 211, 196, 189, 167, 152, 145, 139, 126, 119, 83] false),
   (952, .bare 175 196 true true [937, 803, 690, 675, 539, 434, 419, 401, 312, 297, 290, 255, 240, 233, 211, 196, 189, 167, 152, 145, 139, 126, 119, 83] false),
   (937, .bare 168 196 true true [803, 690, 675, 539, 434, 419, 401, 312, 297, 290, 255, 240, 233, 211, 196, 189, 167, 152, 145, 139, 126, 119, 83] false),
   (803, .bare 161 196 true true [690, 675, 539, 434, 419, 401, 312, 297, 290, 255, 240, 233, 211, 196, 189, 167, 152, 145, 139, 126, 119, 83] false),
   (690, .bare 154 196 true true [675, 539, 434, 419, 401, 312, 297, 290, 255, 240, 233, 211, 196, 189, 167, 152, 145, 139, 126, 119, 83] false),
   (675, .bare 147 196 true true [539, 434, 419, 401, 312, 297, 290, 255, 240, 233, 211, 196, 189, 167, 152, 145, 139, 126, 119, 83] false),
   (539, .bare 140 196 true true [434, 419, 401, 312, 297, 290, 255, 240, 233, 211, 196, 189, 167, 152, 145, 139, 126, 119, 83] false),
   (434, .bare 133 196 true true [419, 401, 312, 297, 290, 255, 240, 233, 211, 196, 189, 167, 152, 145, 139, 126, 119, 83] false),
   (419, .bare 126 196 true true [401, 312, 297, 290, 255, 240, 233, 211, 196, 189, 167, 152, 145, 139, 126, 119, 83] false),
   (401, .bare 119 196 true true [312, 297, 290, 255, 240, 233, 211, 196, 189, 167, 152, 145, 139, 126, 119, 83] false),
   (312, .bare 112 196 true true [297, 290, 255, 240, 233, 211, 196, 189, 167, 152, 145, 139, 126, 119, 83] false),
   (297, .bare 105 196 true true [290, 255, 240, 233, 211, 196, 189, 167, 152, 145, 139, 126, 119, 83] false),
   (290, .bare 98 196 true true [255, 240, 233, 211, 196, 189, 167, 152, 145, 139, 126, 119, 83] false),
   (255, .bare 91 196 true true [240, 233, 211, 196, 189, 167, 152, 145, 139, 126, 119, 83] false),
   (240, .bare 84 196 true true [233, 211, 196, 189, 167, 152, 145, 139, 126, 119, 83] false),
   (233, .bare 77 196 true true [211, 196, 189, 167, 152, 145, 139, 126, 119, 83] false),
   (211, .bare 70 196 true true [196, 189, 167, 152, 145, 139, 126, 119, 83] false),
   (196, .bare 63 196 true true [189, 167, 152, 145, 139, 126, 119, 83] false),
   (189, .bare 56 196 true true [167, 152, 145, 139, 126, 119, 83] false),
   (167, .bare 49 196 true true [152, 145, 139, 126, 119, 83] false),
   (152, .bare 42 196 true true [145, 139, 126, 119, 83] false),
   (145, .bare 35 196 true true [139, 126, 119, 83] false),
   (139, .bare 28 196 true true [126, 119, 83] false),
   (126, .bare 21 196 true true [119, 83] false),
   (119, .bare 14 196 true true [83] false),
   (83, .bare 7 196 true true [] false),
   (1863, .bare 4 289 true true [105] false),
   (105, .bare 2 289 true true [] false)],
  2233, 2⟩
end Go.Proofs.YtajdeaabgplacaaGreatDoor
