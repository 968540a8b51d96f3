/- The seat's tables: its types, what an element of each is, and what its functions do with what they are given. -/
import Derived.Test.YtjfkbidckphneaaGreatDoorSnd38
import Derived.Test.YtjfkbidckphneaaGreatDoorArr
import Derived.Test.YtjfkbidckphneaaGreatDoorProg
import Derived.KernelRfl
namespace Go.Proofs.YtjfkbidckphneaaGreatDoor.G
open Go Go.Ev
structure SThing where
  fId : Int
  fKind : Int
  fHidden : Bool
  fFixed : Bool
  fSigns : Bool
  fWraps : Bool
  fValue : ByteArray
  fNext : Int
structure SRec where
  fKind : Int
  fText : ByteArray
  fNum : Int
  fThing : SThing
structure SAct where
  fKind : Int
  fName : ByteArray
  fText : ByteArray
  fTo : ByteArray
structure SFile where
  fName : ByteArray
  fText : ByteArray
  fKept : Int
structure SDisk where
  fFiles : (List SFile)
structure SBook where
  fWord : ByteArray
  fTries : Int
  fThings : (List SThing)
  fLast : Int
  fChain : ByteArray
  fCount : Int
structure SL01Cur where
  fB : Unit
  fI : Int
  fH : Int
structure SL19Cur where
  fText : ByteArray
  fAt : Int
  fBad : Bool
structure SHasher where
  fState : ByteArray
  fRest : ByteArray
  fCount : Int
structure SFields where
  fText : ByteArray
  fAt : Int
  fBad : Bool
def els : List (Nat × TyE) := [(3, ⟨Int, 0⟩), (4, ⟨Bool, false⟩), (5, ⟨Int, 0⟩), (9, ⟨ByteArray, ⟨#[]⟩⟩), (22, ⟨(List Int), []⟩), (24, ⟨(List SRec), []⟩), (26, ⟨(List SAct), []⟩), (30, ⟨SThing, ⟨0, 0, false, false, false, false, ⟨#[]⟩, 0⟩⟩), (32, ⟨SRec, ⟨0, ⟨#[]⟩, 0, ⟨0, 0, false, false, false, false, ⟨#[]⟩, 0⟩⟩⟩), (34, ⟨SAct, ⟨0, ⟨#[]⟩, ⟨#[]⟩, ⟨#[]⟩⟩⟩), (37, ⟨(List Int), []⟩), (40, ⟨(List SFile), []⟩), (42, ⟨SDisk, ⟨[]⟩⟩), (45, ⟨(List SThing), []⟩), (47, ⟨SBook, ⟨⟨#[]⟩, 0, [], 0, ⟨#[]⟩, 0⟩⟩), (61, ⟨Bool, false⟩), (67, ⟨(List ByteArray), []⟩), (81, ⟨SFile, ⟨⟨#[]⟩, ⟨#[]⟩, 0⟩⟩), (85, ⟨Bools 3, boolsZ 3⟩), (92, ⟨Int, 0⟩), (98, ⟨Int, 0⟩), (100, ⟨Bool, false⟩), (102, ⟨SL19Cur, ⟨⟨#[]⟩, 0, false⟩⟩), (110, ⟨SHasher, ⟨⟨#[]⟩, ⟨#[]⟩, 0⟩⟩), (125, ⟨Bool, false⟩), (127, ⟨SFields, ⟨⟨#[]⟩, 0, false⟩⟩), (132, ⟨Bools 8, boolsZ 8⟩), (138, ⟨(List Int), []⟩), (148, ⟨Bool, false⟩), (152, ⟨(List Bool), []⟩), (153, ⟨Bools 64, boolsZ 64⟩)]
def tis : List (Nat × TI) := [(3, ⟨1, 8, .int .i64⟩), (4, ⟨1, 1, .bool⟩), (5, ⟨1, 1, .int .u8⟩), (9, ⟨1, 16, .str⟩), (22, ⟨1, 24, .sl 5⟩), (24, ⟨1, 24, .sl 32⟩), (26, ⟨1, 24, .sl 34⟩), (30, ⟨8, 48, .st [(3, 0), (3, 1), (4, 2), (4, 3), (4, 4), (4, 5), (9, 6), (3, 7)]⟩), (32, ⟨11, 80, .st [(3, 0), (9, 1), (3, 2), (30, 3)]⟩), (34, ⟨4, 56, .st [(3, 0), (9, 1), (9, 2), (9, 3)]⟩), (37, ⟨1, 24, .sl 3⟩), (40, ⟨1, 24, .sl 81⟩), (42, ⟨1, 24, .st [(40, 0)]⟩), (45, ⟨1, 24, .sl 30⟩), (47, ⟨6, 80, .st [(9, 0), (3, 1), (45, 2), (3, 3), (9, 4), (3, 5)]⟩), (61, ⟨1, 8, .ptr 85⟩), (67, ⟨1, 24, .sl 9⟩), (81, ⟨3, 40, .st [(9, 0), (9, 1), (3, 2)]⟩), (85, ⟨3, 40, .st [(22, 0), (3, 1), (3, 2)]⟩), (92, ⟨1, 4, .int .u32⟩), (98, ⟨1, 8, .int .u64⟩), (100, ⟨1, 8, .ptr 102⟩), (102, ⟨3, 32, .st [(9, 0), (3, 1), (4, 2)]⟩), (110, ⟨3, 40, .st [(9, 0), (9, 1), (3, 2)]⟩), (125, ⟨1, 8, .ptr 127⟩), (127, ⟨3, 32, .st [(9, 0), (3, 1), (4, 2)]⟩), (132, ⟨8, 32, .arr 8 92⟩), (138, ⟨1, 24, .sl 92⟩), (148, ⟨1, 8, .ptr 47⟩), (152, ⟨1, 24, .sl 4⟩), (153, ⟨64, 256, .arr 64 92⟩)]
def ent3 : Ent (ElOf els) := ⟨3, { sh := [.int .i64], enc := fun (x : Int) => [.int .i64 x], dec := fun cs => (cs.getD 0 .junk).toInt, z := (0 : Int), int? := some ⟨rfl⟩ }⟩
def ent4 : Ent (ElOf els) := ⟨4, { sh := [.bool], enc := fun (x : Bool) => [.bool x], dec := fun cs => (cs.getD 0 .junk).toBool, z := false, int? := none }⟩
def ent5 : Ent (ElOf els) := ⟨5, { sh := [.int .u8], enc := fun (x : Int) => [.int .u8 x], dec := fun cs => (cs.getD 0 .junk).toInt, z := (0 : Int), int? := some ⟨rfl⟩ }⟩
def ent9 : Ent (ElOf els) := ⟨9, { sh := [.str], enc := fun (x : ByteArray) => [.str x], dec := fun cs => (cs.getD 0 .junk).toStr, z := (⟨#[]⟩ : ByteArray), int? := none }⟩
def ent22 : Ent (ElOf els) := ⟨22, { sh := [.sl 5], enc := fun (x : (List Int)) => [.rsl 5 x], dec := fun cs => (L.toSl 5 (cs.getD 0 .junk)), z := [], int? := none }⟩
def ent24 : Ent (ElOf els) := ⟨24, { sh := [.sl 32], enc := fun (x : (List SRec)) => [.rsl 32 x], dec := fun cs => (L.toSl 32 (cs.getD 0 .junk)), z := [], int? := none }⟩
def ent26 : Ent (ElOf els) := ⟨26, { sh := [.sl 34], enc := fun (x : (List SAct)) => [.rsl 34 x], dec := fun cs => (L.toSl 34 (cs.getD 0 .junk)), z := [], int? := none }⟩
def ent30 : Ent (ElOf els) := ⟨30, { sh := [.int .i64, .int .i64, .bool, .bool, .bool, .bool, .str, .int .i64], enc := fun (x : SThing) => [.int .i64 x.fId, .int .i64 x.fKind, .bool x.fHidden, .bool x.fFixed, .bool x.fSigns, .bool x.fWraps, .str x.fValue, .int .i64 x.fNext], dec := fun cs => ⟨(cs.getD 0 .junk).toInt, (cs.getD 1 .junk).toInt, (cs.getD 2 .junk).toBool, (cs.getD 3 .junk).toBool, (cs.getD 4 .junk).toBool, (cs.getD 5 .junk).toBool, (cs.getD 6 .junk).toStr, (cs.getD 7 .junk).toInt⟩, z := (⟨0, 0, false, false, false, false, ⟨#[]⟩, 0⟩ : SThing), int? := none }⟩
def ent32 : Ent (ElOf els) := ⟨32, { sh := [.int .i64, .str, .int .i64, .int .i64, .int .i64, .bool, .bool, .bool, .bool, .str, .int .i64], enc := fun (x : SRec) => [.int .i64 x.fKind, .str x.fText, .int .i64 x.fNum, .int .i64 x.fThing.fId, .int .i64 x.fThing.fKind, .bool x.fThing.fHidden, .bool x.fThing.fFixed, .bool x.fThing.fSigns, .bool x.fThing.fWraps, .str x.fThing.fValue, .int .i64 x.fThing.fNext], dec := fun cs => ⟨(cs.getD 0 .junk).toInt, (cs.getD 1 .junk).toStr, (cs.getD 2 .junk).toInt, ⟨(cs.getD 3 .junk).toInt, (cs.getD 4 .junk).toInt, (cs.getD 5 .junk).toBool, (cs.getD 6 .junk).toBool, (cs.getD 7 .junk).toBool, (cs.getD 8 .junk).toBool, (cs.getD 9 .junk).toStr, (cs.getD 10 .junk).toInt⟩⟩, z := (⟨0, ⟨#[]⟩, 0, ⟨0, 0, false, false, false, false, ⟨#[]⟩, 0⟩⟩ : SRec), int? := none }⟩
def ent34 : Ent (ElOf els) := ⟨34, { sh := [.int .i64, .str, .str, .str], enc := fun (x : SAct) => [.int .i64 x.fKind, .str x.fName, .str x.fText, .str x.fTo], dec := fun cs => ⟨(cs.getD 0 .junk).toInt, (cs.getD 1 .junk).toStr, (cs.getD 2 .junk).toStr, (cs.getD 3 .junk).toStr⟩, z := (⟨0, ⟨#[]⟩, ⟨#[]⟩, ⟨#[]⟩⟩ : SAct), int? := none }⟩
def ent37 : Ent (ElOf els) := ⟨37, { sh := [.sl 3], enc := fun (x : (List Int)) => [.rsl 3 x], dec := fun cs => (L.toSl 3 (cs.getD 0 .junk)), z := [], int? := none }⟩
def ent40 : Ent (ElOf els) := ⟨40, { sh := [.sl 81], enc := fun (x : (List SFile)) => [.rsl 81 x], dec := fun cs => (L.toSl 81 (cs.getD 0 .junk)), z := [], int? := none }⟩
def ent42 : Ent (ElOf els) := ⟨42, { sh := [.sl 81], enc := fun (x : SDisk) => [.rsl 81 x.fFiles], dec := fun cs => ⟨(L.toSl 81 (cs.getD 0 .junk))⟩, z := (⟨[]⟩ : SDisk), int? := none }⟩
def ent45 : Ent (ElOf els) := ⟨45, { sh := [.sl 30], enc := fun (x : (List SThing)) => [.rsl 30 x], dec := fun cs => (L.toSl 30 (cs.getD 0 .junk)), z := [], int? := none }⟩
def ent47 : Ent (ElOf els) := ⟨47, { sh := [.str, .int .i64, .sl 30, .int .i64, .str, .int .i64], enc := fun (x : SBook) => [.str x.fWord, .int .i64 x.fTries, .rsl 30 x.fThings, .int .i64 x.fLast, .str x.fChain, .int .i64 x.fCount], dec := fun cs => ⟨(cs.getD 0 .junk).toStr, (cs.getD 1 .junk).toInt, (L.toSl 30 (cs.getD 2 .junk)), (cs.getD 3 .junk).toInt, (cs.getD 4 .junk).toStr, (cs.getD 5 .junk).toInt⟩, z := (⟨⟨#[]⟩, 0, [], 0, ⟨#[]⟩, 0⟩ : SBook), int? := none }⟩
def ent61 : Ent (ElOf els) := ⟨61, { sh := [.bool], enc := fun (x : Bool) => [.bool x], dec := fun cs => (cs.getD 0 .junk).toBool, z := false, int? := none }⟩
def ent67 : Ent (ElOf els) := ⟨67, { sh := [.sl 9], enc := fun (x : (List ByteArray)) => [.rsl 9 x], dec := fun cs => (L.toSl 9 (cs.getD 0 .junk)), z := [], int? := none }⟩
def ent81 : Ent (ElOf els) := ⟨81, { sh := [.str, .str, .int .i64], enc := fun (x : SFile) => [.str x.fName, .str x.fText, .int .i64 x.fKept], dec := fun cs => ⟨(cs.getD 0 .junk).toStr, (cs.getD 1 .junk).toStr, (cs.getD 2 .junk).toInt⟩, z := (⟨⟨#[]⟩, ⟨#[]⟩, 0⟩ : SFile), int? := none }⟩
def ent85 : Ent (ElOf els) := ⟨85, codBools 3 (fun x => x) (fun x => x)⟩
def ent92 : Ent (ElOf els) := ⟨92, { sh := [.int .u32], enc := fun (x : Int) => [.int .u32 x], dec := fun cs => (cs.getD 0 .junk).toInt, z := (0 : Int), int? := some ⟨rfl⟩ }⟩
def ent98 : Ent (ElOf els) := ⟨98, { sh := [.int .u64], enc := fun (x : Int) => [.int .u64 x], dec := fun cs => (cs.getD 0 .junk).toInt, z := (0 : Int), int? := some ⟨rfl⟩ }⟩
def ent100 : Ent (ElOf els) := ⟨100, { sh := [.bool], enc := fun (x : Bool) => [.bool x], dec := fun cs => (cs.getD 0 .junk).toBool, z := false, int? := none }⟩
def ent102 : Ent (ElOf els) := ⟨102, { sh := [.str, .int .i64, .bool], enc := fun (x : SL19Cur) => [.str x.fText, .int .i64 x.fAt, .bool x.fBad], dec := fun cs => ⟨(cs.getD 0 .junk).toStr, (cs.getD 1 .junk).toInt, (cs.getD 2 .junk).toBool⟩, z := (⟨⟨#[]⟩, 0, false⟩ : SL19Cur), int? := none }⟩
def ent110 : Ent (ElOf els) := ⟨110, { sh := [.str, .str, .int .i64], enc := fun (x : SHasher) => [.str x.fState, .str x.fRest, .int .i64 x.fCount], dec := fun cs => ⟨(cs.getD 0 .junk).toStr, (cs.getD 1 .junk).toStr, (cs.getD 2 .junk).toInt⟩, z := (⟨⟨#[]⟩, ⟨#[]⟩, 0⟩ : SHasher), int? := none }⟩
def ent125 : Ent (ElOf els) := ⟨125, { sh := [.bool], enc := fun (x : Bool) => [.bool x], dec := fun cs => (cs.getD 0 .junk).toBool, z := false, int? := none }⟩
def ent127 : Ent (ElOf els) := ⟨127, { sh := [.str, .int .i64, .bool], enc := fun (x : SFields) => [.str x.fText, .int .i64 x.fAt, .bool x.fBad], dec := fun cs => ⟨(cs.getD 0 .junk).toStr, (cs.getD 1 .junk).toInt, (cs.getD 2 .junk).toBool⟩, z := (⟨⟨#[]⟩, 0, false⟩ : SFields), int? := none }⟩
def ent132 : Ent (ElOf els) := ⟨132, codBools 8 (fun x => x) (fun x => x)⟩
def ent138 : Ent (ElOf els) := ⟨138, { sh := [.sl 92], enc := fun (x : (List Int)) => [.rsl 92 x], dec := fun cs => (L.toSl 92 (cs.getD 0 .junk)), z := [], int? := none }⟩
def ent148 : Ent (ElOf els) := ⟨148, { sh := [.bool], enc := fun (x : Bool) => [.bool x], dec := fun cs => (cs.getD 0 .junk).toBool, z := false, int? := none }⟩
def ent152 : Ent (ElOf els) := ⟨152, { sh := [.sl 4], enc := fun (x : (List Bool)) => [.rsl 4 x], dec := fun cs => (L.toSl 4 (cs.getD 0 .junk)), z := [], int? := none }⟩
def ent153 : Ent (ElOf els) := ⟨153, codBools 64 (fun x => x) (fun x => x)⟩
def ents : List (Ent (ElOf els)) := [ent3, ent4, ent5, ent9, ent22, ent24, ent26, ent30, ent32, ent34, ent37, ent40, ent42, ent45, ent47, ent61, ent67, ent81, ent85, ent92, ent98, ent100, ent102, ent110, ent125, ent127, ent132, ent138, ent148, ent152, ent153]
def modes : List (Nat × List Mode') := []
def cuts : List (Nat × List (Nat × (List Nat × List Nat × List (Nat × Nat) × List (Nat × Nat × Nat)))) := [(22, [(3, ([0, 3, 4], [], [(0, 5)], []))]),
  (117, [(3, ([0, 3, 4], [], [(0, 92), (3, 5)], []))]),
  (114, [(3, ([0, 3, 4], [], [(3, 92)], []))]),
  (116, [(3, ([0, 1, 7, 8], [], [(0, 92), (1, 92), (7, 92)], [])), (8, ([0, 1, 7, 9, 10], [], [(0, 92), (1, 92), (7, 92), (9, 92)], [])), (16, ([0, 1, 7, 9, 10, 13, 15, 16], [], [(0, 92), (1, 92), (7, 92), (9, 92)], [])), (23, ([0, 9, 17, 18], [], [(0, 92), (9, 92), (17, 92)], []))]),
  (82, [(7, ([1, 2, 4, 5, 6, 7, 8], [128, 256], [(5, 92), (6, 92)], []))]),
  (81, [(5, ([1, 3], [64], [(3, 5)], [])), (9, ([1, 3, 4, 5], [64], [(3, 5)], [])), (13, ([1, 3, 4, 5, 6, 7], [64], [(3, 5)], [])), (20, ([3, 8, 9, 10], [], [(3, 5), (8, 92), (9, 92)], []))]),
  (43, [(3, ([0, 1, 5, 6], [], [(5, 5)], []))]),
  (122, [(5, ([0, 1, 5, 6], [0], [(5, 5)], [(0, 0, 5)]))]),
  (53, [(2, ([0, 3], [], [(3, 5)], []))]),
  (86, [(4, ([1, 3], [64], [], [(64, 2, 30)]))]),
  (87, [(2, ([1, 2, 4, 6], [128, 256], [], [(128, 2, 30)]))]),
  (89, [(3, ([0, 3, 5, 6], [192], [(0, 30), (5, 30)], [])), (9, ([0, 3, 5, 7], [192], [(0, 30), (5, 30)], []))]),
  (48, [(24, ([2, 3, 4, 6, 8, 13, 14], [128, 192, 256, 512], [(13, 30)], [(128, 2, 30), (256, 2, 30), (512, 2, 30)]))]),
  (21, [(4, ([0, 3, 4, 5, 6], [0, 192, 256], [(5, 32)], [(0, 0, 5), (192, 2, 30), (256, 2, 30)]))]),
  (123, [(5, ([0, 1, 5, 6], [], [(5, 5)], []))]),
  (55, [(5, ([0, 1, 2, 8, 9], [], [(8, 5)], []))]),
  (56, [(3, ([1, 5, 6], [], [(5, 5)], []))]),
  (99, [(2, ([0, 1, 5], [], [], [])), (6, ([0, 1, 5, 6], [], [], []))]),
  (60, [(5, ([0, 1, 7, 8], [], [], []))]),
  (100, [(2, ([0, 1, 5], [], [], [])), (6, ([0, 1, 5, 19], [], [], []))]),
  (27, [(5, ([0, 4, 5], [], [(4, 9)], []))]),
  (67, [(2, ([0, 3], [], [(3, 5)], []))]),
  (131, [(3, ([0, 2, 3, 11], [128, 192], [], [])), (6, ([0, 2, 3, 4, 11, 14], [128, 192], [], [])), (12, ([2, 3, 6], [128, 192], [], []))]),
  (127, [(4, ([2, 4, 5, 6, 7, 8, 9, 10, 11, 12, 13, 37], [128, 256, 320], [], [])), (13, ([2, 4, 17, 109], [128, 256, 1088], [], []))]),
  (109, [(1, ([1, 2, 4], [128, 256], [], []))]),
  (112, [(3, ([3, 6, 7], [], [], []))]),
  (124, [(3, ([1, 5, 10, 11], [], [(5, 5)], []))]),
  (63, [(6, ([0, 2, 8, 10, 11], [], [], []))]),
  (65, [(3, ([1, 5, 10, 11], [], [(5, 5)], []))]),
  (120, [(3, ([3, 14, 15, 16], [], [(14, 4)], []))]),
  (8, [(5, ([0, 8, 9, 23, 24, 25], [], [(8, 32), (23, 9)], []))]),
  (9, [(5, ([3, 4, 5], [448], [(4, 3)], [(448, 0, 5)]))]),
  (68, [(6, ([0, 1, 7, 8, 9], [], [], []))]),
  (33, [(5, ([0, 4, 5], [], [(4, 9)], []))]),
  (10, [(5, ([0, 6, 7, 9, 10], [], [(6, 32), (7, 9)], []))]),
  (11, [(4, ([0, 1, 5], [], [(0, 32), (1, 32)], []))]),
  (3, [(6, ([0, 3, 4, 5], [], [(0, 5), (3, 32)], []))]),
  (49, [(4, ([1, 3], [64], [], [(64, 0, 81)]))]),
  (50, [(2, ([1, 2, 5], [128], [], [(128, 0, 81)]))]),
  (75, [(3, ([2, 3, 4, 5, 6], [128, 192, 256, 320], [], [(128, 0, 81), (256, 0, 81), (320, 0, 81)])), (9, ([2, 3, 4, 5, 7], [128, 192, 256, 320], [], [(128, 0, 81), (256, 0, 81), (320, 0, 81)]))]),
  (76, [(3, ([1, 2, 4, 5, 6], [128, 256, 320], [], [(128, 0, 81), (256, 0, 81), (320, 0, 81)]))]),
  (12, [(3, ([1, 4, 6, 7], [256, 384], [(1, 34)], [(256, 0, 81), (384, 0, 81)]))]),
  (41, [(2, ([1, 8, 9, 10], [], [(8, 81)], []))]),
  (106, [(2, ([1, 6, 7, 8], [64], [(6, 30)], [(64, 2, 30)]))]),
  (108, [(2, ([1, 8, 9, 10], [], [(8, 30)], []))]),
  (38, [(3, ([4, 6, 13, 14, 15], [256, 384], [(13, 32)], [(256, 2, 30), (384, 2, 30)]))]),
  (40, [(2, ([1, 6, 7, 8], [64], [(6, 81)], [(64, 0, 81)]))]),
  (14, [(4, ([2, 3, 5], [128, 192], [], [(128, 2, 30), (192, 2, 30)]))]),
  (17, [(3, ([1, 4, 6, 7], [256, 384], [(1, 32)], [(256, 2, 30), (384, 2, 30)]))]),
  (18, [(4, ([1, 3], [64], [], [(64, 0, 81)]))]),
  (51, [(5, ([1, 2, 4, 6, 7], [128, 256, 384], [(1, 3)], [(128, 0, 81), (256, 0, 81), (384, 0, 81)]))]),
  (4, [(7, ([0, 3, 4, 5, 6], [320], [(0, 5), (3, 32)], [(320, 0, 81)]))])]
def tabs : List (Nat × (Nat × List Int)) := [(0, (153, [1116352408, 1899447441, 3049323471, 3921009573, 961987163, 1508970993, 2453635748, 2870763221, 3624381080, 310598401, 607225278, 1426881987, 1925078388, 2162078206, 2614888103, 3248222580, 3835390401, 4022224774, 264347078, 604807628, 770255983, 1249150122, 1555081692, 1996064986, 2554220882, 2821834349, 2952996808, 3210313671, 3336571891, 3584528711, 113926993, 338241895, 666307205, 773529912, 1294757372, 1396182291, 1695183700, 1986661051, 2177026350, 2456956037, 2730485921, 2820302411, 3259730800, 3345764771, 3516065817, 3600352804, 4094571909, 275423344, 430227734, 506948616, 659060556, 883997877, 958139571, 1322822218, 1537002063, 1747873779, 1955562222, 2024104815, 2227730452, 2361852424, 2428436474, 2756734187, 3204031479, 3329325298]))]
set_option linter.unusedSectionVars false
variable [PC]
def ctx : Ctx := mkCtx els tis ents modes cuts tabs PC.pm
noncomputable abbrev PP : Program := Tryz.prog
abbrev LI := List Go.Item × Env ctx × Hp ctx
theorem good3 : CodGood ctx 3 ent3.c := ⟨fun _ => rfl, fun cs h0 => by obtain ⟨n0, ls0, rfl, h1⟩ := fit_int h0; obtain rfl := fit_nil h1; rfl, fun _ => rfl, rfl, fun h k hi hk n => by cases hk; rfl⟩
theorem good4 : CodGood ctx 4 ent4.c := ⟨fun _ => rfl, fun cs h0 => by obtain ⟨n0, ls0, rfl, h1⟩ := fit_bool h0; obtain rfl := fit_nil h1; rfl, fun _ => rfl, rfl, fun h k hi hk n => by cases hi⟩
theorem good5 : CodGood ctx 5 ent5.c := ⟨fun _ => rfl, fun cs h0 => by obtain ⟨n0, ls0, rfl, h1⟩ := fit_int h0; obtain rfl := fit_nil h1; rfl, fun _ => rfl, rfl, fun h k hi hk n => by cases hk; rfl⟩
theorem good9 : CodGood ctx 9 ent9.c := ⟨fun _ => rfl, fun cs h0 => by obtain ⟨n0, ls0, rfl, h1⟩ := fit_str h0; obtain rfl := fit_nil h1; rfl, fun _ => rfl, rfl, fun h k hi hk n => by cases hi⟩
theorem good22 : CodGood ctx 22 ent22.c := ⟨fun _ => rfl, fun cs h0 => by obtain ⟨n0, ls0, rfl, h1⟩ := fit_sl h0; obtain rfl := fit_nil h1; rfl, fun _ => rfl, rfl, fun h k hi hk n => by cases hi⟩
theorem good24 : CodGood ctx 24 ent24.c := ⟨fun _ => rfl, fun cs h0 => by obtain ⟨n0, ls0, rfl, h1⟩ := fit_sl h0; obtain rfl := fit_nil h1; rfl, fun _ => rfl, rfl, fun h k hi hk n => by cases hi⟩
theorem good26 : CodGood ctx 26 ent26.c := ⟨fun _ => rfl, fun cs h0 => by obtain ⟨n0, ls0, rfl, h1⟩ := fit_sl h0; obtain rfl := fit_nil h1; rfl, fun _ => rfl, rfl, fun h k hi hk n => by cases hi⟩
theorem good30 : CodGood ctx 30 ent30.c := ⟨fun _ => rfl, fun cs h0 => by obtain ⟨n0, ls0, rfl, h1⟩ := fit_int h0; obtain ⟨n1, ls1, rfl, h2⟩ := fit_int h1; obtain ⟨n2, ls2, rfl, h3⟩ := fit_bool h2; obtain ⟨n3, ls3, rfl, h4⟩ := fit_bool h3; obtain ⟨n4, ls4, rfl, h5⟩ := fit_bool h4; obtain ⟨n5, ls5, rfl, h6⟩ := fit_bool h5; obtain ⟨n6, ls6, rfl, h7⟩ := fit_str h6; obtain ⟨n7, ls7, rfl, h8⟩ := fit_int h7; obtain rfl := fit_nil h8; rfl, fun _ => rfl, rfl, fun h k hi hk n => by cases hi⟩
theorem good32 : CodGood ctx 32 ent32.c := ⟨fun _ => rfl, fun cs h0 => by obtain ⟨n0, ls0, rfl, h1⟩ := fit_int h0; obtain ⟨n1, ls1, rfl, h2⟩ := fit_str h1; obtain ⟨n2, ls2, rfl, h3⟩ := fit_int h2; obtain ⟨n3, ls3, rfl, h4⟩ := fit_int h3; obtain ⟨n4, ls4, rfl, h5⟩ := fit_int h4; obtain ⟨n5, ls5, rfl, h6⟩ := fit_bool h5; obtain ⟨n6, ls6, rfl, h7⟩ := fit_bool h6; obtain ⟨n7, ls7, rfl, h8⟩ := fit_bool h7; obtain ⟨n8, ls8, rfl, h9⟩ := fit_bool h8; obtain ⟨n9, ls9, rfl, h10⟩ := fit_str h9; obtain ⟨n10, ls10, rfl, h11⟩ := fit_int h10; obtain rfl := fit_nil h11; rfl, fun _ => rfl, rfl, fun h k hi hk n => by cases hi⟩
theorem good34 : CodGood ctx 34 ent34.c := ⟨fun _ => rfl, fun cs h0 => by obtain ⟨n0, ls0, rfl, h1⟩ := fit_int h0; obtain ⟨n1, ls1, rfl, h2⟩ := fit_str h1; obtain ⟨n2, ls2, rfl, h3⟩ := fit_str h2; obtain ⟨n3, ls3, rfl, h4⟩ := fit_str h3; obtain rfl := fit_nil h4; rfl, fun _ => rfl, rfl, fun h k hi hk n => by cases hi⟩
theorem good37 : CodGood ctx 37 ent37.c := ⟨fun _ => rfl, fun cs h0 => by obtain ⟨n0, ls0, rfl, h1⟩ := fit_sl h0; obtain rfl := fit_nil h1; rfl, fun _ => rfl, rfl, fun h k hi hk n => by cases hi⟩
theorem good40 : CodGood ctx 40 ent40.c := ⟨fun _ => rfl, fun cs h0 => by obtain ⟨n0, ls0, rfl, h1⟩ := fit_sl h0; obtain rfl := fit_nil h1; rfl, fun _ => rfl, rfl, fun h k hi hk n => by cases hi⟩
theorem good42 : CodGood ctx 42 ent42.c := ⟨fun _ => rfl, fun cs h0 => by obtain ⟨n0, ls0, rfl, h1⟩ := fit_sl h0; obtain rfl := fit_nil h1; rfl, fun _ => rfl, rfl, fun h k hi hk n => by cases hi⟩
theorem good45 : CodGood ctx 45 ent45.c := ⟨fun _ => rfl, fun cs h0 => by obtain ⟨n0, ls0, rfl, h1⟩ := fit_sl h0; obtain rfl := fit_nil h1; rfl, fun _ => rfl, rfl, fun h k hi hk n => by cases hi⟩
theorem good47 : CodGood ctx 47 ent47.c := ⟨fun _ => rfl, fun cs h0 => by obtain ⟨n0, ls0, rfl, h1⟩ := fit_str h0; obtain ⟨n1, ls1, rfl, h2⟩ := fit_int h1; obtain ⟨n2, ls2, rfl, h3⟩ := fit_sl h2; obtain ⟨n3, ls3, rfl, h4⟩ := fit_int h3; obtain ⟨n4, ls4, rfl, h5⟩ := fit_str h4; obtain ⟨n5, ls5, rfl, h6⟩ := fit_int h5; obtain rfl := fit_nil h6; rfl, fun _ => rfl, rfl, fun h k hi hk n => by cases hi⟩
theorem good61 : CodGood ctx 61 ent61.c := ⟨fun _ => rfl, fun cs h0 => by obtain ⟨n0, ls0, rfl, h1⟩ := fit_bool h0; obtain rfl := fit_nil h1; rfl, fun _ => rfl, rfl, fun h k hi hk n => by cases hi⟩
theorem good67 : CodGood ctx 67 ent67.c := ⟨fun _ => rfl, fun cs h0 => by obtain ⟨n0, ls0, rfl, h1⟩ := fit_sl h0; obtain rfl := fit_nil h1; rfl, fun _ => rfl, rfl, fun h k hi hk n => by cases hi⟩
theorem good81 : CodGood ctx 81 ent81.c := ⟨fun _ => rfl, fun cs h0 => by obtain ⟨n0, ls0, rfl, h1⟩ := fit_str h0; obtain ⟨n1, ls1, rfl, h2⟩ := fit_str h1; obtain ⟨n2, ls2, rfl, h3⟩ := fit_int h2; obtain rfl := fit_nil h3; rfl, fun _ => rfl, rfl, fun h k hi hk n => by cases hi⟩
theorem good85 : CodGood ctx 85 ent85.c := codBools_good (C := ctx) (e := 85) (n := 3) (f := fun x => x) (g := fun x => x) (fun _ => rfl) (by kernel_rfl)
theorem good92 : CodGood ctx 92 ent92.c := ⟨fun _ => rfl, fun cs h0 => by obtain ⟨n0, ls0, rfl, h1⟩ := fit_int h0; obtain rfl := fit_nil h1; rfl, fun _ => rfl, rfl, fun h k hi hk n => by cases hk; rfl⟩
theorem good98 : CodGood ctx 98 ent98.c := ⟨fun _ => rfl, fun cs h0 => by obtain ⟨n0, ls0, rfl, h1⟩ := fit_int h0; obtain rfl := fit_nil h1; rfl, fun _ => rfl, rfl, fun h k hi hk n => by cases hk; rfl⟩
theorem good100 : CodGood ctx 100 ent100.c := ⟨fun _ => rfl, fun cs h0 => by obtain ⟨n0, ls0, rfl, h1⟩ := fit_bool h0; obtain rfl := fit_nil h1; rfl, fun _ => rfl, rfl, fun h k hi hk n => by cases hi⟩
theorem good102 : CodGood ctx 102 ent102.c := ⟨fun _ => rfl, fun cs h0 => by obtain ⟨n0, ls0, rfl, h1⟩ := fit_str h0; obtain ⟨n1, ls1, rfl, h2⟩ := fit_int h1; obtain ⟨n2, ls2, rfl, h3⟩ := fit_bool h2; obtain rfl := fit_nil h3; rfl, fun _ => rfl, rfl, fun h k hi hk n => by cases hi⟩
theorem good110 : CodGood ctx 110 ent110.c := ⟨fun _ => rfl, fun cs h0 => by obtain ⟨n0, ls0, rfl, h1⟩ := fit_str h0; obtain ⟨n1, ls1, rfl, h2⟩ := fit_str h1; obtain ⟨n2, ls2, rfl, h3⟩ := fit_int h2; obtain rfl := fit_nil h3; rfl, fun _ => rfl, rfl, fun h k hi hk n => by cases hi⟩
theorem good125 : CodGood ctx 125 ent125.c := ⟨fun _ => rfl, fun cs h0 => by obtain ⟨n0, ls0, rfl, h1⟩ := fit_bool h0; obtain rfl := fit_nil h1; rfl, fun _ => rfl, rfl, fun h k hi hk n => by cases hi⟩
theorem good127 : CodGood ctx 127 ent127.c := ⟨fun _ => rfl, fun cs h0 => by obtain ⟨n0, ls0, rfl, h1⟩ := fit_str h0; obtain ⟨n1, ls1, rfl, h2⟩ := fit_int h1; obtain ⟨n2, ls2, rfl, h3⟩ := fit_bool h2; obtain rfl := fit_nil h3; rfl, fun _ => rfl, rfl, fun h k hi hk n => by cases hi⟩
theorem good132 : CodGood ctx 132 ent132.c := codBools_good (C := ctx) (e := 132) (n := 8) (f := fun x => x) (g := fun x => x) (fun _ => rfl) (by kernel_rfl)
theorem good138 : CodGood ctx 138 ent138.c := ⟨fun _ => rfl, fun cs h0 => by obtain ⟨n0, ls0, rfl, h1⟩ := fit_sl h0; obtain rfl := fit_nil h1; rfl, fun _ => rfl, rfl, fun h k hi hk n => by cases hi⟩
theorem good148 : CodGood ctx 148 ent148.c := ⟨fun _ => rfl, fun cs h0 => by obtain ⟨n0, ls0, rfl, h1⟩ := fit_bool h0; obtain rfl := fit_nil h1; rfl, fun _ => rfl, rfl, fun h k hi hk n => by cases hi⟩
theorem good152 : CodGood ctx 152 ent152.c := ⟨fun _ => rfl, fun cs h0 => by obtain ⟨n0, ls0, rfl, h1⟩ := fit_sl h0; obtain rfl := fit_nil h1; rfl, fun _ => rfl, rfl, fun h k hi hk n => by cases hi⟩
theorem good153 : CodGood ctx 153 ent153.c := codBools_good (C := ctx) (e := 153) (n := 64) (f := fun x => x) (g := fun x => x) (fun _ => rfl) (by kernel_rfl)
theorem ctxOk : CtxOk ctx Tryz.prog := mkCtx_ok (by kernel_rfl) (fun x hx => by
  simp only [ents, List.mem_cons, List.not_mem_nil, or_false] at hx
  rcases hx with rfl | rfl | rfl | rfl | rfl | rfl | rfl | rfl | rfl | rfl | rfl | rfl | rfl | rfl | rfl | rfl | rfl | rfl | rfl | rfl | rfl | rfl | rfl | rfl | rfl | rfl | rfl | rfl | rfl | rfl | rfl
  · exact good3
  · exact good4
  · exact good5
  · exact good9
  · exact good22
  · exact good24
  · exact good26
  · exact good30
  · exact good32
  · exact good34
  · exact good37
  · exact good40
  · exact good42
  · exact good45
  · exact good47
  · exact good61
  · exact good67
  · exact good81
  · exact good85
  · exact good92
  · exact good98
  · exact good100
  · exact good102
  · exact good110
  · exact good125
  · exact good127
  · exact good132
  · exact good138
  · exact good148
  · exact good152
  · exact good153)
def cv0 : Cv (List (U (ElOf els))) Unit := (cIso (cCons (uOne cCsl) cNil) (fun p => p.1) (fun s => (s, ())) (fun _ => rfl))
def cv1 : Cv (List (U (ElOf els))) Bool := (cIso (cCons (uOne cBool) cNil) (fun p => p.1) (fun s => (s, ())) (fun _ => rfl))
def cSL01CurF : Cv (List (L (ElOf els))) SL01Cur := cIso (cCons cCsl (cCons (cInt .i64) (cCons (cInt .i64) cNil))) (fun p => ⟨p.1, p.2.1, p.2.2.1⟩) (fun s => (s.fB, s.fI, s.fH, ())) (fun _ => rfl)
def cv2 : Cv (List (U (ElOf els))) SL01Cur := (cIso (cCons (uAgg (cPre cPtr0 cSL01CurF)) cNil) (fun p => p.1) (fun s => (s, ())) (fun _ => rfl))
def cv3 : Cv (List (U (ElOf els))) Unit := cNil
def cv4 : Cv (List (U (ElOf els))) (List Int) := (cIso (cCons (uOne (cFsl 92)) cNil) (fun p => p.1) (fun s => (s, ())) (fun _ => rfl))
def cv5 : Cv (List (U (ElOf els))) (List Int) := (cIso (cCons (uOne (cRsl 92)) cNil) (fun p => p.1) (fun s => (s, ())) (fun _ => rfl))
def cv6 : Cv (List (U (ElOf els))) ByteArray := (cIso (cCons (uOne cStr) cNil) (fun p => p.1) (fun s => (s, ())) (fun _ => rfl))
def cSHasher : Cv (List (L (ElOf els))) SHasher := cIso (cCons cStr (cCons cStr (cCons (cInt .i64) cNil))) (fun p => ⟨p.1, p.2.1, p.2.2.1⟩) (fun s => (s.fState, s.fRest, s.fCount, ())) (fun _ => rfl)
def cv7 : Cv (List (U (ElOf els))) SHasher := (cIso (cCons (uAgg cSHasher) cNil) (fun p => p.1) (fun s => (s, ())) (fun _ => rfl))
def cv8 : Cv (List (U (ElOf els))) (Int × Int × Int) := (cIso (cCons (uOne (cInt .i64)) (cCons (uOne (cInt .i64)) (cCons (uOne (cInt .i64)) cNil))) (fun p => (p.1, p.2.1, p.2.2.1)) (fun s => (s.1, s.2.1, s.2.2, ())) (fun _ => rfl))
def cv9 : Cv (List (U (ElOf els))) (ByteArray × Int) := (cIso (cCons (uOne cStr) (cCons (uOne (cInt .i64)) cNil)) (fun p => (p.1, p.2.1)) (fun s => (s.1, s.2, ())) (fun _ => rfl))
def cv10 : Cv (List (U (ElOf els))) Int := (cIso (cCons (uOne (cInt .u32)) cNil) (fun p => p.1) (fun s => (s, ())) (fun _ => rfl))
def cv11 : Cv (List (U (ElOf els))) (Int × Int × Int) := (cIso (cCons (uOne (cInt .u32)) (cCons (uOne (cInt .u32)) (cCons (uOne (cInt .u32)) cNil))) (fun p => (p.1, p.2.1, p.2.2.1)) (fun s => (s.1, s.2.1, s.2.2, ())) (fun _ => rfl))
def cv12 : Cv (List (U (ElOf els))) (Int × Int × Int × Int × Bool) := (cIso (cCons (uOne (cInt .u32)) (cCons (uOne (cInt .u32)) (cCons (uOne (cInt .u32)) (cCons (uOne (cInt .u32)) (cCons (uOne cBool) cNil))))) (fun p => (p.1, p.2.1, p.2.2.1, p.2.2.2.1, p.2.2.2.2.1)) (fun s => (s.1, s.2.1, s.2.2.1, s.2.2.2.1, s.2.2.2.2, ())) (fun _ => rfl))
def cv13 : Cv (List (U (ElOf els))) ((List Int) × (List Int) × ByteArray) := (cIso (cCons (uOne (cRsl 92)) (cCons (uOne (cRsl 92)) (cCons (uOne cStr) cNil))) (fun p => (p.1, p.2.1, p.2.2.1)) (fun s => (s.1, s.2.1, s.2.2, ())) (fun _ => rfl))
def cv14 : Cv (List (U (ElOf els))) (SHasher × ByteArray) := (cIso (cCons (uAgg cSHasher) (cCons (uOne cStr) cNil)) (fun p => (p.1, p.2.1)) (fun s => (s.1, s.2, ())) (fun _ => rfl))
def cv15 : Cv (List (U (ElOf els))) (Int × Int) := (cIso (cCons (uOne (cInt .i64)) (cCons (uOne (cInt .u8)) cNil)) (fun p => (p.1, p.2.1)) (fun s => (s.1, s.2, ())) (fun _ => rfl))
def cSBookF : Cv (List (L (ElOf els))) SBook := cIso (cCons cStr (cCons (cInt .i64) (cCons (cFsl 30) (cCons (cInt .i64) (cCons cStr (cCons (cInt .i64) cNil)))))) (fun p => ⟨p.1, p.2.1, p.2.2.1, p.2.2.2.1, p.2.2.2.2.1, p.2.2.2.2.2.1⟩) (fun s => (s.fWord, s.fTries, s.fThings, s.fLast, s.fChain, s.fCount, ())) (fun _ => rfl)
def cv16 : Cv (List (U (ElOf els))) SBook := (cIso (cCons (uAgg cSBookF) cNil) (fun p => p.1) (fun s => (s, ())) (fun _ => rfl))
def cv17 : Cv (List (U (ElOf els))) SL01Cur := (cIso (cCons (uAgg cSL01CurF) cNil) (fun p => p.1) (fun s => (s, ())) (fun _ => rfl))
def cv18 : Cv (List (U (ElOf els))) (Int × SL01Cur) := (cIso (cCons (uOne (cInt .i64)) (cCons (uAgg cSL01CurF) cNil)) (fun p => (p.1, p.2.1)) (fun s => (s.1, s.2, ())) (fun _ => rfl))
def cv19 : Cv (List (U (ElOf els))) (SL01Cur × Int) := (cIso (cCons (uAgg cSL01CurF) (cCons (uOne (cInt .i64)) cNil)) (fun p => (p.1, p.2.1)) (fun s => (s.1, s.2, ())) (fun _ => rfl))
def cv20 : Cv (List (U (ElOf els))) (SL01Cur × (List Int)) := (cIso (cCons (uAgg cSL01CurF) (cCons (uOne (cRsl 3)) cNil)) (fun p => (p.1, p.2.1)) (fun s => (s.1, s.2, ())) (fun _ => rfl))
def cv21 : Cv (List (U (ElOf els))) (SL01Cur × (List ByteArray)) := (cIso (cCons (uAgg cSL01CurF) (cCons (uOne (cRsl 9)) cNil)) (fun p => (p.1, p.2.1)) (fun s => (s.1, s.2, ())) (fun _ => rfl))
def cv22 : Cv (List (U (ElOf els))) (ByteArray × SL01Cur) := (cIso (cCons (uOne cStr) (cCons (uAgg cSL01CurF) cNil)) (fun p => (p.1, p.2.1)) (fun s => (s.1, s.2, ())) (fun _ => rfl))
def cv23 : Cv (List (U (ElOf els))) (Bool × SL01Cur) := (cIso (cCons (uOne cBool) (cCons (uAgg cSL01CurF) cNil)) (fun p => (p.1, p.2.1)) (fun s => (s.1, s.2, ())) (fun _ => rfl))
def cSThing : Cv (List (L (ElOf els))) SThing := cIso (cCons (cInt .i64) (cCons (cInt .i64) (cCons cBool (cCons cBool (cCons cBool (cCons cBool (cCons cStr (cCons (cInt .i64) cNil)))))))) (fun p => ⟨p.1, p.2.1, p.2.2.1, p.2.2.2.1, p.2.2.2.2.1, p.2.2.2.2.2.1, p.2.2.2.2.2.2.1, p.2.2.2.2.2.2.2.1⟩) (fun s => (s.fId, s.fKind, s.fHidden, s.fFixed, s.fSigns, s.fWraps, s.fValue, s.fNext, ())) (fun _ => rfl)
def cv24 : Cv (List (U (ElOf els))) (SThing × SL01Cur) := (cIso (cCons (uAgg cSThing) (cCons (uAgg cSL01CurF) cNil)) (fun p => (p.1, p.2.1)) (fun s => (s.1, s.2, ())) (fun _ => rfl))
def cSBook : Cv (List (L (ElOf els))) SBook := cIso (cCons cStr (cCons (cInt .i64) (cCons (cRsl 30) (cCons (cInt .i64) (cCons cStr (cCons (cInt .i64) cNil)))))) (fun p => ⟨p.1, p.2.1, p.2.2.1, p.2.2.2.1, p.2.2.2.2.1, p.2.2.2.2.2.1⟩) (fun s => (s.fWord, s.fTries, s.fThings, s.fLast, s.fChain, s.fCount, ())) (fun _ => rfl)
def cSRec : Cv (List (L (ElOf els))) SRec := cIso (cCons (cInt .i64) (cCons cStr (cCons (cInt .i64) (cCons (cInt .i64) (cCons (cInt .i64) (cCons cBool (cCons cBool (cCons cBool (cCons cBool (cCons cStr (cCons (cInt .i64) cNil))))))))))) (fun p => ⟨p.1, p.2.1, p.2.2.1, ⟨p.2.2.2.1, p.2.2.2.2.1, p.2.2.2.2.2.1, p.2.2.2.2.2.2.1, p.2.2.2.2.2.2.2.1, p.2.2.2.2.2.2.2.2.1, p.2.2.2.2.2.2.2.2.2.1, p.2.2.2.2.2.2.2.2.2.2.1⟩⟩) (fun s => (s.fKind, s.fText, s.fNum, s.fThing.fId, s.fThing.fKind, s.fThing.fHidden, s.fThing.fFixed, s.fThing.fSigns, s.fThing.fWraps, s.fThing.fValue, s.fThing.fNext, ())) (fun _ => rfl)
def cv25 : Cv (List (U (ElOf els))) (SL01Cur × SBook) := (cIso (cCons (uAgg cSL01CurF) (cCons (uAgg cSBook) cNil)) (fun p => (p.1, p.2.1)) (fun s => (s.1, s.2, ())) (fun _ => rfl))
def cv26 : Cv (List (U (ElOf els))) (SRec × SL01Cur) := (cIso (cCons (uAgg cSRec) (cCons (uAgg cSL01CurF) cNil)) (fun p => (p.1, p.2.1)) (fun s => (s.1, s.2, ())) (fun _ => rfl))
def cv27 : Cv (List (U (ElOf els))) Int := (cIso (cCons (uOne (cInt .i64)) cNil) (fun p => p.1) (fun s => (s, ())) (fun _ => rfl))
def cv28 : Cv (List (U (ElOf els))) SThing := (cIso (cCons (uAgg cSThing) cNil) (fun p => p.1) (fun s => (s, ())) (fun _ => rfl))
def cv29 : Cv (List (U (ElOf els))) (Bool × Int) := (cIso (cCons (uOne cBool) (cCons (uOne (cInt .i64)) cNil)) (fun p => (p.1, p.2.1)) (fun s => (s.1, s.2, ())) (fun _ => rfl))
def cv30 : Cv (List (U (ElOf els))) (ByteArray × Bool) := (cIso (cCons (uOne cStr) (cCons (uOne cBool) cNil)) (fun p => (p.1, p.2.1)) (fun s => (s.1, s.2, ())) (fun _ => rfl))
def cv31 : Cv (List (U (ElOf els))) SRec := (cIso (cCons (uAgg cSRec) cNil) (fun p => p.1) (fun s => (s, ())) (fun _ => rfl))
def cv32 : Cv (List (U (ElOf els))) SBook := (cIso (cCons (uAgg cSBook) cNil) (fun p => p.1) (fun s => (s, ())) (fun _ => rfl))
def cv33 : Cv (List (U (ElOf els))) (SBook × Int) := (cIso (cCons (uAgg cSBook) (cCons (uOne (cInt .i64)) cNil)) (fun p => (p.1, p.2.1)) (fun s => (s.1, s.2, ())) (fun _ => rfl))
def cv34 : Cv (List (U (ElOf els))) (SThing × Bool) := (cIso (cCons (uAgg cSThing) (cCons (uOne cBool) cNil)) (fun p => (p.1, p.2.1)) (fun s => (s.1, s.2, ())) (fun _ => rfl))
def cv35 : Cv (List (U (ElOf els))) (SThing × SThing) := (cIso (cCons (uAgg cSThing) (cCons (uAgg cSThing) cNil)) (fun p => (p.1, p.2.1)) (fun s => (s.1, s.2, ())) (fun _ => rfl))
def cv36 : Cv (List (U (ElOf els))) ((List SThing) × SThing) := (cIso (cCons (uOne (cRsl 30)) (cCons (uAgg cSThing) cNil)) (fun p => (p.1, p.2.1)) (fun s => (s.1, s.2, ())) (fun _ => rfl))
def cv37 : Cv (List (U (ElOf els))) (List SThing) := (cIso (cCons (uOne (cFsl 30)) cNil) (fun p => p.1) (fun s => (s, ())) (fun _ => rfl))
def cv38 : Cv (List (U (ElOf els))) (SBook × SRec) := (cIso (cCons (uAgg cSBook) (cCons (uAgg cSRec) cNil)) (fun p => (p.1, p.2.1)) (fun s => (s.1, s.2, ())) (fun _ => rfl))
def cv39 : Cv (List (U (ElOf els))) (SBook × Bool) := (cIso (cCons (uAgg cSBookF) (cCons (uOne cBool) cNil)) (fun p => (p.1, p.2.1)) (fun s => (s.1, s.2, ())) (fun _ => rfl))
def cv40 : Cv (List (U (ElOf els))) ((List SRec) × SBook × SL01Cur) := (cIso (cCons (uOne (cFsl 32)) (cCons (uAgg cSBookF) (cCons (uAgg cSL01CurF) cNil))) (fun p => (p.1, p.2.1, p.2.2.1)) (fun s => (s.1, s.2.1, s.2.2, ())) (fun _ => rfl))
def cv41 : Cv (List (U (ElOf els))) (List SRec) := (cIso (cCons (uOne (cFsl 32)) cNil) (fun p => p.1) (fun s => (s, ())) (fun _ => rfl))
def cv42 : Cv (List (U (ElOf els))) (ByteArray × Int) := (cIso (cCons (uOne cStr) (cCons (uOne (cInt .u8)) cNil)) (fun p => (p.1, p.2.1)) (fun s => (s.1, s.2, ())) (fun _ => rfl))
def cv43 : Cv (List (U (ElOf els))) (ByteArray × ByteArray) := (cIso (cCons (uOne cStr) (cCons (uOne cStr) cNil)) (fun p => (p.1, p.2.1)) (fun s => (s.1, s.2, ())) (fun _ => rfl))
def cv44 : Cv (List (U (ElOf els))) (ByteArray × Int × Int) := (cIso (cCons (uOne cStr) (cCons (uOne (cInt .i64)) (cCons (uOne (cInt .i64)) cNil))) (fun p => (p.1, p.2.1, p.2.2.1)) (fun s => (s.1, s.2.1, s.2.2, ())) (fun _ => rfl))
def cv45 : Cv (List (U (ElOf els))) (ByteArray × Int × ByteArray) := (cIso (cCons (uOne cStr) (cCons (uOne (cInt .i64)) (cCons (uOne cStr) cNil))) (fun p => (p.1, p.2.1, p.2.2.1)) (fun s => (s.1, s.2.1, s.2.2, ())) (fun _ => rfl))
def cv46 : Cv (List (U (ElOf els))) (Int × ByteArray) := (cIso (cCons (uOne (cInt .u32)) (cCons (uOne cStr) cNil)) (fun p => (p.1, p.2.1)) (fun s => (s.1, s.2, ())) (fun _ => rfl))
def cv47 : Cv (List (U (ElOf els))) (ByteArray × Int × SRec) := (cIso (cCons (uOne cStr) (cCons (uOne (cInt .i64)) (cCons (uAgg cSRec) cNil))) (fun p => (p.1, p.2.1, p.2.2.1)) (fun s => (s.1, s.2.1, s.2.2, ())) (fun _ => rfl))
def cv48 : Cv (List (U (ElOf els))) ((List SAct) × Bool) := (cIso (cCons (uOne (cFsl 34)) (cCons (uOne cBool) cNil)) (fun p => (p.1, p.2.1)) (fun s => (s.1, s.2, ())) (fun _ => rfl))
def cv49 : Cv (List (U (ElOf els))) (Int × Int × Bool) := (cIso (cCons (uOne (cInt .i64)) (cCons (uOne (cInt .i64)) (cCons (uOne cBool) cNil))) (fun p => (p.1, p.2.1, p.2.2.1)) (fun s => (s.1, s.2.1, s.2.2, ())) (fun _ => rfl))
def cv50 : Cv (List (U (ElOf els))) ((List ByteArray) × Int) := (cIso (cCons (uOne (cFsl 9)) (cCons (uOne (cInt .i64)) cNil)) (fun p => (p.1, p.2.1)) (fun s => (s.1, s.2, ())) (fun _ => rfl))
def cv51 : Cv (List (U (ElOf els))) (List Int) := (cIso (cCons (uArr 92) cNil) (fun p => p.1) (fun s => (s, ())) (fun _ => rfl))
def cv52 : Cv (List (U (ElOf els))) (Int × Int) := (cIso (cCons (uOne (cInt .u32)) (cCons (uOne (cInt .i64)) cNil)) (fun p => (p.1, p.2.1)) (fun s => (s.1, s.2, ())) (fun _ => rfl))
def cv53 : Cv (List (U (ElOf els))) ((List Int) × ByteArray) := (cIso (cCons (uArr 92) (cCons (uOne cStr) cNil)) (fun p => (p.1, p.2.1)) (fun s => (s.1, s.2, ())) (fun _ => rfl))
def cSFields : Cv (List (L (ElOf els))) SFields := cIso (cCons cStr (cCons (cInt .i64) (cCons cBool cNil))) (fun p => ⟨p.1, p.2.1, p.2.2.1⟩) (fun s => (s.fText, s.fAt, s.fBad, ())) (fun _ => rfl)
def cv54 : Cv (List (U (ElOf els))) SFields := (cIso (cCons (uAgg cSFields) cNil) (fun p => p.1) (fun s => (s, ())) (fun _ => rfl))
def cv55 : Cv (List (U (ElOf els))) (Int × SFields) := (cIso (cCons (uOne (cInt .i64)) (cCons (uAgg cSFields) cNil)) (fun p => (p.1, p.2.1)) (fun s => (s.1, s.2, ())) (fun _ => rfl))
def cv56 : Cv (List (U (ElOf els))) (ByteArray × Int × Bool) := (cIso (cCons (uOne cStr) (cCons (uOne (cInt .i64)) (cCons (uOne cBool) cNil))) (fun p => (p.1, p.2.1, p.2.2.1)) (fun s => (s.1, s.2.1, s.2.2, ())) (fun _ => rfl))
def cv57 : Cv (List (U (ElOf els))) (ByteArray × SFields) := (cIso (cCons (uOne cStr) (cCons (uAgg cSFields) cNil)) (fun p => (p.1, p.2.1)) (fun s => (s.1, s.2, ())) (fun _ => rfl))
def cv58 : Cv (List (U (ElOf els))) (SRec × Bool) := (cIso (cCons (uAgg cSRec) (cCons (uOne cBool) cNil)) (fun p => (p.1, p.2.1)) (fun s => (s.1, s.2, ())) (fun _ => rfl))
def cv59 : Cv (List (U (ElOf els))) ((List SRec) × Int) := (cIso (cCons (uOne (cFsl 32)) (cCons (uOne (cInt .i64)) cNil)) (fun p => (p.1, p.2.1)) (fun s => (s.1, s.2, ())) (fun _ => rfl))
def cv60 : Cv (List (U (ElOf els))) (List Int) := (cIso (cCons (uOne (cFsl 3)) cNil) (fun p => p.1) (fun s => (s, ())) (fun _ => rfl))
def cSL19Cur : Cv (List (L (ElOf els))) SL19Cur := cIso (cCons cStr (cCons (cInt .i64) (cCons cBool cNil))) (fun p => ⟨p.1, p.2.1, p.2.2.1⟩) (fun s => (s.fText, s.fAt, s.fBad, ())) (fun _ => rfl)
def cv61 : Cv (List (U (ElOf els))) (SL19Cur × Int) := (cIso (cCons (uAgg cSL19Cur) (cCons (uOne (cInt .i64)) cNil)) (fun p => (p.1, p.2.1)) (fun s => (s.1, s.2, ())) (fun _ => rfl))
def cv62 : Cv (List (U (ElOf els))) (ByteArray × SL19Cur) := (cIso (cCons (uOne cStr) (cCons (uAgg cSL19Cur) cNil)) (fun p => (p.1, p.2.1)) (fun s => (s.1, s.2, ())) (fun _ => rfl))
def cv63 : Cv (List (U (ElOf els))) SL19Cur := (cIso (cCons (uAgg cSL19Cur) cNil) (fun p => p.1) (fun s => (s, ())) (fun _ => rfl))
def cv64 : Cv (List (U (ElOf els))) (Int × SL19Cur) := (cIso (cCons (uOne (cInt .i64)) (cCons (uAgg cSL19Cur) cNil)) (fun p => (p.1, p.2.1)) (fun s => (s.1, s.2, ())) (fun _ => rfl))
def cv65 : Cv (List (U (ElOf els))) ((List SRec) × (List SRec)) := (cIso (cCons (uOne (cRsl 32)) (cCons (uOne (cRsl 32)) cNil)) (fun p => (p.1, p.2.1)) (fun s => (s.1, s.2, ())) (fun _ => rfl))
def cSDisk : Cv (List (L (ElOf els))) SDisk := cIso (cCons (cRsl 81) cNil) (fun p => ⟨p.1⟩) (fun s => (s.fFiles, ())) (fun _ => rfl)
def cv66 : Cv (List (U (ElOf els))) SDisk := (cIso (cCons (uAgg cSDisk) cNil) (fun p => p.1) (fun s => (s, ())) (fun _ => rfl))
def cv67 : Cv (List (U (ElOf els))) (SDisk × ByteArray) := (cIso (cCons (uAgg cSDisk) (cCons (uOne cStr) cNil)) (fun p => (p.1, p.2.1)) (fun s => (s.1, s.2, ())) (fun _ => rfl))
def cSFile : Cv (List (L (ElOf els))) SFile := cIso (cCons cStr (cCons cStr (cCons (cInt .i64) cNil))) (fun p => ⟨p.1, p.2.1, p.2.2.1⟩) (fun s => (s.fName, s.fText, s.fKept, ())) (fun _ => rfl)
def cSDiskF : Cv (List (L (ElOf els))) SDisk := cIso (cCons (cFsl 81) cNil) (fun p => ⟨p.1⟩) (fun s => (s.fFiles, ())) (fun _ => rfl)
def cv68 : Cv (List (U (ElOf els))) (SDisk × SFile) := (cIso (cCons (uAgg cSDisk) (cCons (uAgg cSFile) cNil)) (fun p => (p.1, p.2.1)) (fun s => (s.1, s.2, ())) (fun _ => rfl))
def cv69 : Cv (List (U (ElOf els))) SDisk := (cIso (cCons (uAgg cSDiskF) cNil) (fun p => p.1) (fun s => (s, ())) (fun _ => rfl))
def cSAct : Cv (List (L (ElOf els))) SAct := cIso (cCons (cInt .i64) (cCons cStr (cCons cStr (cCons cStr cNil)))) (fun p => ⟨p.1, p.2.1, p.2.2.1, p.2.2.2.1⟩) (fun s => (s.fKind, s.fName, s.fText, s.fTo, ())) (fun _ => rfl)
def cv70 : Cv (List (U (ElOf els))) (SDisk × SAct) := (cIso (cCons (uAgg cSDisk) (cCons (uAgg cSAct) cNil)) (fun p => (p.1, p.2.1)) (fun s => (s.1, s.2, ())) (fun _ => rfl))
def cv71 : Cv (List (U (ElOf els))) (SDisk × Bool) := (cIso (cCons (uAgg cSDiskF) (cCons (uOne cBool) cNil)) (fun p => (p.1, p.2.1)) (fun s => (s.1, s.2, ())) (fun _ => rfl))
def cv72 : Cv (List (U (ElOf els))) (SDisk × (List SAct)) := (cIso (cCons (uAgg cSDisk) (cCons (uOne (cRsl 34)) cNil)) (fun p => (p.1, p.2.1)) (fun s => (s.1, s.2, ())) (fun _ => rfl))
def cv73 : Cv (List (U (ElOf els))) (SDisk × Int) := (cIso (cCons (uAgg cSDiskF) (cCons (uOne (cInt .i64)) cNil)) (fun p => (p.1, p.2.1)) (fun s => (s.1, s.2, ())) (fun _ => rfl))
def cv74 : Cv (List (U (ElOf els))) (SBook × SThing) := (cIso (cCons (uAgg cSBookF) (cCons (uAgg cSThing) cNil)) (fun p => (p.1, p.2.1)) (fun s => (s.1, s.2, ())) (fun _ => rfl))
def cv75 : Cv (List (U (ElOf els))) (Bool × SBook) := (cIso (cCons (uOne cBool) (cCons (uAgg cSBookF) cNil)) (fun p => (p.1, p.2.1)) (fun s => (s.1, s.2, ())) (fun _ => rfl))
def cv76 : Cv (List (U (ElOf els))) (SBook × (List SRec)) := (cIso (cCons (uAgg cSBook) (cCons (uOne (cRsl 32)) cNil)) (fun p => (p.1, p.2.1)) (fun s => (s.1, s.2, ())) (fun _ => rfl))
def cv77 : Cv (List (U (ElOf els))) (ByteArray × SDisk) := (cIso (cCons (uOne cStr) (cCons (uAgg cSDisk) cNil)) (fun p => (p.1, p.2.1)) (fun s => (s.1, s.2, ())) (fun _ => rfl))
def cv78 : Cv (List (U (ElOf els))) (SBook × (List SAct) × Bool) := (cIso (cCons (uAgg cSBookF) (cCons (uOne (cFsl 34)) (cCons (uOne cBool) cNil))) (fun p => (p.1, p.2.1, p.2.2.1)) (fun s => (s.1, s.2.1, s.2.2, ())) (fun _ => rfl))
def cv79 : Cv (List (U (ElOf els))) (SBook × SBook) := (cIso (cCons (uAgg cSBook) (cCons (uAgg cSBook) cNil)) (fun p => (p.1, p.2.1)) (fun s => (s.1, s.2, ())) (fun _ => rfl))
def cv80 : Cv (List (U (ElOf els))) (SDisk × (List Int)) := (cIso (cCons (uAgg cSDisk) (cCons (uOne (cRsl 3)) cNil)) (fun p => (p.1, p.2.1)) (fun s => (s.1, s.2, ())) (fun _ => rfl))
def cv81 : Cv (List (U (ElOf els))) (SDisk × (List SAct) × Int × (List Int)) := (cIso (cCons (uAgg cSDisk) (cCons (uOne (cRsl 34)) (cCons (uOne (cInt .i64)) (cCons (uOne (cRsl 3)) cNil)))) (fun p => (p.1, p.2.1, p.2.2.1, p.2.2.2.1)) (fun s => (s.1, s.2.1, s.2.2.1, s.2.2.2, ())) (fun _ => rfl))
end Go.Proofs.YtjfkbidckphneaaGreatDoor.G
