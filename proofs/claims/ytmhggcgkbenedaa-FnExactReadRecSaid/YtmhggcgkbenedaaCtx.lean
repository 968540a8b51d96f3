/- The seat's tables: its types, what an element of each is, and what its functions do with what they are given. -/
import Derived.Test.YtmhggcgkbenedaaSnd38
import Derived.Test.YtmhggcgkbenedaaProg
import Derived.KernelRfl
namespace Go.Proofs.Ytmhggcgkbenedaa.G
open Go Go.Ev
structure SThing where
  fId : Int
  fKind : Int
  fHidden : Bool
  fFixed : Bool
  fSigns : Bool
  fWraps : Bool
  fValue : ByteArray
  fNext : Int
structure SCall where
  fOp : Int
  fSession : Int
  fThing : Int
  fKind : Int
  fText : ByteArray
  fHidden : Bool
  fFixed : Bool
structure SEvent where
  fCall : SCall
  fCut : Bool
  fLeft : (List Int)
  fRise : Bool
structure SBook where
  fWord : ByteArray
  fTries : Int
  fThings : (List SThing)
  fLast : Int
  fChain : ByteArray
  fCount : Int
structure SRec where
  fKind : Int
  fText : ByteArray
  fNum : Int
  fThing : SThing
structure SGiven where
  fThing : Int
  fLeaf : Int
  fWhen : Int
structure SL19Cur where
  fText : ByteArray
  fAt : Int
  fBad : Bool
structure SFields where
  fText : ByteArray
  fAt : Int
  fBad : Bool
def els : List (Nat × TyE) := [(3, ⟨Int, 0⟩), (4, ⟨Bool, false⟩), (5, ⟨Int, 0⟩), (9, ⟨ByteArray, ⟨#[]⟩⟩), (23, ⟨SThing, ⟨0, 0, false, false, false, false, ⟨#[]⟩, 0⟩⟩), (27, ⟨SThing, ⟨0, 0, false, false, false, false, ⟨#[]⟩, 0⟩⟩), (30, ⟨(List SGiven), []⟩), (32, ⟨(List Int), []⟩), (34, ⟨(List SGiven), []⟩), (42, ⟨SCall, ⟨0, 0, 0, 0, ⟨#[]⟩, false, false⟩⟩), (44, ⟨SEvent, ⟨⟨0, 0, 0, 0, ⟨#[]⟩, false, false⟩, false, [], false⟩⟩), (47, ⟨SCall, ⟨0, 0, 0, 0, ⟨#[]⟩, false, false⟩⟩), (49, ⟨SEvent, ⟨⟨0, 0, 0, 0, ⟨#[]⟩, false, false⟩, false, [], false⟩⟩), (53, ⟨(List SThing), []⟩), (55, ⟨SBook, ⟨⟨#[]⟩, 0, [], 0, ⟨#[]⟩, 0⟩⟩), (59, ⟨(List SThing), []⟩), (61, ⟨SBook, ⟨⟨#[]⟩, 0, [], 0, ⟨#[]⟩, 0⟩⟩), (67, ⟨SRec, ⟨0, ⟨#[]⟩, 0, ⟨0, 0, false, false, false, false, ⟨#[]⟩, 0⟩⟩⟩), (71, ⟨SRec, ⟨0, ⟨#[]⟩, 0, ⟨0, 0, false, false, false, false, ⟨#[]⟩, 0⟩⟩⟩), (87, ⟨SGiven, ⟨0, 0, 0⟩⟩), (89, ⟨SGiven, ⟨0, 0, 0⟩⟩), (101, ⟨Bool, false⟩), (103, ⟨SL19Cur, ⟨⟨#[]⟩, 0, false⟩⟩), (106, ⟨Bool, false⟩), (108, ⟨SFields, ⟨⟨#[]⟩, 0, false⟩⟩), (114, ⟨(List Int), []⟩), (115, ⟨(List Bool), []⟩)]
def tis : List (Nat × TI) := [(3, ⟨1, 8, .int .i64⟩), (4, ⟨1, 1, .bool⟩), (5, ⟨1, 1, .int .u8⟩), (9, ⟨1, 16, .str⟩), (23, ⟨8, 48, .st [(3, 0), (3, 1), (4, 2), (4, 3), (4, 4), (4, 5), (9, 6), (3, 7)]⟩), (27, ⟨8, 48, .st [(3, 0), (3, 1), (4, 2), (4, 3), (4, 4), (4, 5), (9, 6), (3, 7)]⟩), (30, ⟨1, 24, .sl 89⟩), (32, ⟨1, 24, .sl 3⟩), (34, ⟨1, 24, .sl 87⟩), (42, ⟨7, 56, .st [(3, 0), (3, 1), (3, 2), (3, 3), (9, 4), (4, 5), (4, 6)]⟩), (44, ⟨10, 96, .st [(42, 0), (4, 7), (32, 8), (4, 9)]⟩), (47, ⟨7, 56, .st [(3, 0), (3, 1), (3, 2), (3, 3), (9, 4), (4, 5), (4, 6)]⟩), (49, ⟨10, 96, .st [(47, 0), (4, 7), (32, 8), (4, 9)]⟩), (53, ⟨1, 24, .sl 23⟩), (55, ⟨6, 80, .st [(9, 0), (3, 1), (53, 2), (3, 3), (9, 4), (3, 5)]⟩), (59, ⟨1, 24, .sl 27⟩), (61, ⟨6, 80, .st [(9, 0), (3, 1), (59, 2), (3, 3), (9, 4), (3, 5)]⟩), (67, ⟨11, 80, .st [(3, 0), (9, 1), (3, 2), (23, 3)]⟩), (71, ⟨11, 80, .st [(3, 0), (9, 1), (3, 2), (27, 3)]⟩), (87, ⟨3, 24, .st [(3, 0), (3, 1), (3, 2)]⟩), (89, ⟨3, 24, .st [(3, 0), (3, 1), (3, 2)]⟩), (101, ⟨1, 8, .ptr 103⟩), (103, ⟨3, 32, .st [(9, 0), (3, 1), (4, 2)]⟩), (106, ⟨1, 8, .ptr 108⟩), (108, ⟨3, 32, .st [(9, 0), (3, 1), (4, 2)]⟩), (114, ⟨1, 24, .sl 5⟩), (115, ⟨1, 24, .sl 4⟩)]
def ent3 : Ent (ElOf els) := ⟨3, { sh := [.int .i64], enc := fun (x : Int) => [.int .i64 x], dec := fun cs => (cs.getD 0 .junk).toInt, z := (0 : Int), int? := some ⟨rfl⟩ }⟩
def ent4 : Ent (ElOf els) := ⟨4, { sh := [.bool], enc := fun (x : Bool) => [.bool x], dec := fun cs => (cs.getD 0 .junk).toBool, z := false, int? := none }⟩
def ent5 : Ent (ElOf els) := ⟨5, { sh := [.int .u8], enc := fun (x : Int) => [.int .u8 x], dec := fun cs => (cs.getD 0 .junk).toInt, z := (0 : Int), int? := some ⟨rfl⟩ }⟩
def ent9 : Ent (ElOf els) := ⟨9, { sh := [.str], enc := fun (x : ByteArray) => [.str x], dec := fun cs => (cs.getD 0 .junk).toStr, z := (⟨#[]⟩ : ByteArray), int? := none }⟩
def ent23 : Ent (ElOf els) := ⟨23, { sh := [.int .i64, .int .i64, .bool, .bool, .bool, .bool, .str, .int .i64], enc := fun (x : SThing) => [.int .i64 x.fId, .int .i64 x.fKind, .bool x.fHidden, .bool x.fFixed, .bool x.fSigns, .bool x.fWraps, .str x.fValue, .int .i64 x.fNext], dec := fun cs => ⟨(cs.getD 0 .junk).toInt, (cs.getD 1 .junk).toInt, (cs.getD 2 .junk).toBool, (cs.getD 3 .junk).toBool, (cs.getD 4 .junk).toBool, (cs.getD 5 .junk).toBool, (cs.getD 6 .junk).toStr, (cs.getD 7 .junk).toInt⟩, z := (⟨0, 0, false, false, false, false, ⟨#[]⟩, 0⟩ : SThing), int? := none }⟩
def ent27 : Ent (ElOf els) := ⟨27, { sh := [.int .i64, .int .i64, .bool, .bool, .bool, .bool, .str, .int .i64], enc := fun (x : SThing) => [.int .i64 x.fId, .int .i64 x.fKind, .bool x.fHidden, .bool x.fFixed, .bool x.fSigns, .bool x.fWraps, .str x.fValue, .int .i64 x.fNext], dec := fun cs => ⟨(cs.getD 0 .junk).toInt, (cs.getD 1 .junk).toInt, (cs.getD 2 .junk).toBool, (cs.getD 3 .junk).toBool, (cs.getD 4 .junk).toBool, (cs.getD 5 .junk).toBool, (cs.getD 6 .junk).toStr, (cs.getD 7 .junk).toInt⟩, z := (⟨0, 0, false, false, false, false, ⟨#[]⟩, 0⟩ : SThing), int? := none }⟩
def ent30 : Ent (ElOf els) := ⟨30, { sh := [.sl 89], enc := fun (x : (List SGiven)) => [.rsl 89 x], dec := fun cs => (L.toSl 89 (cs.getD 0 .junk)), z := [], int? := none }⟩
def ent32 : Ent (ElOf els) := ⟨32, { sh := [.sl 3], enc := fun (x : (List Int)) => [.rsl 3 x], dec := fun cs => (L.toSl 3 (cs.getD 0 .junk)), z := [], int? := none }⟩
def ent34 : Ent (ElOf els) := ⟨34, { sh := [.sl 87], enc := fun (x : (List SGiven)) => [.rsl 87 x], dec := fun cs => (L.toSl 87 (cs.getD 0 .junk)), z := [], int? := none }⟩
def ent42 : Ent (ElOf els) := ⟨42, { sh := [.int .i64, .int .i64, .int .i64, .int .i64, .str, .bool, .bool], enc := fun (x : SCall) => [.int .i64 x.fOp, .int .i64 x.fSession, .int .i64 x.fThing, .int .i64 x.fKind, .str x.fText, .bool x.fHidden, .bool x.fFixed], dec := fun cs => ⟨(cs.getD 0 .junk).toInt, (cs.getD 1 .junk).toInt, (cs.getD 2 .junk).toInt, (cs.getD 3 .junk).toInt, (cs.getD 4 .junk).toStr, (cs.getD 5 .junk).toBool, (cs.getD 6 .junk).toBool⟩, z := (⟨0, 0, 0, 0, ⟨#[]⟩, false, false⟩ : SCall), int? := none }⟩
def ent44 : Ent (ElOf els) := ⟨44, { sh := [.int .i64, .int .i64, .int .i64, .int .i64, .str, .bool, .bool, .bool, .sl 3, .bool], enc := fun (x : SEvent) => [.int .i64 x.fCall.fOp, .int .i64 x.fCall.fSession, .int .i64 x.fCall.fThing, .int .i64 x.fCall.fKind, .str x.fCall.fText, .bool x.fCall.fHidden, .bool x.fCall.fFixed, .bool x.fCut, .rsl 3 x.fLeft, .bool x.fRise], dec := fun cs => ⟨⟨(cs.getD 0 .junk).toInt, (cs.getD 1 .junk).toInt, (cs.getD 2 .junk).toInt, (cs.getD 3 .junk).toInt, (cs.getD 4 .junk).toStr, (cs.getD 5 .junk).toBool, (cs.getD 6 .junk).toBool⟩, (cs.getD 7 .junk).toBool, (L.toSl 3 (cs.getD 8 .junk)), (cs.getD 9 .junk).toBool⟩, z := (⟨⟨0, 0, 0, 0, ⟨#[]⟩, false, false⟩, false, [], false⟩ : SEvent), int? := none }⟩
def ent47 : Ent (ElOf els) := ⟨47, { sh := [.int .i64, .int .i64, .int .i64, .int .i64, .str, .bool, .bool], enc := fun (x : SCall) => [.int .i64 x.fOp, .int .i64 x.fSession, .int .i64 x.fThing, .int .i64 x.fKind, .str x.fText, .bool x.fHidden, .bool x.fFixed], dec := fun cs => ⟨(cs.getD 0 .junk).toInt, (cs.getD 1 .junk).toInt, (cs.getD 2 .junk).toInt, (cs.getD 3 .junk).toInt, (cs.getD 4 .junk).toStr, (cs.getD 5 .junk).toBool, (cs.getD 6 .junk).toBool⟩, z := (⟨0, 0, 0, 0, ⟨#[]⟩, false, false⟩ : SCall), int? := none }⟩
def ent49 : Ent (ElOf els) := ⟨49, { sh := [.int .i64, .int .i64, .int .i64, .int .i64, .str, .bool, .bool, .bool, .sl 3, .bool], enc := fun (x : SEvent) => [.int .i64 x.fCall.fOp, .int .i64 x.fCall.fSession, .int .i64 x.fCall.fThing, .int .i64 x.fCall.fKind, .str x.fCall.fText, .bool x.fCall.fHidden, .bool x.fCall.fFixed, .bool x.fCut, .rsl 3 x.fLeft, .bool x.fRise], dec := fun cs => ⟨⟨(cs.getD 0 .junk).toInt, (cs.getD 1 .junk).toInt, (cs.getD 2 .junk).toInt, (cs.getD 3 .junk).toInt, (cs.getD 4 .junk).toStr, (cs.getD 5 .junk).toBool, (cs.getD 6 .junk).toBool⟩, (cs.getD 7 .junk).toBool, (L.toSl 3 (cs.getD 8 .junk)), (cs.getD 9 .junk).toBool⟩, z := (⟨⟨0, 0, 0, 0, ⟨#[]⟩, false, false⟩, false, [], false⟩ : SEvent), int? := none }⟩
def ent53 : Ent (ElOf els) := ⟨53, { sh := [.sl 23], enc := fun (x : (List SThing)) => [.rsl 23 x], dec := fun cs => (L.toSl 23 (cs.getD 0 .junk)), z := [], int? := none }⟩
def ent55 : Ent (ElOf els) := ⟨55, { sh := [.str, .int .i64, .sl 23, .int .i64, .str, .int .i64], enc := fun (x : SBook) => [.str x.fWord, .int .i64 x.fTries, .rsl 23 x.fThings, .int .i64 x.fLast, .str x.fChain, .int .i64 x.fCount], dec := fun cs => ⟨(cs.getD 0 .junk).toStr, (cs.getD 1 .junk).toInt, (L.toSl 23 (cs.getD 2 .junk)), (cs.getD 3 .junk).toInt, (cs.getD 4 .junk).toStr, (cs.getD 5 .junk).toInt⟩, z := (⟨⟨#[]⟩, 0, [], 0, ⟨#[]⟩, 0⟩ : SBook), int? := none }⟩
def ent59 : Ent (ElOf els) := ⟨59, { sh := [.sl 27], enc := fun (x : (List SThing)) => [.rsl 27 x], dec := fun cs => (L.toSl 27 (cs.getD 0 .junk)), z := [], int? := none }⟩
def ent61 : Ent (ElOf els) := ⟨61, { sh := [.str, .int .i64, .sl 27, .int .i64, .str, .int .i64], enc := fun (x : SBook) => [.str x.fWord, .int .i64 x.fTries, .rsl 27 x.fThings, .int .i64 x.fLast, .str x.fChain, .int .i64 x.fCount], dec := fun cs => ⟨(cs.getD 0 .junk).toStr, (cs.getD 1 .junk).toInt, (L.toSl 27 (cs.getD 2 .junk)), (cs.getD 3 .junk).toInt, (cs.getD 4 .junk).toStr, (cs.getD 5 .junk).toInt⟩, z := (⟨⟨#[]⟩, 0, [], 0, ⟨#[]⟩, 0⟩ : SBook), int? := none }⟩
def ent67 : Ent (ElOf els) := ⟨67, { sh := [.int .i64, .str, .int .i64, .int .i64, .int .i64, .bool, .bool, .bool, .bool, .str, .int .i64], enc := fun (x : SRec) => [.int .i64 x.fKind, .str x.fText, .int .i64 x.fNum, .int .i64 x.fThing.fId, .int .i64 x.fThing.fKind, .bool x.fThing.fHidden, .bool x.fThing.fFixed, .bool x.fThing.fSigns, .bool x.fThing.fWraps, .str x.fThing.fValue, .int .i64 x.fThing.fNext], dec := fun cs => ⟨(cs.getD 0 .junk).toInt, (cs.getD 1 .junk).toStr, (cs.getD 2 .junk).toInt, ⟨(cs.getD 3 .junk).toInt, (cs.getD 4 .junk).toInt, (cs.getD 5 .junk).toBool, (cs.getD 6 .junk).toBool, (cs.getD 7 .junk).toBool, (cs.getD 8 .junk).toBool, (cs.getD 9 .junk).toStr, (cs.getD 10 .junk).toInt⟩⟩, z := (⟨0, ⟨#[]⟩, 0, ⟨0, 0, false, false, false, false, ⟨#[]⟩, 0⟩⟩ : SRec), int? := none }⟩
def ent71 : Ent (ElOf els) := ⟨71, { sh := [.int .i64, .str, .int .i64, .int .i64, .int .i64, .bool, .bool, .bool, .bool, .str, .int .i64], enc := fun (x : SRec) => [.int .i64 x.fKind, .str x.fText, .int .i64 x.fNum, .int .i64 x.fThing.fId, .int .i64 x.fThing.fKind, .bool x.fThing.fHidden, .bool x.fThing.fFixed, .bool x.fThing.fSigns, .bool x.fThing.fWraps, .str x.fThing.fValue, .int .i64 x.fThing.fNext], dec := fun cs => ⟨(cs.getD 0 .junk).toInt, (cs.getD 1 .junk).toStr, (cs.getD 2 .junk).toInt, ⟨(cs.getD 3 .junk).toInt, (cs.getD 4 .junk).toInt, (cs.getD 5 .junk).toBool, (cs.getD 6 .junk).toBool, (cs.getD 7 .junk).toBool, (cs.getD 8 .junk).toBool, (cs.getD 9 .junk).toStr, (cs.getD 10 .junk).toInt⟩⟩, z := (⟨0, ⟨#[]⟩, 0, ⟨0, 0, false, false, false, false, ⟨#[]⟩, 0⟩⟩ : SRec), int? := none }⟩
def ent87 : Ent (ElOf els) := ⟨87, { sh := [.int .i64, .int .i64, .int .i64], enc := fun (x : SGiven) => [.int .i64 x.fThing, .int .i64 x.fLeaf, .int .i64 x.fWhen], dec := fun cs => ⟨(cs.getD 0 .junk).toInt, (cs.getD 1 .junk).toInt, (cs.getD 2 .junk).toInt⟩, z := (⟨0, 0, 0⟩ : SGiven), int? := none }⟩
def ent89 : Ent (ElOf els) := ⟨89, { sh := [.int .i64, .int .i64, .int .i64], enc := fun (x : SGiven) => [.int .i64 x.fThing, .int .i64 x.fLeaf, .int .i64 x.fWhen], dec := fun cs => ⟨(cs.getD 0 .junk).toInt, (cs.getD 1 .junk).toInt, (cs.getD 2 .junk).toInt⟩, z := (⟨0, 0, 0⟩ : SGiven), int? := none }⟩
def ent101 : Ent (ElOf els) := ⟨101, { sh := [.bool], enc := fun (x : Bool) => [.bool x], dec := fun cs => (cs.getD 0 .junk).toBool, z := false, int? := none }⟩
def ent103 : Ent (ElOf els) := ⟨103, { sh := [.str, .int .i64, .bool], enc := fun (x : SL19Cur) => [.str x.fText, .int .i64 x.fAt, .bool x.fBad], dec := fun cs => ⟨(cs.getD 0 .junk).toStr, (cs.getD 1 .junk).toInt, (cs.getD 2 .junk).toBool⟩, z := (⟨⟨#[]⟩, 0, false⟩ : SL19Cur), int? := none }⟩
def ent106 : Ent (ElOf els) := ⟨106, { sh := [.bool], enc := fun (x : Bool) => [.bool x], dec := fun cs => (cs.getD 0 .junk).toBool, z := false, int? := none }⟩
def ent108 : Ent (ElOf els) := ⟨108, { sh := [.str, .int .i64, .bool], enc := fun (x : SFields) => [.str x.fText, .int .i64 x.fAt, .bool x.fBad], dec := fun cs => ⟨(cs.getD 0 .junk).toStr, (cs.getD 1 .junk).toInt, (cs.getD 2 .junk).toBool⟩, z := (⟨⟨#[]⟩, 0, false⟩ : SFields), int? := none }⟩
def ent114 : Ent (ElOf els) := ⟨114, { sh := [.sl 5], enc := fun (x : (List Int)) => [.rsl 5 x], dec := fun cs => (L.toSl 5 (cs.getD 0 .junk)), z := [], int? := none }⟩
def ent115 : Ent (ElOf els) := ⟨115, { sh := [.sl 4], enc := fun (x : (List Bool)) => [.rsl 4 x], dec := fun cs => (L.toSl 4 (cs.getD 0 .junk)), z := [], int? := none }⟩
def ents : List (Ent (ElOf els)) := [ent3, ent4, ent5, ent9, ent23, ent27, ent30, ent32, ent34, ent42, ent44, ent47, ent49, ent53, ent55, ent59, ent61, ent67, ent71, ent87, ent89, ent101, ent103, ent106, ent108, ent114, ent115]
def modes : List (Nat × List Mode') := [(21, [.io, .rd]), (22, [.io, .rd])]
def cuts : List (Nat × List (Nat × (List Nat × List Nat × List (Nat × Nat) × List (Nat × Nat × Nat)))) := [(48, [(2, ([0, 3], [], [(3, 5)], []))]),
  (52, [(2, ([0, 3], [], [(3, 5)], []))]),
  (54, [(3, ([3, 14, 15, 16], [], [(14, 4)], []))]),
  (17, [(3, ([0, 3, 4], [], [(0, 89), (3, 87)], []))]),
  (16, [(3, ([0, 1, 5, 6], [], [(0, 87), (5, 3)], []))]),
  (18, [(3, ([1, 5, 8, 9, 10], [], [(5, 3), (8, 87)], []))]),
  (19, [(4, ([0, 1, 5], [], [(0, 3), (1, 3)], []))]),
  (20, [(4, ([0, 1, 5], [], [(0, 87), (1, 87)], []))]),
  (21, [(2, ([0, 1, 5], [1], [(0, 87)], []))]),
  (22, [(2, ([0, 1, 5], [1], [(0, 3)], []))]),
  (23, [(2, ([0, 1, 5], [], [(0, 3)], []))]),
  (63, [(3, ([0, 3, 4], [], [(0, 3), (3, 3)], []))]),
  (66, [(5, ([0, 1, 5], [], [(0, 23)], []))]),
  (67, [(3, ([0, 3, 4], [], [(0, 23), (3, 27)], []))]),
  (30, [(2, ([1, 2, 4, 6], [128, 256], [], [(128, 2, 27)]))]),
  (68, [(2, ([1, 8, 9, 10], [], [(8, 27)], []))]),
  (69, [(4, ([0, 1, 5], [], [(0, 27), (1, 27)], []))]),
  (39, [(4, ([1, 3], [64], [], [(64, 2, 27)]))]),
  (40, [(2, ([1, 6, 7, 8], [64], [(6, 27)], [(64, 2, 27)]))]),
  (79, [(6, ([0, 1, 7, 8, 9], [], [], []))]),
  (78, [(5, ([0, 1, 7, 8], [], [], []))])]
def ctx : Ctx := mkCtx els tis ents modes cuts []
noncomputable abbrev PP : Program := Try.prog
abbrev LI := List Go.Item × Env ctx × Hp ctx
theorem good3 : CodGood ctx 3 ent3.c := ⟨fun _ => rfl, fun cs h0 => by obtain ⟨n0, ls0, rfl, h1⟩ := fit_int h0; obtain rfl := fit_nil h1; rfl, fun _ => rfl, rfl, fun h k hi hk n => by cases hk; rfl⟩
theorem good4 : CodGood ctx 4 ent4.c := ⟨fun _ => rfl, fun cs h0 => by obtain ⟨n0, ls0, rfl, h1⟩ := fit_bool h0; obtain rfl := fit_nil h1; rfl, fun _ => rfl, rfl, fun h k hi hk n => by cases hi⟩
theorem good5 : CodGood ctx 5 ent5.c := ⟨fun _ => rfl, fun cs h0 => by obtain ⟨n0, ls0, rfl, h1⟩ := fit_int h0; obtain rfl := fit_nil h1; rfl, fun _ => rfl, rfl, fun h k hi hk n => by cases hk; rfl⟩
theorem good9 : CodGood ctx 9 ent9.c := ⟨fun _ => rfl, fun cs h0 => by obtain ⟨n0, ls0, rfl, h1⟩ := fit_str h0; obtain rfl := fit_nil h1; rfl, fun _ => rfl, rfl, fun h k hi hk n => by cases hi⟩
theorem good23 : CodGood ctx 23 ent23.c := ⟨fun _ => rfl, fun cs h0 => by obtain ⟨n0, ls0, rfl, h1⟩ := fit_int h0; obtain ⟨n1, ls1, rfl, h2⟩ := fit_int h1; obtain ⟨n2, ls2, rfl, h3⟩ := fit_bool h2; obtain ⟨n3, ls3, rfl, h4⟩ := fit_bool h3; obtain ⟨n4, ls4, rfl, h5⟩ := fit_bool h4; obtain ⟨n5, ls5, rfl, h6⟩ := fit_bool h5; obtain ⟨n6, ls6, rfl, h7⟩ := fit_str h6; obtain ⟨n7, ls7, rfl, h8⟩ := fit_int h7; obtain rfl := fit_nil h8; rfl, fun _ => rfl, rfl, fun h k hi hk n => by cases hi⟩
theorem good27 : CodGood ctx 27 ent27.c := ⟨fun _ => rfl, fun cs h0 => by obtain ⟨n0, ls0, rfl, h1⟩ := fit_int h0; obtain ⟨n1, ls1, rfl, h2⟩ := fit_int h1; obtain ⟨n2, ls2, rfl, h3⟩ := fit_bool h2; obtain ⟨n3, ls3, rfl, h4⟩ := fit_bool h3; obtain ⟨n4, ls4, rfl, h5⟩ := fit_bool h4; obtain ⟨n5, ls5, rfl, h6⟩ := fit_bool h5; obtain ⟨n6, ls6, rfl, h7⟩ := fit_str h6; obtain ⟨n7, ls7, rfl, h8⟩ := fit_int h7; obtain rfl := fit_nil h8; rfl, fun _ => rfl, rfl, fun h k hi hk n => by cases hi⟩
theorem good30 : CodGood ctx 30 ent30.c := ⟨fun _ => rfl, fun cs h0 => by obtain ⟨n0, ls0, rfl, h1⟩ := fit_sl h0; obtain rfl := fit_nil h1; rfl, fun _ => rfl, rfl, fun h k hi hk n => by cases hi⟩
theorem good32 : CodGood ctx 32 ent32.c := ⟨fun _ => rfl, fun cs h0 => by obtain ⟨n0, ls0, rfl, h1⟩ := fit_sl h0; obtain rfl := fit_nil h1; rfl, fun _ => rfl, rfl, fun h k hi hk n => by cases hi⟩
theorem good34 : CodGood ctx 34 ent34.c := ⟨fun _ => rfl, fun cs h0 => by obtain ⟨n0, ls0, rfl, h1⟩ := fit_sl h0; obtain rfl := fit_nil h1; rfl, fun _ => rfl, rfl, fun h k hi hk n => by cases hi⟩
theorem good42 : CodGood ctx 42 ent42.c := ⟨fun _ => rfl, fun cs h0 => by obtain ⟨n0, ls0, rfl, h1⟩ := fit_int h0; obtain ⟨n1, ls1, rfl, h2⟩ := fit_int h1; obtain ⟨n2, ls2, rfl, h3⟩ := fit_int h2; obtain ⟨n3, ls3, rfl, h4⟩ := fit_int h3; obtain ⟨n4, ls4, rfl, h5⟩ := fit_str h4; obtain ⟨n5, ls5, rfl, h6⟩ := fit_bool h5; obtain ⟨n6, ls6, rfl, h7⟩ := fit_bool h6; obtain rfl := fit_nil h7; rfl, fun _ => rfl, rfl, fun h k hi hk n => by cases hi⟩
theorem good44 : CodGood ctx 44 ent44.c := ⟨fun _ => rfl, fun cs h0 => by obtain ⟨n0, ls0, rfl, h1⟩ := fit_int h0; obtain ⟨n1, ls1, rfl, h2⟩ := fit_int h1; obtain ⟨n2, ls2, rfl, h3⟩ := fit_int h2; obtain ⟨n3, ls3, rfl, h4⟩ := fit_int h3; obtain ⟨n4, ls4, rfl, h5⟩ := fit_str h4; obtain ⟨n5, ls5, rfl, h6⟩ := fit_bool h5; obtain ⟨n6, ls6, rfl, h7⟩ := fit_bool h6; obtain ⟨n7, ls7, rfl, h8⟩ := fit_bool h7; obtain ⟨n8, ls8, rfl, h9⟩ := fit_sl h8; obtain ⟨n9, ls9, rfl, h10⟩ := fit_bool h9; obtain rfl := fit_nil h10; rfl, fun _ => rfl, rfl, fun h k hi hk n => by cases hi⟩
theorem good47 : CodGood ctx 47 ent47.c := ⟨fun _ => rfl, fun cs h0 => by obtain ⟨n0, ls0, rfl, h1⟩ := fit_int h0; obtain ⟨n1, ls1, rfl, h2⟩ := fit_int h1; obtain ⟨n2, ls2, rfl, h3⟩ := fit_int h2; obtain ⟨n3, ls3, rfl, h4⟩ := fit_int h3; obtain ⟨n4, ls4, rfl, h5⟩ := fit_str h4; obtain ⟨n5, ls5, rfl, h6⟩ := fit_bool h5; obtain ⟨n6, ls6, rfl, h7⟩ := fit_bool h6; obtain rfl := fit_nil h7; rfl, fun _ => rfl, rfl, fun h k hi hk n => by cases hi⟩
theorem good49 : CodGood ctx 49 ent49.c := ⟨fun _ => rfl, fun cs h0 => by obtain ⟨n0, ls0, rfl, h1⟩ := fit_int h0; obtain ⟨n1, ls1, rfl, h2⟩ := fit_int h1; obtain ⟨n2, ls2, rfl, h3⟩ := fit_int h2; obtain ⟨n3, ls3, rfl, h4⟩ := fit_int h3; obtain ⟨n4, ls4, rfl, h5⟩ := fit_str h4; obtain ⟨n5, ls5, rfl, h6⟩ := fit_bool h5; obtain ⟨n6, ls6, rfl, h7⟩ := fit_bool h6; obtain ⟨n7, ls7, rfl, h8⟩ := fit_bool h7; obtain ⟨n8, ls8, rfl, h9⟩ := fit_sl h8; obtain ⟨n9, ls9, rfl, h10⟩ := fit_bool h9; obtain rfl := fit_nil h10; rfl, fun _ => rfl, rfl, fun h k hi hk n => by cases hi⟩
theorem good53 : CodGood ctx 53 ent53.c := ⟨fun _ => rfl, fun cs h0 => by obtain ⟨n0, ls0, rfl, h1⟩ := fit_sl h0; obtain rfl := fit_nil h1; rfl, fun _ => rfl, rfl, fun h k hi hk n => by cases hi⟩
theorem good55 : CodGood ctx 55 ent55.c := ⟨fun _ => rfl, fun cs h0 => by obtain ⟨n0, ls0, rfl, h1⟩ := fit_str h0; obtain ⟨n1, ls1, rfl, h2⟩ := fit_int h1; obtain ⟨n2, ls2, rfl, h3⟩ := fit_sl h2; obtain ⟨n3, ls3, rfl, h4⟩ := fit_int h3; obtain ⟨n4, ls4, rfl, h5⟩ := fit_str h4; obtain ⟨n5, ls5, rfl, h6⟩ := fit_int h5; obtain rfl := fit_nil h6; rfl, fun _ => rfl, rfl, fun h k hi hk n => by cases hi⟩
theorem good59 : CodGood ctx 59 ent59.c := ⟨fun _ => rfl, fun cs h0 => by obtain ⟨n0, ls0, rfl, h1⟩ := fit_sl h0; obtain rfl := fit_nil h1; rfl, fun _ => rfl, rfl, fun h k hi hk n => by cases hi⟩
theorem good61 : CodGood ctx 61 ent61.c := ⟨fun _ => rfl, fun cs h0 => by obtain ⟨n0, ls0, rfl, h1⟩ := fit_str h0; obtain ⟨n1, ls1, rfl, h2⟩ := fit_int h1; obtain ⟨n2, ls2, rfl, h3⟩ := fit_sl h2; obtain ⟨n3, ls3, rfl, h4⟩ := fit_int h3; obtain ⟨n4, ls4, rfl, h5⟩ := fit_str h4; obtain ⟨n5, ls5, rfl, h6⟩ := fit_int h5; obtain rfl := fit_nil h6; rfl, fun _ => rfl, rfl, fun h k hi hk n => by cases hi⟩
theorem good67 : CodGood ctx 67 ent67.c := ⟨fun _ => rfl, fun cs h0 => by obtain ⟨n0, ls0, rfl, h1⟩ := fit_int h0; obtain ⟨n1, ls1, rfl, h2⟩ := fit_str h1; obtain ⟨n2, ls2, rfl, h3⟩ := fit_int h2; obtain ⟨n3, ls3, rfl, h4⟩ := fit_int h3; obtain ⟨n4, ls4, rfl, h5⟩ := fit_int h4; obtain ⟨n5, ls5, rfl, h6⟩ := fit_bool h5; obtain ⟨n6, ls6, rfl, h7⟩ := fit_bool h6; obtain ⟨n7, ls7, rfl, h8⟩ := fit_bool h7; obtain ⟨n8, ls8, rfl, h9⟩ := fit_bool h8; obtain ⟨n9, ls9, rfl, h10⟩ := fit_str h9; obtain ⟨n10, ls10, rfl, h11⟩ := fit_int h10; obtain rfl := fit_nil h11; rfl, fun _ => rfl, rfl, fun h k hi hk n => by cases hi⟩
theorem good71 : CodGood ctx 71 ent71.c := ⟨fun _ => rfl, fun cs h0 => by obtain ⟨n0, ls0, rfl, h1⟩ := fit_int h0; obtain ⟨n1, ls1, rfl, h2⟩ := fit_str h1; obtain ⟨n2, ls2, rfl, h3⟩ := fit_int h2; obtain ⟨n3, ls3, rfl, h4⟩ := fit_int h3; obtain ⟨n4, ls4, rfl, h5⟩ := fit_int h4; obtain ⟨n5, ls5, rfl, h6⟩ := fit_bool h5; obtain ⟨n6, ls6, rfl, h7⟩ := fit_bool h6; obtain ⟨n7, ls7, rfl, h8⟩ := fit_bool h7; obtain ⟨n8, ls8, rfl, h9⟩ := fit_bool h8; obtain ⟨n9, ls9, rfl, h10⟩ := fit_str h9; obtain ⟨n10, ls10, rfl, h11⟩ := fit_int h10; obtain rfl := fit_nil h11; rfl, fun _ => rfl, rfl, fun h k hi hk n => by cases hi⟩
theorem good87 : CodGood ctx 87 ent87.c := ⟨fun _ => rfl, fun cs h0 => by obtain ⟨n0, ls0, rfl, h1⟩ := fit_int h0; obtain ⟨n1, ls1, rfl, h2⟩ := fit_int h1; obtain ⟨n2, ls2, rfl, h3⟩ := fit_int h2; obtain rfl := fit_nil h3; rfl, fun _ => rfl, rfl, fun h k hi hk n => by cases hi⟩
theorem good89 : CodGood ctx 89 ent89.c := ⟨fun _ => rfl, fun cs h0 => by obtain ⟨n0, ls0, rfl, h1⟩ := fit_int h0; obtain ⟨n1, ls1, rfl, h2⟩ := fit_int h1; obtain ⟨n2, ls2, rfl, h3⟩ := fit_int h2; obtain rfl := fit_nil h3; rfl, fun _ => rfl, rfl, fun h k hi hk n => by cases hi⟩
theorem good101 : CodGood ctx 101 ent101.c := ⟨fun _ => rfl, fun cs h0 => by obtain ⟨n0, ls0, rfl, h1⟩ := fit_bool h0; obtain rfl := fit_nil h1; rfl, fun _ => rfl, rfl, fun h k hi hk n => by cases hi⟩
theorem good103 : CodGood ctx 103 ent103.c := ⟨fun _ => rfl, fun cs h0 => by obtain ⟨n0, ls0, rfl, h1⟩ := fit_str h0; obtain ⟨n1, ls1, rfl, h2⟩ := fit_int h1; obtain ⟨n2, ls2, rfl, h3⟩ := fit_bool h2; obtain rfl := fit_nil h3; rfl, fun _ => rfl, rfl, fun h k hi hk n => by cases hi⟩
theorem good106 : CodGood ctx 106 ent106.c := ⟨fun _ => rfl, fun cs h0 => by obtain ⟨n0, ls0, rfl, h1⟩ := fit_bool h0; obtain rfl := fit_nil h1; rfl, fun _ => rfl, rfl, fun h k hi hk n => by cases hi⟩
theorem good108 : CodGood ctx 108 ent108.c := ⟨fun _ => rfl, fun cs h0 => by obtain ⟨n0, ls0, rfl, h1⟩ := fit_str h0; obtain ⟨n1, ls1, rfl, h2⟩ := fit_int h1; obtain ⟨n2, ls2, rfl, h3⟩ := fit_bool h2; obtain rfl := fit_nil h3; rfl, fun _ => rfl, rfl, fun h k hi hk n => by cases hi⟩
theorem good114 : CodGood ctx 114 ent114.c := ⟨fun _ => rfl, fun cs h0 => by obtain ⟨n0, ls0, rfl, h1⟩ := fit_sl h0; obtain rfl := fit_nil h1; rfl, fun _ => rfl, rfl, fun h k hi hk n => by cases hi⟩
theorem good115 : CodGood ctx 115 ent115.c := ⟨fun _ => rfl, fun cs h0 => by obtain ⟨n0, ls0, rfl, h1⟩ := fit_sl h0; obtain rfl := fit_nil h1; rfl, fun _ => rfl, rfl, fun h k hi hk n => by cases hi⟩
theorem ctxOk : CtxOk ctx Try.prog := mkCtx_ok (by kernel_rfl) (fun x hx => by
  simp only [ents, List.mem_cons, List.not_mem_nil, or_false] at hx
  rcases hx with rfl | rfl | rfl | rfl | rfl | rfl | rfl | rfl | rfl | rfl | rfl | rfl | rfl | rfl | rfl | rfl | rfl | rfl | rfl | rfl | rfl | rfl | rfl | rfl | rfl | rfl | rfl
  · exact good3
  · exact good4
  · exact good5
  · exact good9
  · exact good23
  · exact good27
  · exact good30
  · exact good32
  · exact good34
  · exact good42
  · exact good44
  · exact good47
  · exact good49
  · exact good53
  · exact good55
  · exact good59
  · exact good61
  · exact good67
  · exact good71
  · exact good87
  · exact good89
  · exact good101
  · exact good103
  · exact good106
  · exact good108
  · exact good114
  · exact good115)
def cSThing : Cv (List (L (ElOf els))) SThing := cIso (cCons (cInt .i64) (cCons (cInt .i64) (cCons cBool (cCons cBool (cCons cBool (cCons cBool (cCons cStr (cCons (cInt .i64) cNil)))))))) (fun p => ⟨p.1, p.2.1, p.2.2.1, p.2.2.2.1, p.2.2.2.2.1, p.2.2.2.2.2.1, p.2.2.2.2.2.2.1, p.2.2.2.2.2.2.2.1⟩) (fun s => (s.fId, s.fKind, s.fHidden, s.fFixed, s.fSigns, s.fWraps, s.fValue, s.fNext, ())) (fun _ => rfl)
def cv0 : Cv (List (U (ElOf els))) (SThing × Int) := (cIso (cCons (uAgg cSThing) (cCons (uOne (cInt .i64)) cNil)) (fun p => (p.1, p.2.1)) (fun s => (s.1, s.2, ())) (fun _ => rfl))
def cv1 : Cv (List (U (ElOf els))) Int := (cIso (cCons (uOne (cInt .i64)) cNil) (fun p => p.1) (fun s => (s, ())) (fun _ => rfl))
def cv2 : Cv (List (U (ElOf els))) SThing := (cIso (cCons (uAgg cSThing) cNil) (fun p => p.1) (fun s => (s, ())) (fun _ => rfl))
def cv3 : Cv (List (U (ElOf els))) (Int × Int × Int) := (cIso (cCons (uOne (cInt .i64)) (cCons (uOne (cInt .i64)) (cCons (uOne (cInt .i64)) cNil))) (fun p => (p.1, p.2.1, p.2.2.1)) (fun s => (s.1, s.2.1, s.2.2, ())) (fun _ => rfl))
def cv4 : Cv (List (U (ElOf els))) Bool := (cIso (cCons (uOne cBool) cNil) (fun p => p.1) (fun s => (s, ())) (fun _ => rfl))
def cv5 : Cv (List (U (ElOf els))) (Bool × Int) := (cIso (cCons (uOne cBool) (cCons (uOne (cInt .i64)) cNil)) (fun p => (p.1, p.2.1)) (fun s => (s.1, s.2, ())) (fun _ => rfl))
def cv6 : Cv (List (U (ElOf els))) ByteArray := (cIso (cCons (uOne cStr) cNil) (fun p => p.1) (fun s => (s, ())) (fun _ => rfl))
def cv7 : Cv (List (U (ElOf els))) (ByteArray × Bool) := (cIso (cCons (uOne cStr) (cCons (uOne cBool) cNil)) (fun p => (p.1, p.2.1)) (fun s => (s.1, s.2, ())) (fun _ => rfl))
def cv8 : Cv (List (U (ElOf els))) ((List SGiven) × Int) := (cIso (cCons (uOne (cRsl 89)) (cCons (uOne (cInt .i64)) cNil)) (fun p => (p.1, p.2.1)) (fun s => (s.1, s.2, ())) (fun _ => rfl))
def cSGiven : Cv (List (L (ElOf els))) SGiven := cIso (cCons (cInt .i64) (cCons (cInt .i64) (cCons (cInt .i64) cNil))) (fun p => ⟨p.1, p.2.1, p.2.2.1⟩) (fun s => (s.fThing, s.fLeaf, s.fWhen, ())) (fun _ => rfl)
def cv9 : Cv (List (U (ElOf els))) SGiven := (cIso (cCons (uAgg cSGiven) cNil) (fun p => p.1) (fun s => (s, ())) (fun _ => rfl))
def cv10 : Cv (List (U (ElOf els))) (List SGiven) := (cIso (cCons (uOne (cRsl 89)) cNil) (fun p => p.1) (fun s => (s, ())) (fun _ => rfl))
def cv11 : Cv (List (U (ElOf els))) (List SGiven) := (cIso (cCons (uOne (cFsl 87)) cNil) (fun p => p.1) (fun s => (s, ())) (fun _ => rfl))
def cv12 : Cv (List (U (ElOf els))) ((List SGiven) × Int) := (cIso (cCons (uOne (cRsl 87)) (cCons (uOne (cInt .i64)) cNil)) (fun p => (p.1, p.2.1)) (fun s => (s.1, s.2, ())) (fun _ => rfl))
def cv13 : Cv (List (U (ElOf els))) (List Int) := (cIso (cCons (uOne (cFsl 3)) cNil) (fun p => p.1) (fun s => (s, ())) (fun _ => rfl))
def cv14 : Cv (List (U (ElOf els))) ((List Int) × (List Int)) := (cIso (cCons (uOne (cRsl 3)) (cCons (uOne (cRsl 3)) cNil)) (fun p => (p.1, p.2.1)) (fun s => (s.1, s.2, ())) (fun _ => rfl))
def cv15 : Cv (List (U (ElOf els))) (SGiven × SGiven) := (cIso (cCons (uAgg cSGiven) (cCons (uAgg cSGiven) cNil)) (fun p => (p.1, p.2.1)) (fun s => (s.1, s.2, ())) (fun _ => rfl))
def cv16 : Cv (List (U (ElOf els))) ((List SGiven) × (List SGiven)) := (cIso (cCons (uOne (cRsl 87)) (cCons (uOne (cRsl 87)) cNil)) (fun p => (p.1, p.2.1)) (fun s => (s.1, s.2, ())) (fun _ => rfl))
def cv17 : Cv (List (U (ElOf els))) ((List SGiven) × Int) := (cIso (cCons (uOne (cFsl 87)) (cCons (uOne (cInt .i64)) cNil)) (fun p => (p.1, p.2.1)) (fun s => (s.1, s.2, ())) (fun _ => rfl))
def cv18 : Cv (List (U (ElOf els))) (Int × (List SGiven)) := (cIso (cCons (uOne (cInt .i64)) (cCons (uAgg (cIso (cCons (cFsl 87) cNil) (fun p => p.1) (fun s => (s, ())) (fun _ => rfl))) cNil)) (fun p => (p.1, p.2.1)) (fun s => (s.1, s.2, ())) (fun _ => rfl))
def cv19 : Cv (List (U (ElOf els))) ((List Int) × Int) := (cIso (cCons (uOne (cFsl 3)) (cCons (uOne (cInt .i64)) cNil)) (fun p => (p.1, p.2.1)) (fun s => (s.1, s.2, ())) (fun _ => rfl))
def cv20 : Cv (List (U (ElOf els))) (Int × (List Int)) := (cIso (cCons (uOne (cInt .i64)) (cCons (uAgg (cIso (cCons (cFsl 3) cNil) (fun p => p.1) (fun s => (s, ())) (fun _ => rfl))) cNil)) (fun p => (p.1, p.2.1)) (fun s => (s.1, s.2, ())) (fun _ => rfl))
def cv21 : Cv (List (U (ElOf els))) ((List Int) × Int) := (cIso (cCons (uOne (cRsl 3)) (cCons (uOne (cInt .i64)) cNil)) (fun p => (p.1, p.2.1)) (fun s => (s.1, s.2, ())) (fun _ => rfl))
def cSCall : Cv (List (L (ElOf els))) SCall := cIso (cCons (cInt .i64) (cCons (cInt .i64) (cCons (cInt .i64) (cCons (cInt .i64) (cCons cStr (cCons cBool (cCons cBool cNil))))))) (fun p => ⟨p.1, p.2.1, p.2.2.1, p.2.2.2.1, p.2.2.2.2.1, p.2.2.2.2.2.1, p.2.2.2.2.2.2.1⟩) (fun s => (s.fOp, s.fSession, s.fThing, s.fKind, s.fText, s.fHidden, s.fFixed, ())) (fun _ => rfl)
def cv22 : Cv (List (U (ElOf els))) (SCall × Int) := (cIso (cCons (uAgg cSCall) (cCons (uOne (cInt .i64)) cNil)) (fun p => (p.1, p.2.1)) (fun s => (s.1, s.2, ())) (fun _ => rfl))
def cSEvent44 : Cv (List (L (ElOf els))) SEvent := cIso (cCons (cInt .i64) (cCons (cInt .i64) (cCons (cInt .i64) (cCons (cInt .i64) (cCons cStr (cCons cBool (cCons cBool (cCons cBool (cCons (cRsl 3) (cCons cBool cNil)))))))))) (fun p => ⟨⟨p.1, p.2.1, p.2.2.1, p.2.2.2.1, p.2.2.2.2.1, p.2.2.2.2.2.1, p.2.2.2.2.2.2.1⟩, p.2.2.2.2.2.2.2.1, p.2.2.2.2.2.2.2.2.1, p.2.2.2.2.2.2.2.2.2.1⟩) (fun s => (s.fCall.fOp, s.fCall.fSession, s.fCall.fThing, s.fCall.fKind, s.fCall.fText, s.fCall.fHidden, s.fCall.fFixed, s.fCut, s.fLeft, s.fRise, ())) (fun _ => rfl)
def cv23 : Cv (List (U (ElOf els))) (SEvent × Int) := (cIso (cCons (uAgg cSEvent44) (cCons (uOne (cInt .i64)) cNil)) (fun p => (p.1, p.2.1)) (fun s => (s.1, s.2, ())) (fun _ => rfl))
def cv24 : Cv (List (U (ElOf els))) SCall := (cIso (cCons (uAgg cSCall) cNil) (fun p => p.1) (fun s => (s, ())) (fun _ => rfl))
def cv25 : Cv (List (U (ElOf els))) (List Int) := (cIso (cCons (uOne (cRsl 3)) cNil) (fun p => p.1) (fun s => (s, ())) (fun _ => rfl))
def cSEventF49 : Cv (List (L (ElOf els))) SEvent := cIso (cCons (cInt .i64) (cCons (cInt .i64) (cCons (cInt .i64) (cCons (cInt .i64) (cCons cStr (cCons cBool (cCons cBool (cCons cBool (cCons (cFsl 3) (cCons cBool cNil)))))))))) (fun p => ⟨⟨p.1, p.2.1, p.2.2.1, p.2.2.2.1, p.2.2.2.2.1, p.2.2.2.2.2.1, p.2.2.2.2.2.2.1⟩, p.2.2.2.2.2.2.2.1, p.2.2.2.2.2.2.2.2.1, p.2.2.2.2.2.2.2.2.2.1⟩) (fun s => (s.fCall.fOp, s.fCall.fSession, s.fCall.fThing, s.fCall.fKind, s.fCall.fText, s.fCall.fHidden, s.fCall.fFixed, s.fCut, s.fLeft, s.fRise, ())) (fun _ => rfl)
def cv26 : Cv (List (U (ElOf els))) SEvent := (cIso (cCons (uAgg cSEvent44) cNil) (fun p => p.1) (fun s => (s, ())) (fun _ => rfl))
def cv27 : Cv (List (U (ElOf els))) SEvent := (cIso (cCons (uAgg cSEventF49) cNil) (fun p => p.1) (fun s => (s, ())) (fun _ => rfl))
def cSEvent49 : Cv (List (L (ElOf els))) SEvent := cIso (cCons (cInt .i64) (cCons (cInt .i64) (cCons (cInt .i64) (cCons (cInt .i64) (cCons cStr (cCons cBool (cCons cBool (cCons cBool (cCons (cRsl 3) (cCons cBool cNil)))))))))) (fun p => ⟨⟨p.1, p.2.1, p.2.2.1, p.2.2.2.1, p.2.2.2.2.1, p.2.2.2.2.2.1, p.2.2.2.2.2.2.1⟩, p.2.2.2.2.2.2.2.1, p.2.2.2.2.2.2.2.2.1, p.2.2.2.2.2.2.2.2.2.1⟩) (fun s => (s.fCall.fOp, s.fCall.fSession, s.fCall.fThing, s.fCall.fKind, s.fCall.fText, s.fCall.fHidden, s.fCall.fFixed, s.fCut, s.fLeft, s.fRise, ())) (fun _ => rfl)
def cv28 : Cv (List (U (ElOf els))) SEvent := (cIso (cCons (uAgg cSEvent49) cNil) (fun p => p.1) (fun s => (s, ())) (fun _ => rfl))
def cv29 : Cv (List (U (ElOf els))) (SCall × SCall) := (cIso (cCons (uAgg cSCall) (cCons (uAgg cSCall) cNil)) (fun p => (p.1, p.2.1)) (fun s => (s.1, s.2, ())) (fun _ => rfl))
def cv30 : Cv (List (U (ElOf els))) (SEvent × SEvent) := (cIso (cCons (uAgg cSEvent49) (cCons (uAgg cSEvent49) cNil)) (fun p => (p.1, p.2.1)) (fun s => (s.1, s.2, ())) (fun _ => rfl))
def cv31 : Cv (List (U (ElOf els))) ((List SThing) × Int) := (cIso (cCons (uOne (cRsl 23)) (cCons (uOne (cInt .i64)) cNil)) (fun p => (p.1, p.2.1)) (fun s => (s.1, s.2, ())) (fun _ => rfl))
def cSBook55 : Cv (List (L (ElOf els))) SBook := cIso (cCons cStr (cCons (cInt .i64) (cCons (cRsl 23) (cCons (cInt .i64) (cCons cStr (cCons (cInt .i64) cNil)))))) (fun p => ⟨p.1, p.2.1, p.2.2.1, p.2.2.2.1, p.2.2.2.2.1, p.2.2.2.2.2.1⟩) (fun s => (s.fWord, s.fTries, s.fThings, s.fLast, s.fChain, s.fCount, ())) (fun _ => rfl)
def cv32 : Cv (List (U (ElOf els))) (SBook × Int) := (cIso (cCons (uAgg cSBook55) (cCons (uOne (cInt .i64)) cNil)) (fun p => (p.1, p.2.1)) (fun s => (s.1, s.2, ())) (fun _ => rfl))
def cv33 : Cv (List (U (ElOf els))) (List SThing) := (cIso (cCons (uOne (cRsl 23)) cNil) (fun p => p.1) (fun s => (s, ())) (fun _ => rfl))
def cv34 : Cv (List (U (ElOf els))) (List SThing) := (cIso (cCons (uOne (cFsl 27)) cNil) (fun p => p.1) (fun s => (s, ())) (fun _ => rfl))
def cSBookF61 : Cv (List (L (ElOf els))) SBook := cIso (cCons cStr (cCons (cInt .i64) (cCons (cFsl 27) (cCons (cInt .i64) (cCons cStr (cCons (cInt .i64) cNil)))))) (fun p => ⟨p.1, p.2.1, p.2.2.1, p.2.2.2.1, p.2.2.2.2.1, p.2.2.2.2.2.1⟩) (fun s => (s.fWord, s.fTries, s.fThings, s.fLast, s.fChain, s.fCount, ())) (fun _ => rfl)
def cv35 : Cv (List (U (ElOf els))) SBook := (cIso (cCons (uAgg cSBook55) cNil) (fun p => p.1) (fun s => (s, ())) (fun _ => rfl))
def cv36 : Cv (List (U (ElOf els))) SBook := (cIso (cCons (uAgg cSBookF61) cNil) (fun p => p.1) (fun s => (s, ())) (fun _ => rfl))
def cSBook61 : Cv (List (L (ElOf els))) SBook := cIso (cCons cStr (cCons (cInt .i64) (cCons (cRsl 27) (cCons (cInt .i64) (cCons cStr (cCons (cInt .i64) cNil)))))) (fun p => ⟨p.1, p.2.1, p.2.2.1, p.2.2.2.1, p.2.2.2.2.1, p.2.2.2.2.2.1⟩) (fun s => (s.fWord, s.fTries, s.fThings, s.fLast, s.fChain, s.fCount, ())) (fun _ => rfl)
def cv37 : Cv (List (U (ElOf els))) (SBook × Int) := (cIso (cCons (uAgg cSBook61) (cCons (uOne (cInt .i64)) cNil)) (fun p => (p.1, p.2.1)) (fun s => (s.1, s.2, ())) (fun _ => rfl))
def cv38 : Cv (List (U (ElOf els))) (SThing × Bool) := (cIso (cCons (uAgg cSThing) (cCons (uOne cBool) cNil)) (fun p => (p.1, p.2.1)) (fun s => (s.1, s.2, ())) (fun _ => rfl))
def cv39 : Cv (List (U (ElOf els))) (SThing × SThing) := (cIso (cCons (uAgg cSThing) (cCons (uAgg cSThing) cNil)) (fun p => (p.1, p.2.1)) (fun s => (s.1, s.2, ())) (fun _ => rfl))
def cv40 : Cv (List (U (ElOf els))) ((List SThing) × (List SThing)) := (cIso (cCons (uOne (cRsl 27)) (cCons (uOne (cRsl 27)) cNil)) (fun p => (p.1, p.2.1)) (fun s => (s.1, s.2, ())) (fun _ => rfl))
def cv41 : Cv (List (U (ElOf els))) (SBook × SBook) := (cIso (cCons (uAgg cSBook61) (cCons (uAgg cSBook61) cNil)) (fun p => (p.1, p.2.1)) (fun s => (s.1, s.2, ())) (fun _ => rfl))
def cSRec : Cv (List (L (ElOf els))) SRec := cIso (cCons (cInt .i64) (cCons cStr (cCons (cInt .i64) (cCons (cInt .i64) (cCons (cInt .i64) (cCons cBool (cCons cBool (cCons cBool (cCons cBool (cCons cStr (cCons (cInt .i64) cNil))))))))))) (fun p => ⟨p.1, p.2.1, p.2.2.1, ⟨p.2.2.2.1, p.2.2.2.2.1, p.2.2.2.2.2.1, p.2.2.2.2.2.2.1, p.2.2.2.2.2.2.2.1, p.2.2.2.2.2.2.2.2.1, p.2.2.2.2.2.2.2.2.2.1, p.2.2.2.2.2.2.2.2.2.2.1⟩⟩) (fun s => (s.fKind, s.fText, s.fNum, s.fThing.fId, s.fThing.fKind, s.fThing.fHidden, s.fThing.fFixed, s.fThing.fSigns, s.fThing.fWraps, s.fThing.fValue, s.fThing.fNext, ())) (fun _ => rfl)
def cv42 : Cv (List (U (ElOf els))) (SRec × Int) := (cIso (cCons (uAgg cSRec) (cCons (uOne (cInt .i64)) cNil)) (fun p => (p.1, p.2.1)) (fun s => (s.1, s.2, ())) (fun _ => rfl))
def cv43 : Cv (List (U (ElOf els))) SRec := (cIso (cCons (uAgg cSRec) cNil) (fun p => p.1) (fun s => (s, ())) (fun _ => rfl))
def cv44 : Cv (List (U (ElOf els))) SBook := (cIso (cCons (uAgg cSBook61) cNil) (fun p => p.1) (fun s => (s, ())) (fun _ => rfl))
def cv45 : Cv (List (U (ElOf els))) (ByteArray × Int) := (cIso (cCons (uOne cStr) (cCons (uOne (cInt .i64)) cNil)) (fun p => (p.1, p.2.1)) (fun s => (s.1, s.2, ())) (fun _ => rfl))
def cv46 : Cv (List (U (ElOf els))) (Int × Int × Bool) := (cIso (cCons (uOne (cInt .i64)) (cCons (uOne (cInt .i64)) (cCons (uOne cBool) cNil))) (fun p => (p.1, p.2.1, p.2.2.1)) (fun s => (s.1, s.2.1, s.2.2, ())) (fun _ => rfl))
def cSL19Cur : Cv (List (L (ElOf els))) SL19Cur := cIso (cCons cStr (cCons (cInt .i64) (cCons cBool cNil))) (fun p => ⟨p.1, p.2.1, p.2.2.1⟩) (fun s => (s.fText, s.fAt, s.fBad, ())) (fun _ => rfl)
def cv47 : Cv (List (U (ElOf els))) SL19Cur := (cIso (cCons (uAgg cSL19Cur) cNil) (fun p => p.1) (fun s => (s, ())) (fun _ => rfl))
def cv48 : Cv (List (U (ElOf els))) (Int × SL19Cur) := (cIso (cCons (uOne (cInt .i64)) (cCons (uAgg cSL19Cur) cNil)) (fun p => (p.1, p.2.1)) (fun s => (s.1, s.2, ())) (fun _ => rfl))
def cv49 : Cv (List (U (ElOf els))) (SL19Cur × Int) := (cIso (cCons (uAgg cSL19Cur) (cCons (uOne (cInt .i64)) cNil)) (fun p => (p.1, p.2.1)) (fun s => (s.1, s.2, ())) (fun _ => rfl))
def cv50 : Cv (List (U (ElOf els))) (ByteArray × SL19Cur) := (cIso (cCons (uOne cStr) (cCons (uAgg cSL19Cur) cNil)) (fun p => (p.1, p.2.1)) (fun s => (s.1, s.2, ())) (fun _ => rfl))
def cSFields : Cv (List (L (ElOf els))) SFields := cIso (cCons cStr (cCons (cInt .i64) (cCons cBool cNil))) (fun p => ⟨p.1, p.2.1, p.2.2.1⟩) (fun s => (s.fText, s.fAt, s.fBad, ())) (fun _ => rfl)
def cv51 : Cv (List (U (ElOf els))) SFields := (cIso (cCons (uAgg cSFields) cNil) (fun p => p.1) (fun s => (s, ())) (fun _ => rfl))
def cv52 : Cv (List (U (ElOf els))) (Int × SFields) := (cIso (cCons (uOne (cInt .i64)) (cCons (uAgg cSFields) cNil)) (fun p => (p.1, p.2.1)) (fun s => (s.1, s.2, ())) (fun _ => rfl))
def cv53 : Cv (List (U (ElOf els))) (ByteArray × Int × Bool) := (cIso (cCons (uOne cStr) (cCons (uOne (cInt .i64)) (cCons (uOne cBool) cNil))) (fun p => (p.1, p.2.1, p.2.2.1)) (fun s => (s.1, s.2.1, s.2.2, ())) (fun _ => rfl))
def cv54 : Cv (List (U (ElOf els))) (ByteArray × SFields) := (cIso (cCons (uOne cStr) (cCons (uAgg cSFields) cNil)) (fun p => (p.1, p.2.1)) (fun s => (s.1, s.2, ())) (fun _ => rfl))
def cv55 : Cv (List (U (ElOf els))) (SRec × Bool) := (cIso (cCons (uAgg cSRec) (cCons (uOne cBool) cNil)) (fun p => (p.1, p.2.1)) (fun s => (s.1, s.2, ())) (fun _ => rfl))
def cv56 : Cv (List (U (ElOf els))) (SRec × SRec) := (cIso (cCons (uAgg cSRec) (cCons (uAgg cSRec) cNil)) (fun p => (p.1, p.2.1)) (fun s => (s.1, s.2, ())) (fun _ => rfl))
end Go.Proofs.Ytmhggcgkbenedaa.G
