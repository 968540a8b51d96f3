/- The seat's tables: its types, what an element of each is, and what its functions do with what they are given. -/
import Derived.Test.YthfpmhalgimbbaaDoorSnd38
import Derived.Test.YthfpmhalgimbbaaDoorArr
import Derived.Test.YthfpmhalgimbbaaDoorProg
import Derived.KernelRfl
namespace Go.Proofs.YthfpmhalgimbbaaDoor.G
open Go Go.Ev
structure SThing where
  fId : Int
  fKind : Int
  fHidden : Bool
  fFixed : Bool
  fSigns : Bool
  fWraps : Bool
  fValue : ByteArray
  fNext : Int
structure SBook where
  fWord : ByteArray
  fTries : Int
  fThings : (List SThing)
  fLast : Int
  fChain : ByteArray
  fCount : Int
structure SFile where
  fName : ByteArray
  fText : ByteArray
  fKept : Int
structure SDisk where
  fFiles : (List SFile)
structure SSession where
  fId : Int
  fIn : Bool
structure SLive where
  fId : Int
  fNext : Int
structure SBox where
  fKey : ByteArray
  fUp : Bool
  fDisk : SDisk
  fBook : SBook
  fSessions : (List SSession)
  fLives : (List SLive)
  fOpened : Int
structure SRec where
  fKind : Int
  fText : ByteArray
  fNum : Int
  fThing : SThing
structure SL19Cur where
  fText : ByteArray
  fAt : Int
  fBad : Bool
structure SFields where
  fText : ByteArray
  fAt : Int
  fBad : Bool
structure SHasher where
  fState : ByteArray
  fRest : ByteArray
  fCount : Int
def els : List (Nat × TyE) := [(3, ⟨Int, 0⟩), (4, ⟨Bool, false⟩), (5, ⟨Int, 0⟩), (9, ⟨ByteArray, ⟨#[]⟩⟩), (22, ⟨(List SRec), []⟩), (28, ⟨(List SThing), []⟩), (30, ⟨SBook, ⟨⟨#[]⟩, 0, [], 0, ⟨#[]⟩, 0⟩⟩), (31, ⟨(List SRec), []⟩), (35, ⟨(List SThing), []⟩), (37, ⟨SBook, ⟨⟨#[]⟩, 0, [], 0, ⟨#[]⟩, 0⟩⟩), (42, ⟨(List SFile), []⟩), (44, ⟨SDisk, ⟨[]⟩⟩), (45, ⟨(List SSession), []⟩), (46, ⟨(List SLive), []⟩), (48, ⟨SBox, ⟨⟨#[]⟩, false, ⟨[]⟩, ⟨⟨#[]⟩, 0, [], 0, ⟨#[]⟩, 0⟩, [], [], 0⟩⟩), (50, ⟨(List SFile), []⟩), (52, ⟨SDisk, ⟨[]⟩⟩), (53, ⟨(List SSession), []⟩), (54, ⟨(List SLive), []⟩), (56, ⟨SBox, ⟨⟨#[]⟩, false, ⟨[]⟩, ⟨⟨#[]⟩, 0, [], 0, ⟨#[]⟩, 0⟩, [], [], 0⟩⟩), (65, ⟨(List ByteArray), []⟩), (71, ⟨SThing, ⟨0, 0, false, false, false, false, ⟨#[]⟩, 0⟩⟩), (73, ⟨SRec, ⟨0, ⟨#[]⟩, 0, ⟨0, 0, false, false, false, false, ⟨#[]⟩, 0⟩⟩⟩), (81, ⟨SThing, ⟨0, 0, false, false, false, false, ⟨#[]⟩, 0⟩⟩), (83, ⟨SRec, ⟨0, ⟨#[]⟩, 0, ⟨0, 0, false, false, false, false, ⟨#[]⟩, 0⟩⟩⟩), (109, ⟨Bool, false⟩), (111, ⟨SL19Cur, ⟨⟨#[]⟩, 0, false⟩⟩), (119, ⟨Int, 0⟩), (122, ⟨(List Int), []⟩), (130, ⟨SSession, ⟨0, false⟩⟩), (132, ⟨SSession, ⟨0, false⟩⟩), (134, ⟨SLive, ⟨0, 0⟩⟩), (136, ⟨SLive, ⟨0, 0⟩⟩), (147, ⟨Int, 0⟩), (150, ⟨Bool, false⟩), (152, ⟨SFields, ⟨⟨#[]⟩, 0, false⟩⟩), (157, ⟨SHasher, ⟨⟨#[]⟩, ⟨#[]⟩, 0⟩⟩), (160, ⟨Bools 8, boolsZ 8⟩), (167, ⟨SFile, ⟨⟨#[]⟩, ⟨#[]⟩, 0⟩⟩), (168, ⟨SFile, ⟨⟨#[]⟩, ⟨#[]⟩, 0⟩⟩), (171, ⟨Bool, false⟩), (178, ⟨(List Int), []⟩), (184, ⟨(List Bool), []⟩), (187, ⟨Bools 64, boolsZ 64⟩)]
def tis : List (Nat × TI) := [(3, ⟨1, 8, .int .i64⟩), (4, ⟨1, 1, .bool⟩), (5, ⟨1, 1, .int .u8⟩), (9, ⟨1, 16, .str⟩), (22, ⟨1, 24, .sl 73⟩), (28, ⟨1, 24, .sl 81⟩), (30, ⟨6, 80, .st [(9, 0), (3, 1), (28, 2), (3, 3), (9, 4), (3, 5)]⟩), (31, ⟨1, 24, .sl 83⟩), (35, ⟨1, 24, .sl 71⟩), (37, ⟨6, 80, .st [(9, 0), (3, 1), (35, 2), (3, 3), (9, 4), (3, 5)]⟩), (42, ⟨1, 24, .sl 167⟩), (44, ⟨1, 24, .st [(42, 0)]⟩), (45, ⟨1, 24, .sl 132⟩), (46, ⟨1, 24, .sl 136⟩), (48, ⟨12, 184, .st [(9, 0), (4, 1), (44, 2), (30, 3), (45, 9), (46, 10), (3, 11)]⟩), (50, ⟨1, 24, .sl 168⟩), (52, ⟨1, 24, .st [(50, 0)]⟩), (53, ⟨1, 24, .sl 130⟩), (54, ⟨1, 24, .sl 134⟩), (56, ⟨12, 184, .st [(9, 0), (4, 1), (52, 2), (37, 3), (53, 9), (54, 10), (3, 11)]⟩), (65, ⟨1, 24, .sl 9⟩), (71, ⟨8, 48, .st [(3, 0), (3, 1), (4, 2), (4, 3), (4, 4), (4, 5), (9, 6), (3, 7)]⟩), (73, ⟨11, 80, .st [(3, 0), (9, 1), (3, 2), (71, 3)]⟩), (81, ⟨8, 48, .st [(3, 0), (3, 1), (4, 2), (4, 3), (4, 4), (4, 5), (9, 6), (3, 7)]⟩), (83, ⟨11, 80, .st [(3, 0), (9, 1), (3, 2), (81, 3)]⟩), (109, ⟨1, 8, .ptr 111⟩), (111, ⟨3, 32, .st [(9, 0), (3, 1), (4, 2)]⟩), (119, ⟨1, 4, .int .u32⟩), (122, ⟨1, 24, .sl 5⟩), (130, ⟨2, 16, .st [(3, 0), (4, 1)]⟩), (132, ⟨2, 16, .st [(3, 0), (4, 1)]⟩), (134, ⟨2, 16, .st [(3, 0), (3, 1)]⟩), (136, ⟨2, 16, .st [(3, 0), (3, 1)]⟩), (147, ⟨1, 8, .int .u64⟩), (150, ⟨1, 8, .ptr 152⟩), (152, ⟨3, 32, .st [(9, 0), (3, 1), (4, 2)]⟩), (157, ⟨3, 40, .st [(9, 0), (9, 1), (3, 2)]⟩), (160, ⟨8, 32, .arr 8 119⟩), (167, ⟨3, 40, .st [(9, 0), (9, 1), (3, 2)]⟩), (168, ⟨3, 40, .st [(9, 0), (9, 1), (3, 2)]⟩), (171, ⟨1, 8, .ptr 37⟩), (178, ⟨1, 24, .sl 119⟩), (184, ⟨1, 24, .sl 4⟩), (187, ⟨64, 256, .arr 64 119⟩)]
def ent3 : Ent (ElOf els) := ⟨3, { sh := [.int .i64], enc := fun (x : Int) => [.int .i64 x], dec := fun cs => (cs.getD 0 .junk).toInt, z := (0 : Int), int? := some ⟨rfl⟩ }⟩
def ent4 : Ent (ElOf els) := ⟨4, { sh := [.bool], enc := fun (x : Bool) => [.bool x], dec := fun cs => (cs.getD 0 .junk).toBool, z := false, int? := none }⟩
def ent5 : Ent (ElOf els) := ⟨5, { sh := [.int .u8], enc := fun (x : Int) => [.int .u8 x], dec := fun cs => (cs.getD 0 .junk).toInt, z := (0 : Int), int? := some ⟨rfl⟩ }⟩
def ent9 : Ent (ElOf els) := ⟨9, { sh := [.str], enc := fun (x : ByteArray) => [.str x], dec := fun cs => (cs.getD 0 .junk).toStr, z := (⟨#[]⟩ : ByteArray), int? := none }⟩
def ent22 : Ent (ElOf els) := ⟨22, { sh := [.sl 73], enc := fun (x : (List SRec)) => [.rsl 73 x], dec := fun cs => (L.toSl 73 (cs.getD 0 .junk)), z := [], int? := none }⟩
def ent28 : Ent (ElOf els) := ⟨28, { sh := [.sl 81], enc := fun (x : (List SThing)) => [.rsl 81 x], dec := fun cs => (L.toSl 81 (cs.getD 0 .junk)), z := [], int? := none }⟩
def ent30 : Ent (ElOf els) := ⟨30, { sh := [.str, .int .i64, .sl 81, .int .i64, .str, .int .i64], enc := fun (x : SBook) => [.str x.fWord, .int .i64 x.fTries, .rsl 81 x.fThings, .int .i64 x.fLast, .str x.fChain, .int .i64 x.fCount], dec := fun cs => ⟨(cs.getD 0 .junk).toStr, (cs.getD 1 .junk).toInt, (L.toSl 81 (cs.getD 2 .junk)), (cs.getD 3 .junk).toInt, (cs.getD 4 .junk).toStr, (cs.getD 5 .junk).toInt⟩, z := (⟨⟨#[]⟩, 0, [], 0, ⟨#[]⟩, 0⟩ : SBook), int? := none }⟩
def ent31 : Ent (ElOf els) := ⟨31, { sh := [.sl 83], enc := fun (x : (List SRec)) => [.rsl 83 x], dec := fun cs => (L.toSl 83 (cs.getD 0 .junk)), z := [], int? := none }⟩
def ent35 : Ent (ElOf els) := ⟨35, { sh := [.sl 71], enc := fun (x : (List SThing)) => [.rsl 71 x], dec := fun cs => (L.toSl 71 (cs.getD 0 .junk)), z := [], int? := none }⟩
def ent37 : Ent (ElOf els) := ⟨37, { sh := [.str, .int .i64, .sl 71, .int .i64, .str, .int .i64], enc := fun (x : SBook) => [.str x.fWord, .int .i64 x.fTries, .rsl 71 x.fThings, .int .i64 x.fLast, .str x.fChain, .int .i64 x.fCount], dec := fun cs => ⟨(cs.getD 0 .junk).toStr, (cs.getD 1 .junk).toInt, (L.toSl 71 (cs.getD 2 .junk)), (cs.getD 3 .junk).toInt, (cs.getD 4 .junk).toStr, (cs.getD 5 .junk).toInt⟩, z := (⟨⟨#[]⟩, 0, [], 0, ⟨#[]⟩, 0⟩ : SBook), int? := none }⟩
def ent42 : Ent (ElOf els) := ⟨42, { sh := [.sl 167], enc := fun (x : (List SFile)) => [.rsl 167 x], dec := fun cs => (L.toSl 167 (cs.getD 0 .junk)), z := [], int? := none }⟩
def ent44 : Ent (ElOf els) := ⟨44, { sh := [.sl 167], enc := fun (x : SDisk) => [.rsl 167 x.fFiles], dec := fun cs => ⟨(L.toSl 167 (cs.getD 0 .junk))⟩, z := (⟨[]⟩ : SDisk), int? := none }⟩
def ent45 : Ent (ElOf els) := ⟨45, { sh := [.sl 132], enc := fun (x : (List SSession)) => [.rsl 132 x], dec := fun cs => (L.toSl 132 (cs.getD 0 .junk)), z := [], int? := none }⟩
def ent46 : Ent (ElOf els) := ⟨46, { sh := [.sl 136], enc := fun (x : (List SLive)) => [.rsl 136 x], dec := fun cs => (L.toSl 136 (cs.getD 0 .junk)), z := [], int? := none }⟩
def ent48 : Ent (ElOf els) := ⟨48, { sh := [.str, .bool, .sl 167, .str, .int .i64, .sl 81, .int .i64, .str, .int .i64, .sl 132, .sl 136, .int .i64], enc := fun (x : SBox) => [.str x.fKey, .bool x.fUp, .rsl 167 x.fDisk.fFiles, .str x.fBook.fWord, .int .i64 x.fBook.fTries, .rsl 81 x.fBook.fThings, .int .i64 x.fBook.fLast, .str x.fBook.fChain, .int .i64 x.fBook.fCount, .rsl 132 x.fSessions, .rsl 136 x.fLives, .int .i64 x.fOpened], dec := fun cs => ⟨(cs.getD 0 .junk).toStr, (cs.getD 1 .junk).toBool, ⟨(L.toSl 167 (cs.getD 2 .junk))⟩, ⟨(cs.getD 3 .junk).toStr, (cs.getD 4 .junk).toInt, (L.toSl 81 (cs.getD 5 .junk)), (cs.getD 6 .junk).toInt, (cs.getD 7 .junk).toStr, (cs.getD 8 .junk).toInt⟩, (L.toSl 132 (cs.getD 9 .junk)), (L.toSl 136 (cs.getD 10 .junk)), (cs.getD 11 .junk).toInt⟩, z := (⟨⟨#[]⟩, false, ⟨[]⟩, ⟨⟨#[]⟩, 0, [], 0, ⟨#[]⟩, 0⟩, [], [], 0⟩ : SBox), int? := none }⟩
def ent50 : Ent (ElOf els) := ⟨50, { sh := [.sl 168], enc := fun (x : (List SFile)) => [.rsl 168 x], dec := fun cs => (L.toSl 168 (cs.getD 0 .junk)), z := [], int? := none }⟩
def ent52 : Ent (ElOf els) := ⟨52, { sh := [.sl 168], enc := fun (x : SDisk) => [.rsl 168 x.fFiles], dec := fun cs => ⟨(L.toSl 168 (cs.getD 0 .junk))⟩, z := (⟨[]⟩ : SDisk), int? := none }⟩
def ent53 : Ent (ElOf els) := ⟨53, { sh := [.sl 130], enc := fun (x : (List SSession)) => [.rsl 130 x], dec := fun cs => (L.toSl 130 (cs.getD 0 .junk)), z := [], int? := none }⟩
def ent54 : Ent (ElOf els) := ⟨54, { sh := [.sl 134], enc := fun (x : (List SLive)) => [.rsl 134 x], dec := fun cs => (L.toSl 134 (cs.getD 0 .junk)), z := [], int? := none }⟩
def ent56 : Ent (ElOf els) := ⟨56, { sh := [.str, .bool, .sl 168, .str, .int .i64, .sl 71, .int .i64, .str, .int .i64, .sl 130, .sl 134, .int .i64], enc := fun (x : SBox) => [.str x.fKey, .bool x.fUp, .rsl 168 x.fDisk.fFiles, .str x.fBook.fWord, .int .i64 x.fBook.fTries, .rsl 71 x.fBook.fThings, .int .i64 x.fBook.fLast, .str x.fBook.fChain, .int .i64 x.fBook.fCount, .rsl 130 x.fSessions, .rsl 134 x.fLives, .int .i64 x.fOpened], dec := fun cs => ⟨(cs.getD 0 .junk).toStr, (cs.getD 1 .junk).toBool, ⟨(L.toSl 168 (cs.getD 2 .junk))⟩, ⟨(cs.getD 3 .junk).toStr, (cs.getD 4 .junk).toInt, (L.toSl 71 (cs.getD 5 .junk)), (cs.getD 6 .junk).toInt, (cs.getD 7 .junk).toStr, (cs.getD 8 .junk).toInt⟩, (L.toSl 130 (cs.getD 9 .junk)), (L.toSl 134 (cs.getD 10 .junk)), (cs.getD 11 .junk).toInt⟩, z := (⟨⟨#[]⟩, false, ⟨[]⟩, ⟨⟨#[]⟩, 0, [], 0, ⟨#[]⟩, 0⟩, [], [], 0⟩ : SBox), int? := none }⟩
def ent65 : Ent (ElOf els) := ⟨65, { sh := [.sl 9], enc := fun (x : (List ByteArray)) => [.rsl 9 x], dec := fun cs => (L.toSl 9 (cs.getD 0 .junk)), z := [], int? := none }⟩
def ent71 : Ent (ElOf els) := ⟨71, { sh := [.int .i64, .int .i64, .bool, .bool, .bool, .bool, .str, .int .i64], enc := fun (x : SThing) => [.int .i64 x.fId, .int .i64 x.fKind, .bool x.fHidden, .bool x.fFixed, .bool x.fSigns, .bool x.fWraps, .str x.fValue, .int .i64 x.fNext], dec := fun cs => ⟨(cs.getD 0 .junk).toInt, (cs.getD 1 .junk).toInt, (cs.getD 2 .junk).toBool, (cs.getD 3 .junk).toBool, (cs.getD 4 .junk).toBool, (cs.getD 5 .junk).toBool, (cs.getD 6 .junk).toStr, (cs.getD 7 .junk).toInt⟩, z := (⟨0, 0, false, false, false, false, ⟨#[]⟩, 0⟩ : SThing), int? := none }⟩
def ent73 : Ent (ElOf els) := ⟨73, { sh := [.int .i64, .str, .int .i64, .int .i64, .int .i64, .bool, .bool, .bool, .bool, .str, .int .i64], enc := fun (x : SRec) => [.int .i64 x.fKind, .str x.fText, .int .i64 x.fNum, .int .i64 x.fThing.fId, .int .i64 x.fThing.fKind, .bool x.fThing.fHidden, .bool x.fThing.fFixed, .bool x.fThing.fSigns, .bool x.fThing.fWraps, .str x.fThing.fValue, .int .i64 x.fThing.fNext], dec := fun cs => ⟨(cs.getD 0 .junk).toInt, (cs.getD 1 .junk).toStr, (cs.getD 2 .junk).toInt, ⟨(cs.getD 3 .junk).toInt, (cs.getD 4 .junk).toInt, (cs.getD 5 .junk).toBool, (cs.getD 6 .junk).toBool, (cs.getD 7 .junk).toBool, (cs.getD 8 .junk).toBool, (cs.getD 9 .junk).toStr, (cs.getD 10 .junk).toInt⟩⟩, z := (⟨0, ⟨#[]⟩, 0, ⟨0, 0, false, false, false, false, ⟨#[]⟩, 0⟩⟩ : SRec), int? := none }⟩
def ent81 : Ent (ElOf els) := ⟨81, { sh := [.int .i64, .int .i64, .bool, .bool, .bool, .bool, .str, .int .i64], enc := fun (x : SThing) => [.int .i64 x.fId, .int .i64 x.fKind, .bool x.fHidden, .bool x.fFixed, .bool x.fSigns, .bool x.fWraps, .str x.fValue, .int .i64 x.fNext], dec := fun cs => ⟨(cs.getD 0 .junk).toInt, (cs.getD 1 .junk).toInt, (cs.getD 2 .junk).toBool, (cs.getD 3 .junk).toBool, (cs.getD 4 .junk).toBool, (cs.getD 5 .junk).toBool, (cs.getD 6 .junk).toStr, (cs.getD 7 .junk).toInt⟩, z := (⟨0, 0, false, false, false, false, ⟨#[]⟩, 0⟩ : SThing), int? := none }⟩
def ent83 : Ent (ElOf els) := ⟨83, { sh := [.int .i64, .str, .int .i64, .int .i64, .int .i64, .bool, .bool, .bool, .bool, .str, .int .i64], enc := fun (x : SRec) => [.int .i64 x.fKind, .str x.fText, .int .i64 x.fNum, .int .i64 x.fThing.fId, .int .i64 x.fThing.fKind, .bool x.fThing.fHidden, .bool x.fThing.fFixed, .bool x.fThing.fSigns, .bool x.fThing.fWraps, .str x.fThing.fValue, .int .i64 x.fThing.fNext], dec := fun cs => ⟨(cs.getD 0 .junk).toInt, (cs.getD 1 .junk).toStr, (cs.getD 2 .junk).toInt, ⟨(cs.getD 3 .junk).toInt, (cs.getD 4 .junk).toInt, (cs.getD 5 .junk).toBool, (cs.getD 6 .junk).toBool, (cs.getD 7 .junk).toBool, (cs.getD 8 .junk).toBool, (cs.getD 9 .junk).toStr, (cs.getD 10 .junk).toInt⟩⟩, z := (⟨0, ⟨#[]⟩, 0, ⟨0, 0, false, false, false, false, ⟨#[]⟩, 0⟩⟩ : SRec), int? := none }⟩
def ent109 : Ent (ElOf els) := ⟨109, { sh := [.bool], enc := fun (x : Bool) => [.bool x], dec := fun cs => (cs.getD 0 .junk).toBool, z := false, int? := none }⟩
def ent111 : Ent (ElOf els) := ⟨111, { sh := [.str, .int .i64, .bool], enc := fun (x : SL19Cur) => [.str x.fText, .int .i64 x.fAt, .bool x.fBad], dec := fun cs => ⟨(cs.getD 0 .junk).toStr, (cs.getD 1 .junk).toInt, (cs.getD 2 .junk).toBool⟩, z := (⟨⟨#[]⟩, 0, false⟩ : SL19Cur), int? := none }⟩
def ent119 : Ent (ElOf els) := ⟨119, { sh := [.int .u32], enc := fun (x : Int) => [.int .u32 x], dec := fun cs => (cs.getD 0 .junk).toInt, z := (0 : Int), int? := some ⟨rfl⟩ }⟩
def ent122 : Ent (ElOf els) := ⟨122, { sh := [.sl 5], enc := fun (x : (List Int)) => [.rsl 5 x], dec := fun cs => (L.toSl 5 (cs.getD 0 .junk)), z := [], int? := none }⟩
def ent130 : Ent (ElOf els) := ⟨130, { sh := [.int .i64, .bool], enc := fun (x : SSession) => [.int .i64 x.fId, .bool x.fIn], dec := fun cs => ⟨(cs.getD 0 .junk).toInt, (cs.getD 1 .junk).toBool⟩, z := (⟨0, false⟩ : SSession), int? := none }⟩
def ent132 : Ent (ElOf els) := ⟨132, { sh := [.int .i64, .bool], enc := fun (x : SSession) => [.int .i64 x.fId, .bool x.fIn], dec := fun cs => ⟨(cs.getD 0 .junk).toInt, (cs.getD 1 .junk).toBool⟩, z := (⟨0, false⟩ : SSession), int? := none }⟩
def ent134 : Ent (ElOf els) := ⟨134, { sh := [.int .i64, .int .i64], enc := fun (x : SLive) => [.int .i64 x.fId, .int .i64 x.fNext], dec := fun cs => ⟨(cs.getD 0 .junk).toInt, (cs.getD 1 .junk).toInt⟩, z := (⟨0, 0⟩ : SLive), int? := none }⟩
def ent136 : Ent (ElOf els) := ⟨136, { sh := [.int .i64, .int .i64], enc := fun (x : SLive) => [.int .i64 x.fId, .int .i64 x.fNext], dec := fun cs => ⟨(cs.getD 0 .junk).toInt, (cs.getD 1 .junk).toInt⟩, z := (⟨0, 0⟩ : SLive), int? := none }⟩
def ent147 : Ent (ElOf els) := ⟨147, { sh := [.int .u64], enc := fun (x : Int) => [.int .u64 x], dec := fun cs => (cs.getD 0 .junk).toInt, z := (0 : Int), int? := some ⟨rfl⟩ }⟩
def ent150 : Ent (ElOf els) := ⟨150, { sh := [.bool], enc := fun (x : Bool) => [.bool x], dec := fun cs => (cs.getD 0 .junk).toBool, z := false, int? := none }⟩
def ent152 : Ent (ElOf els) := ⟨152, { sh := [.str, .int .i64, .bool], enc := fun (x : SFields) => [.str x.fText, .int .i64 x.fAt, .bool x.fBad], dec := fun cs => ⟨(cs.getD 0 .junk).toStr, (cs.getD 1 .junk).toInt, (cs.getD 2 .junk).toBool⟩, z := (⟨⟨#[]⟩, 0, false⟩ : SFields), int? := none }⟩
def ent157 : Ent (ElOf els) := ⟨157, { sh := [.str, .str, .int .i64], enc := fun (x : SHasher) => [.str x.fState, .str x.fRest, .int .i64 x.fCount], dec := fun cs => ⟨(cs.getD 0 .junk).toStr, (cs.getD 1 .junk).toStr, (cs.getD 2 .junk).toInt⟩, z := (⟨⟨#[]⟩, ⟨#[]⟩, 0⟩ : SHasher), int? := none }⟩
def ent160 : Ent (ElOf els) := ⟨160, codBools 8 (fun x => x) (fun x => x)⟩
def ent167 : Ent (ElOf els) := ⟨167, { sh := [.str, .str, .int .i64], enc := fun (x : SFile) => [.str x.fName, .str x.fText, .int .i64 x.fKept], dec := fun cs => ⟨(cs.getD 0 .junk).toStr, (cs.getD 1 .junk).toStr, (cs.getD 2 .junk).toInt⟩, z := (⟨⟨#[]⟩, ⟨#[]⟩, 0⟩ : SFile), int? := none }⟩
def ent168 : Ent (ElOf els) := ⟨168, { sh := [.str, .str, .int .i64], enc := fun (x : SFile) => [.str x.fName, .str x.fText, .int .i64 x.fKept], dec := fun cs => ⟨(cs.getD 0 .junk).toStr, (cs.getD 1 .junk).toStr, (cs.getD 2 .junk).toInt⟩, z := (⟨⟨#[]⟩, ⟨#[]⟩, 0⟩ : SFile), int? := none }⟩
def ent171 : Ent (ElOf els) := ⟨171, { sh := [.bool], enc := fun (x : Bool) => [.bool x], dec := fun cs => (cs.getD 0 .junk).toBool, z := false, int? := none }⟩
def ent178 : Ent (ElOf els) := ⟨178, { sh := [.sl 119], enc := fun (x : (List Int)) => [.rsl 119 x], dec := fun cs => (L.toSl 119 (cs.getD 0 .junk)), z := [], int? := none }⟩
def ent184 : Ent (ElOf els) := ⟨184, { sh := [.sl 4], enc := fun (x : (List Bool)) => [.rsl 4 x], dec := fun cs => (L.toSl 4 (cs.getD 0 .junk)), z := [], int? := none }⟩
def ent187 : Ent (ElOf els) := ⟨187, codBools 64 (fun x => x) (fun x => x)⟩
def ents : List (Ent (ElOf els)) := [ent3, ent4, ent5, ent9, ent22, ent28, ent30, ent31, ent35, ent37, ent42, ent44, ent45, ent46, ent48, ent50, ent52, ent53, ent54, ent56, ent65, ent71, ent73, ent81, ent83, ent109, ent111, ent119, ent122, ent130, ent132, ent134, ent136, ent147, ent150, ent152, ent157, ent160, ent167, ent168, ent171, ent178, ent184, ent187]
def modes : List (Nat × List Mode') := [(10, [.io, .rd]), (107, [.io, .rd]), (57, [.io, .rd]), (67, [.io, .rd]), (28, [.io, .rd]), (58, [.io, .rd]), (59, [.io, .rd]), (24, [.io, .rd])]
def cuts : List (Nat × List (Nat × (List Nat × List Nat × List (Nat × Nat) × List (Nat × Nat × Nat)))) := [(80, [(2, ([0, 3], [], [(3, 5)], []))]),
  (69, [(6, ([0, 1, 7, 8, 9], [], [], []))]),
  (120, [(2, ([0, 1, 5], [], [], [])), (6, ([0, 1, 5, 6], [], [], []))]),
  (30, [(5, ([0, 4, 5], [], [(4, 9)], []))]),
  (152, [(3, ([0, 3, 4], [], [(0, 119), (3, 5)], []))]),
  (149, [(3, ([0, 3, 4], [], [(3, 119)], []))]),
  (151, [(3, ([0, 1, 7, 8], [], [(0, 119), (1, 119), (7, 119)], [])), (8, ([0, 1, 7, 9, 10], [], [(0, 119), (1, 119), (7, 119), (9, 119)], [])), (16, ([0, 1, 7, 9, 10, 13, 15, 16], [], [(0, 119), (1, 119), (7, 119), (9, 119)], [])), (23, ([0, 9, 17, 18], [], [(0, 119), (9, 119), (17, 119)], []))]),
  (129, [(7, ([1, 2, 4, 5, 6, 7, 8], [128, 256], [(5, 119), (6, 119)], []))]),
  (128, [(5, ([1, 3], [64], [(3, 5)], [])), (9, ([1, 3, 4, 5], [64], [(3, 5)], [])), (13, ([1, 3, 4, 5, 6, 7], [64], [(3, 5)], [])), (20, ([3, 8, 9, 10], [], [(3, 5), (8, 119), (9, 119)], []))]),
  (141, [(5, ([0, 1, 5, 6], [], [(5, 5)], []))]),
  (70, [(5, ([0, 1, 2, 8, 9], [], [(8, 5)], []))]),
  (73, [(3, ([1, 5, 6], [], [(5, 5)], []))]),
  (7, [(5, ([0, 6, 7, 9, 10], [], [(6, 73), (7, 9)], []))]),
  (83, [(5, ([0, 1, 7, 8], [], [], []))]),
  (121, [(2, ([0, 1, 5], [], [], [])), (6, ([0, 1, 5, 19], [], [], []))]),
  (34, [(5, ([0, 4, 5], [], [(4, 9)], []))]),
  (92, [(2, ([0, 3], [], [(3, 5)], []))]),
  (158, [(3, ([0, 2, 3, 11], [128, 192], [], [])), (6, ([0, 2, 3, 4, 11, 14], [128, 192], [], [])), (12, ([2, 3, 6], [128, 192], [], []))]),
  (154, [(4, ([2, 4, 5, 6, 7, 8, 9, 10, 11, 12, 13, 37], [128, 256, 320], [], [])), (13, ([2, 4, 17, 109], [128, 256, 1088], [], []))]),
  (131, [(1, ([1, 2, 4], [128, 256], [], []))]),
  (134, [(3, ([3, 6, 7], [], [], []))]),
  (144, [(3, ([1, 5, 10, 11], [], [(5, 5)], []))]),
  (87, [(6, ([0, 2, 8, 10, 11], [], [], []))]),
  (89, [(3, ([1, 5, 10, 11], [], [(5, 5)], []))]),
  (146, [(3, ([3, 14, 15, 16], [], [(14, 4)], []))]),
  (8, [(5, ([0, 8, 9, 23, 24, 25], [], [(8, 73), (23, 9)], []))]),
  (9, [(4, ([0, 1, 5], [], [(0, 73), (1, 73)], []))]),
  (39, [(4, ([0, 3], [], [], []))]),
  (10, [(2, ([0, 1, 5], [1], [(0, 73)], [])), (6, ([0, 1, 5], [1], [(0, 73)], [])), (8, ([0, 1, 5], [1], [(0, 73)], [])), (10, ([0, 1, 5], [1], [(0, 73)], [])), (12, ([0, 1, 5], [1], [(0, 73)], [])), (14, ([0, 1, 5], [1], [(0, 73)], [])), (16, ([0, 1, 5], [1], [(0, 73)], [])), (18, ([0, 1, 5], [1], [(0, 73)], [])), (20, ([0, 1, 5], [1], [(0, 73)], [])), (22, ([0, 1, 5], [1], [(0, 73)], [])), (24, ([0, 1, 5], [1], [(0, 73)], []))]),
  (11, [(2, ([0, 1, 5], [], [(0, 73)], []))]),
  (40, [(5, ([0, 1, 5], [], [(0, 81)], []))]),
  (13, [(5, ([0, 1, 5], [], [(0, 83)], []))]),
  (43, [(3, ([0, 3, 4], [], [(0, 81), (3, 71)], []))]),
  (16, [(3, ([0, 3, 4], [], [(0, 83), (3, 73)], []))]),
  (96, [(3, ([0, 1, 5, 6], [], [(5, 5)], []))]),
  (109, [(4, ([1, 3], [64], [], [(64, 2, 71)]))]),
  (110, [(2, ([1, 2, 4, 6], [128, 256], [], [(128, 2, 71)]))]),
  (112, [(3, ([0, 3, 5, 6], [192], [(0, 71), (5, 71)], [])), (9, ([0, 3, 5, 7], [192], [(0, 71), (5, 71)], []))]),
  (64, [(24, ([2, 3, 4, 6, 8, 13, 14], [128, 192, 256, 512], [(13, 71)], [(128, 2, 71), (256, 2, 71), (512, 2, 71)]))]),
  (26, [(3, ([1, 4, 6, 7], [256, 384], [(1, 73)], [(256, 2, 71), (384, 2, 71)]))]),
  (113, [(2, ([1, 6, 7, 8], [64], [(6, 71)], [(64, 2, 71)]))]),
  (115, [(2, ([1, 8, 9, 10], [], [(8, 71)], []))]),
  (27, [(3, ([4, 6, 13, 14, 15], [256, 384], [(13, 73)], [(256, 2, 71), (384, 2, 71)]))]),
  (46, [(4, ([0, 1, 5], [], [(0, 71), (1, 71)], []))]),
  (100, [(5, ([0, 1, 5], [], [(0, 167)], []))]),
  (101, [(3, ([0, 3, 4], [], [(0, 167), (3, 168)], []))]),
  (51, [(3, ([0, 3, 4], [], [(0, 132), (3, 130)], []))]),
  (52, [(3, ([0, 3, 4], [], [(0, 136), (3, 134)], []))]),
  (104, [(4, ([0, 1, 5], [], [(0, 168), (1, 168)], []))]),
  (55, [(4, ([0, 1, 5], [], [(0, 130), (1, 130)], []))]),
  (56, [(4, ([0, 1, 5], [], [(0, 134), (1, 134)], []))]),
  (107, [(2, ([0, 1, 5], [1], [(0, 168)], []))]),
  (67, [(2, ([0, 1, 5], [1], [(0, 71)], [])), (6, ([0, 1, 5], [1], [(0, 71)], [])), (8, ([0, 1, 5], [1], [(0, 71)], [])), (10, ([0, 1, 5], [1], [(0, 71)], [])), (12, ([0, 1, 5], [1], [(0, 71)], [])), (14, ([0, 1, 5], [1], [(0, 71)], [])), (16, ([0, 1, 5], [1], [(0, 71)], [])), (18, ([0, 1, 5], [1], [(0, 71)], []))]),
  (58, [(2, ([0, 1, 5], [1], [(0, 130)], []))]),
  (59, [(2, ([0, 1, 5], [1], [(0, 134)], []))]),
  (108, [(2, ([0, 1, 5], [], [(0, 168)], []))]),
  (68, [(2, ([0, 1, 5], [], [(0, 71)], []))]),
  (61, [(2, ([0, 1, 5], [], [(0, 130)], []))]),
  (62, [(2, ([0, 1, 5], [], [(0, 134)], []))])]
def tabs : List (Nat × (Nat × List Int)) := [(0, (187, [1116352408, 1899447441, 3049323471, 3921009573, 961987163, 1508970993, 2453635748, 2870763221, 3624381080, 310598401, 607225278, 1426881987, 1925078388, 2162078206, 2614888103, 3248222580, 3835390401, 4022224774, 264347078, 604807628, 770255983, 1249150122, 1555081692, 1996064986, 2554220882, 2821834349, 2952996808, 3210313671, 3336571891, 3584528711, 113926993, 338241895, 666307205, 773529912, 1294757372, 1396182291, 1695183700, 1986661051, 2177026350, 2456956037, 2730485921, 2820302411, 3259730800, 3345764771, 3516065817, 3600352804, 4094571909, 275423344, 430227734, 506948616, 659060556, 883997877, 958139571, 1322822218, 1537002063, 1747873779, 1955562222, 2024104815, 2227730452, 2361852424, 2428436474, 2756734187, 3204031479, 3329325298]))]
def ctx : Ctx := mkCtx els tis ents modes cuts tabs
noncomputable abbrev PP : Program := Tryd.prog
abbrev LI := List Go.Item × Env ctx × Hp ctx
theorem good3 : CodGood ctx 3 ent3.c := ⟨fun _ => rfl, fun cs h0 => by obtain ⟨n0, ls0, rfl, h1⟩ := fit_int h0; obtain rfl := fit_nil h1; rfl, fun _ => rfl, rfl, fun h k hi hk n => by cases hk; rfl⟩
theorem good4 : CodGood ctx 4 ent4.c := ⟨fun _ => rfl, fun cs h0 => by obtain ⟨n0, ls0, rfl, h1⟩ := fit_bool h0; obtain rfl := fit_nil h1; rfl, fun _ => rfl, rfl, fun h k hi hk n => by cases hi⟩
theorem good5 : CodGood ctx 5 ent5.c := ⟨fun _ => rfl, fun cs h0 => by obtain ⟨n0, ls0, rfl, h1⟩ := fit_int h0; obtain rfl := fit_nil h1; rfl, fun _ => rfl, rfl, fun h k hi hk n => by cases hk; rfl⟩
theorem good9 : CodGood ctx 9 ent9.c := ⟨fun _ => rfl, fun cs h0 => by obtain ⟨n0, ls0, rfl, h1⟩ := fit_str h0; obtain rfl := fit_nil h1; rfl, fun _ => rfl, rfl, fun h k hi hk n => by cases hi⟩
theorem good22 : CodGood ctx 22 ent22.c := ⟨fun _ => rfl, fun cs h0 => by obtain ⟨n0, ls0, rfl, h1⟩ := fit_sl h0; obtain rfl := fit_nil h1; rfl, fun _ => rfl, rfl, fun h k hi hk n => by cases hi⟩
theorem good28 : CodGood ctx 28 ent28.c := ⟨fun _ => rfl, fun cs h0 => by obtain ⟨n0, ls0, rfl, h1⟩ := fit_sl h0; obtain rfl := fit_nil h1; rfl, fun _ => rfl, rfl, fun h k hi hk n => by cases hi⟩
theorem good30 : CodGood ctx 30 ent30.c := ⟨fun _ => rfl, fun cs h0 => by obtain ⟨n0, ls0, rfl, h1⟩ := fit_str h0; obtain ⟨n1, ls1, rfl, h2⟩ := fit_int h1; obtain ⟨n2, ls2, rfl, h3⟩ := fit_sl h2; obtain ⟨n3, ls3, rfl, h4⟩ := fit_int h3; obtain ⟨n4, ls4, rfl, h5⟩ := fit_str h4; obtain ⟨n5, ls5, rfl, h6⟩ := fit_int h5; obtain rfl := fit_nil h6; rfl, fun _ => rfl, rfl, fun h k hi hk n => by cases hi⟩
theorem good31 : CodGood ctx 31 ent31.c := ⟨fun _ => rfl, fun cs h0 => by obtain ⟨n0, ls0, rfl, h1⟩ := fit_sl h0; obtain rfl := fit_nil h1; rfl, fun _ => rfl, rfl, fun h k hi hk n => by cases hi⟩
theorem good35 : CodGood ctx 35 ent35.c := ⟨fun _ => rfl, fun cs h0 => by obtain ⟨n0, ls0, rfl, h1⟩ := fit_sl h0; obtain rfl := fit_nil h1; rfl, fun _ => rfl, rfl, fun h k hi hk n => by cases hi⟩
theorem good37 : CodGood ctx 37 ent37.c := ⟨fun _ => rfl, fun cs h0 => by obtain ⟨n0, ls0, rfl, h1⟩ := fit_str h0; obtain ⟨n1, ls1, rfl, h2⟩ := fit_int h1; obtain ⟨n2, ls2, rfl, h3⟩ := fit_sl h2; obtain ⟨n3, ls3, rfl, h4⟩ := fit_int h3; obtain ⟨n4, ls4, rfl, h5⟩ := fit_str h4; obtain ⟨n5, ls5, rfl, h6⟩ := fit_int h5; obtain rfl := fit_nil h6; rfl, fun _ => rfl, rfl, fun h k hi hk n => by cases hi⟩
theorem good42 : CodGood ctx 42 ent42.c := ⟨fun _ => rfl, fun cs h0 => by obtain ⟨n0, ls0, rfl, h1⟩ := fit_sl h0; obtain rfl := fit_nil h1; rfl, fun _ => rfl, rfl, fun h k hi hk n => by cases hi⟩
theorem good44 : CodGood ctx 44 ent44.c := ⟨fun _ => rfl, fun cs h0 => by obtain ⟨n0, ls0, rfl, h1⟩ := fit_sl h0; obtain rfl := fit_nil h1; rfl, fun _ => rfl, rfl, fun h k hi hk n => by cases hi⟩
theorem good45 : CodGood ctx 45 ent45.c := ⟨fun _ => rfl, fun cs h0 => by obtain ⟨n0, ls0, rfl, h1⟩ := fit_sl h0; obtain rfl := fit_nil h1; rfl, fun _ => rfl, rfl, fun h k hi hk n => by cases hi⟩
theorem good46 : CodGood ctx 46 ent46.c := ⟨fun _ => rfl, fun cs h0 => by obtain ⟨n0, ls0, rfl, h1⟩ := fit_sl h0; obtain rfl := fit_nil h1; rfl, fun _ => rfl, rfl, fun h k hi hk n => by cases hi⟩
theorem good48 : CodGood ctx 48 ent48.c := ⟨fun _ => rfl, fun cs h0 => by obtain ⟨n0, ls0, rfl, h1⟩ := fit_str h0; obtain ⟨n1, ls1, rfl, h2⟩ := fit_bool h1; obtain ⟨n2, ls2, rfl, h3⟩ := fit_sl h2; obtain ⟨n3, ls3, rfl, h4⟩ := fit_str h3; obtain ⟨n4, ls4, rfl, h5⟩ := fit_int h4; obtain ⟨n5, ls5, rfl, h6⟩ := fit_sl h5; obtain ⟨n6, ls6, rfl, h7⟩ := fit_int h6; obtain ⟨n7, ls7, rfl, h8⟩ := fit_str h7; obtain ⟨n8, ls8, rfl, h9⟩ := fit_int h8; obtain ⟨n9, ls9, rfl, h10⟩ := fit_sl h9; obtain ⟨n10, ls10, rfl, h11⟩ := fit_sl h10; obtain ⟨n11, ls11, rfl, h12⟩ := fit_int h11; obtain rfl := fit_nil h12; rfl, fun _ => rfl, rfl, fun h k hi hk n => by cases hi⟩
theorem good50 : CodGood ctx 50 ent50.c := ⟨fun _ => rfl, fun cs h0 => by obtain ⟨n0, ls0, rfl, h1⟩ := fit_sl h0; obtain rfl := fit_nil h1; rfl, fun _ => rfl, rfl, fun h k hi hk n => by cases hi⟩
theorem good52 : CodGood ctx 52 ent52.c := ⟨fun _ => rfl, fun cs h0 => by obtain ⟨n0, ls0, rfl, h1⟩ := fit_sl h0; obtain rfl := fit_nil h1; rfl, fun _ => rfl, rfl, fun h k hi hk n => by cases hi⟩
theorem good53 : CodGood ctx 53 ent53.c := ⟨fun _ => rfl, fun cs h0 => by obtain ⟨n0, ls0, rfl, h1⟩ := fit_sl h0; obtain rfl := fit_nil h1; rfl, fun _ => rfl, rfl, fun h k hi hk n => by cases hi⟩
theorem good54 : CodGood ctx 54 ent54.c := ⟨fun _ => rfl, fun cs h0 => by obtain ⟨n0, ls0, rfl, h1⟩ := fit_sl h0; obtain rfl := fit_nil h1; rfl, fun _ => rfl, rfl, fun h k hi hk n => by cases hi⟩
theorem good56 : CodGood ctx 56 ent56.c := ⟨fun _ => rfl, fun cs h0 => by obtain ⟨n0, ls0, rfl, h1⟩ := fit_str h0; obtain ⟨n1, ls1, rfl, h2⟩ := fit_bool h1; obtain ⟨n2, ls2, rfl, h3⟩ := fit_sl h2; obtain ⟨n3, ls3, rfl, h4⟩ := fit_str h3; obtain ⟨n4, ls4, rfl, h5⟩ := fit_int h4; obtain ⟨n5, ls5, rfl, h6⟩ := fit_sl h5; obtain ⟨n6, ls6, rfl, h7⟩ := fit_int h6; obtain ⟨n7, ls7, rfl, h8⟩ := fit_str h7; obtain ⟨n8, ls8, rfl, h9⟩ := fit_int h8; obtain ⟨n9, ls9, rfl, h10⟩ := fit_sl h9; obtain ⟨n10, ls10, rfl, h11⟩ := fit_sl h10; obtain ⟨n11, ls11, rfl, h12⟩ := fit_int h11; obtain rfl := fit_nil h12; rfl, fun _ => rfl, rfl, fun h k hi hk n => by cases hi⟩
theorem good65 : CodGood ctx 65 ent65.c := ⟨fun _ => rfl, fun cs h0 => by obtain ⟨n0, ls0, rfl, h1⟩ := fit_sl h0; obtain rfl := fit_nil h1; rfl, fun _ => rfl, rfl, fun h k hi hk n => by cases hi⟩
theorem good71 : CodGood ctx 71 ent71.c := ⟨fun _ => rfl, fun cs h0 => by obtain ⟨n0, ls0, rfl, h1⟩ := fit_int h0; obtain ⟨n1, ls1, rfl, h2⟩ := fit_int h1; obtain ⟨n2, ls2, rfl, h3⟩ := fit_bool h2; obtain ⟨n3, ls3, rfl, h4⟩ := fit_bool h3; obtain ⟨n4, ls4, rfl, h5⟩ := fit_bool h4; obtain ⟨n5, ls5, rfl, h6⟩ := fit_bool h5; obtain ⟨n6, ls6, rfl, h7⟩ := fit_str h6; obtain ⟨n7, ls7, rfl, h8⟩ := fit_int h7; obtain rfl := fit_nil h8; rfl, fun _ => rfl, rfl, fun h k hi hk n => by cases hi⟩
theorem good73 : CodGood ctx 73 ent73.c := ⟨fun _ => rfl, fun cs h0 => by obtain ⟨n0, ls0, rfl, h1⟩ := fit_int h0; obtain ⟨n1, ls1, rfl, h2⟩ := fit_str h1; obtain ⟨n2, ls2, rfl, h3⟩ := fit_int h2; obtain ⟨n3, ls3, rfl, h4⟩ := fit_int h3; obtain ⟨n4, ls4, rfl, h5⟩ := fit_int h4; obtain ⟨n5, ls5, rfl, h6⟩ := fit_bool h5; obtain ⟨n6, ls6, rfl, h7⟩ := fit_bool h6; obtain ⟨n7, ls7, rfl, h8⟩ := fit_bool h7; obtain ⟨n8, ls8, rfl, h9⟩ := fit_bool h8; obtain ⟨n9, ls9, rfl, h10⟩ := fit_str h9; obtain ⟨n10, ls10, rfl, h11⟩ := fit_int h10; obtain rfl := fit_nil h11; rfl, fun _ => rfl, rfl, fun h k hi hk n => by cases hi⟩
theorem good81 : CodGood ctx 81 ent81.c := ⟨fun _ => rfl, fun cs h0 => by obtain ⟨n0, ls0, rfl, h1⟩ := fit_int h0; obtain ⟨n1, ls1, rfl, h2⟩ := fit_int h1; obtain ⟨n2, ls2, rfl, h3⟩ := fit_bool h2; obtain ⟨n3, ls3, rfl, h4⟩ := fit_bool h3; obtain ⟨n4, ls4, rfl, h5⟩ := fit_bool h4; obtain ⟨n5, ls5, rfl, h6⟩ := fit_bool h5; obtain ⟨n6, ls6, rfl, h7⟩ := fit_str h6; obtain ⟨n7, ls7, rfl, h8⟩ := fit_int h7; obtain rfl := fit_nil h8; rfl, fun _ => rfl, rfl, fun h k hi hk n => by cases hi⟩
theorem good83 : CodGood ctx 83 ent83.c := ⟨fun _ => rfl, fun cs h0 => by obtain ⟨n0, ls0, rfl, h1⟩ := fit_int h0; obtain ⟨n1, ls1, rfl, h2⟩ := fit_str h1; obtain ⟨n2, ls2, rfl, h3⟩ := fit_int h2; obtain ⟨n3, ls3, rfl, h4⟩ := fit_int h3; obtain ⟨n4, ls4, rfl, h5⟩ := fit_int h4; obtain ⟨n5, ls5, rfl, h6⟩ := fit_bool h5; obtain ⟨n6, ls6, rfl, h7⟩ := fit_bool h6; obtain ⟨n7, ls7, rfl, h8⟩ := fit_bool h7; obtain ⟨n8, ls8, rfl, h9⟩ := fit_bool h8; obtain ⟨n9, ls9, rfl, h10⟩ := fit_str h9; obtain ⟨n10, ls10, rfl, h11⟩ := fit_int h10; obtain rfl := fit_nil h11; rfl, fun _ => rfl, rfl, fun h k hi hk n => by cases hi⟩
theorem good109 : CodGood ctx 109 ent109.c := ⟨fun _ => rfl, fun cs h0 => by obtain ⟨n0, ls0, rfl, h1⟩ := fit_bool h0; obtain rfl := fit_nil h1; rfl, fun _ => rfl, rfl, fun h k hi hk n => by cases hi⟩
theorem good111 : CodGood ctx 111 ent111.c := ⟨fun _ => rfl, fun cs h0 => by obtain ⟨n0, ls0, rfl, h1⟩ := fit_str h0; obtain ⟨n1, ls1, rfl, h2⟩ := fit_int h1; obtain ⟨n2, ls2, rfl, h3⟩ := fit_bool h2; obtain rfl := fit_nil h3; rfl, fun _ => rfl, rfl, fun h k hi hk n => by cases hi⟩
theorem good119 : CodGood ctx 119 ent119.c := ⟨fun _ => rfl, fun cs h0 => by obtain ⟨n0, ls0, rfl, h1⟩ := fit_int h0; obtain rfl := fit_nil h1; rfl, fun _ => rfl, rfl, fun h k hi hk n => by cases hk; rfl⟩
theorem good122 : CodGood ctx 122 ent122.c := ⟨fun _ => rfl, fun cs h0 => by obtain ⟨n0, ls0, rfl, h1⟩ := fit_sl h0; obtain rfl := fit_nil h1; rfl, fun _ => rfl, rfl, fun h k hi hk n => by cases hi⟩
theorem good130 : CodGood ctx 130 ent130.c := ⟨fun _ => rfl, fun cs h0 => by obtain ⟨n0, ls0, rfl, h1⟩ := fit_int h0; obtain ⟨n1, ls1, rfl, h2⟩ := fit_bool h1; obtain rfl := fit_nil h2; rfl, fun _ => rfl, rfl, fun h k hi hk n => by cases hi⟩
theorem good132 : CodGood ctx 132 ent132.c := ⟨fun _ => rfl, fun cs h0 => by obtain ⟨n0, ls0, rfl, h1⟩ := fit_int h0; obtain ⟨n1, ls1, rfl, h2⟩ := fit_bool h1; obtain rfl := fit_nil h2; rfl, fun _ => rfl, rfl, fun h k hi hk n => by cases hi⟩
theorem good134 : CodGood ctx 134 ent134.c := ⟨fun _ => rfl, fun cs h0 => by obtain ⟨n0, ls0, rfl, h1⟩ := fit_int h0; obtain ⟨n1, ls1, rfl, h2⟩ := fit_int h1; obtain rfl := fit_nil h2; rfl, fun _ => rfl, rfl, fun h k hi hk n => by cases hi⟩
theorem good136 : CodGood ctx 136 ent136.c := ⟨fun _ => rfl, fun cs h0 => by obtain ⟨n0, ls0, rfl, h1⟩ := fit_int h0; obtain ⟨n1, ls1, rfl, h2⟩ := fit_int h1; obtain rfl := fit_nil h2; rfl, fun _ => rfl, rfl, fun h k hi hk n => by cases hi⟩
theorem good147 : CodGood ctx 147 ent147.c := ⟨fun _ => rfl, fun cs h0 => by obtain ⟨n0, ls0, rfl, h1⟩ := fit_int h0; obtain rfl := fit_nil h1; rfl, fun _ => rfl, rfl, fun h k hi hk n => by cases hk; rfl⟩
theorem good150 : CodGood ctx 150 ent150.c := ⟨fun _ => rfl, fun cs h0 => by obtain ⟨n0, ls0, rfl, h1⟩ := fit_bool h0; obtain rfl := fit_nil h1; rfl, fun _ => rfl, rfl, fun h k hi hk n => by cases hi⟩
theorem good152 : CodGood ctx 152 ent152.c := ⟨fun _ => rfl, fun cs h0 => by obtain ⟨n0, ls0, rfl, h1⟩ := fit_str h0; obtain ⟨n1, ls1, rfl, h2⟩ := fit_int h1; obtain ⟨n2, ls2, rfl, h3⟩ := fit_bool h2; obtain rfl := fit_nil h3; rfl, fun _ => rfl, rfl, fun h k hi hk n => by cases hi⟩
theorem good157 : CodGood ctx 157 ent157.c := ⟨fun _ => rfl, fun cs h0 => by obtain ⟨n0, ls0, rfl, h1⟩ := fit_str h0; obtain ⟨n1, ls1, rfl, h2⟩ := fit_str h1; obtain ⟨n2, ls2, rfl, h3⟩ := fit_int h2; obtain rfl := fit_nil h3; rfl, fun _ => rfl, rfl, fun h k hi hk n => by cases hi⟩
theorem good160 : CodGood ctx 160 ent160.c := codBools_good (C := ctx) (e := 160) (n := 8) (f := fun x => x) (g := fun x => x) (fun _ => rfl) (by kernel_rfl)
theorem good167 : CodGood ctx 167 ent167.c := ⟨fun _ => rfl, fun cs h0 => by obtain ⟨n0, ls0, rfl, h1⟩ := fit_str h0; obtain ⟨n1, ls1, rfl, h2⟩ := fit_str h1; obtain ⟨n2, ls2, rfl, h3⟩ := fit_int h2; obtain rfl := fit_nil h3; rfl, fun _ => rfl, rfl, fun h k hi hk n => by cases hi⟩
theorem good168 : CodGood ctx 168 ent168.c := ⟨fun _ => rfl, fun cs h0 => by obtain ⟨n0, ls0, rfl, h1⟩ := fit_str h0; obtain ⟨n1, ls1, rfl, h2⟩ := fit_str h1; obtain ⟨n2, ls2, rfl, h3⟩ := fit_int h2; obtain rfl := fit_nil h3; rfl, fun _ => rfl, rfl, fun h k hi hk n => by cases hi⟩
theorem good171 : CodGood ctx 171 ent171.c := ⟨fun _ => rfl, fun cs h0 => by obtain ⟨n0, ls0, rfl, h1⟩ := fit_bool h0; obtain rfl := fit_nil h1; rfl, fun _ => rfl, rfl, fun h k hi hk n => by cases hi⟩
theorem good178 : CodGood ctx 178 ent178.c := ⟨fun _ => rfl, fun cs h0 => by obtain ⟨n0, ls0, rfl, h1⟩ := fit_sl h0; obtain rfl := fit_nil h1; rfl, fun _ => rfl, rfl, fun h k hi hk n => by cases hi⟩
theorem good184 : CodGood ctx 184 ent184.c := ⟨fun _ => rfl, fun cs h0 => by obtain ⟨n0, ls0, rfl, h1⟩ := fit_sl h0; obtain rfl := fit_nil h1; rfl, fun _ => rfl, rfl, fun h k hi hk n => by cases hi⟩
theorem good187 : CodGood ctx 187 ent187.c := codBools_good (C := ctx) (e := 187) (n := 64) (f := fun x => x) (g := fun x => x) (fun _ => rfl) (by kernel_rfl)
theorem ctxOk : CtxOk ctx Tryd.prog := mkCtx_ok (by kernel_rfl) (fun x hx => by
  simp only [ents, List.mem_cons, List.not_mem_nil, or_false] at hx
  rcases hx with rfl | rfl | rfl | rfl | rfl | rfl | rfl | rfl | rfl | rfl | rfl | rfl | rfl | rfl | rfl | rfl | rfl | rfl | rfl | rfl | rfl | rfl | rfl | rfl | rfl | rfl | rfl | rfl | rfl | rfl | rfl | rfl | rfl | rfl | rfl | rfl | rfl | rfl | rfl | rfl | rfl | rfl | rfl | rfl
  · exact good3
  · exact good4
  · exact good5
  · exact good9
  · exact good22
  · exact good28
  · exact good30
  · exact good31
  · exact good35
  · exact good37
  · exact good42
  · exact good44
  · exact good45
  · exact good46
  · exact good48
  · exact good50
  · exact good52
  · exact good53
  · exact good54
  · exact good56
  · exact good65
  · exact good71
  · exact good73
  · exact good81
  · exact good83
  · exact good109
  · exact good111
  · exact good119
  · exact good122
  · exact good130
  · exact good132
  · exact good134
  · exact good136
  · exact good147
  · exact good150
  · exact good152
  · exact good157
  · exact good160
  · exact good167
  · exact good168
  · exact good171
  · exact good178
  · exact good184
  · exact good187)
def cv0 : Cv (List (U (ElOf els))) (Int × Int × Int) := (cIso (cCons (uOne (cInt .i64)) (cCons (uOne (cInt .i64)) (cCons (uOne (cInt .i64)) cNil))) (fun p => (p.1, p.2.1, p.2.2.1)) (fun s => (s.1, s.2.1, s.2.2, ())) (fun _ => rfl))
def cv1 : Cv (List (U (ElOf els))) Bool := (cIso (cCons (uOne cBool) cNil) (fun p => p.1) (fun s => (s, ())) (fun _ => rfl))
def cv2 : Cv (List (U (ElOf els))) Int := (cIso (cCons (uOne (cInt .i64)) cNil) (fun p => p.1) (fun s => (s, ())) (fun _ => rfl))
def cv3 : Cv (List (U (ElOf els))) ByteArray := (cIso (cCons (uOne cStr) cNil) (fun p => p.1) (fun s => (s, ())) (fun _ => rfl))
def cv4 : Cv (List (U (ElOf els))) (ByteArray × Int) := (cIso (cCons (uOne cStr) (cCons (uOne (cInt .i64)) cNil)) (fun p => (p.1, p.2.1)) (fun s => (s.1, s.2, ())) (fun _ => rfl))
def cv5 : Cv (List (U (ElOf els))) (Int × Int × Bool) := (cIso (cCons (uOne (cInt .i64)) (cCons (uOne (cInt .i64)) (cCons (uOne cBool) cNil))) (fun p => (p.1, p.2.1, p.2.2.1)) (fun s => (s.1, s.2.1, s.2.2, ())) (fun _ => rfl))
def cv6 : Cv (List (U (ElOf els))) (Int × ByteArray) := (cIso (cCons (uOne (cInt .u32)) (cCons (uOne cStr) cNil)) (fun p => (p.1, p.2.1)) (fun s => (s.1, s.2, ())) (fun _ => rfl))
def cv7 : Cv (List (U (ElOf els))) Int := (cIso (cCons (uOne (cInt .u32)) cNil) (fun p => p.1) (fun s => (s, ())) (fun _ => rfl))
def cv8 : Cv (List (U (ElOf els))) (ByteArray × Bool) := (cIso (cCons (uOne cStr) (cCons (uOne cBool) cNil)) (fun p => (p.1, p.2.1)) (fun s => (s.1, s.2, ())) (fun _ => rfl))
def cv9 : Cv (List (U (ElOf els))) ((List ByteArray) × Int) := (cIso (cCons (uOne (cFsl 9)) (cCons (uOne (cInt .i64)) cNil)) (fun p => (p.1, p.2.1)) (fun s => (s.1, s.2, ())) (fun _ => rfl))
def cv10 : Cv (List (U (ElOf els))) Unit := cNil
def cv11 : Cv (List (U (ElOf els))) (List Int) := (cIso (cCons (uOne (cFsl 119)) cNil) (fun p => p.1) (fun s => (s, ())) (fun _ => rfl))
def cv12 : Cv (List (U (ElOf els))) (List Int) := (cIso (cCons (uOne (cRsl 119)) cNil) (fun p => p.1) (fun s => (s, ())) (fun _ => rfl))
def cSHasher : Cv (List (L (ElOf els))) SHasher := cIso (cCons cStr (cCons cStr (cCons (cInt .i64) cNil))) (fun p => ⟨p.1, p.2.1, p.2.2.1⟩) (fun s => (s.fState, s.fRest, s.fCount, ())) (fun _ => rfl)
def cv13 : Cv (List (U (ElOf els))) SHasher := (cIso (cCons (uAgg cSHasher) cNil) (fun p => p.1) (fun s => (s, ())) (fun _ => rfl))
def cv14 : Cv (List (U (ElOf els))) (Int × Int × Int) := (cIso (cCons (uOne (cInt .u32)) (cCons (uOne (cInt .u32)) (cCons (uOne (cInt .u32)) cNil))) (fun p => (p.1, p.2.1, p.2.2.1)) (fun s => (s.1, s.2.1, s.2.2, ())) (fun _ => rfl))
def cv15 : Cv (List (U (ElOf els))) (Int × Int × Int × Int × Bool) := (cIso (cCons (uOne (cInt .u32)) (cCons (uOne (cInt .u32)) (cCons (uOne (cInt .u32)) (cCons (uOne (cInt .u32)) (cCons (uOne cBool) cNil))))) (fun p => (p.1, p.2.1, p.2.2.1, p.2.2.2.1, p.2.2.2.2.1)) (fun s => (s.1, s.2.1, s.2.2.1, s.2.2.2.1, s.2.2.2.2, ())) (fun _ => rfl))
def cv16 : Cv (List (U (ElOf els))) ((List Int) × (List Int) × ByteArray) := (cIso (cCons (uOne (cRsl 119)) (cCons (uOne (cRsl 119)) (cCons (uOne cStr) cNil))) (fun p => (p.1, p.2.1, p.2.2.1)) (fun s => (s.1, s.2.1, s.2.2, ())) (fun _ => rfl))
def cv17 : Cv (List (U (ElOf els))) (SHasher × ByteArray) := (cIso (cCons (uAgg cSHasher) (cCons (uOne cStr) cNil)) (fun p => (p.1, p.2.1)) (fun s => (s.1, s.2, ())) (fun _ => rfl))
def cv18 : Cv (List (U (ElOf els))) (ByteArray × Int) := (cIso (cCons (uOne cStr) (cCons (uOne (cInt .u8)) cNil)) (fun p => (p.1, p.2.1)) (fun s => (s.1, s.2, ())) (fun _ => rfl))
def cv19 : Cv (List (U (ElOf els))) (ByteArray × ByteArray) := (cIso (cCons (uOne cStr) (cCons (uOne cStr) cNil)) (fun p => (p.1, p.2.1)) (fun s => (s.1, s.2, ())) (fun _ => rfl))
def cv20 : Cv (List (U (ElOf els))) (ByteArray × Int × Int) := (cIso (cCons (uOne cStr) (cCons (uOne (cInt .i64)) (cCons (uOne (cInt .i64)) cNil))) (fun p => (p.1, p.2.1, p.2.2.1)) (fun s => (s.1, s.2.1, s.2.2, ())) (fun _ => rfl))
def cv21 : Cv (List (U (ElOf els))) (ByteArray × Int × ByteArray) := (cIso (cCons (uOne cStr) (cCons (uOne (cInt .i64)) (cCons (uOne cStr) cNil))) (fun p => (p.1, p.2.1, p.2.2.1)) (fun s => (s.1, s.2.1, s.2.2, ())) (fun _ => rfl))
def cSL19Cur : Cv (List (L (ElOf els))) SL19Cur := cIso (cCons cStr (cCons (cInt .i64) (cCons cBool cNil))) (fun p => ⟨p.1, p.2.1, p.2.2.1⟩) (fun s => (s.fText, s.fAt, s.fBad, ())) (fun _ => rfl)
def cv22 : Cv (List (U (ElOf els))) (SL19Cur × Int) := (cIso (cCons (uAgg cSL19Cur) (cCons (uOne (cInt .i64)) cNil)) (fun p => (p.1, p.2.1)) (fun s => (s.1, s.2, ())) (fun _ => rfl))
def cv23 : Cv (List (U (ElOf els))) (ByteArray × SL19Cur) := (cIso (cCons (uOne cStr) (cCons (uAgg cSL19Cur) cNil)) (fun p => (p.1, p.2.1)) (fun s => (s.1, s.2, ())) (fun _ => rfl))
def cv24 : Cv (List (U (ElOf els))) SL19Cur := (cIso (cCons (uAgg cSL19Cur) cNil) (fun p => p.1) (fun s => (s, ())) (fun _ => rfl))
def cv25 : Cv (List (U (ElOf els))) (Int × SL19Cur) := (cIso (cCons (uOne (cInt .i64)) (cCons (uAgg cSL19Cur) cNil)) (fun p => (p.1, p.2.1)) (fun s => (s.1, s.2, ())) (fun _ => rfl))
def cSThing : Cv (List (L (ElOf els))) SThing := cIso (cCons (cInt .i64) (cCons (cInt .i64) (cCons cBool (cCons cBool (cCons cBool (cCons cBool (cCons cStr (cCons (cInt .i64) cNil)))))))) (fun p => ⟨p.1, p.2.1, p.2.2.1, p.2.2.2.1, p.2.2.2.2.1, p.2.2.2.2.2.1, p.2.2.2.2.2.2.1, p.2.2.2.2.2.2.2.1⟩) (fun s => (s.fId, s.fKind, s.fHidden, s.fFixed, s.fSigns, s.fWraps, s.fValue, s.fNext, ())) (fun _ => rfl)
def cv26 : Cv (List (U (ElOf els))) SThing := (cIso (cCons (uAgg cSThing) cNil) (fun p => p.1) (fun s => (s, ())) (fun _ => rfl))
def cv27 : Cv (List (U (ElOf els))) (Bool × Int) := (cIso (cCons (uOne cBool) (cCons (uOne (cInt .i64)) cNil)) (fun p => (p.1, p.2.1)) (fun s => (s.1, s.2, ())) (fun _ => rfl))
def cv28 : Cv (List (U (ElOf els))) (SThing × Bool) := (cIso (cCons (uAgg cSThing) (cCons (uOne cBool) cNil)) (fun p => (p.1, p.2.1)) (fun s => (s.1, s.2, ())) (fun _ => rfl))
def cSRec : Cv (List (L (ElOf els))) SRec := cIso (cCons (cInt .i64) (cCons cStr (cCons (cInt .i64) (cCons (cInt .i64) (cCons (cInt .i64) (cCons cBool (cCons cBool (cCons cBool (cCons cBool (cCons cStr (cCons (cInt .i64) cNil))))))))))) (fun p => ⟨p.1, p.2.1, p.2.2.1, ⟨p.2.2.2.1, p.2.2.2.2.1, p.2.2.2.2.2.1, p.2.2.2.2.2.2.1, p.2.2.2.2.2.2.2.1, p.2.2.2.2.2.2.2.2.1, p.2.2.2.2.2.2.2.2.2.1, p.2.2.2.2.2.2.2.2.2.2.1⟩⟩) (fun s => (s.fKind, s.fText, s.fNum, s.fThing.fId, s.fThing.fKind, s.fThing.fHidden, s.fThing.fFixed, s.fThing.fSigns, s.fThing.fWraps, s.fThing.fValue, s.fThing.fNext, ())) (fun _ => rfl)
def cv29 : Cv (List (U (ElOf els))) SRec := (cIso (cCons (uAgg cSRec) cNil) (fun p => p.1) (fun s => (s, ())) (fun _ => rfl))
def cv30 : Cv (List (U (ElOf els))) (SRec × Bool) := (cIso (cCons (uAgg cSRec) (cCons (uOne cBool) cNil)) (fun p => (p.1, p.2.1)) (fun s => (s.1, s.2, ())) (fun _ => rfl))
def cv31 : Cv (List (U (ElOf els))) ((List SRec) × Int) := (cIso (cCons (uOne (cFsl 73)) (cCons (uOne (cInt .i64)) cNil)) (fun p => (p.1, p.2.1)) (fun s => (s.1, s.2, ())) (fun _ => rfl))
def cv32 : Cv (List (U (ElOf els))) (List Int) := (cIso (cCons (uArr 119) cNil) (fun p => p.1) (fun s => (s, ())) (fun _ => rfl))
def cv33 : Cv (List (U (ElOf els))) (Int × Int) := (cIso (cCons (uOne (cInt .u32)) (cCons (uOne (cInt .i64)) cNil)) (fun p => (p.1, p.2.1)) (fun s => (s.1, s.2, ())) (fun _ => rfl))
def cv34 : Cv (List (U (ElOf els))) ((List Int) × ByteArray) := (cIso (cCons (uArr 119) (cCons (uOne cStr) cNil)) (fun p => (p.1, p.2.1)) (fun s => (s.1, s.2, ())) (fun _ => rfl))
def cSFields : Cv (List (L (ElOf els))) SFields := cIso (cCons cStr (cCons (cInt .i64) (cCons cBool cNil))) (fun p => ⟨p.1, p.2.1, p.2.2.1⟩) (fun s => (s.fText, s.fAt, s.fBad, ())) (fun _ => rfl)
def cv35 : Cv (List (U (ElOf els))) SFields := (cIso (cCons (uAgg cSFields) cNil) (fun p => p.1) (fun s => (s, ())) (fun _ => rfl))
def cv36 : Cv (List (U (ElOf els))) (Int × SFields) := (cIso (cCons (uOne (cInt .i64)) (cCons (uAgg cSFields) cNil)) (fun p => (p.1, p.2.1)) (fun s => (s.1, s.2, ())) (fun _ => rfl))
def cv37 : Cv (List (U (ElOf els))) (ByteArray × Int × Bool) := (cIso (cCons (uOne cStr) (cCons (uOne (cInt .i64)) (cCons (uOne cBool) cNil))) (fun p => (p.1, p.2.1, p.2.2.1)) (fun s => (s.1, s.2.1, s.2.2, ())) (fun _ => rfl))
def cv38 : Cv (List (U (ElOf els))) (ByteArray × SFields) := (cIso (cCons (uOne cStr) (cCons (uAgg cSFields) cNil)) (fun p => (p.1, p.2.1)) (fun s => (s.1, s.2, ())) (fun _ => rfl))
def cv39 : Cv (List (U (ElOf els))) (SThing × SThing) := (cIso (cCons (uAgg cSThing) (cCons (uAgg cSThing) cNil)) (fun p => (p.1, p.2.1)) (fun s => (s.1, s.2, ())) (fun _ => rfl))
def cv40 : Cv (List (U (ElOf els))) (SRec × SRec) := (cIso (cCons (uAgg cSRec) (cCons (uAgg cSRec) cNil)) (fun p => (p.1, p.2.1)) (fun s => (s.1, s.2, ())) (fun _ => rfl))
def cv41 : Cv (List (U (ElOf els))) ((List SRec) × (List SRec)) := (cIso (cCons (uOne (cRsl 73)) (cCons (uOne (cRsl 73)) cNil)) (fun p => (p.1, p.2.1)) (fun s => (s.1, s.2, ())) (fun _ => rfl))
def cv42 : Cv (List (U (ElOf els))) (Int × (List SRec)) := (cIso (cCons (uOne (cInt .i64)) (cCons (uAgg (cIso (cCons (cFsl 73) cNil) (fun p => p.1) (fun s => (s, ())) (fun _ => rfl))) cNil)) (fun p => (p.1, p.2.1)) (fun s => (s.1, s.2, ())) (fun _ => rfl))
def cv43 : Cv (List (U (ElOf els))) ((List SRec) × Int) := (cIso (cCons (uOne (cRsl 73)) (cCons (uOne (cInt .i64)) cNil)) (fun p => (p.1, p.2.1)) (fun s => (s.1, s.2, ())) (fun _ => rfl))
def cv44 : Cv (List (U (ElOf els))) (SThing × Int) := (cIso (cCons (uAgg cSThing) (cCons (uOne (cInt .i64)) cNil)) (fun p => (p.1, p.2.1)) (fun s => (s.1, s.2, ())) (fun _ => rfl))
def cv45 : Cv (List (U (ElOf els))) ((List SThing) × Int) := (cIso (cCons (uOne (cRsl 81)) (cCons (uOne (cInt .i64)) cNil)) (fun p => (p.1, p.2.1)) (fun s => (s.1, s.2, ())) (fun _ => rfl))
def cSBook30 : Cv (List (L (ElOf els))) SBook := cIso (cCons cStr (cCons (cInt .i64) (cCons (cRsl 81) (cCons (cInt .i64) (cCons cStr (cCons (cInt .i64) cNil)))))) (fun p => ⟨p.1, p.2.1, p.2.2.1, p.2.2.2.1, p.2.2.2.2.1, p.2.2.2.2.2.1⟩) (fun s => (s.fWord, s.fTries, s.fThings, s.fLast, s.fChain, s.fCount, ())) (fun _ => rfl)
def cv46 : Cv (List (U (ElOf els))) (SBook × Int) := (cIso (cCons (uAgg cSBook30) (cCons (uOne (cInt .i64)) cNil)) (fun p => (p.1, p.2.1)) (fun s => (s.1, s.2, ())) (fun _ => rfl))
def cv47 : Cv (List (U (ElOf els))) (SRec × Int) := (cIso (cCons (uAgg cSRec) (cCons (uOne (cInt .i64)) cNil)) (fun p => (p.1, p.2.1)) (fun s => (s.1, s.2, ())) (fun _ => rfl))
def cv48 : Cv (List (U (ElOf els))) ((List SRec) × Int) := (cIso (cCons (uOne (cRsl 83)) (cCons (uOne (cInt .i64)) cNil)) (fun p => (p.1, p.2.1)) (fun s => (s.1, s.2, ())) (fun _ => rfl))
def cv49 : Cv (List (U (ElOf els))) (List SThing) := (cIso (cCons (uOne (cRsl 81)) cNil) (fun p => p.1) (fun s => (s, ())) (fun _ => rfl))
def cv50 : Cv (List (U (ElOf els))) (List SThing) := (cIso (cCons (uOne (cFsl 71)) cNil) (fun p => p.1) (fun s => (s, ())) (fun _ => rfl))
def cSBookF37 : Cv (List (L (ElOf els))) SBook := cIso (cCons cStr (cCons (cInt .i64) (cCons (cFsl 71) (cCons (cInt .i64) (cCons cStr (cCons (cInt .i64) cNil)))))) (fun p => ⟨p.1, p.2.1, p.2.2.1, p.2.2.2.1, p.2.2.2.2.1, p.2.2.2.2.2.1⟩) (fun s => (s.fWord, s.fTries, s.fThings, s.fLast, s.fChain, s.fCount, ())) (fun _ => rfl)
def cv51 : Cv (List (U (ElOf els))) SBook := (cIso (cCons (uAgg cSBook30) cNil) (fun p => p.1) (fun s => (s, ())) (fun _ => rfl))
def cv52 : Cv (List (U (ElOf els))) SBook := (cIso (cCons (uAgg cSBookF37) cNil) (fun p => p.1) (fun s => (s, ())) (fun _ => rfl))
def cv53 : Cv (List (U (ElOf els))) (List SRec) := (cIso (cCons (uOne (cRsl 83)) cNil) (fun p => p.1) (fun s => (s, ())) (fun _ => rfl))
def cv54 : Cv (List (U (ElOf els))) (List SRec) := (cIso (cCons (uOne (cFsl 73)) cNil) (fun p => p.1) (fun s => (s, ())) (fun _ => rfl))
def cv55 : Cv (List (U (ElOf els))) (Int × Int) := (cIso (cCons (uOne (cInt .i64)) (cCons (uOne (cInt .u8)) cNil)) (fun p => (p.1, p.2.1)) (fun s => (s.1, s.2, ())) (fun _ => rfl))
def cSBook37 : Cv (List (L (ElOf els))) SBook := cIso (cCons cStr (cCons (cInt .i64) (cCons (cRsl 71) (cCons (cInt .i64) (cCons cStr (cCons (cInt .i64) cNil)))))) (fun p => ⟨p.1, p.2.1, p.2.2.1, p.2.2.2.1, p.2.2.2.2.1, p.2.2.2.2.2.1⟩) (fun s => (s.fWord, s.fTries, s.fThings, s.fLast, s.fChain, s.fCount, ())) (fun _ => rfl)
def cv56 : Cv (List (U (ElOf els))) SBook := (cIso (cCons (uAgg cSBook37) cNil) (fun p => p.1) (fun s => (s, ())) (fun _ => rfl))
def cv57 : Cv (List (U (ElOf els))) (SBook × Int) := (cIso (cCons (uAgg cSBook37) (cCons (uOne (cInt .i64)) cNil)) (fun p => (p.1, p.2.1)) (fun s => (s.1, s.2, ())) (fun _ => rfl))
def cv58 : Cv (List (U (ElOf els))) ((List SThing) × SThing) := (cIso (cCons (uOne (cRsl 71)) (cCons (uAgg cSThing) cNil)) (fun p => (p.1, p.2.1)) (fun s => (s.1, s.2, ())) (fun _ => rfl))
def cv59 : Cv (List (U (ElOf els))) (SBook × SRec) := (cIso (cCons (uAgg cSBook37) (cCons (uAgg cSRec) cNil)) (fun p => (p.1, p.2.1)) (fun s => (s.1, s.2, ())) (fun _ => rfl))
def cv60 : Cv (List (U (ElOf els))) (SBook × Bool) := (cIso (cCons (uAgg cSBookF37) (cCons (uOne cBool) cNil)) (fun p => (p.1, p.2.1)) (fun s => (s.1, s.2, ())) (fun _ => rfl))
def cv61 : Cv (List (U (ElOf els))) (SBook × (List SRec)) := (cIso (cCons (uAgg cSBook37) (cCons (uOne (cRsl 73)) cNil)) (fun p => (p.1, p.2.1)) (fun s => (s.1, s.2, ())) (fun _ => rfl))
def cv62 : Cv (List (U (ElOf els))) (SBook × SThing) := (cIso (cCons (uAgg cSBookF37) (cCons (uAgg cSThing) cNil)) (fun p => (p.1, p.2.1)) (fun s => (s.1, s.2, ())) (fun _ => rfl))
def cv63 : Cv (List (U (ElOf els))) (Bool × SBook) := (cIso (cCons (uOne cBool) (cCons (uAgg cSBookF37) cNil)) (fun p => (p.1, p.2.1)) (fun s => (s.1, s.2, ())) (fun _ => rfl))
def cv64 : Cv (List (U (ElOf els))) ((List SThing) × (List SThing)) := (cIso (cCons (uOne (cRsl 71)) (cCons (uOne (cRsl 71)) cNil)) (fun p => (p.1, p.2.1)) (fun s => (s.1, s.2, ())) (fun _ => rfl))
def cv65 : Cv (List (U (ElOf els))) (SBook × SBook) := (cIso (cCons (uAgg cSBook37) (cCons (uAgg cSBook37) cNil)) (fun p => (p.1, p.2.1)) (fun s => (s.1, s.2, ())) (fun _ => rfl))
def cv66 : Cv (List (U (ElOf els))) (SBook × (List SRec)) := (cIso (cCons (uAgg cSBook30) (cCons (uOne (cRsl 83)) cNil)) (fun p => (p.1, p.2.1)) (fun s => (s.1, s.2, ())) (fun _ => rfl))
def cSFile : Cv (List (L (ElOf els))) SFile := cIso (cCons cStr (cCons cStr (cCons (cInt .i64) cNil))) (fun p => ⟨p.1, p.2.1, p.2.2.1⟩) (fun s => (s.fName, s.fText, s.fKept, ())) (fun _ => rfl)
def cv67 : Cv (List (U (ElOf els))) (SFile × Int) := (cIso (cCons (uAgg cSFile) (cCons (uOne (cInt .i64)) cNil)) (fun p => (p.1, p.2.1)) (fun s => (s.1, s.2, ())) (fun _ => rfl))
def cv68 : Cv (List (U (ElOf els))) ((List SFile) × Int) := (cIso (cCons (uOne (cRsl 167)) (cCons (uOne (cInt .i64)) cNil)) (fun p => (p.1, p.2.1)) (fun s => (s.1, s.2, ())) (fun _ => rfl))
def cSDisk44 : Cv (List (L (ElOf els))) SDisk := cIso (cCons (cRsl 167) cNil) (fun p => ⟨p.1⟩) (fun s => (s.fFiles, ())) (fun _ => rfl)
def cv69 : Cv (List (U (ElOf els))) (SDisk × Int) := (cIso (cCons (uAgg cSDisk44) (cCons (uOne (cInt .i64)) cNil)) (fun p => (p.1, p.2.1)) (fun s => (s.1, s.2, ())) (fun _ => rfl))
def cv70 : Cv (List (U (ElOf els))) ((List SSession) × Int) := (cIso (cCons (uOne (cRsl 132)) (cCons (uOne (cInt .i64)) cNil)) (fun p => (p.1, p.2.1)) (fun s => (s.1, s.2, ())) (fun _ => rfl))
def cv71 : Cv (List (U (ElOf els))) ((List SLive) × Int) := (cIso (cCons (uOne (cRsl 136)) (cCons (uOne (cInt .i64)) cNil)) (fun p => (p.1, p.2.1)) (fun s => (s.1, s.2, ())) (fun _ => rfl))
def cSBox48 : Cv (List (L (ElOf els))) SBox := cIso (cCons cStr (cCons cBool (cCons (cRsl 167) (cCons cStr (cCons (cInt .i64) (cCons (cRsl 81) (cCons (cInt .i64) (cCons cStr (cCons (cInt .i64) (cCons (cRsl 132) (cCons (cRsl 136) (cCons (cInt .i64) cNil)))))))))))) (fun p => ⟨p.1, p.2.1, ⟨p.2.2.1⟩, ⟨p.2.2.2.1, p.2.2.2.2.1, p.2.2.2.2.2.1, p.2.2.2.2.2.2.1, p.2.2.2.2.2.2.2.1, p.2.2.2.2.2.2.2.2.1⟩, p.2.2.2.2.2.2.2.2.2.1, p.2.2.2.2.2.2.2.2.2.2.1, p.2.2.2.2.2.2.2.2.2.2.2.1⟩) (fun s => (s.fKey, s.fUp, s.fDisk.fFiles, s.fBook.fWord, s.fBook.fTries, s.fBook.fThings, s.fBook.fLast, s.fBook.fChain, s.fBook.fCount, s.fSessions, s.fLives, s.fOpened, ())) (fun _ => rfl)
def cv72 : Cv (List (U (ElOf els))) (SBox × Int) := (cIso (cCons (uAgg cSBox48) (cCons (uOne (cInt .i64)) cNil)) (fun p => (p.1, p.2.1)) (fun s => (s.1, s.2, ())) (fun _ => rfl))
def cv73 : Cv (List (U (ElOf els))) SFile := (cIso (cCons (uAgg cSFile) cNil) (fun p => p.1) (fun s => (s, ())) (fun _ => rfl))
def cv74 : Cv (List (U (ElOf els))) (List SFile) := (cIso (cCons (uOne (cRsl 167)) cNil) (fun p => p.1) (fun s => (s, ())) (fun _ => rfl))
def cv75 : Cv (List (U (ElOf els))) (List SFile) := (cIso (cCons (uOne (cFsl 168)) cNil) (fun p => p.1) (fun s => (s, ())) (fun _ => rfl))
def cSDiskF52 : Cv (List (L (ElOf els))) SDisk := cIso (cCons (cFsl 168) cNil) (fun p => ⟨p.1⟩) (fun s => (s.fFiles, ())) (fun _ => rfl)
def cv76 : Cv (List (U (ElOf els))) SDisk := (cIso (cCons (uAgg cSDisk44) cNil) (fun p => p.1) (fun s => (s, ())) (fun _ => rfl))
def cv77 : Cv (List (U (ElOf els))) SDisk := (cIso (cCons (uAgg cSDiskF52) cNil) (fun p => p.1) (fun s => (s, ())) (fun _ => rfl))
def cSSession : Cv (List (L (ElOf els))) SSession := cIso (cCons (cInt .i64) (cCons cBool cNil)) (fun p => ⟨p.1, p.2.1⟩) (fun s => (s.fId, s.fIn, ())) (fun _ => rfl)
def cv78 : Cv (List (U (ElOf els))) SSession := (cIso (cCons (uAgg cSSession) cNil) (fun p => p.1) (fun s => (s, ())) (fun _ => rfl))
def cv79 : Cv (List (U (ElOf els))) (List SSession) := (cIso (cCons (uOne (cRsl 132)) cNil) (fun p => p.1) (fun s => (s, ())) (fun _ => rfl))
def cv80 : Cv (List (U (ElOf els))) (List SSession) := (cIso (cCons (uOne (cFsl 130)) cNil) (fun p => p.1) (fun s => (s, ())) (fun _ => rfl))
def cSLive : Cv (List (L (ElOf els))) SLive := cIso (cCons (cInt .i64) (cCons (cInt .i64) cNil)) (fun p => ⟨p.1, p.2.1⟩) (fun s => (s.fId, s.fNext, ())) (fun _ => rfl)
def cv81 : Cv (List (U (ElOf els))) SLive := (cIso (cCons (uAgg cSLive) cNil) (fun p => p.1) (fun s => (s, ())) (fun _ => rfl))
def cv82 : Cv (List (U (ElOf els))) (List SLive) := (cIso (cCons (uOne (cRsl 136)) cNil) (fun p => p.1) (fun s => (s, ())) (fun _ => rfl))
def cv83 : Cv (List (U (ElOf els))) (List SLive) := (cIso (cCons (uOne (cFsl 134)) cNil) (fun p => p.1) (fun s => (s, ())) (fun _ => rfl))
def cSBoxF56 : Cv (List (L (ElOf els))) SBox := cIso (cCons cStr (cCons cBool (cCons (cFsl 168) (cCons cStr (cCons (cInt .i64) (cCons (cFsl 71) (cCons (cInt .i64) (cCons cStr (cCons (cInt .i64) (cCons (cFsl 130) (cCons (cFsl 134) (cCons (cInt .i64) cNil)))))))))))) (fun p => ⟨p.1, p.2.1, ⟨p.2.2.1⟩, ⟨p.2.2.2.1, p.2.2.2.2.1, p.2.2.2.2.2.1, p.2.2.2.2.2.2.1, p.2.2.2.2.2.2.2.1, p.2.2.2.2.2.2.2.2.1⟩, p.2.2.2.2.2.2.2.2.2.1, p.2.2.2.2.2.2.2.2.2.2.1, p.2.2.2.2.2.2.2.2.2.2.2.1⟩) (fun s => (s.fKey, s.fUp, s.fDisk.fFiles, s.fBook.fWord, s.fBook.fTries, s.fBook.fThings, s.fBook.fLast, s.fBook.fChain, s.fBook.fCount, s.fSessions, s.fLives, s.fOpened, ())) (fun _ => rfl)
def cv84 : Cv (List (U (ElOf els))) SBox := (cIso (cCons (uAgg cSBox48) cNil) (fun p => p.1) (fun s => (s, ())) (fun _ => rfl))
def cv85 : Cv (List (U (ElOf els))) SBox := (cIso (cCons (uAgg cSBoxF56) cNil) (fun p => p.1) (fun s => (s, ())) (fun _ => rfl))
def cSBox56 : Cv (List (L (ElOf els))) SBox := cIso (cCons cStr (cCons cBool (cCons (cRsl 168) (cCons cStr (cCons (cInt .i64) (cCons (cRsl 71) (cCons (cInt .i64) (cCons cStr (cCons (cInt .i64) (cCons (cRsl 130) (cCons (cRsl 134) (cCons (cInt .i64) cNil)))))))))))) (fun p => ⟨p.1, p.2.1, ⟨p.2.2.1⟩, ⟨p.2.2.2.1, p.2.2.2.2.1, p.2.2.2.2.2.1, p.2.2.2.2.2.2.1, p.2.2.2.2.2.2.2.1, p.2.2.2.2.2.2.2.2.1⟩, p.2.2.2.2.2.2.2.2.2.1, p.2.2.2.2.2.2.2.2.2.2.1, p.2.2.2.2.2.2.2.2.2.2.2.1⟩) (fun s => (s.fKey, s.fUp, s.fDisk.fFiles, s.fBook.fWord, s.fBook.fTries, s.fBook.fThings, s.fBook.fLast, s.fBook.fChain, s.fBook.fCount, s.fSessions, s.fLives, s.fOpened, ())) (fun _ => rfl)
def cv86 : Cv (List (U (ElOf els))) SBox := (cIso (cCons (uAgg cSBox56) cNil) (fun p => p.1) (fun s => (s, ())) (fun _ => rfl))
def cSDisk52 : Cv (List (L (ElOf els))) SDisk := cIso (cCons (cRsl 168) cNil) (fun p => ⟨p.1⟩) (fun s => (s.fFiles, ())) (fun _ => rfl)
def cv87 : Cv (List (U (ElOf els))) SDisk := (cIso (cCons (uAgg cSDisk52) cNil) (fun p => p.1) (fun s => (s, ())) (fun _ => rfl))
def cv88 : Cv (List (U (ElOf els))) (SFile × SFile) := (cIso (cCons (uAgg cSFile) (cCons (uAgg cSFile) cNil)) (fun p => (p.1, p.2.1)) (fun s => (s.1, s.2, ())) (fun _ => rfl))
def cv89 : Cv (List (U (ElOf els))) ((List SFile) × (List SFile)) := (cIso (cCons (uOne (cRsl 168)) (cCons (uOne (cRsl 168)) cNil)) (fun p => (p.1, p.2.1)) (fun s => (s.1, s.2, ())) (fun _ => rfl))
def cv90 : Cv (List (U (ElOf els))) (SDisk × SDisk) := (cIso (cCons (uAgg cSDisk52) (cCons (uAgg cSDisk52) cNil)) (fun p => (p.1, p.2.1)) (fun s => (s.1, s.2, ())) (fun _ => rfl))
def cv91 : Cv (List (U (ElOf els))) (SSession × SSession) := (cIso (cCons (uAgg cSSession) (cCons (uAgg cSSession) cNil)) (fun p => (p.1, p.2.1)) (fun s => (s.1, s.2, ())) (fun _ => rfl))
def cv92 : Cv (List (U (ElOf els))) ((List SSession) × (List SSession)) := (cIso (cCons (uOne (cRsl 130)) (cCons (uOne (cRsl 130)) cNil)) (fun p => (p.1, p.2.1)) (fun s => (s.1, s.2, ())) (fun _ => rfl))
def cv93 : Cv (List (U (ElOf els))) (SLive × SLive) := (cIso (cCons (uAgg cSLive) (cCons (uAgg cSLive) cNil)) (fun p => (p.1, p.2.1)) (fun s => (s.1, s.2, ())) (fun _ => rfl))
def cv94 : Cv (List (U (ElOf els))) ((List SLive) × (List SLive)) := (cIso (cCons (uOne (cRsl 134)) (cCons (uOne (cRsl 134)) cNil)) (fun p => (p.1, p.2.1)) (fun s => (s.1, s.2, ())) (fun _ => rfl))
def cv95 : Cv (List (U (ElOf els))) (SBox × SBox) := (cIso (cCons (uAgg cSBox56) (cCons (uAgg cSBox56) cNil)) (fun p => (p.1, p.2.1)) (fun s => (s.1, s.2, ())) (fun _ => rfl))
def cv96 : Cv (List (U (ElOf els))) ((List SFile) × Int) := (cIso (cCons (uOne (cFsl 168)) (cCons (uOne (cInt .i64)) cNil)) (fun p => (p.1, p.2.1)) (fun s => (s.1, s.2, ())) (fun _ => rfl))
def cv97 : Cv (List (U (ElOf els))) (Int × (List SFile)) := (cIso (cCons (uOne (cInt .i64)) (cCons (uAgg (cIso (cCons (cFsl 168) cNil) (fun p => p.1) (fun s => (s, ())) (fun _ => rfl))) cNil)) (fun p => (p.1, p.2.1)) (fun s => (s.1, s.2, ())) (fun _ => rfl))
def cv98 : Cv (List (U (ElOf els))) (SDisk × Int) := (cIso (cCons (uAgg cSDiskF52) (cCons (uOne (cInt .i64)) cNil)) (fun p => (p.1, p.2.1)) (fun s => (s.1, s.2, ())) (fun _ => rfl))
def cv99 : Cv (List (U (ElOf els))) ((List SThing) × Int) := (cIso (cCons (uOne (cFsl 71)) (cCons (uOne (cInt .i64)) cNil)) (fun p => (p.1, p.2.1)) (fun s => (s.1, s.2, ())) (fun _ => rfl))
def cv100 : Cv (List (U (ElOf els))) (Int × (List SThing)) := (cIso (cCons (uOne (cInt .i64)) (cCons (uAgg (cIso (cCons (cFsl 71) cNil) (fun p => p.1) (fun s => (s, ())) (fun _ => rfl))) cNil)) (fun p => (p.1, p.2.1)) (fun s => (s.1, s.2, ())) (fun _ => rfl))
def cv101 : Cv (List (U (ElOf els))) (SBook × Int) := (cIso (cCons (uAgg cSBookF37) (cCons (uOne (cInt .i64)) cNil)) (fun p => (p.1, p.2.1)) (fun s => (s.1, s.2, ())) (fun _ => rfl))
def cv102 : Cv (List (U (ElOf els))) (Int × (List SThing)) := (cIso (cCons (uOne (cInt .i64)) (cCons (uAgg (cIso (cCons cJunk (cCons cJunk (cCons (cFsl 71) (cCons cJunk (cCons cJunk (cCons cJunk cNil)))))) (fun p => p.2.2.1) (fun s => ((), (), s, (), (), (), ())) (fun _ => rfl))) cNil)) (fun p => (p.1, p.2.1)) (fun s => (s.1, s.2, ())) (fun _ => rfl))
def cv103 : Cv (List (U (ElOf els))) ((List SSession) × Int) := (cIso (cCons (uOne (cFsl 130)) (cCons (uOne (cInt .i64)) cNil)) (fun p => (p.1, p.2.1)) (fun s => (s.1, s.2, ())) (fun _ => rfl))
def cv104 : Cv (List (U (ElOf els))) (Int × (List SSession)) := (cIso (cCons (uOne (cInt .i64)) (cCons (uAgg (cIso (cCons (cFsl 130) cNil) (fun p => p.1) (fun s => (s, ())) (fun _ => rfl))) cNil)) (fun p => (p.1, p.2.1)) (fun s => (s.1, s.2, ())) (fun _ => rfl))
def cv105 : Cv (List (U (ElOf els))) ((List SLive) × Int) := (cIso (cCons (uOne (cFsl 134)) (cCons (uOne (cInt .i64)) cNil)) (fun p => (p.1, p.2.1)) (fun s => (s.1, s.2, ())) (fun _ => rfl))
def cv106 : Cv (List (U (ElOf els))) (Int × (List SLive)) := (cIso (cCons (uOne (cInt .i64)) (cCons (uAgg (cIso (cCons (cFsl 134) cNil) (fun p => p.1) (fun s => (s, ())) (fun _ => rfl))) cNil)) (fun p => (p.1, p.2.1)) (fun s => (s.1, s.2, ())) (fun _ => rfl))
def cv107 : Cv (List (U (ElOf els))) (SBox × Int) := (cIso (cCons (uAgg cSBoxF56) (cCons (uOne (cInt .i64)) cNil)) (fun p => (p.1, p.2.1)) (fun s => (s.1, s.2, ())) (fun _ => rfl))
def cv108 : Cv (List (U (ElOf els))) (Int × ((List SFile) × (List SThing) × (List SSession) × (List SLive))) := (cIso (cCons (uOne (cInt .i64)) (cCons (uAgg (cIso (cCons cJunk (cCons cJunk (cCons (cFsl 168) (cCons cJunk (cCons cJunk (cCons (cFsl 71) (cCons cJunk (cCons cJunk (cCons cJunk (cCons (cFsl 130) (cCons (cFsl 134) (cCons cJunk cNil)))))))))))) (fun p => (p.2.2.1, p.2.2.2.2.2.1, p.2.2.2.2.2.2.2.2.2.1, p.2.2.2.2.2.2.2.2.2.2.1)) (fun s => ((), (), s.1, (), (), s.2.1, (), (), (), s.2.2.1, s.2.2.2, (), ())) (fun _ => rfl))) cNil)) (fun p => (p.1, p.2.1)) (fun s => (s.1, s.2, ())) (fun _ => rfl))
def cv109 : Cv (List (U (ElOf els))) ((List SFile) × Int) := (cIso (cCons (uOne (cRsl 168)) (cCons (uOne (cInt .i64)) cNil)) (fun p => (p.1, p.2.1)) (fun s => (s.1, s.2, ())) (fun _ => rfl))
def cv110 : Cv (List (U (ElOf els))) (SDisk × Int) := (cIso (cCons (uAgg cSDisk52) (cCons (uOne (cInt .i64)) cNil)) (fun p => (p.1, p.2.1)) (fun s => (s.1, s.2, ())) (fun _ => rfl))
def cv111 : Cv (List (U (ElOf els))) ((List SThing) × Int) := (cIso (cCons (uOne (cRsl 71)) (cCons (uOne (cInt .i64)) cNil)) (fun p => (p.1, p.2.1)) (fun s => (s.1, s.2, ())) (fun _ => rfl))
def cv112 : Cv (List (U (ElOf els))) ((List SSession) × Int) := (cIso (cCons (uOne (cRsl 130)) (cCons (uOne (cInt .i64)) cNil)) (fun p => (p.1, p.2.1)) (fun s => (s.1, s.2, ())) (fun _ => rfl))
def cv113 : Cv (List (U (ElOf els))) ((List SLive) × Int) := (cIso (cCons (uOne (cRsl 134)) (cCons (uOne (cInt .i64)) cNil)) (fun p => (p.1, p.2.1)) (fun s => (s.1, s.2, ())) (fun _ => rfl))
def cv114 : Cv (List (U (ElOf els))) (SBox × Int) := (cIso (cCons (uAgg cSBox56) (cCons (uOne (cInt .i64)) cNil)) (fun p => (p.1, p.2.1)) (fun s => (s.1, s.2, ())) (fun _ => rfl))
end Go.Proofs.YthfpmhalgimbbaaDoor.G
