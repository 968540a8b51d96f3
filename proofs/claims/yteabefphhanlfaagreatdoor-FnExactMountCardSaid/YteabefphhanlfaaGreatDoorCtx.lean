/- The seat's tables: its types, what an element of each is, and what its functions do with what they are given. -/
import Derived.Test.YteabefphhanlfaaGreatDoorSnd38
import Derived.Test.YteabefphhanlfaaGreatDoorArr
import Derived.Test.YteabefphhanlfaaGreatDoorProg
import Derived.KernelRfl
namespace Go.Proofs.YteabefphhanlfaaGreatDoor.G
open Go Go.Ev
structure SFile where
  fName : ByteArray
  fText : ByteArray
  fKept : Int
structure SDisk where
  fFiles : (List SFile)
structure SThing where
  fId : Int
  fKind : Int
  fHidden : Bool
  fFixed : Bool
  fSigns : Bool
  fWraps : Bool
  fValue : ByteArray
  fNext : Int
structure SBook where
  fWord : ByteArray
  fTries : Int
  fThings : (List SThing)
  fLast : Int
  fChain : ByteArray
  fCount : Int
structure SSession where
  fId : Int
  fIn : Bool
structure SLive where
  fId : Int
  fNext : Int
structure SBox where
  fKey : ByteArray
  fUp : Bool
  fDisk : SDisk
  fBook : SBook
  fSessions : (List SSession)
  fLives : (List SLive)
  fOpened : Int
structure SGiven where
  fThing : Int
  fLeaf : Int
  fWhen : Int
structure SRec where
  fKind : Int
  fText : ByteArray
  fNum : Int
  fThing : SThing
structure SLife where
  fBox : SBox
  fCodes : (List Int)
  fReplies : (List ByteArray)
  fGives : (List SGiven)
  fDone : (List SRec)
structure SAct where
  fKind : Int
  fName : ByteArray
  fText : ByteArray
  fTo : ByteArray
structure SL19Cur where
  fText : ByteArray
  fAt : Int
  fBad : Bool
structure SHasher where
  fState : ByteArray
  fRest : ByteArray
  fCount : Int
structure SFields where
  fText : ByteArray
  fAt : Int
  fBad : Bool
def els : List (Nat × TyE) := [(3, ⟨Int, 0⟩), (4, ⟨Bool, false⟩), (5, ⟨Int, 0⟩), (9, ⟨ByteArray, ⟨#[]⟩⟩), (22, ⟨(List SFile), []⟩), (24, ⟨SDisk, ⟨[]⟩⟩), (26, ⟨(List SThing), []⟩), (28, ⟨SBook, ⟨⟨#[]⟩, 0, [], 0, ⟨#[]⟩, 0⟩⟩), (29, ⟨(List SAct), []⟩), (32, ⟨(List SFile), []⟩), (34, ⟨SDisk, ⟨[]⟩⟩), (43, ⟨(List SThing), []⟩), (45, ⟨SBook, ⟨⟨#[]⟩, 0, [], 0, ⟨#[]⟩, 0⟩⟩), (46, ⟨(List SSession), []⟩), (47, ⟨(List SLive), []⟩), (49, ⟨SBox, ⟨⟨#[]⟩, false, ⟨[]⟩, ⟨⟨#[]⟩, 0, [], 0, ⟨#[]⟩, 0⟩, [], [], 0⟩⟩), (52, ⟨(List SSession), []⟩), (53, ⟨(List SLive), []⟩), (55, ⟨SBox, ⟨⟨#[]⟩, false, ⟨[]⟩, ⟨⟨#[]⟩, 0, [], 0, ⟨#[]⟩, 0⟩, [], [], 0⟩⟩), (59, ⟨(List Int), []⟩), (60, ⟨(List ByteArray), []⟩), (61, ⟨(List SGiven), []⟩), (62, ⟨(List SRec), []⟩), (64, ⟨SLife, ⟨⟨⟨#[]⟩, false, ⟨[]⟩, ⟨⟨#[]⟩, 0, [], 0, ⟨#[]⟩, 0⟩, [], [], 0⟩, [], [], [], []⟩⟩), (67, ⟨(List SGiven), []⟩), (68, ⟨(List SRec), []⟩), (70, ⟨SLife, ⟨⟨⟨#[]⟩, false, ⟨[]⟩, ⟨⟨#[]⟩, 0, [], 0, ⟨#[]⟩, 0⟩, [], [], 0⟩, [], [], [], []⟩⟩), (88, ⟨SAct, ⟨0, ⟨#[]⟩, ⟨#[]⟩, ⟨#[]⟩⟩⟩), (101, ⟨SSession, ⟨0, false⟩⟩), (125, ⟨SGiven, ⟨0, 0, 0⟩⟩), (131, ⟨SFile, ⟨⟨#[]⟩, ⟨#[]⟩, 0⟩⟩), (132, ⟨SFile, ⟨⟨#[]⟩, ⟨#[]⟩, 0⟩⟩), (138, ⟨SThing, ⟨0, 0, false, false, false, false, ⟨#[]⟩, 0⟩⟩), (140, ⟨SRec, ⟨0, ⟨#[]⟩, 0, ⟨0, 0, false, false, false, false, ⟨#[]⟩, 0⟩⟩⟩), (151, ⟨(List Int), []⟩), (157, ⟨SLive, ⟨0, 0⟩⟩), (160, ⟨SSession, ⟨0, false⟩⟩), (162, ⟨SLive, ⟨0, 0⟩⟩), (166, ⟨SThing, ⟨0, 0, false, false, false, false, ⟨#[]⟩, 0⟩⟩), (168, ⟨SRec, ⟨0, ⟨#[]⟩, 0, ⟨0, 0, false, false, false, false, ⟨#[]⟩, 0⟩⟩⟩), (170, ⟨SGiven, ⟨0, 0, 0⟩⟩), (184, ⟨Bool, false⟩), (186, ⟨SL19Cur, ⟨⟨#[]⟩, 0, false⟩⟩), (192, ⟨Int, 0⟩), (197, ⟨SHasher, ⟨⟨#[]⟩, ⟨#[]⟩, 0⟩⟩), (200, ⟨Bools 8, boolsZ 8⟩), (213, ⟨Int, 0⟩), (216, ⟨(List Int), []⟩), (222, ⟨Bool, false⟩), (224, ⟨SFields, ⟨⟨#[]⟩, 0, false⟩⟩), (227, ⟨Bool, false⟩), (229, ⟨Bool, false⟩), (237, ⟨Bools 64, boolsZ 64⟩), (241, ⟨(List Bool), []⟩)]
def tis : List (Nat × TI) := [(3, ⟨1, 8, .int .i64⟩), (4, ⟨1, 1, .bool⟩), (5, ⟨1, 1, .int .u8⟩), (9, ⟨1, 16, .str⟩), (22, ⟨1, 24, .sl 131⟩), (24, ⟨1, 24, .st [(22, 0)]⟩), (26, ⟨1, 24, .sl 138⟩), (28, ⟨6, 80, .st [(9, 0), (3, 1), (26, 2), (3, 3), (9, 4), (3, 5)]⟩), (29, ⟨1, 24, .sl 88⟩), (32, ⟨1, 24, .sl 132⟩), (34, ⟨1, 24, .st [(32, 0)]⟩), (43, ⟨1, 24, .sl 166⟩), (45, ⟨6, 80, .st [(9, 0), (3, 1), (43, 2), (3, 3), (9, 4), (3, 5)]⟩), (46, ⟨1, 24, .sl 160⟩), (47, ⟨1, 24, .sl 162⟩), (49, ⟨12, 184, .st [(9, 0), (4, 1), (24, 2), (45, 3), (46, 9), (47, 10), (3, 11)]⟩), (52, ⟨1, 24, .sl 101⟩), (53, ⟨1, 24, .sl 157⟩), (55, ⟨12, 184, .st [(9, 0), (4, 1), (34, 2), (28, 3), (52, 9), (53, 10), (3, 11)]⟩), (59, ⟨1, 24, .sl 3⟩), (60, ⟨1, 24, .sl 9⟩), (61, ⟨1, 24, .sl 170⟩), (62, ⟨1, 24, .sl 168⟩), (64, ⟨16, 280, .st [(49, 0), (59, 12), (60, 13), (61, 14), (62, 15)]⟩), (67, ⟨1, 24, .sl 125⟩), (68, ⟨1, 24, .sl 140⟩), (70, ⟨16, 280, .st [(55, 0), (59, 12), (60, 13), (67, 14), (68, 15)]⟩), (88, ⟨4, 56, .st [(3, 0), (9, 1), (9, 2), (9, 3)]⟩), (101, ⟨2, 16, .st [(3, 0), (4, 1)]⟩), (125, ⟨3, 24, .st [(3, 0), (3, 1), (3, 2)]⟩), (131, ⟨3, 40, .st [(9, 0), (9, 1), (3, 2)]⟩), (132, ⟨3, 40, .st [(9, 0), (9, 1), (3, 2)]⟩), (138, ⟨8, 48, .st [(3, 0), (3, 1), (4, 2), (4, 3), (4, 4), (4, 5), (9, 6), (3, 7)]⟩), (140, ⟨11, 80, .st [(3, 0), (9, 1), (3, 2), (138, 3)]⟩), (151, ⟨1, 24, .sl 5⟩), (157, ⟨2, 16, .st [(3, 0), (3, 1)]⟩), (160, ⟨2, 16, .st [(3, 0), (4, 1)]⟩), (162, ⟨2, 16, .st [(3, 0), (3, 1)]⟩), (166, ⟨8, 48, .st [(3, 0), (3, 1), (4, 2), (4, 3), (4, 4), (4, 5), (9, 6), (3, 7)]⟩), (168, ⟨11, 80, .st [(3, 0), (9, 1), (3, 2), (166, 3)]⟩), (170, ⟨3, 24, .st [(3, 0), (3, 1), (3, 2)]⟩), (184, ⟨1, 8, .ptr 186⟩), (186, ⟨3, 32, .st [(9, 0), (3, 1), (4, 2)]⟩), (192, ⟨1, 4, .int .u32⟩), (197, ⟨3, 40, .st [(9, 0), (9, 1), (3, 2)]⟩), (200, ⟨8, 32, .arr 8 192⟩), (213, ⟨1, 8, .int .u64⟩), (216, ⟨1, 24, .sl 192⟩), (222, ⟨1, 8, .ptr 224⟩), (224, ⟨3, 32, .st [(9, 0), (3, 1), (4, 2)]⟩), (227, ⟨1, 8, .ptr 28⟩), (229, ⟨1, 8, .ptr 34⟩), (237, ⟨64, 256, .arr 64 192⟩), (241, ⟨1, 24, .sl 4⟩)]
def ent3 : Ent (ElOf els) := ⟨3, { sh := [.int .i64], enc := fun (x : Int) => [.int .i64 x], dec := fun cs => (cs.getD 0 .junk).toInt, z := (0 : Int), int? := some ⟨rfl⟩ }⟩
def ent4 : Ent (ElOf els) := ⟨4, { sh := [.bool], enc := fun (x : Bool) => [.bool x], dec := fun cs => (cs.getD 0 .junk).toBool, z := false, int? := none }⟩
def ent5 : Ent (ElOf els) := ⟨5, { sh := [.int .u8], enc := fun (x : Int) => [.int .u8 x], dec := fun cs => (cs.getD 0 .junk).toInt, z := (0 : Int), int? := some ⟨rfl⟩ }⟩
def ent9 : Ent (ElOf els) := ⟨9, { sh := [.str], enc := fun (x : ByteArray) => [.str x], dec := fun cs => (cs.getD 0 .junk).toStr, z := (⟨#[]⟩ : ByteArray), int? := none }⟩
def ent22 : Ent (ElOf els) := ⟨22, { sh := [.sl 131], enc := fun (x : (List SFile)) => [.rsl 131 x], dec := fun cs => (L.toSl 131 (cs.getD 0 .junk)), z := [], int? := none }⟩
def ent24 : Ent (ElOf els) := ⟨24, { sh := [.sl 131], enc := fun (x : SDisk) => [.rsl 131 x.fFiles], dec := fun cs => ⟨(L.toSl 131 (cs.getD 0 .junk))⟩, z := (⟨[]⟩ : SDisk), int? := none }⟩
def ent26 : Ent (ElOf els) := ⟨26, { sh := [.sl 138], enc := fun (x : (List SThing)) => [.rsl 138 x], dec := fun cs => (L.toSl 138 (cs.getD 0 .junk)), z := [], int? := none }⟩
def ent28 : Ent (ElOf els) := ⟨28, { sh := [.str, .int .i64, .sl 138, .int .i64, .str, .int .i64], enc := fun (x : SBook) => [.str x.fWord, .int .i64 x.fTries, .rsl 138 x.fThings, .int .i64 x.fLast, .str x.fChain, .int .i64 x.fCount], dec := fun cs => ⟨(cs.getD 0 .junk).toStr, (cs.getD 1 .junk).toInt, (L.toSl 138 (cs.getD 2 .junk)), (cs.getD 3 .junk).toInt, (cs.getD 4 .junk).toStr, (cs.getD 5 .junk).toInt⟩, z := (⟨⟨#[]⟩, 0, [], 0, ⟨#[]⟩, 0⟩ : SBook), int? := none }⟩
def ent29 : Ent (ElOf els) := ⟨29, { sh := [.sl 88], enc := fun (x : (List SAct)) => [.rsl 88 x], dec := fun cs => (L.toSl 88 (cs.getD 0 .junk)), z := [], int? := none }⟩
def ent32 : Ent (ElOf els) := ⟨32, { sh := [.sl 132], enc := fun (x : (List SFile)) => [.rsl 132 x], dec := fun cs => (L.toSl 132 (cs.getD 0 .junk)), z := [], int? := none }⟩
def ent34 : Ent (ElOf els) := ⟨34, { sh := [.sl 132], enc := fun (x : SDisk) => [.rsl 132 x.fFiles], dec := fun cs => ⟨(L.toSl 132 (cs.getD 0 .junk))⟩, z := (⟨[]⟩ : SDisk), int? := none }⟩
def ent43 : Ent (ElOf els) := ⟨43, { sh := [.sl 166], enc := fun (x : (List SThing)) => [.rsl 166 x], dec := fun cs => (L.toSl 166 (cs.getD 0 .junk)), z := [], int? := none }⟩
def ent45 : Ent (ElOf els) := ⟨45, { sh := [.str, .int .i64, .sl 166, .int .i64, .str, .int .i64], enc := fun (x : SBook) => [.str x.fWord, .int .i64 x.fTries, .rsl 166 x.fThings, .int .i64 x.fLast, .str x.fChain, .int .i64 x.fCount], dec := fun cs => ⟨(cs.getD 0 .junk).toStr, (cs.getD 1 .junk).toInt, (L.toSl 166 (cs.getD 2 .junk)), (cs.getD 3 .junk).toInt, (cs.getD 4 .junk).toStr, (cs.getD 5 .junk).toInt⟩, z := (⟨⟨#[]⟩, 0, [], 0, ⟨#[]⟩, 0⟩ : SBook), int? := none }⟩
def ent46 : Ent (ElOf els) := ⟨46, { sh := [.sl 160], enc := fun (x : (List SSession)) => [.rsl 160 x], dec := fun cs => (L.toSl 160 (cs.getD 0 .junk)), z := [], int? := none }⟩
def ent47 : Ent (ElOf els) := ⟨47, { sh := [.sl 162], enc := fun (x : (List SLive)) => [.rsl 162 x], dec := fun cs => (L.toSl 162 (cs.getD 0 .junk)), z := [], int? := none }⟩
def ent49 : Ent (ElOf els) := ⟨49, { sh := [.str, .bool, .sl 131, .str, .int .i64, .sl 166, .int .i64, .str, .int .i64, .sl 160, .sl 162, .int .i64], enc := fun (x : SBox) => [.str x.fKey, .bool x.fUp, .rsl 131 x.fDisk.fFiles, .str x.fBook.fWord, .int .i64 x.fBook.fTries, .rsl 166 x.fBook.fThings, .int .i64 x.fBook.fLast, .str x.fBook.fChain, .int .i64 x.fBook.fCount, .rsl 160 x.fSessions, .rsl 162 x.fLives, .int .i64 x.fOpened], dec := fun cs => ⟨(cs.getD 0 .junk).toStr, (cs.getD 1 .junk).toBool, ⟨(L.toSl 131 (cs.getD 2 .junk))⟩, ⟨(cs.getD 3 .junk).toStr, (cs.getD 4 .junk).toInt, (L.toSl 166 (cs.getD 5 .junk)), (cs.getD 6 .junk).toInt, (cs.getD 7 .junk).toStr, (cs.getD 8 .junk).toInt⟩, (L.toSl 160 (cs.getD 9 .junk)), (L.toSl 162 (cs.getD 10 .junk)), (cs.getD 11 .junk).toInt⟩, z := (⟨⟨#[]⟩, false, ⟨[]⟩, ⟨⟨#[]⟩, 0, [], 0, ⟨#[]⟩, 0⟩, [], [], 0⟩ : SBox), int? := none }⟩
def ent52 : Ent (ElOf els) := ⟨52, { sh := [.sl 101], enc := fun (x : (List SSession)) => [.rsl 101 x], dec := fun cs => (L.toSl 101 (cs.getD 0 .junk)), z := [], int? := none }⟩
def ent53 : Ent (ElOf els) := ⟨53, { sh := [.sl 157], enc := fun (x : (List SLive)) => [.rsl 157 x], dec := fun cs => (L.toSl 157 (cs.getD 0 .junk)), z := [], int? := none }⟩
def ent55 : Ent (ElOf els) := ⟨55, { sh := [.str, .bool, .sl 132, .str, .int .i64, .sl 138, .int .i64, .str, .int .i64, .sl 101, .sl 157, .int .i64], enc := fun (x : SBox) => [.str x.fKey, .bool x.fUp, .rsl 132 x.fDisk.fFiles, .str x.fBook.fWord, .int .i64 x.fBook.fTries, .rsl 138 x.fBook.fThings, .int .i64 x.fBook.fLast, .str x.fBook.fChain, .int .i64 x.fBook.fCount, .rsl 101 x.fSessions, .rsl 157 x.fLives, .int .i64 x.fOpened], dec := fun cs => ⟨(cs.getD 0 .junk).toStr, (cs.getD 1 .junk).toBool, ⟨(L.toSl 132 (cs.getD 2 .junk))⟩, ⟨(cs.getD 3 .junk).toStr, (cs.getD 4 .junk).toInt, (L.toSl 138 (cs.getD 5 .junk)), (cs.getD 6 .junk).toInt, (cs.getD 7 .junk).toStr, (cs.getD 8 .junk).toInt⟩, (L.toSl 101 (cs.getD 9 .junk)), (L.toSl 157 (cs.getD 10 .junk)), (cs.getD 11 .junk).toInt⟩, z := (⟨⟨#[]⟩, false, ⟨[]⟩, ⟨⟨#[]⟩, 0, [], 0, ⟨#[]⟩, 0⟩, [], [], 0⟩ : SBox), int? := none }⟩
def ent59 : Ent (ElOf els) := ⟨59, { sh := [.sl 3], enc := fun (x : (List Int)) => [.rsl 3 x], dec := fun cs => (L.toSl 3 (cs.getD 0 .junk)), z := [], int? := none }⟩
def ent60 : Ent (ElOf els) := ⟨60, { sh := [.sl 9], enc := fun (x : (List ByteArray)) => [.rsl 9 x], dec := fun cs => (L.toSl 9 (cs.getD 0 .junk)), z := [], int? := none }⟩
def ent61 : Ent (ElOf els) := ⟨61, { sh := [.sl 170], enc := fun (x : (List SGiven)) => [.rsl 170 x], dec := fun cs => (L.toSl 170 (cs.getD 0 .junk)), z := [], int? := none }⟩
def ent62 : Ent (ElOf els) := ⟨62, { sh := [.sl 168], enc := fun (x : (List SRec)) => [.rsl 168 x], dec := fun cs => (L.toSl 168 (cs.getD 0 .junk)), z := [], int? := none }⟩
def ent64 : Ent (ElOf els) := ⟨64, { sh := [.str, .bool, .sl 131, .str, .int .i64, .sl 166, .int .i64, .str, .int .i64, .sl 160, .sl 162, .int .i64, .sl 3, .sl 9, .sl 170, .sl 168], enc := fun (x : SLife) => [.str x.fBox.fKey, .bool x.fBox.fUp, .rsl 131 x.fBox.fDisk.fFiles, .str x.fBox.fBook.fWord, .int .i64 x.fBox.fBook.fTries, .rsl 166 x.fBox.fBook.fThings, .int .i64 x.fBox.fBook.fLast, .str x.fBox.fBook.fChain, .int .i64 x.fBox.fBook.fCount, .rsl 160 x.fBox.fSessions, .rsl 162 x.fBox.fLives, .int .i64 x.fBox.fOpened, .rsl 3 x.fCodes, .rsl 9 x.fReplies, .rsl 170 x.fGives, .rsl 168 x.fDone], dec := fun cs => ⟨⟨(cs.getD 0 .junk).toStr, (cs.getD 1 .junk).toBool, ⟨(L.toSl 131 (cs.getD 2 .junk))⟩, ⟨(cs.getD 3 .junk).toStr, (cs.getD 4 .junk).toInt, (L.toSl 166 (cs.getD 5 .junk)), (cs.getD 6 .junk).toInt, (cs.getD 7 .junk).toStr, (cs.getD 8 .junk).toInt⟩, (L.toSl 160 (cs.getD 9 .junk)), (L.toSl 162 (cs.getD 10 .junk)), (cs.getD 11 .junk).toInt⟩, (L.toSl 3 (cs.getD 12 .junk)), (L.toSl 9 (cs.getD 13 .junk)), (L.toSl 170 (cs.getD 14 .junk)), (L.toSl 168 (cs.getD 15 .junk))⟩, z := (⟨⟨⟨#[]⟩, false, ⟨[]⟩, ⟨⟨#[]⟩, 0, [], 0, ⟨#[]⟩, 0⟩, [], [], 0⟩, [], [], [], []⟩ : SLife), int? := none }⟩
def ent67 : Ent (ElOf els) := ⟨67, { sh := [.sl 125], enc := fun (x : (List SGiven)) => [.rsl 125 x], dec := fun cs => (L.toSl 125 (cs.getD 0 .junk)), z := [], int? := none }⟩
def ent68 : Ent (ElOf els) := ⟨68, { sh := [.sl 140], enc := fun (x : (List SRec)) => [.rsl 140 x], dec := fun cs => (L.toSl 140 (cs.getD 0 .junk)), z := [], int? := none }⟩
def ent70 : Ent (ElOf els) := ⟨70, { sh := [.str, .bool, .sl 132, .str, .int .i64, .sl 138, .int .i64, .str, .int .i64, .sl 101, .sl 157, .int .i64, .sl 3, .sl 9, .sl 125, .sl 140], enc := fun (x : SLife) => [.str x.fBox.fKey, .bool x.fBox.fUp, .rsl 132 x.fBox.fDisk.fFiles, .str x.fBox.fBook.fWord, .int .i64 x.fBox.fBook.fTries, .rsl 138 x.fBox.fBook.fThings, .int .i64 x.fBox.fBook.fLast, .str x.fBox.fBook.fChain, .int .i64 x.fBox.fBook.fCount, .rsl 101 x.fBox.fSessions, .rsl 157 x.fBox.fLives, .int .i64 x.fBox.fOpened, .rsl 3 x.fCodes, .rsl 9 x.fReplies, .rsl 125 x.fGives, .rsl 140 x.fDone], dec := fun cs => ⟨⟨(cs.getD 0 .junk).toStr, (cs.getD 1 .junk).toBool, ⟨(L.toSl 132 (cs.getD 2 .junk))⟩, ⟨(cs.getD 3 .junk).toStr, (cs.getD 4 .junk).toInt, (L.toSl 138 (cs.getD 5 .junk)), (cs.getD 6 .junk).toInt, (cs.getD 7 .junk).toStr, (cs.getD 8 .junk).toInt⟩, (L.toSl 101 (cs.getD 9 .junk)), (L.toSl 157 (cs.getD 10 .junk)), (cs.getD 11 .junk).toInt⟩, (L.toSl 3 (cs.getD 12 .junk)), (L.toSl 9 (cs.getD 13 .junk)), (L.toSl 125 (cs.getD 14 .junk)), (L.toSl 140 (cs.getD 15 .junk))⟩, z := (⟨⟨⟨#[]⟩, false, ⟨[]⟩, ⟨⟨#[]⟩, 0, [], 0, ⟨#[]⟩, 0⟩, [], [], 0⟩, [], [], [], []⟩ : SLife), int? := none }⟩
def ent88 : Ent (ElOf els) := ⟨88, { sh := [.int .i64, .str, .str, .str], enc := fun (x : SAct) => [.int .i64 x.fKind, .str x.fName, .str x.fText, .str x.fTo], dec := fun cs => ⟨(cs.getD 0 .junk).toInt, (cs.getD 1 .junk).toStr, (cs.getD 2 .junk).toStr, (cs.getD 3 .junk).toStr⟩, z := (⟨0, ⟨#[]⟩, ⟨#[]⟩, ⟨#[]⟩⟩ : SAct), int? := none }⟩
def ent101 : Ent (ElOf els) := ⟨101, { sh := [.int .i64, .bool], enc := fun (x : SSession) => [.int .i64 x.fId, .bool x.fIn], dec := fun cs => ⟨(cs.getD 0 .junk).toInt, (cs.getD 1 .junk).toBool⟩, z := (⟨0, false⟩ : SSession), int? := none }⟩
def ent125 : Ent (ElOf els) := ⟨125, { sh := [.int .i64, .int .i64, .int .i64], enc := fun (x : SGiven) => [.int .i64 x.fThing, .int .i64 x.fLeaf, .int .i64 x.fWhen], dec := fun cs => ⟨(cs.getD 0 .junk).toInt, (cs.getD 1 .junk).toInt, (cs.getD 2 .junk).toInt⟩, z := (⟨0, 0, 0⟩ : SGiven), int? := none }⟩
def ent131 : Ent (ElOf els) := ⟨131, { sh := [.str, .str, .int .i64], enc := fun (x : SFile) => [.str x.fName, .str x.fText, .int .i64 x.fKept], dec := fun cs => ⟨(cs.getD 0 .junk).toStr, (cs.getD 1 .junk).toStr, (cs.getD 2 .junk).toInt⟩, z := (⟨⟨#[]⟩, ⟨#[]⟩, 0⟩ : SFile), int? := none }⟩
def ent132 : Ent (ElOf els) := ⟨132, { sh := [.str, .str, .int .i64], enc := fun (x : SFile) => [.str x.fName, .str x.fText, .int .i64 x.fKept], dec := fun cs => ⟨(cs.getD 0 .junk).toStr, (cs.getD 1 .junk).toStr, (cs.getD 2 .junk).toInt⟩, z := (⟨⟨#[]⟩, ⟨#[]⟩, 0⟩ : SFile), int? := none }⟩
def ent138 : Ent (ElOf els) := ⟨138, { sh := [.int .i64, .int .i64, .bool, .bool, .bool, .bool, .str, .int .i64], enc := fun (x : SThing) => [.int .i64 x.fId, .int .i64 x.fKind, .bool x.fHidden, .bool x.fFixed, .bool x.fSigns, .bool x.fWraps, .str x.fValue, .int .i64 x.fNext], dec := fun cs => ⟨(cs.getD 0 .junk).toInt, (cs.getD 1 .junk).toInt, (cs.getD 2 .junk).toBool, (cs.getD 3 .junk).toBool, (cs.getD 4 .junk).toBool, (cs.getD 5 .junk).toBool, (cs.getD 6 .junk).toStr, (cs.getD 7 .junk).toInt⟩, z := (⟨0, 0, false, false, false, false, ⟨#[]⟩, 0⟩ : SThing), int? := none }⟩
def ent140 : Ent (ElOf els) := ⟨140, { sh := [.int .i64, .str, .int .i64, .int .i64, .int .i64, .bool, .bool, .bool, .bool, .str, .int .i64], enc := fun (x : SRec) => [.int .i64 x.fKind, .str x.fText, .int .i64 x.fNum, .int .i64 x.fThing.fId, .int .i64 x.fThing.fKind, .bool x.fThing.fHidden, .bool x.fThing.fFixed, .bool x.fThing.fSigns, .bool x.fThing.fWraps, .str x.fThing.fValue, .int .i64 x.fThing.fNext], dec := fun cs => ⟨(cs.getD 0 .junk).toInt, (cs.getD 1 .junk).toStr, (cs.getD 2 .junk).toInt, ⟨(cs.getD 3 .junk).toInt, (cs.getD 4 .junk).toInt, (cs.getD 5 .junk).toBool, (cs.getD 6 .junk).toBool, (cs.getD 7 .junk).toBool, (cs.getD 8 .junk).toBool, (cs.getD 9 .junk).toStr, (cs.getD 10 .junk).toInt⟩⟩, z := (⟨0, ⟨#[]⟩, 0, ⟨0, 0, false, false, false, false, ⟨#[]⟩, 0⟩⟩ : SRec), int? := none }⟩
def ent151 : Ent (ElOf els) := ⟨151, { sh := [.sl 5], enc := fun (x : (List Int)) => [.rsl 5 x], dec := fun cs => (L.toSl 5 (cs.getD 0 .junk)), z := [], int? := none }⟩
def ent157 : Ent (ElOf els) := ⟨157, { sh := [.int .i64, .int .i64], enc := fun (x : SLive) => [.int .i64 x.fId, .int .i64 x.fNext], dec := fun cs => ⟨(cs.getD 0 .junk).toInt, (cs.getD 1 .junk).toInt⟩, z := (⟨0, 0⟩ : SLive), int? := none }⟩
def ent160 : Ent (ElOf els) := ⟨160, { sh := [.int .i64, .bool], enc := fun (x : SSession) => [.int .i64 x.fId, .bool x.fIn], dec := fun cs => ⟨(cs.getD 0 .junk).toInt, (cs.getD 1 .junk).toBool⟩, z := (⟨0, false⟩ : SSession), int? := none }⟩
def ent162 : Ent (ElOf els) := ⟨162, { sh := [.int .i64, .int .i64], enc := fun (x : SLive) => [.int .i64 x.fId, .int .i64 x.fNext], dec := fun cs => ⟨(cs.getD 0 .junk).toInt, (cs.getD 1 .junk).toInt⟩, z := (⟨0, 0⟩ : SLive), int? := none }⟩
def ent166 : Ent (ElOf els) := ⟨166, { sh := [.int .i64, .int .i64, .bool, .bool, .bool, .bool, .str, .int .i64], enc := fun (x : SThing) => [.int .i64 x.fId, .int .i64 x.fKind, .bool x.fHidden, .bool x.fFixed, .bool x.fSigns, .bool x.fWraps, .str x.fValue, .int .i64 x.fNext], dec := fun cs => ⟨(cs.getD 0 .junk).toInt, (cs.getD 1 .junk).toInt, (cs.getD 2 .junk).toBool, (cs.getD 3 .junk).toBool, (cs.getD 4 .junk).toBool, (cs.getD 5 .junk).toBool, (cs.getD 6 .junk).toStr, (cs.getD 7 .junk).toInt⟩, z := (⟨0, 0, false, false, false, false, ⟨#[]⟩, 0⟩ : SThing), int? := none }⟩
def ent168 : Ent (ElOf els) := ⟨168, { sh := [.int .i64, .str, .int .i64, .int .i64, .int .i64, .bool, .bool, .bool, .bool, .str, .int .i64], enc := fun (x : SRec) => [.int .i64 x.fKind, .str x.fText, .int .i64 x.fNum, .int .i64 x.fThing.fId, .int .i64 x.fThing.fKind, .bool x.fThing.fHidden, .bool x.fThing.fFixed, .bool x.fThing.fSigns, .bool x.fThing.fWraps, .str x.fThing.fValue, .int .i64 x.fThing.fNext], dec := fun cs => ⟨(cs.getD 0 .junk).toInt, (cs.getD 1 .junk).toStr, (cs.getD 2 .junk).toInt, ⟨(cs.getD 3 .junk).toInt, (cs.getD 4 .junk).toInt, (cs.getD 5 .junk).toBool, (cs.getD 6 .junk).toBool, (cs.getD 7 .junk).toBool, (cs.getD 8 .junk).toBool, (cs.getD 9 .junk).toStr, (cs.getD 10 .junk).toInt⟩⟩, z := (⟨0, ⟨#[]⟩, 0, ⟨0, 0, false, false, false, false, ⟨#[]⟩, 0⟩⟩ : SRec), int? := none }⟩
def ent170 : Ent (ElOf els) := ⟨170, { sh := [.int .i64, .int .i64, .int .i64], enc := fun (x : SGiven) => [.int .i64 x.fThing, .int .i64 x.fLeaf, .int .i64 x.fWhen], dec := fun cs => ⟨(cs.getD 0 .junk).toInt, (cs.getD 1 .junk).toInt, (cs.getD 2 .junk).toInt⟩, z := (⟨0, 0, 0⟩ : SGiven), int? := none }⟩
def ent184 : Ent (ElOf els) := ⟨184, { sh := [.bool], enc := fun (x : Bool) => [.bool x], dec := fun cs => (cs.getD 0 .junk).toBool, z := false, int? := none }⟩
def ent186 : Ent (ElOf els) := ⟨186, { sh := [.str, .int .i64, .bool], enc := fun (x : SL19Cur) => [.str x.fText, .int .i64 x.fAt, .bool x.fBad], dec := fun cs => ⟨(cs.getD 0 .junk).toStr, (cs.getD 1 .junk).toInt, (cs.getD 2 .junk).toBool⟩, z := (⟨⟨#[]⟩, 0, false⟩ : SL19Cur), int? := none }⟩
def ent192 : Ent (ElOf els) := ⟨192, { sh := [.int .u32], enc := fun (x : Int) => [.int .u32 x], dec := fun cs => (cs.getD 0 .junk).toInt, z := (0 : Int), int? := some ⟨rfl⟩ }⟩
def ent197 : Ent (ElOf els) := ⟨197, { sh := [.str, .str, .int .i64], enc := fun (x : SHasher) => [.str x.fState, .str x.fRest, .int .i64 x.fCount], dec := fun cs => ⟨(cs.getD 0 .junk).toStr, (cs.getD 1 .junk).toStr, (cs.getD 2 .junk).toInt⟩, z := (⟨⟨#[]⟩, ⟨#[]⟩, 0⟩ : SHasher), int? := none }⟩
def ent200 : Ent (ElOf els) := ⟨200, codBools 8 (fun x => x) (fun x => x)⟩
def ent213 : Ent (ElOf els) := ⟨213, { sh := [.int .u64], enc := fun (x : Int) => [.int .u64 x], dec := fun cs => (cs.getD 0 .junk).toInt, z := (0 : Int), int? := some ⟨rfl⟩ }⟩
def ent216 : Ent (ElOf els) := ⟨216, { sh := [.sl 192], enc := fun (x : (List Int)) => [.rsl 192 x], dec := fun cs => (L.toSl 192 (cs.getD 0 .junk)), z := [], int? := none }⟩
def ent222 : Ent (ElOf els) := ⟨222, { sh := [.bool], enc := fun (x : Bool) => [.bool x], dec := fun cs => (cs.getD 0 .junk).toBool, z := false, int? := none }⟩
def ent224 : Ent (ElOf els) := ⟨224, { sh := [.str, .int .i64, .bool], enc := fun (x : SFields) => [.str x.fText, .int .i64 x.fAt, .bool x.fBad], dec := fun cs => ⟨(cs.getD 0 .junk).toStr, (cs.getD 1 .junk).toInt, (cs.getD 2 .junk).toBool⟩, z := (⟨⟨#[]⟩, 0, false⟩ : SFields), int? := none }⟩
def ent227 : Ent (ElOf els) := ⟨227, { sh := [.bool], enc := fun (x : Bool) => [.bool x], dec := fun cs => (cs.getD 0 .junk).toBool, z := false, int? := none }⟩
def ent229 : Ent (ElOf els) := ⟨229, { sh := [.bool], enc := fun (x : Bool) => [.bool x], dec := fun cs => (cs.getD 0 .junk).toBool, z := false, int? := none }⟩
def ent237 : Ent (ElOf els) := ⟨237, codBools 64 (fun x => x) (fun x => x)⟩
def ent241 : Ent (ElOf els) := ⟨241, { sh := [.sl 4], enc := fun (x : (List Bool)) => [.rsl 4 x], dec := fun cs => (L.toSl 4 (cs.getD 0 .junk)), z := [], int? := none }⟩
def ents : List (Ent (ElOf els)) := [ent3, ent4, ent5, ent9, ent22, ent24, ent26, ent28, ent29, ent32, ent34, ent43, ent45, ent46, ent47, ent49, ent52, ent53, ent55, ent59, ent60, ent61, ent62, ent64, ent67, ent68, ent70, ent88, ent101, ent125, ent131, ent132, ent138, ent140, ent151, ent157, ent160, ent162, ent166, ent168, ent170, ent184, ent186, ent192, ent197, ent200, ent213, ent216, ent222, ent224, ent227, ent229, ent237, ent241]
def modes : List (Nat × List Mode') := [(53, [.io, .rd]), (15, [.io, .rd]), (54, [.io, .rd]), (16, [.io, .rd]), (17, [.io, .rd]), (87, [.io, .rd]), (88, [.io, .rd]), (32, [.io, .rd])]
def cuts : List (Nat × List (Nat × (List Nat × List Nat × List (Nat × Nat) × List (Nat × Nat × Nat)))) := [(36, [(5, ([0, 1, 5], [], [(0, 131)], []))]),
  (43, [(3, ([0, 3, 4], [], [(0, 131), (3, 132)], []))]),
  (37, [(4, ([1, 3], [64], [], [(64, 0, 132)]))]),
  (42, [(2, ([1, 2, 5], [128], [], [(128, 0, 132)]))]),
  (152, [(2, ([0, 3], [], [(3, 5)], []))]),
  (142, [(6, ([0, 1, 7, 8, 9], [], [], []))]),
  (185, [(2, ([0, 1, 5], [], [], [])), (6, ([0, 1, 5, 6], [], [], []))]),
  (102, [(5, ([0, 4, 5], [], [(4, 9)], []))]),
  (190, [(3, ([0, 3, 4], [], [(0, 192), (3, 5)], []))]),
  (187, [(3, ([0, 3, 4], [], [(3, 192)], []))]),
  (189, [(3, ([0, 1, 7, 8], [], [(0, 192), (1, 192), (7, 192)], [])), (8, ([0, 1, 7, 9, 10], [], [(0, 192), (1, 192), (7, 192), (9, 192)], [])), (16, ([0, 1, 7, 9, 10, 13, 15, 16], [], [(0, 192), (1, 192), (7, 192), (9, 192)], [])), (23, ([0, 9, 17, 18], [], [(0, 192), (9, 192), (17, 192)], []))]),
  (158, [(7, ([1, 2, 4, 5, 6, 7, 8], [128, 256], [(5, 192), (6, 192)], []))]),
  (157, [(5, ([1, 3], [64], [(3, 5)], [])), (9, ([1, 3, 4, 5], [64], [(3, 5)], [])), (13, ([1, 3, 4, 5, 6, 7], [64], [(3, 5)], [])), (20, ([3, 8, 9, 10], [], [(3, 5), (8, 192), (9, 192)], []))]),
  (202, [(5, ([0, 1, 5, 6], [], [(5, 5)], []))]),
  (143, [(5, ([0, 1, 2, 8, 9], [], [(8, 5)], []))]),
  (146, [(3, ([1, 5, 6], [], [(5, 5)], []))]),
  (39, [(5, ([0, 6, 7, 9, 10], [], [(6, 140), (7, 9)], []))]),
  (109, [(3, ([0, 1, 5, 6], [], [(5, 5)], []))]),
  (62, [(4, ([1, 3], [64], [], [(64, 2, 138)]))]),
  (123, [(2, ([1, 2, 4, 6], [128, 256], [], [(128, 2, 138)]))]),
  (156, [(3, ([0, 3, 5, 6], [192], [(0, 138), (5, 138)], [])), (9, ([0, 3, 5, 7], [192], [(0, 138), (5, 138)], []))]),
  (107, [(24, ([2, 3, 4, 6, 8, 13, 14], [128, 192, 256, 512], [(13, 138)], [(128, 2, 138), (256, 2, 138), (512, 2, 138)]))]),
  (40, [(3, ([1, 4, 6, 7], [256, 384], [(1, 140)], [(256, 2, 138), (384, 2, 138)]))]),
  (49, [(2, ([1, 8, 9, 10], [], [(8, 132)], []))]),
  (160, [(5, ([0, 1, 7, 8], [], [], []))]),
  (192, [(2, ([0, 1, 5], [], [], [])), (6, ([0, 1, 5, 19], [], [], []))]),
  (111, [(5, ([0, 4, 5], [], [(4, 9)], []))]),
  (168, [(2, ([0, 3], [], [(3, 5)], []))]),
  (211, [(3, ([0, 2, 3, 11], [128, 192], [], [])), (6, ([0, 2, 3, 4, 11, 14], [128, 192], [], [])), (12, ([2, 3, 6], [128, 192], [], []))]),
  (200, [(4, ([2, 4, 5, 6, 7, 8, 9, 10, 11, 12, 13, 37], [128, 256, 320], [], [])), (13, ([2, 4, 17, 109], [128, 256, 1088], [], []))]),
  (171, [(1, ([1, 2, 4], [128, 256], [], []))]),
  (174, [(3, ([3, 6, 7], [], [], []))]),
  (207, [(3, ([1, 5, 10, 11], [], [(5, 5)], []))]),
  (163, [(6, ([0, 2, 8, 10, 11], [], [], []))]),
  (165, [(3, ([1, 5, 10, 11], [], [(5, 5)], []))]),
  (209, [(3, ([3, 14, 15, 16], [], [(14, 4)], []))]),
  (45, [(5, ([0, 8, 9, 23, 24, 25], [], [(8, 140), (23, 9)], []))]),
  (69, [(2, ([1, 6, 7, 8], [64], [(6, 138)], [(64, 2, 138)]))]),
  (170, [(2, ([1, 8, 9, 10], [], [(8, 138)], []))]),
  (46, [(3, ([4, 6, 13, 14, 15], [256, 384], [(13, 140)], [(256, 2, 138), (384, 2, 138)]))]),
  (48, [(2, ([1, 6, 7, 8], [64], [(6, 132)], [(64, 0, 132)]))]),
  (50, [(4, ([0, 1, 5], [], [(0, 138), (1, 138)], []))]),
  (13, [(4, ([0, 1, 5], [], [(0, 88), (1, 88)], []))]),
  (52, [(4, ([0, 1, 5], [], [(0, 132), (1, 132)], []))]),
  (55, [(4, ([0, 3], [], [], []))]),
  (53, [(2, ([0, 1, 5], [1], [(0, 132)], []))]),
  (54, [(2, ([0, 1, 5], [1], [(0, 138)], [])), (6, ([0, 1, 5], [1], [(0, 138)], [])), (8, ([0, 1, 5], [1], [(0, 138)], [])), (10, ([0, 1, 5], [1], [(0, 138)], [])), (12, ([0, 1, 5], [1], [(0, 138)], [])), (14, ([0, 1, 5], [1], [(0, 138)], [])), (16, ([0, 1, 5], [1], [(0, 138)], [])), (18, ([0, 1, 5], [1], [(0, 138)], []))]),
  (17, [(2, ([0, 1, 5], [1], [(0, 88)], [])), (6, ([0, 1, 5], [1], [(0, 88)], [])), (8, ([0, 1, 5], [1], [(0, 88)], [])), (10, ([0, 1, 5], [1], [(0, 88)], []))]),
  (56, [(2, ([0, 1, 5], [], [(0, 138)], []))]),
  (19, [(2, ([0, 1, 5], [], [(0, 88)], []))]),
  (121, [(5, ([0, 1, 5], [], [(0, 166)], []))]),
  (124, [(3, ([0, 3, 4], [], [(0, 166), (3, 138)], []))]),
  (65, [(3, ([0, 3, 4], [], [(0, 160), (3, 101)], []))]),
  (66, [(3, ([0, 3, 4], [], [(0, 162), (3, 157)], []))]),
  (61, [(4, ([2, 3, 5], [128, 192], [], [(128, 2, 138), (192, 2, 138)]))]),
  (63, [(2, ([1, 3], [64], [], [(64, 2, 132), (64, 5, 138), (64, 9, 101), (64, 10, 157)]))]),
  (21, [(4, ([1, 3], [64], [], [(64, 2, 132), (64, 5, 138), (64, 9, 101), (64, 10, 157)]))]),
  (127, [(4, ([0, 1, 12, 13], [], [(0, 138), (1, 138)], []))]),
  (70, [(2, ([1, 8, 9, 10], [64], [(8, 157)], [(64, 2, 132), (64, 5, 138), (64, 9, 101), (64, 10, 157)]))]),
  (23, [(6, ([1, 44, 45, 46], [64], [(44, 101)], [(64, 2, 132), (64, 5, 138), (64, 9, 101), (64, 10, 157)]))]),
  (71, [(4, ([0, 1, 5], [], [(0, 101), (1, 101)], []))]),
  (72, [(4, ([0, 1, 5], [], [(0, 157), (1, 157)], []))]),
  (74, [(5, ([0, 1, 5], [], [(0, 9)], []))]),
  (76, [(5, ([0, 1, 5], [], [(0, 168)], []))]),
  (77, [(3, ([0, 3, 4], [], [(0, 3), (3, 3)], []))]),
  (78, [(3, ([0, 3, 4], [], [(0, 9), (3, 9)], []))]),
  (79, [(3, ([0, 3, 4], [], [(0, 170), (3, 125)], []))]),
  (80, [(3, ([0, 3, 4], [], [(0, 168), (3, 140)], []))]),
  (81, [(4, ([0, 1, 5], [], [(0, 3), (1, 3)], []))]),
  (82, [(4, ([0, 1, 5], [], [(0, 9), (1, 9)], []))]),
  (83, [(4, ([0, 1, 5], [], [(0, 125), (1, 125)], []))]),
  (84, [(4, ([0, 1, 5], [], [(0, 140), (1, 140)], []))]),
  (177, [(3, ([2, 3, 4, 5, 6], [128, 192, 256, 320], [], [(128, 0, 132), (256, 0, 132), (320, 0, 132)])), (9, ([2, 3, 4, 5, 7], [128, 192, 256, 320], [], [(128, 0, 132), (256, 0, 132), (320, 0, 132)]))]),
  (178, [(3, ([1, 2, 4, 5, 6], [128, 256, 320], [], [(128, 0, 132), (256, 0, 132), (320, 0, 132)]))]),
  (85, [(3, ([1, 4, 6, 7], [256, 384], [(1, 88)], [(256, 0, 132), (384, 0, 132)]))]),
  (179, [(3, ([0, 3, 4], [0, 192], [], [(0, 0, 132)]))]),
  (86, [(3, ([1, 4, 6, 13, 14, 15], [256, 384], [(1, 88), (13, 88)], [(256, 0, 132), (384, 0, 132)]))]),
  (87, [(2, ([0, 1, 5], [1], [(0, 101)], []))]),
  (88, [(2, ([0, 1, 5], [1], [(0, 157)], []))]),
  (140, [(2, ([0, 1, 5], [], [(0, 132)], []))]),
  (90, [(2, ([0, 1, 5], [], [(0, 101)], []))]),
  (91, [(2, ([0, 1, 5], [], [(0, 157)], []))]),
  (92, [(3, ([0, 1, 5, 6], [], [(0, 140)], []))]),
  (93, [(2, ([0, 3], [], [(0, 125)], [])), (5, ([0, 3, 4], [], [(0, 125)], []))]),
  (94, [(2, ([0, 3], [], [(0, 125)], [])), (5, ([0, 3, 4], [], [(0, 125)], []))]),
  (95, [(3, ([0, 3, 4], [192], [(0, 140)], [(192, 2, 138)])), (9, ([0, 3, 4, 5, 7], [192, 320], [(0, 140)], [(192, 2, 138), (320, 2, 138)]))]),
  (34, [(2, ([1, 3], [64], [], [(64, 2, 132), (64, 5, 138), (64, 9, 101), (64, 10, 157), (64, 12, 3), (64, 13, 9), (64, 14, 125), (64, 15, 140)]))]),
  (96, [(3, ([1, 5, 8, 9, 10], [], [(8, 140)], []))]),
  (97, [(2, ([0, 7, 8, 9], [], [(0, 125), (7, 125)], [])), (5, ([0, 4, 7, 8, 9, 16, 17, 18], [256], [(0, 125), (7, 125), (16, 125)], []))]),
  (141, [(3, ([1, 5, 8, 9, 10], [], [(5, 3), (8, 125)], []))]),
  (98, [(2, ([0, 7, 8, 9], [], [(0, 125), (7, 125)], [])), (6, ([0, 5, 6, 7, 8, 9], [], [(0, 125), (5, 3), (7, 125)], []))]),
  (99, [(3, ([3, 13, 14, 15], [192], [(13, 140)], [(192, 2, 138)])), (9, ([3, 6, 13, 14, 15, 28, 29, 30], [192, 384], [(13, 140), (28, 138)], [(192, 2, 138), (384, 2, 138)]))]),
  (35, [(2, ([1, 6, 7, 8], [64], [(6, 125)], [(64, 2, 132), (64, 5, 138), (64, 9, 101), (64, 10, 157), (64, 12, 3), (64, 13, 9), (64, 14, 125), (64, 15, 140)]))])]
def tabs : List (Nat × (Nat × List Int)) := [(0, (237, [1116352408, 1899447441, 3049323471, 3921009573, 961987163, 1508970993, 2453635748, 2870763221, 3624381080, 310598401, 607225278, 1426881987, 1925078388, 2162078206, 2614888103, 3248222580, 3835390401, 4022224774, 264347078, 604807628, 770255983, 1249150122, 1555081692, 1996064986, 2554220882, 2821834349, 2952996808, 3210313671, 3336571891, 3584528711, 113926993, 338241895, 666307205, 773529912, 1294757372, 1396182291, 1695183700, 1986661051, 2177026350, 2456956037, 2730485921, 2820302411, 3259730800, 3345764771, 3516065817, 3600352804, 4094571909, 275423344, 430227734, 506948616, 659060556, 883997877, 958139571, 1322822218, 1537002063, 1747873779, 1955562222, 2024104815, 2227730452, 2361852424, 2428436474, 2756734187, 3204031479, 3329325298]))]
def ctx : Ctx := mkCtx els tis ents modes cuts tabs
noncomputable abbrev PP : Program := Tryz.prog
abbrev LI := List Go.Item × Env ctx × Hp ctx
theorem good3 : CodGood ctx 3 ent3.c := ⟨fun _ => rfl, fun cs h0 => by obtain ⟨n0, ls0, rfl, h1⟩ := fit_int h0; obtain rfl := fit_nil h1; rfl, fun _ => rfl, rfl, fun h k hi hk n => by cases hk; rfl⟩
theorem good4 : CodGood ctx 4 ent4.c := ⟨fun _ => rfl, fun cs h0 => by obtain ⟨n0, ls0, rfl, h1⟩ := fit_bool h0; obtain rfl := fit_nil h1; rfl, fun _ => rfl, rfl, fun h k hi hk n => by cases hi⟩
theorem good5 : CodGood ctx 5 ent5.c := ⟨fun _ => rfl, fun cs h0 => by obtain ⟨n0, ls0, rfl, h1⟩ := fit_int h0; obtain rfl := fit_nil h1; rfl, fun _ => rfl, rfl, fun h k hi hk n => by cases hk; rfl⟩
theorem good9 : CodGood ctx 9 ent9.c := ⟨fun _ => rfl, fun cs h0 => by obtain ⟨n0, ls0, rfl, h1⟩ := fit_str h0; obtain rfl := fit_nil h1; rfl, fun _ => rfl, rfl, fun h k hi hk n => by cases hi⟩
theorem good22 : CodGood ctx 22 ent22.c := ⟨fun _ => rfl, fun cs h0 => by obtain ⟨n0, ls0, rfl, h1⟩ := fit_sl h0; obtain rfl := fit_nil h1; rfl, fun _ => rfl, rfl, fun h k hi hk n => by cases hi⟩
theorem good24 : CodGood ctx 24 ent24.c := ⟨fun _ => rfl, fun cs h0 => by obtain ⟨n0, ls0, rfl, h1⟩ := fit_sl h0; obtain rfl := fit_nil h1; rfl, fun _ => rfl, rfl, fun h k hi hk n => by cases hi⟩
theorem good26 : CodGood ctx 26 ent26.c := ⟨fun _ => rfl, fun cs h0 => by obtain ⟨n0, ls0, rfl, h1⟩ := fit_sl h0; obtain rfl := fit_nil h1; rfl, fun _ => rfl, rfl, fun h k hi hk n => by cases hi⟩
theorem good28 : CodGood ctx 28 ent28.c := ⟨fun _ => rfl, fun cs h0 => by obtain ⟨n0, ls0, rfl, h1⟩ := fit_str h0; obtain ⟨n1, ls1, rfl, h2⟩ := fit_int h1; obtain ⟨n2, ls2, rfl, h3⟩ := fit_sl h2; obtain ⟨n3, ls3, rfl, h4⟩ := fit_int h3; obtain ⟨n4, ls4, rfl, h5⟩ := fit_str h4; obtain ⟨n5, ls5, rfl, h6⟩ := fit_int h5; obtain rfl := fit_nil h6; rfl, fun _ => rfl, rfl, fun h k hi hk n => by cases hi⟩
theorem good29 : CodGood ctx 29 ent29.c := ⟨fun _ => rfl, fun cs h0 => by obtain ⟨n0, ls0, rfl, h1⟩ := fit_sl h0; obtain rfl := fit_nil h1; rfl, fun _ => rfl, rfl, fun h k hi hk n => by cases hi⟩
theorem good32 : CodGood ctx 32 ent32.c := ⟨fun _ => rfl, fun cs h0 => by obtain ⟨n0, ls0, rfl, h1⟩ := fit_sl h0; obtain rfl := fit_nil h1; rfl, fun _ => rfl, rfl, fun h k hi hk n => by cases hi⟩
theorem good34 : CodGood ctx 34 ent34.c := ⟨fun _ => rfl, fun cs h0 => by obtain ⟨n0, ls0, rfl, h1⟩ := fit_sl h0; obtain rfl := fit_nil h1; rfl, fun _ => rfl, rfl, fun h k hi hk n => by cases hi⟩
theorem good43 : CodGood ctx 43 ent43.c := ⟨fun _ => rfl, fun cs h0 => by obtain ⟨n0, ls0, rfl, h1⟩ := fit_sl h0; obtain rfl := fit_nil h1; rfl, fun _ => rfl, rfl, fun h k hi hk n => by cases hi⟩
theorem good45 : CodGood ctx 45 ent45.c := ⟨fun _ => rfl, fun cs h0 => by obtain ⟨n0, ls0, rfl, h1⟩ := fit_str h0; obtain ⟨n1, ls1, rfl, h2⟩ := fit_int h1; obtain ⟨n2, ls2, rfl, h3⟩ := fit_sl h2; obtain ⟨n3, ls3, rfl, h4⟩ := fit_int h3; obtain ⟨n4, ls4, rfl, h5⟩ := fit_str h4; obtain ⟨n5, ls5, rfl, h6⟩ := fit_int h5; obtain rfl := fit_nil h6; rfl, fun _ => rfl, rfl, fun h k hi hk n => by cases hi⟩
theorem good46 : CodGood ctx 46 ent46.c := ⟨fun _ => rfl, fun cs h0 => by obtain ⟨n0, ls0, rfl, h1⟩ := fit_sl h0; obtain rfl := fit_nil h1; rfl, fun _ => rfl, rfl, fun h k hi hk n => by cases hi⟩
theorem good47 : CodGood ctx 47 ent47.c := ⟨fun _ => rfl, fun cs h0 => by obtain ⟨n0, ls0, rfl, h1⟩ := fit_sl h0; obtain rfl := fit_nil h1; rfl, fun _ => rfl, rfl, fun h k hi hk n => by cases hi⟩
theorem good49 : CodGood ctx 49 ent49.c := ⟨fun _ => rfl, fun cs h0 => by obtain ⟨n0, ls0, rfl, h1⟩ := fit_str h0; obtain ⟨n1, ls1, rfl, h2⟩ := fit_bool h1; obtain ⟨n2, ls2, rfl, h3⟩ := fit_sl h2; obtain ⟨n3, ls3, rfl, h4⟩ := fit_str h3; obtain ⟨n4, ls4, rfl, h5⟩ := fit_int h4; obtain ⟨n5, ls5, rfl, h6⟩ := fit_sl h5; obtain ⟨n6, ls6, rfl, h7⟩ := fit_int h6; obtain ⟨n7, ls7, rfl, h8⟩ := fit_str h7; obtain ⟨n8, ls8, rfl, h9⟩ := fit_int h8; obtain ⟨n9, ls9, rfl, h10⟩ := fit_sl h9; obtain ⟨n10, ls10, rfl, h11⟩ := fit_sl h10; obtain ⟨n11, ls11, rfl, h12⟩ := fit_int h11; obtain rfl := fit_nil h12; rfl, fun _ => rfl, rfl, fun h k hi hk n => by cases hi⟩
theorem good52 : CodGood ctx 52 ent52.c := ⟨fun _ => rfl, fun cs h0 => by obtain ⟨n0, ls0, rfl, h1⟩ := fit_sl h0; obtain rfl := fit_nil h1; rfl, fun _ => rfl, rfl, fun h k hi hk n => by cases hi⟩
theorem good53 : CodGood ctx 53 ent53.c := ⟨fun _ => rfl, fun cs h0 => by obtain ⟨n0, ls0, rfl, h1⟩ := fit_sl h0; obtain rfl := fit_nil h1; rfl, fun _ => rfl, rfl, fun h k hi hk n => by cases hi⟩
theorem good55 : CodGood ctx 55 ent55.c := ⟨fun _ => rfl, fun cs h0 => by obtain ⟨n0, ls0, rfl, h1⟩ := fit_str h0; obtain ⟨n1, ls1, rfl, h2⟩ := fit_bool h1; obtain ⟨n2, ls2, rfl, h3⟩ := fit_sl h2; obtain ⟨n3, ls3, rfl, h4⟩ := fit_str h3; obtain ⟨n4, ls4, rfl, h5⟩ := fit_int h4; obtain ⟨n5, ls5, rfl, h6⟩ := fit_sl h5; obtain ⟨n6, ls6, rfl, h7⟩ := fit_int h6; obtain ⟨n7, ls7, rfl, h8⟩ := fit_str h7; obtain ⟨n8, ls8, rfl, h9⟩ := fit_int h8; obtain ⟨n9, ls9, rfl, h10⟩ := fit_sl h9; obtain ⟨n10, ls10, rfl, h11⟩ := fit_sl h10; obtain ⟨n11, ls11, rfl, h12⟩ := fit_int h11; obtain rfl := fit_nil h12; rfl, fun _ => rfl, rfl, fun h k hi hk n => by cases hi⟩
theorem good59 : CodGood ctx 59 ent59.c := ⟨fun _ => rfl, fun cs h0 => by obtain ⟨n0, ls0, rfl, h1⟩ := fit_sl h0; obtain rfl := fit_nil h1; rfl, fun _ => rfl, rfl, fun h k hi hk n => by cases hi⟩
theorem good60 : CodGood ctx 60 ent60.c := ⟨fun _ => rfl, fun cs h0 => by obtain ⟨n0, ls0, rfl, h1⟩ := fit_sl h0; obtain rfl := fit_nil h1; rfl, fun _ => rfl, rfl, fun h k hi hk n => by cases hi⟩
theorem good61 : CodGood ctx 61 ent61.c := ⟨fun _ => rfl, fun cs h0 => by obtain ⟨n0, ls0, rfl, h1⟩ := fit_sl h0; obtain rfl := fit_nil h1; rfl, fun _ => rfl, rfl, fun h k hi hk n => by cases hi⟩
theorem good62 : CodGood ctx 62 ent62.c := ⟨fun _ => rfl, fun cs h0 => by obtain ⟨n0, ls0, rfl, h1⟩ := fit_sl h0; obtain rfl := fit_nil h1; rfl, fun _ => rfl, rfl, fun h k hi hk n => by cases hi⟩
theorem good64 : CodGood ctx 64 ent64.c := ⟨fun _ => rfl, fun cs h0 => by obtain ⟨n0, ls0, rfl, h1⟩ := fit_str h0; obtain ⟨n1, ls1, rfl, h2⟩ := fit_bool h1; obtain ⟨n2, ls2, rfl, h3⟩ := fit_sl h2; obtain ⟨n3, ls3, rfl, h4⟩ := fit_str h3; obtain ⟨n4, ls4, rfl, h5⟩ := fit_int h4; obtain ⟨n5, ls5, rfl, h6⟩ := fit_sl h5; obtain ⟨n6, ls6, rfl, h7⟩ := fit_int h6; obtain ⟨n7, ls7, rfl, h8⟩ := fit_str h7; obtain ⟨n8, ls8, rfl, h9⟩ := fit_int h8; obtain ⟨n9, ls9, rfl, h10⟩ := fit_sl h9; obtain ⟨n10, ls10, rfl, h11⟩ := fit_sl h10; obtain ⟨n11, ls11, rfl, h12⟩ := fit_int h11; obtain ⟨n12, ls12, rfl, h13⟩ := fit_sl h12; obtain ⟨n13, ls13, rfl, h14⟩ := fit_sl h13; obtain ⟨n14, ls14, rfl, h15⟩ := fit_sl h14; obtain ⟨n15, ls15, rfl, h16⟩ := fit_sl h15; obtain rfl := fit_nil h16; rfl, fun _ => rfl, rfl, fun h k hi hk n => by cases hi⟩
theorem good67 : CodGood ctx 67 ent67.c := ⟨fun _ => rfl, fun cs h0 => by obtain ⟨n0, ls0, rfl, h1⟩ := fit_sl h0; obtain rfl := fit_nil h1; rfl, fun _ => rfl, rfl, fun h k hi hk n => by cases hi⟩
theorem good68 : CodGood ctx 68 ent68.c := ⟨fun _ => rfl, fun cs h0 => by obtain ⟨n0, ls0, rfl, h1⟩ := fit_sl h0; obtain rfl := fit_nil h1; rfl, fun _ => rfl, rfl, fun h k hi hk n => by cases hi⟩
theorem good70 : CodGood ctx 70 ent70.c := ⟨fun _ => rfl, fun cs h0 => by obtain ⟨n0, ls0, rfl, h1⟩ := fit_str h0; obtain ⟨n1, ls1, rfl, h2⟩ := fit_bool h1; obtain ⟨n2, ls2, rfl, h3⟩ := fit_sl h2; obtain ⟨n3, ls3, rfl, h4⟩ := fit_str h3; obtain ⟨n4, ls4, rfl, h5⟩ := fit_int h4; obtain ⟨n5, ls5, rfl, h6⟩ := fit_sl h5; obtain ⟨n6, ls6, rfl, h7⟩ := fit_int h6; obtain ⟨n7, ls7, rfl, h8⟩ := fit_str h7; obtain ⟨n8, ls8, rfl, h9⟩ := fit_int h8; obtain ⟨n9, ls9, rfl, h10⟩ := fit_sl h9; obtain ⟨n10, ls10, rfl, h11⟩ := fit_sl h10; obtain ⟨n11, ls11, rfl, h12⟩ := fit_int h11; obtain ⟨n12, ls12, rfl, h13⟩ := fit_sl h12; obtain ⟨n13, ls13, rfl, h14⟩ := fit_sl h13; obtain ⟨n14, ls14, rfl, h15⟩ := fit_sl h14; obtain ⟨n15, ls15, rfl, h16⟩ := fit_sl h15; obtain rfl := fit_nil h16; rfl, fun _ => rfl, rfl, fun h k hi hk n => by cases hi⟩
theorem good88 : CodGood ctx 88 ent88.c := ⟨fun _ => rfl, fun cs h0 => by obtain ⟨n0, ls0, rfl, h1⟩ := fit_int h0; obtain ⟨n1, ls1, rfl, h2⟩ := fit_str h1; obtain ⟨n2, ls2, rfl, h3⟩ := fit_str h2; obtain ⟨n3, ls3, rfl, h4⟩ := fit_str h3; obtain rfl := fit_nil h4; rfl, fun _ => rfl, rfl, fun h k hi hk n => by cases hi⟩
theorem good101 : CodGood ctx 101 ent101.c := ⟨fun _ => rfl, fun cs h0 => by obtain ⟨n0, ls0, rfl, h1⟩ := fit_int h0; obtain ⟨n1, ls1, rfl, h2⟩ := fit_bool h1; obtain rfl := fit_nil h2; rfl, fun _ => rfl, rfl, fun h k hi hk n => by cases hi⟩
theorem good125 : CodGood ctx 125 ent125.c := ⟨fun _ => rfl, fun cs h0 => by obtain ⟨n0, ls0, rfl, h1⟩ := fit_int h0; obtain ⟨n1, ls1, rfl, h2⟩ := fit_int h1; obtain ⟨n2, ls2, rfl, h3⟩ := fit_int h2; obtain rfl := fit_nil h3; rfl, fun _ => rfl, rfl, fun h k hi hk n => by cases hi⟩
theorem good131 : CodGood ctx 131 ent131.c := ⟨fun _ => rfl, fun cs h0 => by obtain ⟨n0, ls0, rfl, h1⟩ := fit_str h0; obtain ⟨n1, ls1, rfl, h2⟩ := fit_str h1; obtain ⟨n2, ls2, rfl, h3⟩ := fit_int h2; obtain rfl := fit_nil h3; rfl, fun _ => rfl, rfl, fun h k hi hk n => by cases hi⟩
theorem good132 : CodGood ctx 132 ent132.c := ⟨fun _ => rfl, fun cs h0 => by obtain ⟨n0, ls0, rfl, h1⟩ := fit_str h0; obtain ⟨n1, ls1, rfl, h2⟩ := fit_str h1; obtain ⟨n2, ls2, rfl, h3⟩ := fit_int h2; obtain rfl := fit_nil h3; rfl, fun _ => rfl, rfl, fun h k hi hk n => by cases hi⟩
theorem good138 : CodGood ctx 138 ent138.c := ⟨fun _ => rfl, fun cs h0 => by obtain ⟨n0, ls0, rfl, h1⟩ := fit_int h0; obtain ⟨n1, ls1, rfl, h2⟩ := fit_int h1; obtain ⟨n2, ls2, rfl, h3⟩ := fit_bool h2; obtain ⟨n3, ls3, rfl, h4⟩ := fit_bool h3; obtain ⟨n4, ls4, rfl, h5⟩ := fit_bool h4; obtain ⟨n5, ls5, rfl, h6⟩ := fit_bool h5; obtain ⟨n6, ls6, rfl, h7⟩ := fit_str h6; obtain ⟨n7, ls7, rfl, h8⟩ := fit_int h7; obtain rfl := fit_nil h8; rfl, fun _ => rfl, rfl, fun h k hi hk n => by cases hi⟩
theorem good140 : CodGood ctx 140 ent140.c := ⟨fun _ => rfl, fun cs h0 => by obtain ⟨n0, ls0, rfl, h1⟩ := fit_int h0; obtain ⟨n1, ls1, rfl, h2⟩ := fit_str h1; obtain ⟨n2, ls2, rfl, h3⟩ := fit_int h2; obtain ⟨n3, ls3, rfl, h4⟩ := fit_int h3; obtain ⟨n4, ls4, rfl, h5⟩ := fit_int h4; obtain ⟨n5, ls5, rfl, h6⟩ := fit_bool h5; obtain ⟨n6, ls6, rfl, h7⟩ := fit_bool h6; obtain ⟨n7, ls7, rfl, h8⟩ := fit_bool h7; obtain ⟨n8, ls8, rfl, h9⟩ := fit_bool h8; obtain ⟨n9, ls9, rfl, h10⟩ := fit_str h9; obtain ⟨n10, ls10, rfl, h11⟩ := fit_int h10; obtain rfl := fit_nil h11; rfl, fun _ => rfl, rfl, fun h k hi hk n => by cases hi⟩
theorem good151 : CodGood ctx 151 ent151.c := ⟨fun _ => rfl, fun cs h0 => by obtain ⟨n0, ls0, rfl, h1⟩ := fit_sl h0; obtain rfl := fit_nil h1; rfl, fun _ => rfl, rfl, fun h k hi hk n => by cases hi⟩
theorem good157 : CodGood ctx 157 ent157.c := ⟨fun _ => rfl, fun cs h0 => by obtain ⟨n0, ls0, rfl, h1⟩ := fit_int h0; obtain ⟨n1, ls1, rfl, h2⟩ := fit_int h1; obtain rfl := fit_nil h2; rfl, fun _ => rfl, rfl, fun h k hi hk n => by cases hi⟩
theorem good160 : CodGood ctx 160 ent160.c := ⟨fun _ => rfl, fun cs h0 => by obtain ⟨n0, ls0, rfl, h1⟩ := fit_int h0; obtain ⟨n1, ls1, rfl, h2⟩ := fit_bool h1; obtain rfl := fit_nil h2; rfl, fun _ => rfl, rfl, fun h k hi hk n => by cases hi⟩
theorem good162 : CodGood ctx 162 ent162.c := ⟨fun _ => rfl, fun cs h0 => by obtain ⟨n0, ls0, rfl, h1⟩ := fit_int h0; obtain ⟨n1, ls1, rfl, h2⟩ := fit_int h1; obtain rfl := fit_nil h2; rfl, fun _ => rfl, rfl, fun h k hi hk n => by cases hi⟩
theorem good166 : CodGood ctx 166 ent166.c := ⟨fun _ => rfl, fun cs h0 => by obtain ⟨n0, ls0, rfl, h1⟩ := fit_int h0; obtain ⟨n1, ls1, rfl, h2⟩ := fit_int h1; obtain ⟨n2, ls2, rfl, h3⟩ := fit_bool h2; obtain ⟨n3, ls3, rfl, h4⟩ := fit_bool h3; obtain ⟨n4, ls4, rfl, h5⟩ := fit_bool h4; obtain ⟨n5, ls5, rfl, h6⟩ := fit_bool h5; obtain ⟨n6, ls6, rfl, h7⟩ := fit_str h6; obtain ⟨n7, ls7, rfl, h8⟩ := fit_int h7; obtain rfl := fit_nil h8; rfl, fun _ => rfl, rfl, fun h k hi hk n => by cases hi⟩
theorem good168 : CodGood ctx 168 ent168.c := ⟨fun _ => rfl, fun cs h0 => by obtain ⟨n0, ls0, rfl, h1⟩ := fit_int h0; obtain ⟨n1, ls1, rfl, h2⟩ := fit_str h1; obtain ⟨n2, ls2, rfl, h3⟩ := fit_int h2; obtain ⟨n3, ls3, rfl, h4⟩ := fit_int h3; obtain ⟨n4, ls4, rfl, h5⟩ := fit_int h4; obtain ⟨n5, ls5, rfl, h6⟩ := fit_bool h5; obtain ⟨n6, ls6, rfl, h7⟩ := fit_bool h6; obtain ⟨n7, ls7, rfl, h8⟩ := fit_bool h7; obtain ⟨n8, ls8, rfl, h9⟩ := fit_bool h8; obtain ⟨n9, ls9, rfl, h10⟩ := fit_str h9; obtain ⟨n10, ls10, rfl, h11⟩ := fit_int h10; obtain rfl := fit_nil h11; rfl, fun _ => rfl, rfl, fun h k hi hk n => by cases hi⟩
theorem good170 : CodGood ctx 170 ent170.c := ⟨fun _ => rfl, fun cs h0 => by obtain ⟨n0, ls0, rfl, h1⟩ := fit_int h0; obtain ⟨n1, ls1, rfl, h2⟩ := fit_int h1; obtain ⟨n2, ls2, rfl, h3⟩ := fit_int h2; obtain rfl := fit_nil h3; rfl, fun _ => rfl, rfl, fun h k hi hk n => by cases hi⟩
theorem good184 : CodGood ctx 184 ent184.c := ⟨fun _ => rfl, fun cs h0 => by obtain ⟨n0, ls0, rfl, h1⟩ := fit_bool h0; obtain rfl := fit_nil h1; rfl, fun _ => rfl, rfl, fun h k hi hk n => by cases hi⟩
theorem good186 : CodGood ctx 186 ent186.c := ⟨fun _ => rfl, fun cs h0 => by obtain ⟨n0, ls0, rfl, h1⟩ := fit_str h0; obtain ⟨n1, ls1, rfl, h2⟩ := fit_int h1; obtain ⟨n2, ls2, rfl, h3⟩ := fit_bool h2; obtain rfl := fit_nil h3; rfl, fun _ => rfl, rfl, fun h k hi hk n => by cases hi⟩
theorem good192 : CodGood ctx 192 ent192.c := ⟨fun _ => rfl, fun cs h0 => by obtain ⟨n0, ls0, rfl, h1⟩ := fit_int h0; obtain rfl := fit_nil h1; rfl, fun _ => rfl, rfl, fun h k hi hk n => by cases hk; rfl⟩
theorem good197 : CodGood ctx 197 ent197.c := ⟨fun _ => rfl, fun cs h0 => by obtain ⟨n0, ls0, rfl, h1⟩ := fit_str h0; obtain ⟨n1, ls1, rfl, h2⟩ := fit_str h1; obtain ⟨n2, ls2, rfl, h3⟩ := fit_int h2; obtain rfl := fit_nil h3; rfl, fun _ => rfl, rfl, fun h k hi hk n => by cases hi⟩
theorem good200 : CodGood ctx 200 ent200.c := codBools_good (C := ctx) (e := 200) (n := 8) (f := fun x => x) (g := fun x => x) (fun _ => rfl) (by kernel_rfl)
theorem good213 : CodGood ctx 213 ent213.c := ⟨fun _ => rfl, fun cs h0 => by obtain ⟨n0, ls0, rfl, h1⟩ := fit_int h0; obtain rfl := fit_nil h1; rfl, fun _ => rfl, rfl, fun h k hi hk n => by cases hk; rfl⟩
theorem good216 : CodGood ctx 216 ent216.c := ⟨fun _ => rfl, fun cs h0 => by obtain ⟨n0, ls0, rfl, h1⟩ := fit_sl h0; obtain rfl := fit_nil h1; rfl, fun _ => rfl, rfl, fun h k hi hk n => by cases hi⟩
theorem good222 : CodGood ctx 222 ent222.c := ⟨fun _ => rfl, fun cs h0 => by obtain ⟨n0, ls0, rfl, h1⟩ := fit_bool h0; obtain rfl := fit_nil h1; rfl, fun _ => rfl, rfl, fun h k hi hk n => by cases hi⟩
theorem good224 : CodGood ctx 224 ent224.c := ⟨fun _ => rfl, fun cs h0 => by obtain ⟨n0, ls0, rfl, h1⟩ := fit_str h0; obtain ⟨n1, ls1, rfl, h2⟩ := fit_int h1; obtain ⟨n2, ls2, rfl, h3⟩ := fit_bool h2; obtain rfl := fit_nil h3; rfl, fun _ => rfl, rfl, fun h k hi hk n => by cases hi⟩
theorem good227 : CodGood ctx 227 ent227.c := ⟨fun _ => rfl, fun cs h0 => by obtain ⟨n0, ls0, rfl, h1⟩ := fit_bool h0; obtain rfl := fit_nil h1; rfl, fun _ => rfl, rfl, fun h k hi hk n => by cases hi⟩
theorem good229 : CodGood ctx 229 ent229.c := ⟨fun _ => rfl, fun cs h0 => by obtain ⟨n0, ls0, rfl, h1⟩ := fit_bool h0; obtain rfl := fit_nil h1; rfl, fun _ => rfl, rfl, fun h k hi hk n => by cases hi⟩
theorem good237 : CodGood ctx 237 ent237.c := codBools_good (C := ctx) (e := 237) (n := 64) (f := fun x => x) (g := fun x => x) (fun _ => rfl) (by kernel_rfl)
theorem good241 : CodGood ctx 241 ent241.c := ⟨fun _ => rfl, fun cs h0 => by obtain ⟨n0, ls0, rfl, h1⟩ := fit_sl h0; obtain rfl := fit_nil h1; rfl, fun _ => rfl, rfl, fun h k hi hk n => by cases hi⟩
theorem ctxOk : CtxOk ctx Tryz.prog := mkCtx_ok (by kernel_rfl) (fun x hx => by
  simp only [ents, List.mem_cons, List.not_mem_nil, or_false] at hx
  rcases hx with rfl | rfl | rfl | rfl | rfl | rfl | rfl | rfl | rfl | rfl | rfl | rfl | rfl | rfl | rfl | rfl | rfl | rfl | rfl | rfl | rfl | rfl | rfl | rfl | rfl | rfl | rfl | rfl | rfl | rfl | rfl | rfl | rfl | rfl | rfl | rfl | rfl | rfl | rfl | rfl | rfl | rfl | rfl | rfl | rfl | rfl | rfl | rfl | rfl | rfl | rfl | rfl | rfl | rfl
  · exact good3
  · exact good4
  · exact good5
  · exact good9
  · exact good22
  · exact good24
  · exact good26
  · exact good28
  · exact good29
  · exact good32
  · exact good34
  · exact good43
  · exact good45
  · exact good46
  · exact good47
  · exact good49
  · exact good52
  · exact good53
  · exact good55
  · exact good59
  · exact good60
  · exact good61
  · exact good62
  · exact good64
  · exact good67
  · exact good68
  · exact good70
  · exact good88
  · exact good101
  · exact good125
  · exact good131
  · exact good132
  · exact good138
  · exact good140
  · exact good151
  · exact good157
  · exact good160
  · exact good162
  · exact good166
  · exact good168
  · exact good170
  · exact good184
  · exact good186
  · exact good192
  · exact good197
  · exact good200
  · exact good213
  · exact good216
  · exact good222
  · exact good224
  · exact good227
  · exact good229
  · exact good237
  · exact good241)
def cSFile : Cv (List (L (ElOf els))) SFile := cIso (cCons cStr (cCons cStr (cCons (cInt .i64) cNil))) (fun p => ⟨p.1, p.2.1, p.2.2.1⟩) (fun s => (s.fName, s.fText, s.fKept, ())) (fun _ => rfl)
def cv0 : Cv (List (U (ElOf els))) (SFile × Int) := (cIso (cCons (uAgg cSFile) (cCons (uOne (cInt .i64)) cNil)) (fun p => (p.1, p.2.1)) (fun s => (s.1, s.2, ())) (fun _ => rfl))
def cv1 : Cv (List (U (ElOf els))) Int := (cIso (cCons (uOne (cInt .i64)) cNil) (fun p => p.1) (fun s => (s, ())) (fun _ => rfl))
def cv2 : Cv (List (U (ElOf els))) ((List SFile) × Int) := (cIso (cCons (uOne (cRsl 131)) (cCons (uOne (cInt .i64)) cNil)) (fun p => (p.1, p.2.1)) (fun s => (s.1, s.2, ())) (fun _ => rfl))
def cSDisk24 : Cv (List (L (ElOf els))) SDisk := cIso (cCons (cRsl 131) cNil) (fun p => ⟨p.1⟩) (fun s => (s.fFiles, ())) (fun _ => rfl)
def cv3 : Cv (List (U (ElOf els))) (SDisk × Int) := (cIso (cCons (uAgg cSDisk24) (cCons (uOne (cInt .i64)) cNil)) (fun p => (p.1, p.2.1)) (fun s => (s.1, s.2, ())) (fun _ => rfl))
def cv4 : Cv (List (U (ElOf els))) SFile := (cIso (cCons (uAgg cSFile) cNil) (fun p => p.1) (fun s => (s, ())) (fun _ => rfl))
def cv5 : Cv (List (U (ElOf els))) (List SFile) := (cIso (cCons (uOne (cRsl 131)) cNil) (fun p => p.1) (fun s => (s, ())) (fun _ => rfl))
def cv6 : Cv (List (U (ElOf els))) (List SFile) := (cIso (cCons (uOne (cFsl 132)) cNil) (fun p => p.1) (fun s => (s, ())) (fun _ => rfl))
def cSDiskF34 : Cv (List (L (ElOf els))) SDisk := cIso (cCons (cFsl 132) cNil) (fun p => ⟨p.1⟩) (fun s => (s.fFiles, ())) (fun _ => rfl)
def cv7 : Cv (List (U (ElOf els))) SDisk := (cIso (cCons (uAgg cSDisk24) cNil) (fun p => p.1) (fun s => (s, ())) (fun _ => rfl))
def cv8 : Cv (List (U (ElOf els))) SDisk := (cIso (cCons (uAgg cSDiskF34) cNil) (fun p => p.1) (fun s => (s, ())) (fun _ => rfl))
def cv9 : Cv (List (U (ElOf els))) (Int × Int × Int) := (cIso (cCons (uOne (cInt .i64)) (cCons (uOne (cInt .i64)) (cCons (uOne (cInt .i64)) cNil))) (fun p => (p.1, p.2.1, p.2.2.1)) (fun s => (s.1, s.2.1, s.2.2, ())) (fun _ => rfl))
def cv10 : Cv (List (U (ElOf els))) Bool := (cIso (cCons (uOne cBool) cNil) (fun p => p.1) (fun s => (s, ())) (fun _ => rfl))
def cv11 : Cv (List (U (ElOf els))) ByteArray := (cIso (cCons (uOne cStr) cNil) (fun p => p.1) (fun s => (s, ())) (fun _ => rfl))
def cSDisk34 : Cv (List (L (ElOf els))) SDisk := cIso (cCons (cRsl 132) cNil) (fun p => ⟨p.1⟩) (fun s => (s.fFiles, ())) (fun _ => rfl)
def cv12 : Cv (List (U (ElOf els))) SDisk := (cIso (cCons (uAgg cSDisk34) cNil) (fun p => p.1) (fun s => (s, ())) (fun _ => rfl))
def cv13 : Cv (List (U (ElOf els))) (SDisk × ByteArray) := (cIso (cCons (uAgg cSDisk34) (cCons (uOne cStr) cNil)) (fun p => (p.1, p.2.1)) (fun s => (s.1, s.2, ())) (fun _ => rfl))
def cv14 : Cv (List (U (ElOf els))) (ByteArray × Bool) := (cIso (cCons (uOne cStr) (cCons (uOne cBool) cNil)) (fun p => (p.1, p.2.1)) (fun s => (s.1, s.2, ())) (fun _ => rfl))
def cv15 : Cv (List (U (ElOf els))) (ByteArray × Int) := (cIso (cCons (uOne cStr) (cCons (uOne (cInt .i64)) cNil)) (fun p => (p.1, p.2.1)) (fun s => (s.1, s.2, ())) (fun _ => rfl))
def cv16 : Cv (List (U (ElOf els))) (Int × Int × Bool) := (cIso (cCons (uOne (cInt .i64)) (cCons (uOne (cInt .i64)) (cCons (uOne cBool) cNil))) (fun p => (p.1, p.2.1, p.2.2.1)) (fun s => (s.1, s.2.1, s.2.2, ())) (fun _ => rfl))
def cv17 : Cv (List (U (ElOf els))) (Int × ByteArray) := (cIso (cCons (uOne (cInt .u32)) (cCons (uOne cStr) cNil)) (fun p => (p.1, p.2.1)) (fun s => (s.1, s.2, ())) (fun _ => rfl))
def cv18 : Cv (List (U (ElOf els))) Int := (cIso (cCons (uOne (cInt .u32)) cNil) (fun p => p.1) (fun s => (s, ())) (fun _ => rfl))
def cv19 : Cv (List (U (ElOf els))) ((List ByteArray) × Int) := (cIso (cCons (uOne (cFsl 9)) (cCons (uOne (cInt .i64)) cNil)) (fun p => (p.1, p.2.1)) (fun s => (s.1, s.2, ())) (fun _ => rfl))
def cv20 : Cv (List (U (ElOf els))) Unit := cNil
def cv21 : Cv (List (U (ElOf els))) (List Int) := (cIso (cCons (uOne (cFsl 192)) cNil) (fun p => p.1) (fun s => (s, ())) (fun _ => rfl))
def cv22 : Cv (List (U (ElOf els))) (List Int) := (cIso (cCons (uOne (cRsl 192)) cNil) (fun p => p.1) (fun s => (s, ())) (fun _ => rfl))
def cSHasher : Cv (List (L (ElOf els))) SHasher := cIso (cCons cStr (cCons cStr (cCons (cInt .i64) cNil))) (fun p => ⟨p.1, p.2.1, p.2.2.1⟩) (fun s => (s.fState, s.fRest, s.fCount, ())) (fun _ => rfl)
def cv23 : Cv (List (U (ElOf els))) SHasher := (cIso (cCons (uAgg cSHasher) cNil) (fun p => p.1) (fun s => (s, ())) (fun _ => rfl))
def cv24 : Cv (List (U (ElOf els))) (Int × Int × Int) := (cIso (cCons (uOne (cInt .u32)) (cCons (uOne (cInt .u32)) (cCons (uOne (cInt .u32)) cNil))) (fun p => (p.1, p.2.1, p.2.2.1)) (fun s => (s.1, s.2.1, s.2.2, ())) (fun _ => rfl))
def cv25 : Cv (List (U (ElOf els))) (Int × Int × Int × Int × Bool) := (cIso (cCons (uOne (cInt .u32)) (cCons (uOne (cInt .u32)) (cCons (uOne (cInt .u32)) (cCons (uOne (cInt .u32)) (cCons (uOne cBool) cNil))))) (fun p => (p.1, p.2.1, p.2.2.1, p.2.2.2.1, p.2.2.2.2.1)) (fun s => (s.1, s.2.1, s.2.2.1, s.2.2.2.1, s.2.2.2.2, ())) (fun _ => rfl))
def cv26 : Cv (List (U (ElOf els))) ((List Int) × (List Int) × ByteArray) := (cIso (cCons (uOne (cRsl 192)) (cCons (uOne (cRsl 192)) (cCons (uOne cStr) cNil))) (fun p => (p.1, p.2.1, p.2.2.1)) (fun s => (s.1, s.2.1, s.2.2, ())) (fun _ => rfl))
def cv27 : Cv (List (U (ElOf els))) (SHasher × ByteArray) := (cIso (cCons (uAgg cSHasher) (cCons (uOne cStr) cNil)) (fun p => (p.1, p.2.1)) (fun s => (s.1, s.2, ())) (fun _ => rfl))
def cv28 : Cv (List (U (ElOf els))) (ByteArray × Int) := (cIso (cCons (uOne cStr) (cCons (uOne (cInt .u8)) cNil)) (fun p => (p.1, p.2.1)) (fun s => (s.1, s.2, ())) (fun _ => rfl))
def cv29 : Cv (List (U (ElOf els))) (ByteArray × ByteArray) := (cIso (cCons (uOne cStr) (cCons (uOne cStr) cNil)) (fun p => (p.1, p.2.1)) (fun s => (s.1, s.2, ())) (fun _ => rfl))
def cv30 : Cv (List (U (ElOf els))) (ByteArray × Int × Int) := (cIso (cCons (uOne cStr) (cCons (uOne (cInt .i64)) (cCons (uOne (cInt .i64)) cNil))) (fun p => (p.1, p.2.1, p.2.2.1)) (fun s => (s.1, s.2.1, s.2.2, ())) (fun _ => rfl))
def cv31 : Cv (List (U (ElOf els))) (ByteArray × Int × ByteArray) := (cIso (cCons (uOne cStr) (cCons (uOne (cInt .i64)) (cCons (uOne cStr) cNil))) (fun p => (p.1, p.2.1, p.2.2.1)) (fun s => (s.1, s.2.1, s.2.2, ())) (fun _ => rfl))
def cSL19Cur : Cv (List (L (ElOf els))) SL19Cur := cIso (cCons cStr (cCons (cInt .i64) (cCons cBool cNil))) (fun p => ⟨p.1, p.2.1, p.2.2.1⟩) (fun s => (s.fText, s.fAt, s.fBad, ())) (fun _ => rfl)
def cv32 : Cv (List (U (ElOf els))) (SL19Cur × Int) := (cIso (cCons (uAgg cSL19Cur) (cCons (uOne (cInt .i64)) cNil)) (fun p => (p.1, p.2.1)) (fun s => (s.1, s.2, ())) (fun _ => rfl))
def cv33 : Cv (List (U (ElOf els))) (ByteArray × SL19Cur) := (cIso (cCons (uOne cStr) (cCons (uAgg cSL19Cur) cNil)) (fun p => (p.1, p.2.1)) (fun s => (s.1, s.2, ())) (fun _ => rfl))
def cv34 : Cv (List (U (ElOf els))) SL19Cur := (cIso (cCons (uAgg cSL19Cur) cNil) (fun p => p.1) (fun s => (s, ())) (fun _ => rfl))
def cv35 : Cv (List (U (ElOf els))) (Int × SL19Cur) := (cIso (cCons (uOne (cInt .i64)) (cCons (uAgg cSL19Cur) cNil)) (fun p => (p.1, p.2.1)) (fun s => (s.1, s.2, ())) (fun _ => rfl))
def cSThing : Cv (List (L (ElOf els))) SThing := cIso (cCons (cInt .i64) (cCons (cInt .i64) (cCons cBool (cCons cBool (cCons cBool (cCons cBool (cCons cStr (cCons (cInt .i64) cNil)))))))) (fun p => ⟨p.1, p.2.1, p.2.2.1, p.2.2.2.1, p.2.2.2.2.1, p.2.2.2.2.2.1, p.2.2.2.2.2.2.1, p.2.2.2.2.2.2.2.1⟩) (fun s => (s.fId, s.fKind, s.fHidden, s.fFixed, s.fSigns, s.fWraps, s.fValue, s.fNext, ())) (fun _ => rfl)
def cv36 : Cv (List (U (ElOf els))) SThing := (cIso (cCons (uAgg cSThing) cNil) (fun p => p.1) (fun s => (s, ())) (fun _ => rfl))
def cv37 : Cv (List (U (ElOf els))) (Bool × Int) := (cIso (cCons (uOne cBool) (cCons (uOne (cInt .i64)) cNil)) (fun p => (p.1, p.2.1)) (fun s => (s.1, s.2, ())) (fun _ => rfl))
def cv38 : Cv (List (U (ElOf els))) (SThing × Bool) := (cIso (cCons (uAgg cSThing) (cCons (uOne cBool) cNil)) (fun p => (p.1, p.2.1)) (fun s => (s.1, s.2, ())) (fun _ => rfl))
def cSRec : Cv (List (L (ElOf els))) SRec := cIso (cCons (cInt .i64) (cCons cStr (cCons (cInt .i64) (cCons (cInt .i64) (cCons (cInt .i64) (cCons cBool (cCons cBool (cCons cBool (cCons cBool (cCons cStr (cCons (cInt .i64) cNil))))))))))) (fun p => ⟨p.1, p.2.1, p.2.2.1, ⟨p.2.2.2.1, p.2.2.2.2.1, p.2.2.2.2.2.1, p.2.2.2.2.2.2.1, p.2.2.2.2.2.2.2.1, p.2.2.2.2.2.2.2.2.1, p.2.2.2.2.2.2.2.2.2.1, p.2.2.2.2.2.2.2.2.2.2.1⟩⟩) (fun s => (s.fKind, s.fText, s.fNum, s.fThing.fId, s.fThing.fKind, s.fThing.fHidden, s.fThing.fFixed, s.fThing.fSigns, s.fThing.fWraps, s.fThing.fValue, s.fThing.fNext, ())) (fun _ => rfl)
def cv39 : Cv (List (U (ElOf els))) SRec := (cIso (cCons (uAgg cSRec) cNil) (fun p => p.1) (fun s => (s, ())) (fun _ => rfl))
def cv40 : Cv (List (U (ElOf els))) (SRec × Bool) := (cIso (cCons (uAgg cSRec) (cCons (uOne cBool) cNil)) (fun p => (p.1, p.2.1)) (fun s => (s.1, s.2, ())) (fun _ => rfl))
def cv41 : Cv (List (U (ElOf els))) ((List SRec) × Int) := (cIso (cCons (uOne (cFsl 140)) (cCons (uOne (cInt .i64)) cNil)) (fun p => (p.1, p.2.1)) (fun s => (s.1, s.2, ())) (fun _ => rfl))
def cv42 : Cv (List (U (ElOf els))) (Int × Int) := (cIso (cCons (uOne (cInt .i64)) (cCons (uOne (cInt .u8)) cNil)) (fun p => (p.1, p.2.1)) (fun s => (s.1, s.2, ())) (fun _ => rfl))
def cSBookF28 : Cv (List (L (ElOf els))) SBook := cIso (cCons cStr (cCons (cInt .i64) (cCons (cFsl 138) (cCons (cInt .i64) (cCons cStr (cCons (cInt .i64) cNil)))))) (fun p => ⟨p.1, p.2.1, p.2.2.1, p.2.2.2.1, p.2.2.2.2.1, p.2.2.2.2.2.1⟩) (fun s => (s.fWord, s.fTries, s.fThings, s.fLast, s.fChain, s.fCount, ())) (fun _ => rfl)
def cv43 : Cv (List (U (ElOf els))) SBook := (cIso (cCons (uAgg cSBookF28) cNil) (fun p => p.1) (fun s => (s, ())) (fun _ => rfl))
def cSBook28 : Cv (List (L (ElOf els))) SBook := cIso (cCons cStr (cCons (cInt .i64) (cCons (cRsl 138) (cCons (cInt .i64) (cCons cStr (cCons (cInt .i64) cNil)))))) (fun p => ⟨p.1, p.2.1, p.2.2.1, p.2.2.2.1, p.2.2.2.2.1, p.2.2.2.2.2.1⟩) (fun s => (s.fWord, s.fTries, s.fThings, s.fLast, s.fChain, s.fCount, ())) (fun _ => rfl)
def cv44 : Cv (List (U (ElOf els))) SBook := (cIso (cCons (uAgg cSBook28) cNil) (fun p => p.1) (fun s => (s, ())) (fun _ => rfl))
def cv45 : Cv (List (U (ElOf els))) (SBook × Int) := (cIso (cCons (uAgg cSBook28) (cCons (uOne (cInt .i64)) cNil)) (fun p => (p.1, p.2.1)) (fun s => (s.1, s.2, ())) (fun _ => rfl))
def cv46 : Cv (List (U (ElOf els))) (SThing × SThing) := (cIso (cCons (uAgg cSThing) (cCons (uAgg cSThing) cNil)) (fun p => (p.1, p.2.1)) (fun s => (s.1, s.2, ())) (fun _ => rfl))
def cv47 : Cv (List (U (ElOf els))) ((List SThing) × SThing) := (cIso (cCons (uOne (cRsl 138)) (cCons (uAgg cSThing) cNil)) (fun p => (p.1, p.2.1)) (fun s => (s.1, s.2, ())) (fun _ => rfl))
def cv48 : Cv (List (U (ElOf els))) (List SThing) := (cIso (cCons (uOne (cFsl 138)) cNil) (fun p => p.1) (fun s => (s, ())) (fun _ => rfl))
def cv49 : Cv (List (U (ElOf els))) (SBook × SRec) := (cIso (cCons (uAgg cSBook28) (cCons (uAgg cSRec) cNil)) (fun p => (p.1, p.2.1)) (fun s => (s.1, s.2, ())) (fun _ => rfl))
def cv50 : Cv (List (U (ElOf els))) (SBook × Bool) := (cIso (cCons (uAgg cSBookF28) (cCons (uOne cBool) cNil)) (fun p => (p.1, p.2.1)) (fun s => (s.1, s.2, ())) (fun _ => rfl))
def cv51 : Cv (List (U (ElOf els))) (SBook × (List SRec)) := (cIso (cCons (uAgg cSBook28) (cCons (uOne (cRsl 140)) cNil)) (fun p => (p.1, p.2.1)) (fun s => (s.1, s.2, ())) (fun _ => rfl))
def cv52 : Cv (List (U (ElOf els))) (ByteArray × SDisk) := (cIso (cCons (uOne cStr) (cCons (uAgg cSDisk34) cNil)) (fun p => (p.1, p.2.1)) (fun s => (s.1, s.2, ())) (fun _ => rfl))
def cv53 : Cv (List (U (ElOf els))) (SBook × (List SAct) × Bool) := (cIso (cCons (uAgg cSBookF28) (cCons (uOne (cFsl 88)) (cCons (uOne cBool) cNil))) (fun p => (p.1, p.2.1, p.2.2.1)) (fun s => (s.1, s.2.1, s.2.2, ())) (fun _ => rfl))
def cv54 : Cv (List (U (ElOf els))) (List Int) := (cIso (cCons (uArr 192) cNil) (fun p => p.1) (fun s => (s, ())) (fun _ => rfl))
def cv55 : Cv (List (U (ElOf els))) (Int × Int) := (cIso (cCons (uOne (cInt .u32)) (cCons (uOne (cInt .i64)) cNil)) (fun p => (p.1, p.2.1)) (fun s => (s.1, s.2, ())) (fun _ => rfl))
def cv56 : Cv (List (U (ElOf els))) ((List Int) × ByteArray) := (cIso (cCons (uArr 192) (cCons (uOne cStr) cNil)) (fun p => (p.1, p.2.1)) (fun s => (s.1, s.2, ())) (fun _ => rfl))
def cSFields : Cv (List (L (ElOf els))) SFields := cIso (cCons cStr (cCons (cInt .i64) (cCons cBool cNil))) (fun p => ⟨p.1, p.2.1, p.2.2.1⟩) (fun s => (s.fText, s.fAt, s.fBad, ())) (fun _ => rfl)
def cv57 : Cv (List (U (ElOf els))) SFields := (cIso (cCons (uAgg cSFields) cNil) (fun p => p.1) (fun s => (s, ())) (fun _ => rfl))
def cv58 : Cv (List (U (ElOf els))) (Int × SFields) := (cIso (cCons (uOne (cInt .i64)) (cCons (uAgg cSFields) cNil)) (fun p => (p.1, p.2.1)) (fun s => (s.1, s.2, ())) (fun _ => rfl))
def cv59 : Cv (List (U (ElOf els))) (ByteArray × Int × Bool) := (cIso (cCons (uOne cStr) (cCons (uOne (cInt .i64)) (cCons (uOne cBool) cNil))) (fun p => (p.1, p.2.1, p.2.2.1)) (fun s => (s.1, s.2.1, s.2.2, ())) (fun _ => rfl))
def cv60 : Cv (List (U (ElOf els))) (ByteArray × SFields) := (cIso (cCons (uOne cStr) (cCons (uAgg cSFields) cNil)) (fun p => (p.1, p.2.1)) (fun s => (s.1, s.2, ())) (fun _ => rfl))
def cv61 : Cv (List (U (ElOf els))) (SBook × SThing) := (cIso (cCons (uAgg cSBookF28) (cCons (uAgg cSThing) cNil)) (fun p => (p.1, p.2.1)) (fun s => (s.1, s.2, ())) (fun _ => rfl))
def cv62 : Cv (List (U (ElOf els))) (Bool × SBook) := (cIso (cCons (uOne cBool) (cCons (uAgg cSBookF28) cNil)) (fun p => (p.1, p.2.1)) (fun s => (s.1, s.2, ())) (fun _ => rfl))
def cv63 : Cv (List (U (ElOf els))) ((List SThing) × (List SThing)) := (cIso (cCons (uOne (cRsl 138)) (cCons (uOne (cRsl 138)) cNil)) (fun p => (p.1, p.2.1)) (fun s => (s.1, s.2, ())) (fun _ => rfl))
def cv64 : Cv (List (U (ElOf els))) (SBook × SBook) := (cIso (cCons (uAgg cSBook28) (cCons (uAgg cSBook28) cNil)) (fun p => (p.1, p.2.1)) (fun s => (s.1, s.2, ())) (fun _ => rfl))
def cSAct : Cv (List (L (ElOf els))) SAct := cIso (cCons (cInt .i64) (cCons cStr (cCons cStr (cCons cStr cNil)))) (fun p => ⟨p.1, p.2.1, p.2.2.1, p.2.2.2.1⟩) (fun s => (s.fKind, s.fName, s.fText, s.fTo, ())) (fun _ => rfl)
def cv65 : Cv (List (U (ElOf els))) (SAct × SAct) := (cIso (cCons (uAgg cSAct) (cCons (uAgg cSAct) cNil)) (fun p => (p.1, p.2.1)) (fun s => (s.1, s.2, ())) (fun _ => rfl))
def cv66 : Cv (List (U (ElOf els))) ((List SAct) × (List SAct)) := (cIso (cCons (uOne (cRsl 88)) (cCons (uOne (cRsl 88)) cNil)) (fun p => (p.1, p.2.1)) (fun s => (s.1, s.2, ())) (fun _ => rfl))
def cv67 : Cv (List (U (ElOf els))) (SFile × SFile) := (cIso (cCons (uAgg cSFile) (cCons (uAgg cSFile) cNil)) (fun p => (p.1, p.2.1)) (fun s => (s.1, s.2, ())) (fun _ => rfl))
def cv68 : Cv (List (U (ElOf els))) ((List SFile) × (List SFile)) := (cIso (cCons (uOne (cRsl 132)) (cCons (uOne (cRsl 132)) cNil)) (fun p => (p.1, p.2.1)) (fun s => (s.1, s.2, ())) (fun _ => rfl))
def cv69 : Cv (List (U (ElOf els))) (SDisk × SDisk) := (cIso (cCons (uAgg cSDisk34) (cCons (uAgg cSDisk34) cNil)) (fun p => (p.1, p.2.1)) (fun s => (s.1, s.2, ())) (fun _ => rfl))
def cv70 : Cv (List (U (ElOf els))) ((List SFile) × Int) := (cIso (cCons (uOne (cFsl 132)) (cCons (uOne (cInt .i64)) cNil)) (fun p => (p.1, p.2.1)) (fun s => (s.1, s.2, ())) (fun _ => rfl))
def cv71 : Cv (List (U (ElOf els))) (Int × (List SFile)) := (cIso (cCons (uOne (cInt .i64)) (cCons (uAgg (cIso (cCons (cFsl 132) cNil) (fun p => p.1) (fun s => (s, ())) (fun _ => rfl))) cNil)) (fun p => (p.1, p.2.1)) (fun s => (s.1, s.2, ())) (fun _ => rfl))
def cv72 : Cv (List (U (ElOf els))) (SDisk × Int) := (cIso (cCons (uAgg cSDiskF34) (cCons (uOne (cInt .i64)) cNil)) (fun p => (p.1, p.2.1)) (fun s => (s.1, s.2, ())) (fun _ => rfl))
def cv73 : Cv (List (U (ElOf els))) ((List SThing) × Int) := (cIso (cCons (uOne (cFsl 138)) (cCons (uOne (cInt .i64)) cNil)) (fun p => (p.1, p.2.1)) (fun s => (s.1, s.2, ())) (fun _ => rfl))
def cv74 : Cv (List (U (ElOf els))) (Int × (List SThing)) := (cIso (cCons (uOne (cInt .i64)) (cCons (uAgg (cIso (cCons (cFsl 138) cNil) (fun p => p.1) (fun s => (s, ())) (fun _ => rfl))) cNil)) (fun p => (p.1, p.2.1)) (fun s => (s.1, s.2, ())) (fun _ => rfl))
def cv75 : Cv (List (U (ElOf els))) (SBook × Int) := (cIso (cCons (uAgg cSBookF28) (cCons (uOne (cInt .i64)) cNil)) (fun p => (p.1, p.2.1)) (fun s => (s.1, s.2, ())) (fun _ => rfl))
def cv76 : Cv (List (U (ElOf els))) (Int × (List SThing)) := (cIso (cCons (uOne (cInt .i64)) (cCons (uAgg (cIso (cCons cJunk (cCons cJunk (cCons (cFsl 138) (cCons cJunk (cCons cJunk (cCons cJunk cNil)))))) (fun p => p.2.2.1) (fun s => ((), (), s, (), (), (), ())) (fun _ => rfl))) cNil)) (fun p => (p.1, p.2.1)) (fun s => (s.1, s.2, ())) (fun _ => rfl))
def cv77 : Cv (List (U (ElOf els))) ((List SAct) × Int) := (cIso (cCons (uOne (cFsl 88)) (cCons (uOne (cInt .i64)) cNil)) (fun p => (p.1, p.2.1)) (fun s => (s.1, s.2, ())) (fun _ => rfl))
def cv78 : Cv (List (U (ElOf els))) (Int × (List SAct)) := (cIso (cCons (uOne (cInt .i64)) (cCons (uAgg (cIso (cCons (cFsl 88) cNil) (fun p => p.1) (fun s => (s, ())) (fun _ => rfl))) cNil)) (fun p => (p.1, p.2.1)) (fun s => (s.1, s.2, ())) (fun _ => rfl))
def cv79 : Cv (List (U (ElOf els))) ((List SThing) × Int) := (cIso (cCons (uOne (cRsl 138)) (cCons (uOne (cInt .i64)) cNil)) (fun p => (p.1, p.2.1)) (fun s => (s.1, s.2, ())) (fun _ => rfl))
def cv80 : Cv (List (U (ElOf els))) ((List SAct) × Int) := (cIso (cCons (uOne (cRsl 88)) (cCons (uOne (cInt .i64)) cNil)) (fun p => (p.1, p.2.1)) (fun s => (s.1, s.2, ())) (fun _ => rfl))
def cv81 : Cv (List (U (ElOf els))) (ByteArray × SDisk) := (cIso (cCons (uOne cStr) (cCons (uAgg cSDisk24) cNil)) (fun p => (p.1, p.2.1)) (fun s => (s.1, s.2, ())) (fun _ => rfl))
def cv82 : Cv (List (U (ElOf els))) (SThing × Int) := (cIso (cCons (uAgg cSThing) (cCons (uOne (cInt .i64)) cNil)) (fun p => (p.1, p.2.1)) (fun s => (s.1, s.2, ())) (fun _ => rfl))
def cv83 : Cv (List (U (ElOf els))) ((List SThing) × Int) := (cIso (cCons (uOne (cRsl 166)) (cCons (uOne (cInt .i64)) cNil)) (fun p => (p.1, p.2.1)) (fun s => (s.1, s.2, ())) (fun _ => rfl))
def cSBook45 : Cv (List (L (ElOf els))) SBook := cIso (cCons cStr (cCons (cInt .i64) (cCons (cRsl 166) (cCons (cInt .i64) (cCons cStr (cCons (cInt .i64) cNil)))))) (fun p => ⟨p.1, p.2.1, p.2.2.1, p.2.2.2.1, p.2.2.2.2.1, p.2.2.2.2.2.1⟩) (fun s => (s.fWord, s.fTries, s.fThings, s.fLast, s.fChain, s.fCount, ())) (fun _ => rfl)
def cv84 : Cv (List (U (ElOf els))) (SBook × Int) := (cIso (cCons (uAgg cSBook45) (cCons (uOne (cInt .i64)) cNil)) (fun p => (p.1, p.2.1)) (fun s => (s.1, s.2, ())) (fun _ => rfl))
def cv85 : Cv (List (U (ElOf els))) ((List SSession) × Int) := (cIso (cCons (uOne (cRsl 160)) (cCons (uOne (cInt .i64)) cNil)) (fun p => (p.1, p.2.1)) (fun s => (s.1, s.2, ())) (fun _ => rfl))
def cv86 : Cv (List (U (ElOf els))) ((List SLive) × Int) := (cIso (cCons (uOne (cRsl 162)) (cCons (uOne (cInt .i64)) cNil)) (fun p => (p.1, p.2.1)) (fun s => (s.1, s.2, ())) (fun _ => rfl))
def cSBox49 : Cv (List (L (ElOf els))) SBox := cIso (cCons cStr (cCons cBool (cCons (cRsl 131) (cCons cStr (cCons (cInt .i64) (cCons (cRsl 166) (cCons (cInt .i64) (cCons cStr (cCons (cInt .i64) (cCons (cRsl 160) (cCons (cRsl 162) (cCons (cInt .i64) cNil)))))))))))) (fun p => ⟨p.1, p.2.1, ⟨p.2.2.1⟩, ⟨p.2.2.2.1, p.2.2.2.2.1, p.2.2.2.2.2.1, p.2.2.2.2.2.2.1, p.2.2.2.2.2.2.2.1, p.2.2.2.2.2.2.2.2.1⟩, p.2.2.2.2.2.2.2.2.2.1, p.2.2.2.2.2.2.2.2.2.2.1, p.2.2.2.2.2.2.2.2.2.2.2.1⟩) (fun s => (s.fKey, s.fUp, s.fDisk.fFiles, s.fBook.fWord, s.fBook.fTries, s.fBook.fThings, s.fBook.fLast, s.fBook.fChain, s.fBook.fCount, s.fSessions, s.fLives, s.fOpened, ())) (fun _ => rfl)
def cv87 : Cv (List (U (ElOf els))) (SBox × Int) := (cIso (cCons (uAgg cSBox49) (cCons (uOne (cInt .i64)) cNil)) (fun p => (p.1, p.2.1)) (fun s => (s.1, s.2, ())) (fun _ => rfl))
def cv88 : Cv (List (U (ElOf els))) (List SThing) := (cIso (cCons (uOne (cRsl 166)) cNil) (fun p => p.1) (fun s => (s, ())) (fun _ => rfl))
def cv89 : Cv (List (U (ElOf els))) SBook := (cIso (cCons (uAgg cSBook45) cNil) (fun p => p.1) (fun s => (s, ())) (fun _ => rfl))
def cSSession : Cv (List (L (ElOf els))) SSession := cIso (cCons (cInt .i64) (cCons cBool cNil)) (fun p => ⟨p.1, p.2.1⟩) (fun s => (s.fId, s.fIn, ())) (fun _ => rfl)
def cv90 : Cv (List (U (ElOf els))) SSession := (cIso (cCons (uAgg cSSession) cNil) (fun p => p.1) (fun s => (s, ())) (fun _ => rfl))
def cv91 : Cv (List (U (ElOf els))) (List SSession) := (cIso (cCons (uOne (cRsl 160)) cNil) (fun p => p.1) (fun s => (s, ())) (fun _ => rfl))
def cv92 : Cv (List (U (ElOf els))) (List SSession) := (cIso (cCons (uOne (cFsl 101)) cNil) (fun p => p.1) (fun s => (s, ())) (fun _ => rfl))
def cSLive : Cv (List (L (ElOf els))) SLive := cIso (cCons (cInt .i64) (cCons (cInt .i64) cNil)) (fun p => ⟨p.1, p.2.1⟩) (fun s => (s.fId, s.fNext, ())) (fun _ => rfl)
def cv93 : Cv (List (U (ElOf els))) SLive := (cIso (cCons (uAgg cSLive) cNil) (fun p => p.1) (fun s => (s, ())) (fun _ => rfl))
def cv94 : Cv (List (U (ElOf els))) (List SLive) := (cIso (cCons (uOne (cRsl 162)) cNil) (fun p => p.1) (fun s => (s, ())) (fun _ => rfl))
def cv95 : Cv (List (U (ElOf els))) (List SLive) := (cIso (cCons (uOne (cFsl 157)) cNil) (fun p => p.1) (fun s => (s, ())) (fun _ => rfl))
def cSBoxF55 : Cv (List (L (ElOf els))) SBox := cIso (cCons cStr (cCons cBool (cCons (cFsl 132) (cCons cStr (cCons (cInt .i64) (cCons (cFsl 138) (cCons (cInt .i64) (cCons cStr (cCons (cInt .i64) (cCons (cFsl 101) (cCons (cFsl 157) (cCons (cInt .i64) cNil)))))))))))) (fun p => ⟨p.1, p.2.1, ⟨p.2.2.1⟩, ⟨p.2.2.2.1, p.2.2.2.2.1, p.2.2.2.2.2.1, p.2.2.2.2.2.2.1, p.2.2.2.2.2.2.2.1, p.2.2.2.2.2.2.2.2.1⟩, p.2.2.2.2.2.2.2.2.2.1, p.2.2.2.2.2.2.2.2.2.2.1, p.2.2.2.2.2.2.2.2.2.2.2.1⟩) (fun s => (s.fKey, s.fUp, s.fDisk.fFiles, s.fBook.fWord, s.fBook.fTries, s.fBook.fThings, s.fBook.fLast, s.fBook.fChain, s.fBook.fCount, s.fSessions, s.fLives, s.fOpened, ())) (fun _ => rfl)
def cv96 : Cv (List (U (ElOf els))) SBox := (cIso (cCons (uAgg cSBox49) cNil) (fun p => p.1) (fun s => (s, ())) (fun _ => rfl))
def cv97 : Cv (List (U (ElOf els))) SBox := (cIso (cCons (uAgg cSBoxF55) cNil) (fun p => p.1) (fun s => (s, ())) (fun _ => rfl))
def cSBox55 : Cv (List (L (ElOf els))) SBox := cIso (cCons cStr (cCons cBool (cCons (cRsl 132) (cCons cStr (cCons (cInt .i64) (cCons (cRsl 138) (cCons (cInt .i64) (cCons cStr (cCons (cInt .i64) (cCons (cRsl 101) (cCons (cRsl 157) (cCons (cInt .i64) cNil)))))))))))) (fun p => ⟨p.1, p.2.1, ⟨p.2.2.1⟩, ⟨p.2.2.2.1, p.2.2.2.2.1, p.2.2.2.2.2.1, p.2.2.2.2.2.2.1, p.2.2.2.2.2.2.2.1, p.2.2.2.2.2.2.2.2.1⟩, p.2.2.2.2.2.2.2.2.2.1, p.2.2.2.2.2.2.2.2.2.2.1, p.2.2.2.2.2.2.2.2.2.2.2.1⟩) (fun s => (s.fKey, s.fUp, s.fDisk.fFiles, s.fBook.fWord, s.fBook.fTries, s.fBook.fThings, s.fBook.fLast, s.fBook.fChain, s.fBook.fCount, s.fSessions, s.fLives, s.fOpened, ())) (fun _ => rfl)
def cv98 : Cv (List (U (ElOf els))) SBox := (cIso (cCons (uAgg cSBox55) cNil) (fun p => p.1) (fun s => (s, ())) (fun _ => rfl))
def cv99 : Cv (List (U (ElOf els))) (SSession × SSession) := (cIso (cCons (uAgg cSSession) (cCons (uAgg cSSession) cNil)) (fun p => (p.1, p.2.1)) (fun s => (s.1, s.2, ())) (fun _ => rfl))
def cv100 : Cv (List (U (ElOf els))) ((List SSession) × (List SSession)) := (cIso (cCons (uOne (cRsl 101)) (cCons (uOne (cRsl 101)) cNil)) (fun p => (p.1, p.2.1)) (fun s => (s.1, s.2, ())) (fun _ => rfl))
def cv101 : Cv (List (U (ElOf els))) (SLive × SLive) := (cIso (cCons (uAgg cSLive) (cCons (uAgg cSLive) cNil)) (fun p => (p.1, p.2.1)) (fun s => (s.1, s.2, ())) (fun _ => rfl))
def cv102 : Cv (List (U (ElOf els))) ((List SLive) × (List SLive)) := (cIso (cCons (uOne (cRsl 157)) (cCons (uOne (cRsl 157)) cNil)) (fun p => (p.1, p.2.1)) (fun s => (s.1, s.2, ())) (fun _ => rfl))
def cv103 : Cv (List (U (ElOf els))) (SBox × SBox) := (cIso (cCons (uAgg cSBox55) (cCons (uAgg cSBox55) cNil)) (fun p => (p.1, p.2.1)) (fun s => (s.1, s.2, ())) (fun _ => rfl))
def cv104 : Cv (List (U (ElOf els))) ((List Int) × Int) := (cIso (cCons (uOne (cRsl 3)) (cCons (uOne (cInt .i64)) cNil)) (fun p => (p.1, p.2.1)) (fun s => (s.1, s.2, ())) (fun _ => rfl))
def cv105 : Cv (List (U (ElOf els))) ((List ByteArray) × Int) := (cIso (cCons (uOne (cRsl 9)) (cCons (uOne (cInt .i64)) cNil)) (fun p => (p.1, p.2.1)) (fun s => (s.1, s.2, ())) (fun _ => rfl))
def cv106 : Cv (List (U (ElOf els))) ((List SGiven) × Int) := (cIso (cCons (uOne (cRsl 170)) (cCons (uOne (cInt .i64)) cNil)) (fun p => (p.1, p.2.1)) (fun s => (s.1, s.2, ())) (fun _ => rfl))
def cv107 : Cv (List (U (ElOf els))) (SRec × Int) := (cIso (cCons (uAgg cSRec) (cCons (uOne (cInt .i64)) cNil)) (fun p => (p.1, p.2.1)) (fun s => (s.1, s.2, ())) (fun _ => rfl))
def cv108 : Cv (List (U (ElOf els))) ((List SRec) × Int) := (cIso (cCons (uOne (cRsl 168)) (cCons (uOne (cInt .i64)) cNil)) (fun p => (p.1, p.2.1)) (fun s => (s.1, s.2, ())) (fun _ => rfl))
def cSLife64 : Cv (List (L (ElOf els))) SLife := cIso (cCons cStr (cCons cBool (cCons (cRsl 131) (cCons cStr (cCons (cInt .i64) (cCons (cRsl 166) (cCons (cInt .i64) (cCons cStr (cCons (cInt .i64) (cCons (cRsl 160) (cCons (cRsl 162) (cCons (cInt .i64) (cCons (cRsl 3) (cCons (cRsl 9) (cCons (cRsl 170) (cCons (cRsl 168) cNil)))))))))))))))) (fun p => ⟨⟨p.1, p.2.1, ⟨p.2.2.1⟩, ⟨p.2.2.2.1, p.2.2.2.2.1, p.2.2.2.2.2.1, p.2.2.2.2.2.2.1, p.2.2.2.2.2.2.2.1, p.2.2.2.2.2.2.2.2.1⟩, p.2.2.2.2.2.2.2.2.2.1, p.2.2.2.2.2.2.2.2.2.2.1, p.2.2.2.2.2.2.2.2.2.2.2.1⟩, p.2.2.2.2.2.2.2.2.2.2.2.2.1, p.2.2.2.2.2.2.2.2.2.2.2.2.2.1, p.2.2.2.2.2.2.2.2.2.2.2.2.2.2.1, p.2.2.2.2.2.2.2.2.2.2.2.2.2.2.2.1⟩) (fun s => (s.fBox.fKey, s.fBox.fUp, s.fBox.fDisk.fFiles, s.fBox.fBook.fWord, s.fBox.fBook.fTries, s.fBox.fBook.fThings, s.fBox.fBook.fLast, s.fBox.fBook.fChain, s.fBox.fBook.fCount, s.fBox.fSessions, s.fBox.fLives, s.fBox.fOpened, s.fCodes, s.fReplies, s.fGives, s.fDone, ())) (fun _ => rfl)
def cv109 : Cv (List (U (ElOf els))) (SLife × Int) := (cIso (cCons (uAgg cSLife64) (cCons (uOne (cInt .i64)) cNil)) (fun p => (p.1, p.2.1)) (fun s => (s.1, s.2, ())) (fun _ => rfl))
def cv110 : Cv (List (U (ElOf els))) (List Int) := (cIso (cCons (uOne (cRsl 3)) cNil) (fun p => p.1) (fun s => (s, ())) (fun _ => rfl))
def cv111 : Cv (List (U (ElOf els))) (List Int) := (cIso (cCons (uOne (cFsl 3)) cNil) (fun p => p.1) (fun s => (s, ())) (fun _ => rfl))
def cv112 : Cv (List (U (ElOf els))) (List ByteArray) := (cIso (cCons (uOne (cRsl 9)) cNil) (fun p => p.1) (fun s => (s, ())) (fun _ => rfl))
def cv113 : Cv (List (U (ElOf els))) (List ByteArray) := (cIso (cCons (uOne (cFsl 9)) cNil) (fun p => p.1) (fun s => (s, ())) (fun _ => rfl))
def cSGiven : Cv (List (L (ElOf els))) SGiven := cIso (cCons (cInt .i64) (cCons (cInt .i64) (cCons (cInt .i64) cNil))) (fun p => ⟨p.1, p.2.1, p.2.2.1⟩) (fun s => (s.fThing, s.fLeaf, s.fWhen, ())) (fun _ => rfl)
def cv114 : Cv (List (U (ElOf els))) SGiven := (cIso (cCons (uAgg cSGiven) cNil) (fun p => p.1) (fun s => (s, ())) (fun _ => rfl))
def cv115 : Cv (List (U (ElOf els))) (List SGiven) := (cIso (cCons (uOne (cRsl 170)) cNil) (fun p => p.1) (fun s => (s, ())) (fun _ => rfl))
def cv116 : Cv (List (U (ElOf els))) (List SGiven) := (cIso (cCons (uOne (cFsl 125)) cNil) (fun p => p.1) (fun s => (s, ())) (fun _ => rfl))
def cv117 : Cv (List (U (ElOf els))) (List SRec) := (cIso (cCons (uOne (cRsl 168)) cNil) (fun p => p.1) (fun s => (s, ())) (fun _ => rfl))
def cv118 : Cv (List (U (ElOf els))) (List SRec) := (cIso (cCons (uOne (cFsl 140)) cNil) (fun p => p.1) (fun s => (s, ())) (fun _ => rfl))
def cSLifeF70 : Cv (List (L (ElOf els))) SLife := cIso (cCons cStr (cCons cBool (cCons (cFsl 132) (cCons cStr (cCons (cInt .i64) (cCons (cFsl 138) (cCons (cInt .i64) (cCons cStr (cCons (cInt .i64) (cCons (cFsl 101) (cCons (cFsl 157) (cCons (cInt .i64) (cCons (cFsl 3) (cCons (cFsl 9) (cCons (cFsl 125) (cCons (cFsl 140) cNil)))))))))))))))) (fun p => ⟨⟨p.1, p.2.1, ⟨p.2.2.1⟩, ⟨p.2.2.2.1, p.2.2.2.2.1, p.2.2.2.2.2.1, p.2.2.2.2.2.2.1, p.2.2.2.2.2.2.2.1, p.2.2.2.2.2.2.2.2.1⟩, p.2.2.2.2.2.2.2.2.2.1, p.2.2.2.2.2.2.2.2.2.2.1, p.2.2.2.2.2.2.2.2.2.2.2.1⟩, p.2.2.2.2.2.2.2.2.2.2.2.2.1, p.2.2.2.2.2.2.2.2.2.2.2.2.2.1, p.2.2.2.2.2.2.2.2.2.2.2.2.2.2.1, p.2.2.2.2.2.2.2.2.2.2.2.2.2.2.2.1⟩) (fun s => (s.fBox.fKey, s.fBox.fUp, s.fBox.fDisk.fFiles, s.fBox.fBook.fWord, s.fBox.fBook.fTries, s.fBox.fBook.fThings, s.fBox.fBook.fLast, s.fBox.fBook.fChain, s.fBox.fBook.fCount, s.fBox.fSessions, s.fBox.fLives, s.fBox.fOpened, s.fCodes, s.fReplies, s.fGives, s.fDone, ())) (fun _ => rfl)
def cv119 : Cv (List (U (ElOf els))) SLife := (cIso (cCons (uAgg cSLife64) cNil) (fun p => p.1) (fun s => (s, ())) (fun _ => rfl))
def cv120 : Cv (List (U (ElOf els))) SLife := (cIso (cCons (uAgg cSLifeF70) cNil) (fun p => p.1) (fun s => (s, ())) (fun _ => rfl))
def cSLife70 : Cv (List (L (ElOf els))) SLife := cIso (cCons cStr (cCons cBool (cCons (cRsl 132) (cCons cStr (cCons (cInt .i64) (cCons (cRsl 138) (cCons (cInt .i64) (cCons cStr (cCons (cInt .i64) (cCons (cRsl 101) (cCons (cRsl 157) (cCons (cInt .i64) (cCons (cRsl 3) (cCons (cRsl 9) (cCons (cRsl 125) (cCons (cRsl 140) cNil)))))))))))))))) (fun p => ⟨⟨p.1, p.2.1, ⟨p.2.2.1⟩, ⟨p.2.2.2.1, p.2.2.2.2.1, p.2.2.2.2.2.1, p.2.2.2.2.2.2.1, p.2.2.2.2.2.2.2.1, p.2.2.2.2.2.2.2.2.1⟩, p.2.2.2.2.2.2.2.2.2.1, p.2.2.2.2.2.2.2.2.2.2.1, p.2.2.2.2.2.2.2.2.2.2.2.1⟩, p.2.2.2.2.2.2.2.2.2.2.2.2.1, p.2.2.2.2.2.2.2.2.2.2.2.2.2.1, p.2.2.2.2.2.2.2.2.2.2.2.2.2.2.1, p.2.2.2.2.2.2.2.2.2.2.2.2.2.2.2.1⟩) (fun s => (s.fBox.fKey, s.fBox.fUp, s.fBox.fDisk.fFiles, s.fBox.fBook.fWord, s.fBox.fBook.fTries, s.fBox.fBook.fThings, s.fBox.fBook.fLast, s.fBox.fBook.fChain, s.fBox.fBook.fCount, s.fBox.fSessions, s.fBox.fLives, s.fBox.fOpened, s.fCodes, s.fReplies, s.fGives, s.fDone, ())) (fun _ => rfl)
def cv121 : Cv (List (U (ElOf els))) SLife := (cIso (cCons (uAgg cSLife70) cNil) (fun p => p.1) (fun s => (s, ())) (fun _ => rfl))
def cv122 : Cv (List (U (ElOf els))) ((List Int) × (List Int)) := (cIso (cCons (uOne (cRsl 3)) (cCons (uOne (cRsl 3)) cNil)) (fun p => (p.1, p.2.1)) (fun s => (s.1, s.2, ())) (fun _ => rfl))
def cv123 : Cv (List (U (ElOf els))) ((List ByteArray) × (List ByteArray)) := (cIso (cCons (uOne (cRsl 9)) (cCons (uOne (cRsl 9)) cNil)) (fun p => (p.1, p.2.1)) (fun s => (s.1, s.2, ())) (fun _ => rfl))
def cv124 : Cv (List (U (ElOf els))) (SGiven × SGiven) := (cIso (cCons (uAgg cSGiven) (cCons (uAgg cSGiven) cNil)) (fun p => (p.1, p.2.1)) (fun s => (s.1, s.2, ())) (fun _ => rfl))
def cv125 : Cv (List (U (ElOf els))) ((List SGiven) × (List SGiven)) := (cIso (cCons (uOne (cRsl 125)) (cCons (uOne (cRsl 125)) cNil)) (fun p => (p.1, p.2.1)) (fun s => (s.1, s.2, ())) (fun _ => rfl))
def cv126 : Cv (List (U (ElOf els))) (SRec × SRec) := (cIso (cCons (uAgg cSRec) (cCons (uAgg cSRec) cNil)) (fun p => (p.1, p.2.1)) (fun s => (s.1, s.2, ())) (fun _ => rfl))
def cv127 : Cv (List (U (ElOf els))) ((List SRec) × (List SRec)) := (cIso (cCons (uOne (cRsl 140)) (cCons (uOne (cRsl 140)) cNil)) (fun p => (p.1, p.2.1)) (fun s => (s.1, s.2, ())) (fun _ => rfl))
def cv128 : Cv (List (U (ElOf els))) (SLife × SLife) := (cIso (cCons (uAgg cSLife70) (cCons (uAgg cSLife70) cNil)) (fun p => (p.1, p.2.1)) (fun s => (s.1, s.2, ())) (fun _ => rfl))
def cv129 : Cv (List (U (ElOf els))) (SDisk × SFile) := (cIso (cCons (uAgg cSDisk34) (cCons (uAgg cSFile) cNil)) (fun p => (p.1, p.2.1)) (fun s => (s.1, s.2, ())) (fun _ => rfl))
def cv130 : Cv (List (U (ElOf els))) (SDisk × SAct) := (cIso (cCons (uAgg cSDisk34) (cCons (uAgg cSAct) cNil)) (fun p => (p.1, p.2.1)) (fun s => (s.1, s.2, ())) (fun _ => rfl))
def cv131 : Cv (List (U (ElOf els))) (SDisk × Bool) := (cIso (cCons (uAgg cSDiskF34) (cCons (uOne cBool) cNil)) (fun p => (p.1, p.2.1)) (fun s => (s.1, s.2, ())) (fun _ => rfl))
def cv132 : Cv (List (U (ElOf els))) (SDisk × (List SAct)) := (cIso (cCons (uAgg cSDisk34) (cCons (uOne (cRsl 88)) cNil)) (fun p => (p.1, p.2.1)) (fun s => (s.1, s.2, ())) (fun _ => rfl))
def cv133 : Cv (List (U (ElOf els))) (SBox × Bool) := (cIso (cCons (uAgg cSBoxF55) (cCons (uOne cBool) cNil)) (fun p => (p.1, p.2.1)) (fun s => (s.1, s.2, ())) (fun _ => rfl))
def cv134 : Cv (List (U (ElOf els))) (SDisk × ByteArray) := (cIso (cCons (uAgg cSDiskF34) (cCons (uOne cStr) cNil)) (fun p => (p.1, p.2.1)) (fun s => (s.1, s.2, ())) (fun _ => rfl))
def cv135 : Cv (List (U (ElOf els))) (SDisk × SFile) := (cIso (cCons (uAgg cSDiskF34) (cCons (uAgg cSFile) cNil)) (fun p => (p.1, p.2.1)) (fun s => (s.1, s.2, ())) (fun _ => rfl))
def cv136 : Cv (List (U (ElOf els))) ((List SSession) × Int) := (cIso (cCons (uOne (cFsl 101)) (cCons (uOne (cInt .i64)) cNil)) (fun p => (p.1, p.2.1)) (fun s => (s.1, s.2, ())) (fun _ => rfl))
def cv137 : Cv (List (U (ElOf els))) (Int × (List SSession)) := (cIso (cCons (uOne (cInt .i64)) (cCons (uAgg (cIso (cCons (cFsl 101) cNil) (fun p => p.1) (fun s => (s, ())) (fun _ => rfl))) cNil)) (fun p => (p.1, p.2.1)) (fun s => (s.1, s.2, ())) (fun _ => rfl))
def cv138 : Cv (List (U (ElOf els))) ((List SLive) × Int) := (cIso (cCons (uOne (cFsl 157)) (cCons (uOne (cInt .i64)) cNil)) (fun p => (p.1, p.2.1)) (fun s => (s.1, s.2, ())) (fun _ => rfl))
def cv139 : Cv (List (U (ElOf els))) (Int × (List SLive)) := (cIso (cCons (uOne (cInt .i64)) (cCons (uAgg (cIso (cCons (cFsl 157) cNil) (fun p => p.1) (fun s => (s, ())) (fun _ => rfl))) cNil)) (fun p => (p.1, p.2.1)) (fun s => (s.1, s.2, ())) (fun _ => rfl))
def cv140 : Cv (List (U (ElOf els))) (SBox × Int) := (cIso (cCons (uAgg cSBoxF55) (cCons (uOne (cInt .i64)) cNil)) (fun p => (p.1, p.2.1)) (fun s => (s.1, s.2, ())) (fun _ => rfl))
def cv141 : Cv (List (U (ElOf els))) (Int × ((List SFile) × (List SThing) × (List SSession) × (List SLive))) := (cIso (cCons (uOne (cInt .i64)) (cCons (uAgg (cIso (cCons cJunk (cCons cJunk (cCons (cFsl 132) (cCons cJunk (cCons cJunk (cCons (cFsl 138) (cCons cJunk (cCons cJunk (cCons cJunk (cCons (cFsl 101) (cCons (cFsl 157) (cCons cJunk cNil)))))))))))) (fun p => (p.2.2.1, p.2.2.2.2.2.1, p.2.2.2.2.2.2.2.2.2.1, p.2.2.2.2.2.2.2.2.2.2.1)) (fun s => ((), (), s.1, (), (), s.2.1, (), (), (), s.2.2.1, s.2.2.2, (), ())) (fun _ => rfl))) cNil)) (fun p => (p.1, p.2.1)) (fun s => (s.1, s.2, ())) (fun _ => rfl))
def cv142 : Cv (List (U (ElOf els))) ((List SFile) × Int) := (cIso (cCons (uOne (cRsl 132)) (cCons (uOne (cInt .i64)) cNil)) (fun p => (p.1, p.2.1)) (fun s => (s.1, s.2, ())) (fun _ => rfl))
def cv143 : Cv (List (U (ElOf els))) (SDisk × Int) := (cIso (cCons (uAgg cSDisk34) (cCons (uOne (cInt .i64)) cNil)) (fun p => (p.1, p.2.1)) (fun s => (s.1, s.2, ())) (fun _ => rfl))
def cv144 : Cv (List (U (ElOf els))) ((List SSession) × Int) := (cIso (cCons (uOne (cRsl 101)) (cCons (uOne (cInt .i64)) cNil)) (fun p => (p.1, p.2.1)) (fun s => (s.1, s.2, ())) (fun _ => rfl))
def cv145 : Cv (List (U (ElOf els))) ((List SLive) × Int) := (cIso (cCons (uOne (cRsl 157)) (cCons (uOne (cInt .i64)) cNil)) (fun p => (p.1, p.2.1)) (fun s => (s.1, s.2, ())) (fun _ => rfl))
def cv146 : Cv (List (U (ElOf els))) (SBox × Int) := (cIso (cCons (uAgg cSBox55) (cCons (uOne (cInt .i64)) cNil)) (fun p => (p.1, p.2.1)) (fun s => (s.1, s.2, ())) (fun _ => rfl))
def cv147 : Cv (List (U (ElOf els))) ((List SRec) × Int) := (cIso (cCons (uOne (cRsl 140)) (cCons (uOne (cInt .i64)) cNil)) (fun p => (p.1, p.2.1)) (fun s => (s.1, s.2, ())) (fun _ => rfl))
def cv148 : Cv (List (U (ElOf els))) (List SGiven) := (cIso (cCons (uOne (cRsl 125)) cNil) (fun p => p.1) (fun s => (s, ())) (fun _ => rfl))
def cv149 : Cv (List (U (ElOf els))) (List SRec) := (cIso (cCons (uOne (cRsl 140)) cNil) (fun p => p.1) (fun s => (s, ())) (fun _ => rfl))
def cv150 : Cv (List (U (ElOf els))) ((List SGiven) × Int) := (cIso (cCons (uOne (cRsl 125)) (cCons (uOne (cInt .i64)) cNil)) (fun p => (p.1, p.2.1)) (fun s => (s.1, s.2, ())) (fun _ => rfl))
end Go.Proofs.YteabefphhanlfaaGreatDoor.G
