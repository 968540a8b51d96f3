/- The seat's tables: its types, what an element of each is, and what its functions do with what they are given. -/
import Derived.Test.YthfpmhalgimbbaaGreatDoorSnd38
import Derived.Test.YthfpmhalgimbbaaGreatDoorArr
import Derived.Test.YthfpmhalgimbbaaGreatDoorProg
import Derived.KernelRfl
namespace Go.Proofs.YthfpmhalgimbbaaGreatDoor.G
open Go Go.Ev
structure SFile where
  fName : ByteArray
  fText : ByteArray
  fKept : Int
structure SDisk where
  fFiles : (List SFile)
structure SThing where
  fId : Int
  fKind : Int
  fHidden : Bool
  fFixed : Bool
  fSigns : Bool
  fWraps : Bool
  fValue : ByteArray
  fNext : Int
structure SBook where
  fWord : ByteArray
  fTries : Int
  fThings : (List SThing)
  fLast : Int
  fChain : ByteArray
  fCount : Int
structure SSession where
  fId : Int
  fIn : Bool
structure SLive where
  fId : Int
  fNext : Int
structure SBox where
  fKey : ByteArray
  fUp : Bool
  fDisk : SDisk
  fBook : SBook
  fSessions : (List SSession)
  fLives : (List SLive)
  fOpened : Int
structure SGiven where
  fThing : Int
  fLeaf : Int
  fWhen : Int
structure SRec where
  fKind : Int
  fText : ByteArray
  fNum : Int
  fThing : SThing
structure SLife where
  fBox : SBox
  fCodes : (List Int)
  fReplies : (List ByteArray)
  fGives : (List SGiven)
  fDone : (List SRec)
structure SHasher where
  fState : ByteArray
  fRest : ByteArray
  fCount : Int
structure SAct where
  fKind : Int
  fName : ByteArray
  fText : ByteArray
  fTo : ByteArray
structure SL19Cur where
  fText : ByteArray
  fAt : Int
  fBad : Bool
structure SFields where
  fText : ByteArray
  fAt : Int
  fBad : Bool
def els : List (Nat × TyE) := [(3, ⟨Int, 0⟩), (4, ⟨Bool, false⟩), (5, ⟨Int, 0⟩), (9, ⟨ByteArray, ⟨#[]⟩⟩), (22, ⟨(List SFile), []⟩), (24, ⟨SDisk, ⟨[]⟩⟩), (25, ⟨(List SThing), []⟩), (27, ⟨SBook, ⟨⟨#[]⟩, 0, [], 0, ⟨#[]⟩, 0⟩⟩), (28, ⟨(List SSession), []⟩), (29, ⟨(List SLive), []⟩), (31, ⟨SBox, ⟨⟨#[]⟩, false, ⟨[]⟩, ⟨⟨#[]⟩, 0, [], 0, ⟨#[]⟩, 0⟩, [], [], 0⟩⟩), (37, ⟨(List SFile), []⟩), (39, ⟨SDisk, ⟨[]⟩⟩), (40, ⟨(List SThing), []⟩), (42, ⟨SBook, ⟨⟨#[]⟩, 0, [], 0, ⟨#[]⟩, 0⟩⟩), (43, ⟨(List SSession), []⟩), (44, ⟨(List SLive), []⟩), (46, ⟨SBox, ⟨⟨#[]⟩, false, ⟨[]⟩, ⟨⟨#[]⟩, 0, [], 0, ⟨#[]⟩, 0⟩, [], [], 0⟩⟩), (51, ⟨(List Int), []⟩), (52, ⟨(List ByteArray), []⟩), (53, ⟨(List SGiven), []⟩), (54, ⟨(List SRec), []⟩), (56, ⟨SLife, ⟨⟨⟨#[]⟩, false, ⟨[]⟩, ⟨⟨#[]⟩, 0, [], 0, ⟨#[]⟩, 0⟩, [], [], 0⟩, [], [], [], []⟩⟩), (59, ⟨(List SGiven), []⟩), (60, ⟨(List SRec), []⟩), (62, ⟨SLife, ⟨⟨⟨#[]⟩, false, ⟨[]⟩, ⟨⟨#[]⟩, 0, [], 0, ⟨#[]⟩, 0⟩, [], [], 0⟩, [], [], [], []⟩⟩), (69, ⟨SThing, ⟨0, 0, false, false, false, false, ⟨#[]⟩, 0⟩⟩), (71, ⟨SRec, ⟨0, ⟨#[]⟩, 0, ⟨0, 0, false, false, false, false, ⟨#[]⟩, 0⟩⟩⟩), (92, ⟨SSession, ⟨0, false⟩⟩), (93, ⟨(List SAct), []⟩), (117, ⟨SGiven, ⟨0, 0, 0⟩⟩), (123, ⟨SHasher, ⟨⟨#[]⟩, ⟨#[]⟩, 0⟩⟩), (137, ⟨Bool, false⟩), (138, ⟨Int, 0⟩), (139, ⟨Bools 8, boolsZ 8⟩), (149, ⟨SLive, ⟨0, 0⟩⟩), (155, ⟨SFile, ⟨⟨#[]⟩, ⟨#[]⟩, 0⟩⟩), (162, ⟨SAct, ⟨0, ⟨#[]⟩, ⟨#[]⟩, ⟨#[]⟩⟩⟩), (167, ⟨SSession, ⟨0, false⟩⟩), (169, ⟨SLive, ⟨0, 0⟩⟩), (171, ⟨SThing, ⟨0, 0, false, false, false, false, ⟨#[]⟩, 0⟩⟩), (173, ⟨SRec, ⟨0, ⟨#[]⟩, 0, ⟨0, 0, false, false, false, false, ⟨#[]⟩, 0⟩⟩⟩), (175, ⟨SGiven, ⟨0, 0, 0⟩⟩), (184, ⟨(List Int), []⟩), (185, ⟨(List Int), []⟩), (197, ⟨SFile, ⟨⟨#[]⟩, ⟨#[]⟩, 0⟩⟩), (216, ⟨Bool, false⟩), (217, ⟨Bools 64, boolsZ 64⟩), (220, ⟨Int, 0⟩), (223, ⟨Bool, false⟩), (225, ⟨SL19Cur, ⟨⟨#[]⟩, 0, false⟩⟩), (229, ⟨Bool, false⟩), (235, ⟨Bool, false⟩), (237, ⟨SFields, ⟨⟨#[]⟩, 0, false⟩⟩), (241, ⟨(List Bool), []⟩)]
def tis : List (Nat × TI) := [(3, ⟨1, 8, .int .i64⟩), (4, ⟨1, 1, .bool⟩), (5, ⟨1, 1, .int .u8⟩), (9, ⟨1, 16, .str⟩), (22, ⟨1, 24, .sl 155⟩), (24, ⟨1, 24, .st [(22, 0)]⟩), (25, ⟨1, 24, .sl 69⟩), (27, ⟨6, 80, .st [(9, 0), (3, 1), (25, 2), (3, 3), (9, 4), (3, 5)]⟩), (28, ⟨1, 24, .sl 92⟩), (29, ⟨1, 24, .sl 149⟩), (31, ⟨12, 184, .st [(9, 0), (4, 1), (24, 2), (27, 3), (28, 9), (29, 10), (3, 11)]⟩), (37, ⟨1, 24, .sl 197⟩), (39, ⟨1, 24, .st [(37, 0)]⟩), (40, ⟨1, 24, .sl 171⟩), (42, ⟨6, 80, .st [(9, 0), (3, 1), (40, 2), (3, 3), (9, 4), (3, 5)]⟩), (43, ⟨1, 24, .sl 167⟩), (44, ⟨1, 24, .sl 169⟩), (46, ⟨12, 184, .st [(9, 0), (4, 1), (39, 2), (42, 3), (43, 9), (44, 10), (3, 11)]⟩), (51, ⟨1, 24, .sl 3⟩), (52, ⟨1, 24, .sl 9⟩), (53, ⟨1, 24, .sl 175⟩), (54, ⟨1, 24, .sl 173⟩), (56, ⟨16, 280, .st [(46, 0), (51, 12), (52, 13), (53, 14), (54, 15)]⟩), (59, ⟨1, 24, .sl 117⟩), (60, ⟨1, 24, .sl 71⟩), (62, ⟨16, 280, .st [(31, 0), (51, 12), (52, 13), (59, 14), (60, 15)]⟩), (69, ⟨8, 48, .st [(3, 0), (3, 1), (4, 2), (4, 3), (4, 4), (4, 5), (9, 6), (3, 7)]⟩), (71, ⟨11, 80, .st [(3, 0), (9, 1), (3, 2), (69, 3)]⟩), (92, ⟨2, 16, .st [(3, 0), (4, 1)]⟩), (93, ⟨1, 24, .sl 162⟩), (117, ⟨3, 24, .st [(3, 0), (3, 1), (3, 2)]⟩), (123, ⟨3, 40, .st [(9, 0), (9, 1), (3, 2)]⟩), (137, ⟨1, 8, .ptr 31⟩), (138, ⟨1, 4, .int .u32⟩), (139, ⟨8, 32, .arr 8 138⟩), (149, ⟨2, 16, .st [(3, 0), (3, 1)]⟩), (155, ⟨3, 40, .st [(9, 0), (9, 1), (3, 2)]⟩), (162, ⟨4, 56, .st [(3, 0), (9, 1), (9, 2), (9, 3)]⟩), (167, ⟨2, 16, .st [(3, 0), (4, 1)]⟩), (169, ⟨2, 16, .st [(3, 0), (3, 1)]⟩), (171, ⟨8, 48, .st [(3, 0), (3, 1), (4, 2), (4, 3), (4, 4), (4, 5), (9, 6), (3, 7)]⟩), (173, ⟨11, 80, .st [(3, 0), (9, 1), (3, 2), (171, 3)]⟩), (175, ⟨3, 24, .st [(3, 0), (3, 1), (3, 2)]⟩), (184, ⟨1, 24, .sl 5⟩), (185, ⟨1, 24, .sl 138⟩), (197, ⟨3, 40, .st [(9, 0), (9, 1), (3, 2)]⟩), (216, ⟨1, 8, .ptr 27⟩), (217, ⟨64, 256, .arr 64 138⟩), (220, ⟨1, 8, .int .u64⟩), (223, ⟨1, 8, .ptr 225⟩), (225, ⟨3, 32, .st [(9, 0), (3, 1), (4, 2)]⟩), (229, ⟨1, 8, .ptr 24⟩), (235, ⟨1, 8, .ptr 237⟩), (237, ⟨3, 32, .st [(9, 0), (3, 1), (4, 2)]⟩), (241, ⟨1, 24, .sl 4⟩)]
def ent3 : Ent (ElOf els) := ⟨3, { sh := [.int .i64], enc := fun (x : Int) => [.int .i64 x], dec := fun cs => (cs.getD 0 .junk).toInt, z := (0 : Int), int? := some ⟨rfl⟩ }⟩
def ent4 : Ent (ElOf els) := ⟨4, { sh := [.bool], enc := fun (x : Bool) => [.bool x], dec := fun cs => (cs.getD 0 .junk).toBool, z := false, int? := none }⟩
def ent5 : Ent (ElOf els) := ⟨5, { sh := [.int .u8], enc := fun (x : Int) => [.int .u8 x], dec := fun cs => (cs.getD 0 .junk).toInt, z := (0 : Int), int? := some ⟨rfl⟩ }⟩
def ent9 : Ent (ElOf els) := ⟨9, { sh := [.str], enc := fun (x : ByteArray) => [.str x], dec := fun cs => (cs.getD 0 .junk).toStr, z := (⟨#[]⟩ : ByteArray), int? := none }⟩
def ent22 : Ent (ElOf els) := ⟨22, { sh := [.sl 155], enc := fun (x : (List SFile)) => [.rsl 155 x], dec := fun cs => (L.toSl 155 (cs.getD 0 .junk)), z := [], int? := none }⟩
def ent24 : Ent (ElOf els) := ⟨24, { sh := [.sl 155], enc := fun (x : SDisk) => [.rsl 155 x.fFiles], dec := fun cs => ⟨(L.toSl 155 (cs.getD 0 .junk))⟩, z := (⟨[]⟩ : SDisk), int? := none }⟩
def ent25 : Ent (ElOf els) := ⟨25, { sh := [.sl 69], enc := fun (x : (List SThing)) => [.rsl 69 x], dec := fun cs => (L.toSl 69 (cs.getD 0 .junk)), z := [], int? := none }⟩
def ent27 : Ent (ElOf els) := ⟨27, { sh := [.str, .int .i64, .sl 69, .int .i64, .str, .int .i64], enc := fun (x : SBook) => [.str x.fWord, .int .i64 x.fTries, .rsl 69 x.fThings, .int .i64 x.fLast, .str x.fChain, .int .i64 x.fCount], dec := fun cs => ⟨(cs.getD 0 .junk).toStr, (cs.getD 1 .junk).toInt, (L.toSl 69 (cs.getD 2 .junk)), (cs.getD 3 .junk).toInt, (cs.getD 4 .junk).toStr, (cs.getD 5 .junk).toInt⟩, z := (⟨⟨#[]⟩, 0, [], 0, ⟨#[]⟩, 0⟩ : SBook), int? := none }⟩
def ent28 : Ent (ElOf els) := ⟨28, { sh := [.sl 92], enc := fun (x : (List SSession)) => [.rsl 92 x], dec := fun cs => (L.toSl 92 (cs.getD 0 .junk)), z := [], int? := none }⟩
def ent29 : Ent (ElOf els) := ⟨29, { sh := [.sl 149], enc := fun (x : (List SLive)) => [.rsl 149 x], dec := fun cs => (L.toSl 149 (cs.getD 0 .junk)), z := [], int? := none }⟩
def ent31 : Ent (ElOf els) := ⟨31, { sh := [.str, .bool, .sl 155, .str, .int .i64, .sl 69, .int .i64, .str, .int .i64, .sl 92, .sl 149, .int .i64], enc := fun (x : SBox) => [.str x.fKey, .bool x.fUp, .rsl 155 x.fDisk.fFiles, .str x.fBook.fWord, .int .i64 x.fBook.fTries, .rsl 69 x.fBook.fThings, .int .i64 x.fBook.fLast, .str x.fBook.fChain, .int .i64 x.fBook.fCount, .rsl 92 x.fSessions, .rsl 149 x.fLives, .int .i64 x.fOpened], dec := fun cs => ⟨(cs.getD 0 .junk).toStr, (cs.getD 1 .junk).toBool, ⟨(L.toSl 155 (cs.getD 2 .junk))⟩, ⟨(cs.getD 3 .junk).toStr, (cs.getD 4 .junk).toInt, (L.toSl 69 (cs.getD 5 .junk)), (cs.getD 6 .junk).toInt, (cs.getD 7 .junk).toStr, (cs.getD 8 .junk).toInt⟩, (L.toSl 92 (cs.getD 9 .junk)), (L.toSl 149 (cs.getD 10 .junk)), (cs.getD 11 .junk).toInt⟩, z := (⟨⟨#[]⟩, false, ⟨[]⟩, ⟨⟨#[]⟩, 0, [], 0, ⟨#[]⟩, 0⟩, [], [], 0⟩ : SBox), int? := none }⟩
def ent37 : Ent (ElOf els) := ⟨37, { sh := [.sl 197], enc := fun (x : (List SFile)) => [.rsl 197 x], dec := fun cs => (L.toSl 197 (cs.getD 0 .junk)), z := [], int? := none }⟩
def ent39 : Ent (ElOf els) := ⟨39, { sh := [.sl 197], enc := fun (x : SDisk) => [.rsl 197 x.fFiles], dec := fun cs => ⟨(L.toSl 197 (cs.getD 0 .junk))⟩, z := (⟨[]⟩ : SDisk), int? := none }⟩
def ent40 : Ent (ElOf els) := ⟨40, { sh := [.sl 171], enc := fun (x : (List SThing)) => [.rsl 171 x], dec := fun cs => (L.toSl 171 (cs.getD 0 .junk)), z := [], int? := none }⟩
def ent42 : Ent (ElOf els) := ⟨42, { sh := [.str, .int .i64, .sl 171, .int .i64, .str, .int .i64], enc := fun (x : SBook) => [.str x.fWord, .int .i64 x.fTries, .rsl 171 x.fThings, .int .i64 x.fLast, .str x.fChain, .int .i64 x.fCount], dec := fun cs => ⟨(cs.getD 0 .junk).toStr, (cs.getD 1 .junk).toInt, (L.toSl 171 (cs.getD 2 .junk)), (cs.getD 3 .junk).toInt, (cs.getD 4 .junk).toStr, (cs.getD 5 .junk).toInt⟩, z := (⟨⟨#[]⟩, 0, [], 0, ⟨#[]⟩, 0⟩ : SBook), int? := none }⟩
def ent43 : Ent (ElOf els) := ⟨43, { sh := [.sl 167], enc := fun (x : (List SSession)) => [.rsl 167 x], dec := fun cs => (L.toSl 167 (cs.getD 0 .junk)), z := [], int? := none }⟩
def ent44 : Ent (ElOf els) := ⟨44, { sh := [.sl 169], enc := fun (x : (List SLive)) => [.rsl 169 x], dec := fun cs => (L.toSl 169 (cs.getD 0 .junk)), z := [], int? := none }⟩
def ent46 : Ent (ElOf els) := ⟨46, { sh := [.str, .bool, .sl 197, .str, .int .i64, .sl 171, .int .i64, .str, .int .i64, .sl 167, .sl 169, .int .i64], enc := fun (x : SBox) => [.str x.fKey, .bool x.fUp, .rsl 197 x.fDisk.fFiles, .str x.fBook.fWord, .int .i64 x.fBook.fTries, .rsl 171 x.fBook.fThings, .int .i64 x.fBook.fLast, .str x.fBook.fChain, .int .i64 x.fBook.fCount, .rsl 167 x.fSessions, .rsl 169 x.fLives, .int .i64 x.fOpened], dec := fun cs => ⟨(cs.getD 0 .junk).toStr, (cs.getD 1 .junk).toBool, ⟨(L.toSl 197 (cs.getD 2 .junk))⟩, ⟨(cs.getD 3 .junk).toStr, (cs.getD 4 .junk).toInt, (L.toSl 171 (cs.getD 5 .junk)), (cs.getD 6 .junk).toInt, (cs.getD 7 .junk).toStr, (cs.getD 8 .junk).toInt⟩, (L.toSl 167 (cs.getD 9 .junk)), (L.toSl 169 (cs.getD 10 .junk)), (cs.getD 11 .junk).toInt⟩, z := (⟨⟨#[]⟩, false, ⟨[]⟩, ⟨⟨#[]⟩, 0, [], 0, ⟨#[]⟩, 0⟩, [], [], 0⟩ : SBox), int? := none }⟩
def ent51 : Ent (ElOf els) := ⟨51, { sh := [.sl 3], enc := fun (x : (List Int)) => [.rsl 3 x], dec := fun cs => (L.toSl 3 (cs.getD 0 .junk)), z := [], int? := none }⟩
def ent52 : Ent (ElOf els) := ⟨52, { sh := [.sl 9], enc := fun (x : (List ByteArray)) => [.rsl 9 x], dec := fun cs => (L.toSl 9 (cs.getD 0 .junk)), z := [], int? := none }⟩
def ent53 : Ent (ElOf els) := ⟨53, { sh := [.sl 175], enc := fun (x : (List SGiven)) => [.rsl 175 x], dec := fun cs => (L.toSl 175 (cs.getD 0 .junk)), z := [], int? := none }⟩
def ent54 : Ent (ElOf els) := ⟨54, { sh := [.sl 173], enc := fun (x : (List SRec)) => [.rsl 173 x], dec := fun cs => (L.toSl 173 (cs.getD 0 .junk)), z := [], int? := none }⟩
def ent56 : Ent (ElOf els) := ⟨56, { sh := [.str, .bool, .sl 197, .str, .int .i64, .sl 171, .int .i64, .str, .int .i64, .sl 167, .sl 169, .int .i64, .sl 3, .sl 9, .sl 175, .sl 173], enc := fun (x : SLife) => [.str x.fBox.fKey, .bool x.fBox.fUp, .rsl 197 x.fBox.fDisk.fFiles, .str x.fBox.fBook.fWord, .int .i64 x.fBox.fBook.fTries, .rsl 171 x.fBox.fBook.fThings, .int .i64 x.fBox.fBook.fLast, .str x.fBox.fBook.fChain, .int .i64 x.fBox.fBook.fCount, .rsl 167 x.fBox.fSessions, .rsl 169 x.fBox.fLives, .int .i64 x.fBox.fOpened, .rsl 3 x.fCodes, .rsl 9 x.fReplies, .rsl 175 x.fGives, .rsl 173 x.fDone], dec := fun cs => ⟨⟨(cs.getD 0 .junk).toStr, (cs.getD 1 .junk).toBool, ⟨(L.toSl 197 (cs.getD 2 .junk))⟩, ⟨(cs.getD 3 .junk).toStr, (cs.getD 4 .junk).toInt, (L.toSl 171 (cs.getD 5 .junk)), (cs.getD 6 .junk).toInt, (cs.getD 7 .junk).toStr, (cs.getD 8 .junk).toInt⟩, (L.toSl 167 (cs.getD 9 .junk)), (L.toSl 169 (cs.getD 10 .junk)), (cs.getD 11 .junk).toInt⟩, (L.toSl 3 (cs.getD 12 .junk)), (L.toSl 9 (cs.getD 13 .junk)), (L.toSl 175 (cs.getD 14 .junk)), (L.toSl 173 (cs.getD 15 .junk))⟩, z := (⟨⟨⟨#[]⟩, false, ⟨[]⟩, ⟨⟨#[]⟩, 0, [], 0, ⟨#[]⟩, 0⟩, [], [], 0⟩, [], [], [], []⟩ : SLife), int? := none }⟩
def ent59 : Ent (ElOf els) := ⟨59, { sh := [.sl 117], enc := fun (x : (List SGiven)) => [.rsl 117 x], dec := fun cs => (L.toSl 117 (cs.getD 0 .junk)), z := [], int? := none }⟩
def ent60 : Ent (ElOf els) := ⟨60, { sh := [.sl 71], enc := fun (x : (List SRec)) => [.rsl 71 x], dec := fun cs => (L.toSl 71 (cs.getD 0 .junk)), z := [], int? := none }⟩
def ent62 : Ent (ElOf els) := ⟨62, { sh := [.str, .bool, .sl 155, .str, .int .i64, .sl 69, .int .i64, .str, .int .i64, .sl 92, .sl 149, .int .i64, .sl 3, .sl 9, .sl 117, .sl 71], enc := fun (x : SLife) => [.str x.fBox.fKey, .bool x.fBox.fUp, .rsl 155 x.fBox.fDisk.fFiles, .str x.fBox.fBook.fWord, .int .i64 x.fBox.fBook.fTries, .rsl 69 x.fBox.fBook.fThings, .int .i64 x.fBox.fBook.fLast, .str x.fBox.fBook.fChain, .int .i64 x.fBox.fBook.fCount, .rsl 92 x.fBox.fSessions, .rsl 149 x.fBox.fLives, .int .i64 x.fBox.fOpened, .rsl 3 x.fCodes, .rsl 9 x.fReplies, .rsl 117 x.fGives, .rsl 71 x.fDone], dec := fun cs => ⟨⟨(cs.getD 0 .junk).toStr, (cs.getD 1 .junk).toBool, ⟨(L.toSl 155 (cs.getD 2 .junk))⟩, ⟨(cs.getD 3 .junk).toStr, (cs.getD 4 .junk).toInt, (L.toSl 69 (cs.getD 5 .junk)), (cs.getD 6 .junk).toInt, (cs.getD 7 .junk).toStr, (cs.getD 8 .junk).toInt⟩, (L.toSl 92 (cs.getD 9 .junk)), (L.toSl 149 (cs.getD 10 .junk)), (cs.getD 11 .junk).toInt⟩, (L.toSl 3 (cs.getD 12 .junk)), (L.toSl 9 (cs.getD 13 .junk)), (L.toSl 117 (cs.getD 14 .junk)), (L.toSl 71 (cs.getD 15 .junk))⟩, z := (⟨⟨⟨#[]⟩, false, ⟨[]⟩, ⟨⟨#[]⟩, 0, [], 0, ⟨#[]⟩, 0⟩, [], [], 0⟩, [], [], [], []⟩ : SLife), int? := none }⟩
def ent69 : Ent (ElOf els) := ⟨69, { sh := [.int .i64, .int .i64, .bool, .bool, .bool, .bool, .str, .int .i64], enc := fun (x : SThing) => [.int .i64 x.fId, .int .i64 x.fKind, .bool x.fHidden, .bool x.fFixed, .bool x.fSigns, .bool x.fWraps, .str x.fValue, .int .i64 x.fNext], dec := fun cs => ⟨(cs.getD 0 .junk).toInt, (cs.getD 1 .junk).toInt, (cs.getD 2 .junk).toBool, (cs.getD 3 .junk).toBool, (cs.getD 4 .junk).toBool, (cs.getD 5 .junk).toBool, (cs.getD 6 .junk).toStr, (cs.getD 7 .junk).toInt⟩, z := (⟨0, 0, false, false, false, false, ⟨#[]⟩, 0⟩ : SThing), int? := none }⟩
def ent71 : Ent (ElOf els) := ⟨71, { sh := [.int .i64, .str, .int .i64, .int .i64, .int .i64, .bool, .bool, .bool, .bool, .str, .int .i64], enc := fun (x : SRec) => [.int .i64 x.fKind, .str x.fText, .int .i64 x.fNum, .int .i64 x.fThing.fId, .int .i64 x.fThing.fKind, .bool x.fThing.fHidden, .bool x.fThing.fFixed, .bool x.fThing.fSigns, .bool x.fThing.fWraps, .str x.fThing.fValue, .int .i64 x.fThing.fNext], dec := fun cs => ⟨(cs.getD 0 .junk).toInt, (cs.getD 1 .junk).toStr, (cs.getD 2 .junk).toInt, ⟨(cs.getD 3 .junk).toInt, (cs.getD 4 .junk).toInt, (cs.getD 5 .junk).toBool, (cs.getD 6 .junk).toBool, (cs.getD 7 .junk).toBool, (cs.getD 8 .junk).toBool, (cs.getD 9 .junk).toStr, (cs.getD 10 .junk).toInt⟩⟩, z := (⟨0, ⟨#[]⟩, 0, ⟨0, 0, false, false, false, false, ⟨#[]⟩, 0⟩⟩ : SRec), int? := none }⟩
def ent92 : Ent (ElOf els) := ⟨92, { sh := [.int .i64, .bool], enc := fun (x : SSession) => [.int .i64 x.fId, .bool x.fIn], dec := fun cs => ⟨(cs.getD 0 .junk).toInt, (cs.getD 1 .junk).toBool⟩, z := (⟨0, false⟩ : SSession), int? := none }⟩
def ent93 : Ent (ElOf els) := ⟨93, { sh := [.sl 162], enc := fun (x : (List SAct)) => [.rsl 162 x], dec := fun cs => (L.toSl 162 (cs.getD 0 .junk)), z := [], int? := none }⟩
def ent117 : Ent (ElOf els) := ⟨117, { sh := [.int .i64, .int .i64, .int .i64], enc := fun (x : SGiven) => [.int .i64 x.fThing, .int .i64 x.fLeaf, .int .i64 x.fWhen], dec := fun cs => ⟨(cs.getD 0 .junk).toInt, (cs.getD 1 .junk).toInt, (cs.getD 2 .junk).toInt⟩, z := (⟨0, 0, 0⟩ : SGiven), int? := none }⟩
def ent123 : Ent (ElOf els) := ⟨123, { sh := [.str, .str, .int .i64], enc := fun (x : SHasher) => [.str x.fState, .str x.fRest, .int .i64 x.fCount], dec := fun cs => ⟨(cs.getD 0 .junk).toStr, (cs.getD 1 .junk).toStr, (cs.getD 2 .junk).toInt⟩, z := (⟨⟨#[]⟩, ⟨#[]⟩, 0⟩ : SHasher), int? := none }⟩
def ent137 : Ent (ElOf els) := ⟨137, { sh := [.bool], enc := fun (x : Bool) => [.bool x], dec := fun cs => (cs.getD 0 .junk).toBool, z := false, int? := none }⟩
def ent138 : Ent (ElOf els) := ⟨138, { sh := [.int .u32], enc := fun (x : Int) => [.int .u32 x], dec := fun cs => (cs.getD 0 .junk).toInt, z := (0 : Int), int? := some ⟨rfl⟩ }⟩
def ent139 : Ent (ElOf els) := ⟨139, codBools 8 (fun x => x) (fun x => x)⟩
def ent149 : Ent (ElOf els) := ⟨149, { sh := [.int .i64, .int .i64], enc := fun (x : SLive) => [.int .i64 x.fId, .int .i64 x.fNext], dec := fun cs => ⟨(cs.getD 0 .junk).toInt, (cs.getD 1 .junk).toInt⟩, z := (⟨0, 0⟩ : SLive), int? := none }⟩
def ent155 : Ent (ElOf els) := ⟨155, { sh := [.str, .str, .int .i64], enc := fun (x : SFile) => [.str x.fName, .str x.fText, .int .i64 x.fKept], dec := fun cs => ⟨(cs.getD 0 .junk).toStr, (cs.getD 1 .junk).toStr, (cs.getD 2 .junk).toInt⟩, z := (⟨⟨#[]⟩, ⟨#[]⟩, 0⟩ : SFile), int? := none }⟩
def ent162 : Ent (ElOf els) := ⟨162, { sh := [.int .i64, .str, .str, .str], enc := fun (x : SAct) => [.int .i64 x.fKind, .str x.fName, .str x.fText, .str x.fTo], dec := fun cs => ⟨(cs.getD 0 .junk).toInt, (cs.getD 1 .junk).toStr, (cs.getD 2 .junk).toStr, (cs.getD 3 .junk).toStr⟩, z := (⟨0, ⟨#[]⟩, ⟨#[]⟩, ⟨#[]⟩⟩ : SAct), int? := none }⟩
def ent167 : Ent (ElOf els) := ⟨167, { sh := [.int .i64, .bool], enc := fun (x : SSession) => [.int .i64 x.fId, .bool x.fIn], dec := fun cs => ⟨(cs.getD 0 .junk).toInt, (cs.getD 1 .junk).toBool⟩, z := (⟨0, false⟩ : SSession), int? := none }⟩
def ent169 : Ent (ElOf els) := ⟨169, { sh := [.int .i64, .int .i64], enc := fun (x : SLive) => [.int .i64 x.fId, .int .i64 x.fNext], dec := fun cs => ⟨(cs.getD 0 .junk).toInt, (cs.getD 1 .junk).toInt⟩, z := (⟨0, 0⟩ : SLive), int? := none }⟩
def ent171 : Ent (ElOf els) := ⟨171, { sh := [.int .i64, .int .i64, .bool, .bool, .bool, .bool, .str, .int .i64], enc := fun (x : SThing) => [.int .i64 x.fId, .int .i64 x.fKind, .bool x.fHidden, .bool x.fFixed, .bool x.fSigns, .bool x.fWraps, .str x.fValue, .int .i64 x.fNext], dec := fun cs => ⟨(cs.getD 0 .junk).toInt, (cs.getD 1 .junk).toInt, (cs.getD 2 .junk).toBool, (cs.getD 3 .junk).toBool, (cs.getD 4 .junk).toBool, (cs.getD 5 .junk).toBool, (cs.getD 6 .junk).toStr, (cs.getD 7 .junk).toInt⟩, z := (⟨0, 0, false, false, false, false, ⟨#[]⟩, 0⟩ : SThing), int? := none }⟩
def ent173 : Ent (ElOf els) := ⟨173, { sh := [.int .i64, .str, .int .i64, .int .i64, .int .i64, .bool, .bool, .bool, .bool, .str, .int .i64], enc := fun (x : SRec) => [.int .i64 x.fKind, .str x.fText, .int .i64 x.fNum, .int .i64 x.fThing.fId, .int .i64 x.fThing.fKind, .bool x.fThing.fHidden, .bool x.fThing.fFixed, .bool x.fThing.fSigns, .bool x.fThing.fWraps, .str x.fThing.fValue, .int .i64 x.fThing.fNext], dec := fun cs => ⟨(cs.getD 0 .junk).toInt, (cs.getD 1 .junk).toStr, (cs.getD 2 .junk).toInt, ⟨(cs.getD 3 .junk).toInt, (cs.getD 4 .junk).toInt, (cs.getD 5 .junk).toBool, (cs.getD 6 .junk).toBool, (cs.getD 7 .junk).toBool, (cs.getD 8 .junk).toBool, (cs.getD 9 .junk).toStr, (cs.getD 10 .junk).toInt⟩⟩, z := (⟨0, ⟨#[]⟩, 0, ⟨0, 0, false, false, false, false, ⟨#[]⟩, 0⟩⟩ : SRec), int? := none }⟩
def ent175 : Ent (ElOf els) := ⟨175, { sh := [.int .i64, .int .i64, .int .i64], enc := fun (x : SGiven) => [.int .i64 x.fThing, .int .i64 x.fLeaf, .int .i64 x.fWhen], dec := fun cs => ⟨(cs.getD 0 .junk).toInt, (cs.getD 1 .junk).toInt, (cs.getD 2 .junk).toInt⟩, z := (⟨0, 0, 0⟩ : SGiven), int? := none }⟩
def ent184 : Ent (ElOf els) := ⟨184, { sh := [.sl 5], enc := fun (x : (List Int)) => [.rsl 5 x], dec := fun cs => (L.toSl 5 (cs.getD 0 .junk)), z := [], int? := none }⟩
def ent185 : Ent (ElOf els) := ⟨185, { sh := [.sl 138], enc := fun (x : (List Int)) => [.rsl 138 x], dec := fun cs => (L.toSl 138 (cs.getD 0 .junk)), z := [], int? := none }⟩
def ent197 : Ent (ElOf els) := ⟨197, { sh := [.str, .str, .int .i64], enc := fun (x : SFile) => [.str x.fName, .str x.fText, .int .i64 x.fKept], dec := fun cs => ⟨(cs.getD 0 .junk).toStr, (cs.getD 1 .junk).toStr, (cs.getD 2 .junk).toInt⟩, z := (⟨⟨#[]⟩, ⟨#[]⟩, 0⟩ : SFile), int? := none }⟩
def ent216 : Ent (ElOf els) := ⟨216, { sh := [.bool], enc := fun (x : Bool) => [.bool x], dec := fun cs => (cs.getD 0 .junk).toBool, z := false, int? := none }⟩
def ent217 : Ent (ElOf els) := ⟨217, codBools 64 (fun x => x) (fun x => x)⟩
def ent220 : Ent (ElOf els) := ⟨220, { sh := [.int .u64], enc := fun (x : Int) => [.int .u64 x], dec := fun cs => (cs.getD 0 .junk).toInt, z := (0 : Int), int? := some ⟨rfl⟩ }⟩
def ent223 : Ent (ElOf els) := ⟨223, { sh := [.bool], enc := fun (x : Bool) => [.bool x], dec := fun cs => (cs.getD 0 .junk).toBool, z := false, int? := none }⟩
def ent225 : Ent (ElOf els) := ⟨225, { sh := [.str, .int .i64, .bool], enc := fun (x : SL19Cur) => [.str x.fText, .int .i64 x.fAt, .bool x.fBad], dec := fun cs => ⟨(cs.getD 0 .junk).toStr, (cs.getD 1 .junk).toInt, (cs.getD 2 .junk).toBool⟩, z := (⟨⟨#[]⟩, 0, false⟩ : SL19Cur), int? := none }⟩
def ent229 : Ent (ElOf els) := ⟨229, { sh := [.bool], enc := fun (x : Bool) => [.bool x], dec := fun cs => (cs.getD 0 .junk).toBool, z := false, int? := none }⟩
def ent235 : Ent (ElOf els) := ⟨235, { sh := [.bool], enc := fun (x : Bool) => [.bool x], dec := fun cs => (cs.getD 0 .junk).toBool, z := false, int? := none }⟩
def ent237 : Ent (ElOf els) := ⟨237, { sh := [.str, .int .i64, .bool], enc := fun (x : SFields) => [.str x.fText, .int .i64 x.fAt, .bool x.fBad], dec := fun cs => ⟨(cs.getD 0 .junk).toStr, (cs.getD 1 .junk).toInt, (cs.getD 2 .junk).toBool⟩, z := (⟨⟨#[]⟩, 0, false⟩ : SFields), int? := none }⟩
def ent241 : Ent (ElOf els) := ⟨241, { sh := [.sl 4], enc := fun (x : (List Bool)) => [.rsl 4 x], dec := fun cs => (L.toSl 4 (cs.getD 0 .junk)), z := [], int? := none }⟩
def ents : List (Ent (ElOf els)) := [ent3, ent4, ent5, ent9, ent22, ent24, ent25, ent27, ent28, ent29, ent31, ent37, ent39, ent40, ent42, ent43, ent44, ent46, ent51, ent52, ent53, ent54, ent56, ent59, ent60, ent62, ent69, ent71, ent92, ent93, ent117, ent123, ent137, ent138, ent139, ent149, ent155, ent162, ent167, ent169, ent171, ent173, ent175, ent184, ent185, ent197, ent216, ent217, ent220, ent223, ent225, ent229, ent235, ent237, ent241]
def modes : List (Nat × List Mode') := [(110, [.io, .rd]), (37, [.io, .rd]), (111, [.io, .rd]), (38, [.io, .rd]), (39, [.io, .rd]), (40, [.io, .rd]), (11, [.io, .rd])]
def cuts : List (Nat × List (Nat × (List Nat × List Nat × List (Nat × Nat) × List (Nat × Nat × Nat)))) := [(145, [(3, ([0, 3, 4], [], [(0, 138), (3, 5)], []))]),
  (142, [(3, ([0, 3, 4], [], [(3, 138)], []))]),
  (144, [(3, ([0, 1, 7, 8], [], [(0, 138), (1, 138), (7, 138)], [])), (8, ([0, 1, 7, 9, 10], [], [(0, 138), (1, 138), (7, 138), (9, 138)], [])), (16, ([0, 1, 7, 9, 10, 13, 15, 16], [], [(0, 138), (1, 138), (7, 138), (9, 138)], [])), (23, ([0, 9, 17, 18], [], [(0, 138), (9, 138), (17, 138)], []))]),
  (90, [(7, ([1, 2, 4, 5, 6, 7, 8], [128, 256], [(5, 138), (6, 138)], []))]),
  (89, [(5, ([1, 3], [64], [(3, 5)], [])), (9, ([1, 3, 4, 5], [64], [(3, 5)], [])), (13, ([1, 3, 4, 5, 6, 7], [64], [(3, 5)], [])), (20, ([3, 8, 9, 10], [], [(3, 5), (8, 138), (9, 138)], []))]),
  (97, [(3, ([0, 1, 5, 6], [], [(5, 5)], []))]),
  (147, [(2, ([0, 3], [], [(3, 5)], []))]),
  (53, [(4, ([1, 3], [64], [], [(64, 2, 69)]))]),
  (94, [(2, ([1, 2, 4, 6], [128, 256], [], [(128, 2, 69)]))]),
  (96, [(3, ([0, 3, 5, 6], [192], [(0, 69), (5, 69)], [])), (9, ([0, 3, 5, 7], [192], [(0, 69), (5, 69)], []))]),
  (27, [(24, ([2, 3, 4, 6, 8, 13, 14], [128, 192, 256, 512], [(13, 69)], [(128, 2, 69), (256, 2, 69), (512, 2, 69)]))]),
  (216, [(5, ([0, 1, 5, 6], [], [(5, 5)], []))]),
  (181, [(5, ([0, 1, 2, 8, 9], [], [(8, 5)], []))]),
  (182, [(3, ([1, 5, 6], [], [(5, 5)], []))]),
  (206, [(2, ([0, 1, 5], [], [], [])), (6, ([0, 1, 5, 6], [], [], []))]),
  (49, [(4, ([1, 3], [64], [], [(64, 0, 155)]))]),
  (119, [(2, ([1, 2, 5], [128], [], [(128, 0, 155)]))]),
  (172, [(3, ([2, 3, 4, 5, 6], [128, 192, 256, 320], [], [(128, 0, 155), (256, 0, 155), (320, 0, 155)])), (9, ([2, 3, 4, 5, 7], [128, 192, 256, 320], [], [(128, 0, 155), (256, 0, 155), (320, 0, 155)]))]),
  (173, [(3, ([1, 2, 4, 5, 6], [128, 256, 320], [], [(128, 0, 155), (256, 0, 155), (320, 0, 155)]))]),
  (79, [(3, ([1, 4, 6, 7], [256, 384], [(1, 162)], [(256, 0, 155), (384, 0, 155)]))]),
  (194, [(3, ([0, 2, 3, 11], [128, 192], [], [])), (6, ([0, 2, 3, 4, 11, 14], [128, 192], [], [])), (12, ([2, 3, 6], [128, 192], [], []))]),
  (156, [(4, ([2, 4, 5, 6, 7, 8, 9, 10, 11, 12, 13, 37], [128, 256, 320], [], [])), (13, ([2, 4, 17, 109], [128, 256, 1088], [], []))]),
  (102, [(1, ([1, 2, 4], [128, 256], [], []))]),
  (105, [(3, ([3, 6, 7], [], [], []))]),
  (186, [(2, ([0, 3], [], [(3, 5)], []))]),
  (207, [(3, ([3, 14, 15, 16], [], [(14, 4)], []))]),
  (217, [(3, ([1, 5, 10, 11], [], [(5, 5)], []))]),
  (189, [(6, ([0, 2, 8, 10, 11], [], [], []))]),
  (190, [(3, ([1, 5, 10, 11], [], [(5, 5)], []))]),
  (211, [(2, ([0, 1, 5], [], [], [])), (6, ([0, 1, 5, 19], [], [], []))]),
  (128, [(2, ([1, 8, 9, 10], [], [(8, 155)], []))]),
  (59, [(2, ([1, 6, 7, 8], [64], [(6, 155)], [(64, 0, 155)]))]),
  (174, [(3, ([0, 3, 4], [0, 192], [], [(0, 0, 155)]))]),
  (80, [(3, ([1, 4, 6, 13, 14, 15], [256, 384], [(1, 162), (13, 162)], [(256, 0, 155), (384, 0, 155)]))]),
  (63, [(2, ([1, 6, 7, 8], [64], [(6, 69)], [(64, 2, 69)]))]),
  (155, [(2, ([1, 8, 9, 10], [], [(8, 69)], []))]),
  (106, [(4, ([0, 1, 5], [], [(0, 155), (1, 155)], []))]),
  (107, [(4, ([0, 1, 5], [], [(0, 69), (1, 69)], []))]),
  (35, [(4, ([0, 1, 5], [], [(0, 92), (1, 92)], []))]),
  (36, [(4, ([0, 1, 5], [], [(0, 149), (1, 149)], []))]),
  (161, [(4, ([0, 3], [], [], []))]),
  (110, [(2, ([0, 1, 5], [1], [(0, 155)], []))]),
  (111, [(2, ([0, 1, 5], [1], [(0, 69)], [])), (6, ([0, 1, 5], [1], [(0, 69)], [])), (8, ([0, 1, 5], [1], [(0, 69)], [])), (10, ([0, 1, 5], [1], [(0, 69)], [])), (12, ([0, 1, 5], [1], [(0, 69)], [])), (14, ([0, 1, 5], [1], [(0, 69)], [])), (16, ([0, 1, 5], [1], [(0, 69)], [])), (18, ([0, 1, 5], [1], [(0, 69)], []))]),
  (39, [(2, ([0, 1, 5], [1], [(0, 92)], []))]),
  (40, [(2, ([0, 1, 5], [1], [(0, 149)], []))]),
  (112, [(2, ([0, 1, 5], [], [(0, 155)], []))]),
  (113, [(2, ([0, 1, 5], [], [(0, 69)], []))]),
  (43, [(2, ([0, 1, 5], [], [(0, 92)], []))]),
  (44, [(2, ([0, 1, 5], [], [(0, 149)], []))]),
  (114, [(5, ([0, 1, 5], [], [(0, 197)], []))]),
  (115, [(5, ([0, 1, 5], [], [(0, 171)], []))]),
  (121, [(3, ([0, 3, 4], [], [(0, 197), (3, 155)], []))]),
  (122, [(3, ([0, 3, 4], [], [(0, 171), (3, 69)], []))]),
  (57, [(3, ([0, 3, 4], [], [(0, 167), (3, 92)], []))]),
  (58, [(3, ([0, 3, 4], [], [(0, 169), (3, 149)], []))]),
  (51, [(4, ([2, 3, 5], [128, 192], [], [(128, 2, 69), (192, 2, 69)]))]),
  (196, [(6, ([0, 1, 7, 8, 9], [], [], []))]),
  (164, [(5, ([0, 4, 5], [], [(4, 9)], []))]),
  (118, [(5, ([0, 6, 7, 9, 10], [], [(6, 71), (7, 9)], []))]),
  (69, [(3, ([1, 4, 6, 7], [256, 384], [(1, 71)], [(256, 2, 69), (384, 2, 69)]))]),
  (54, [(2, ([1, 3], [64], [], [(64, 2, 155), (64, 5, 69), (64, 9, 92), (64, 10, 149)]))]),
  (14, [(4, ([1, 3], [64], [], [(64, 2, 155), (64, 5, 69), (64, 9, 92), (64, 10, 149)]))]),
  (125, [(4, ([0, 1, 12, 13], [], [(0, 69), (1, 69)], []))]),
  (202, [(5, ([0, 1, 7, 8], [], [], []))]),
  (169, [(5, ([0, 4, 5], [], [(4, 9)], []))]),
  (127, [(5, ([0, 8, 9, 23, 24, 25], [], [(8, 71), (23, 9)], []))]),
  (74, [(3, ([4, 6, 13, 14, 15], [256, 384], [(13, 71)], [(256, 2, 69), (384, 2, 69)]))]),
  (64, [(2, ([1, 8, 9, 10], [64], [(8, 149)], [(64, 2, 155), (64, 5, 69), (64, 9, 92), (64, 10, 149)]))]),
  (16, [(6, ([1, 44, 45, 46], [64], [(44, 92)], [(64, 2, 155), (64, 5, 69), (64, 9, 92), (64, 10, 149)]))]),
  (66, [(5, ([0, 1, 5], [], [(0, 9)], []))]),
  (68, [(5, ([0, 1, 5], [], [(0, 173)], []))]),
  (70, [(3, ([0, 3, 4], [], [(0, 3), (3, 3)], []))]),
  (71, [(3, ([0, 3, 4], [], [(0, 9), (3, 9)], []))]),
  (72, [(3, ([0, 3, 4], [], [(0, 175), (3, 117)], []))]),
  (73, [(3, ([0, 3, 4], [], [(0, 173), (3, 71)], []))]),
  (75, [(4, ([0, 1, 5], [], [(0, 3), (1, 3)], []))]),
  (76, [(4, ([0, 1, 5], [], [(0, 9), (1, 9)], []))]),
  (77, [(4, ([0, 1, 5], [], [(0, 117), (1, 117)], []))]),
  (78, [(4, ([0, 1, 5], [], [(0, 71), (1, 71)], []))]),
  (81, [(3, ([0, 1, 5, 6], [], [(0, 71)], []))]),
  (82, [(2, ([0, 3], [], [(0, 117)], [])), (5, ([0, 3, 4], [], [(0, 117)], []))]),
  (83, [(2, ([0, 3], [], [(0, 117)], [])), (5, ([0, 3, 4], [], [(0, 117)], []))]),
  (84, [(3, ([0, 3, 4], [192], [(0, 71)], [(192, 2, 69)])), (9, ([0, 3, 4, 5, 7], [192, 320], [(0, 71)], [(192, 2, 69), (320, 2, 69)]))]),
  (24, [(2, ([1, 3], [64], [], [(64, 2, 155), (64, 5, 69), (64, 9, 92), (64, 10, 149), (64, 12, 3), (64, 13, 9), (64, 14, 117), (64, 15, 71)]))]),
  (85, [(3, ([1, 5, 8, 9, 10], [], [(8, 71)], []))]),
  (86, [(2, ([0, 7, 8, 9], [], [(0, 117), (7, 117)], [])), (5, ([0, 4, 7, 8, 9, 16, 17, 18], [256], [(0, 117), (7, 117), (16, 117)], []))]),
  (140, [(3, ([1, 5, 8, 9, 10], [], [(5, 3), (8, 117)], []))]),
  (87, [(2, ([0, 7, 8, 9], [], [(0, 117), (7, 117)], [])), (6, ([0, 5, 6, 7, 8, 9], [], [(0, 117), (5, 3), (7, 117)], []))]),
  (88, [(3, ([3, 13, 14, 15], [192], [(13, 71)], [(192, 2, 69)])), (9, ([3, 6, 13, 14, 15, 28, 29, 30], [192, 384], [(13, 71), (28, 69)], [(192, 2, 69), (384, 2, 69)]))]),
  (25, [(2, ([1, 6, 7, 8], [64], [(6, 117)], [(64, 2, 155), (64, 5, 69), (64, 9, 92), (64, 10, 149), (64, 12, 3), (64, 13, 9), (64, 14, 117), (64, 15, 71)]))])]
def tabs : List (Nat × (Nat × List Int)) := [(0, (217, [1116352408, 1899447441, 3049323471, 3921009573, 961987163, 1508970993, 2453635748, 2870763221, 3624381080, 310598401, 607225278, 1426881987, 1925078388, 2162078206, 2614888103, 3248222580, 3835390401, 4022224774, 264347078, 604807628, 770255983, 1249150122, 1555081692, 1996064986, 2554220882, 2821834349, 2952996808, 3210313671, 3336571891, 3584528711, 113926993, 338241895, 666307205, 773529912, 1294757372, 1396182291, 1695183700, 1986661051, 2177026350, 2456956037, 2730485921, 2820302411, 3259730800, 3345764771, 3516065817, 3600352804, 4094571909, 275423344, 430227734, 506948616, 659060556, 883997877, 958139571, 1322822218, 1537002063, 1747873779, 1955562222, 2024104815, 2227730452, 2361852424, 2428436474, 2756734187, 3204031479, 3329325298]))]
def ctx : Ctx := mkCtx els tis ents modes cuts tabs
noncomputable abbrev PP : Program := Tryz.prog
abbrev LI := List Go.Item × Env ctx × Hp ctx
theorem good3 : CodGood ctx 3 ent3.c := ⟨fun _ => rfl, fun cs h0 => by obtain ⟨n0, ls0, rfl, h1⟩ := fit_int h0; obtain rfl := fit_nil h1; rfl, fun _ => rfl, rfl, fun h k hi hk n => by cases hk; rfl⟩
theorem good4 : CodGood ctx 4 ent4.c := ⟨fun _ => rfl, fun cs h0 => by obtain ⟨n0, ls0, rfl, h1⟩ := fit_bool h0; obtain rfl := fit_nil h1; rfl, fun _ => rfl, rfl, fun h k hi hk n => by cases hi⟩
theorem good5 : CodGood ctx 5 ent5.c := ⟨fun _ => rfl, fun cs h0 => by obtain ⟨n0, ls0, rfl, h1⟩ := fit_int h0; obtain rfl := fit_nil h1; rfl, fun _ => rfl, rfl, fun h k hi hk n => by cases hk; rfl⟩
theorem good9 : CodGood ctx 9 ent9.c := ⟨fun _ => rfl, fun cs h0 => by obtain ⟨n0, ls0, rfl, h1⟩ := fit_str h0; obtain rfl := fit_nil h1; rfl, fun _ => rfl, rfl, fun h k hi hk n => by cases hi⟩
theorem good22 : CodGood ctx 22 ent22.c := ⟨fun _ => rfl, fun cs h0 => by obtain ⟨n0, ls0, rfl, h1⟩ := fit_sl h0; obtain rfl := fit_nil h1; rfl, fun _ => rfl, rfl, fun h k hi hk n => by cases hi⟩
theorem good24 : CodGood ctx 24 ent24.c := ⟨fun _ => rfl, fun cs h0 => by obtain ⟨n0, ls0, rfl, h1⟩ := fit_sl h0; obtain rfl := fit_nil h1; rfl, fun _ => rfl, rfl, fun h k hi hk n => by cases hi⟩
theorem good25 : CodGood ctx 25 ent25.c := ⟨fun _ => rfl, fun cs h0 => by obtain ⟨n0, ls0, rfl, h1⟩ := fit_sl h0; obtain rfl := fit_nil h1; rfl, fun _ => rfl, rfl, fun h k hi hk n => by cases hi⟩
theorem good27 : CodGood ctx 27 ent27.c := ⟨fun _ => rfl, fun cs h0 => by obtain ⟨n0, ls0, rfl, h1⟩ := fit_str h0; obtain ⟨n1, ls1, rfl, h2⟩ := fit_int h1; obtain ⟨n2, ls2, rfl, h3⟩ := fit_sl h2; obtain ⟨n3, ls3, rfl, h4⟩ := fit_int h3; obtain ⟨n4, ls4, rfl, h5⟩ := fit_str h4; obtain ⟨n5, ls5, rfl, h6⟩ := fit_int h5; obtain rfl := fit_nil h6; rfl, fun _ => rfl, rfl, fun h k hi hk n => by cases hi⟩
theorem good28 : CodGood ctx 28 ent28.c := ⟨fun _ => rfl, fun cs h0 => by obtain ⟨n0, ls0, rfl, h1⟩ := fit_sl h0; obtain rfl := fit_nil h1; rfl, fun _ => rfl, rfl, fun h k hi hk n => by cases hi⟩
theorem good29 : CodGood ctx 29 ent29.c := ⟨fun _ => rfl, fun cs h0 => by obtain ⟨n0, ls0, rfl, h1⟩ := fit_sl h0; obtain rfl := fit_nil h1; rfl, fun _ => rfl, rfl, fun h k hi hk n => by cases hi⟩
theorem good31 : CodGood ctx 31 ent31.c := ⟨fun _ => rfl, fun cs h0 => by obtain ⟨n0, ls0, rfl, h1⟩ := fit_str h0; obtain ⟨n1, ls1, rfl, h2⟩ := fit_bool h1; obtain ⟨n2, ls2, rfl, h3⟩ := fit_sl h2; obtain ⟨n3, ls3, rfl, h4⟩ := fit_str h3; obtain ⟨n4, ls4, rfl, h5⟩ := fit_int h4; obtain ⟨n5, ls5, rfl, h6⟩ := fit_sl h5; obtain ⟨n6, ls6, rfl, h7⟩ := fit_int h6; obtain ⟨n7, ls7, rfl, h8⟩ := fit_str h7; obtain ⟨n8, ls8, rfl, h9⟩ := fit_int h8; obtain ⟨n9, ls9, rfl, h10⟩ := fit_sl h9; obtain ⟨n10, ls10, rfl, h11⟩ := fit_sl h10; obtain ⟨n11, ls11, rfl, h12⟩ := fit_int h11; obtain rfl := fit_nil h12; rfl, fun _ => rfl, rfl, fun h k hi hk n => by cases hi⟩
theorem good37 : CodGood ctx 37 ent37.c := ⟨fun _ => rfl, fun cs h0 => by obtain ⟨n0, ls0, rfl, h1⟩ := fit_sl h0; obtain rfl := fit_nil h1; rfl, fun _ => rfl, rfl, fun h k hi hk n => by cases hi⟩
theorem good39 : CodGood ctx 39 ent39.c := ⟨fun _ => rfl, fun cs h0 => by obtain ⟨n0, ls0, rfl, h1⟩ := fit_sl h0; obtain rfl := fit_nil h1; rfl, fun _ => rfl, rfl, fun h k hi hk n => by cases hi⟩
theorem good40 : CodGood ctx 40 ent40.c := ⟨fun _ => rfl, fun cs h0 => by obtain ⟨n0, ls0, rfl, h1⟩ := fit_sl h0; obtain rfl := fit_nil h1; rfl, fun _ => rfl, rfl, fun h k hi hk n => by cases hi⟩
theorem good42 : CodGood ctx 42 ent42.c := ⟨fun _ => rfl, fun cs h0 => by obtain ⟨n0, ls0, rfl, h1⟩ := fit_str h0; obtain ⟨n1, ls1, rfl, h2⟩ := fit_int h1; obtain ⟨n2, ls2, rfl, h3⟩ := fit_sl h2; obtain ⟨n3, ls3, rfl, h4⟩ := fit_int h3; obtain ⟨n4, ls4, rfl, h5⟩ := fit_str h4; obtain ⟨n5, ls5, rfl, h6⟩ := fit_int h5; obtain rfl := fit_nil h6; rfl, fun _ => rfl, rfl, fun h k hi hk n => by cases hi⟩
theorem good43 : CodGood ctx 43 ent43.c := ⟨fun _ => rfl, fun cs h0 => by obtain ⟨n0, ls0, rfl, h1⟩ := fit_sl h0; obtain rfl := fit_nil h1; rfl, fun _ => rfl, rfl, fun h k hi hk n => by cases hi⟩
theorem good44 : CodGood ctx 44 ent44.c := ⟨fun _ => rfl, fun cs h0 => by obtain ⟨n0, ls0, rfl, h1⟩ := fit_sl h0; obtain rfl := fit_nil h1; rfl, fun _ => rfl, rfl, fun h k hi hk n => by cases hi⟩
theorem good46 : CodGood ctx 46 ent46.c := ⟨fun _ => rfl, fun cs h0 => by obtain ⟨n0, ls0, rfl, h1⟩ := fit_str h0; obtain ⟨n1, ls1, rfl, h2⟩ := fit_bool h1; obtain ⟨n2, ls2, rfl, h3⟩ := fit_sl h2; obtain ⟨n3, ls3, rfl, h4⟩ := fit_str h3; obtain ⟨n4, ls4, rfl, h5⟩ := fit_int h4; obtain ⟨n5, ls5, rfl, h6⟩ := fit_sl h5; obtain ⟨n6, ls6, rfl, h7⟩ := fit_int h6; obtain ⟨n7, ls7, rfl, h8⟩ := fit_str h7; obtain ⟨n8, ls8, rfl, h9⟩ := fit_int h8; obtain ⟨n9, ls9, rfl, h10⟩ := fit_sl h9; obtain ⟨n10, ls10, rfl, h11⟩ := fit_sl h10; obtain ⟨n11, ls11, rfl, h12⟩ := fit_int h11; obtain rfl := fit_nil h12; rfl, fun _ => rfl, rfl, fun h k hi hk n => by cases hi⟩
theorem good51 : CodGood ctx 51 ent51.c := ⟨fun _ => rfl, fun cs h0 => by obtain ⟨n0, ls0, rfl, h1⟩ := fit_sl h0; obtain rfl := fit_nil h1; rfl, fun _ => rfl, rfl, fun h k hi hk n => by cases hi⟩
theorem good52 : CodGood ctx 52 ent52.c := ⟨fun _ => rfl, fun cs h0 => by obtain ⟨n0, ls0, rfl, h1⟩ := fit_sl h0; obtain rfl := fit_nil h1; rfl, fun _ => rfl, rfl, fun h k hi hk n => by cases hi⟩
theorem good53 : CodGood ctx 53 ent53.c := ⟨fun _ => rfl, fun cs h0 => by obtain ⟨n0, ls0, rfl, h1⟩ := fit_sl h0; obtain rfl := fit_nil h1; rfl, fun _ => rfl, rfl, fun h k hi hk n => by cases hi⟩
theorem good54 : CodGood ctx 54 ent54.c := ⟨fun _ => rfl, fun cs h0 => by obtain ⟨n0, ls0, rfl, h1⟩ := fit_sl h0; obtain rfl := fit_nil h1; rfl, fun _ => rfl, rfl, fun h k hi hk n => by cases hi⟩
theorem good56 : CodGood ctx 56 ent56.c := ⟨fun _ => rfl, fun cs h0 => by obtain ⟨n0, ls0, rfl, h1⟩ := fit_str h0; obtain ⟨n1, ls1, rfl, h2⟩ := fit_bool h1; obtain ⟨n2, ls2, rfl, h3⟩ := fit_sl h2; obtain ⟨n3, ls3, rfl, h4⟩ := fit_str h3; obtain ⟨n4, ls4, rfl, h5⟩ := fit_int h4; obtain ⟨n5, ls5, rfl, h6⟩ := fit_sl h5; obtain ⟨n6, ls6, rfl, h7⟩ := fit_int h6; obtain ⟨n7, ls7, rfl, h8⟩ := fit_str h7; obtain ⟨n8, ls8, rfl, h9⟩ := fit_int h8; obtain ⟨n9, ls9, rfl, h10⟩ := fit_sl h9; obtain ⟨n10, ls10, rfl, h11⟩ := fit_sl h10; obtain ⟨n11, ls11, rfl, h12⟩ := fit_int h11; obtain ⟨n12, ls12, rfl, h13⟩ := fit_sl h12; obtain ⟨n13, ls13, rfl, h14⟩ := fit_sl h13; obtain ⟨n14, ls14, rfl, h15⟩ := fit_sl h14; obtain ⟨n15, ls15, rfl, h16⟩ := fit_sl h15; obtain rfl := fit_nil h16; rfl, fun _ => rfl, rfl, fun h k hi hk n => by cases hi⟩
theorem good59 : CodGood ctx 59 ent59.c := ⟨fun _ => rfl, fun cs h0 => by obtain ⟨n0, ls0, rfl, h1⟩ := fit_sl h0; obtain rfl := fit_nil h1; rfl, fun _ => rfl, rfl, fun h k hi hk n => by cases hi⟩
theorem good60 : CodGood ctx 60 ent60.c := ⟨fun _ => rfl, fun cs h0 => by obtain ⟨n0, ls0, rfl, h1⟩ := fit_sl h0; obtain rfl := fit_nil h1; rfl, fun _ => rfl, rfl, fun h k hi hk n => by cases hi⟩
theorem good62 : CodGood ctx 62 ent62.c := ⟨fun _ => rfl, fun cs h0 => by obtain ⟨n0, ls0, rfl, h1⟩ := fit_str h0; obtain ⟨n1, ls1, rfl, h2⟩ := fit_bool h1; obtain ⟨n2, ls2, rfl, h3⟩ := fit_sl h2; obtain ⟨n3, ls3, rfl, h4⟩ := fit_str h3; obtain ⟨n4, ls4, rfl, h5⟩ := fit_int h4; obtain ⟨n5, ls5, rfl, h6⟩ := fit_sl h5; obtain ⟨n6, ls6, rfl, h7⟩ := fit_int h6; obtain ⟨n7, ls7, rfl, h8⟩ := fit_str h7; obtain ⟨n8, ls8, rfl, h9⟩ := fit_int h8; obtain ⟨n9, ls9, rfl, h10⟩ := fit_sl h9; obtain ⟨n10, ls10, rfl, h11⟩ := fit_sl h10; obtain ⟨n11, ls11, rfl, h12⟩ := fit_int h11; obtain ⟨n12, ls12, rfl, h13⟩ := fit_sl h12; obtain ⟨n13, ls13, rfl, h14⟩ := fit_sl h13; obtain ⟨n14, ls14, rfl, h15⟩ := fit_sl h14; obtain ⟨n15, ls15, rfl, h16⟩ := fit_sl h15; obtain rfl := fit_nil h16; rfl, fun _ => rfl, rfl, fun h k hi hk n => by cases hi⟩
theorem good69 : CodGood ctx 69 ent69.c := ⟨fun _ => rfl, fun cs h0 => by obtain ⟨n0, ls0, rfl, h1⟩ := fit_int h0; obtain ⟨n1, ls1, rfl, h2⟩ := fit_int h1; obtain ⟨n2, ls2, rfl, h3⟩ := fit_bool h2; obtain ⟨n3, ls3, rfl, h4⟩ := fit_bool h3; obtain ⟨n4, ls4, rfl, h5⟩ := fit_bool h4; obtain ⟨n5, ls5, rfl, h6⟩ := fit_bool h5; obtain ⟨n6, ls6, rfl, h7⟩ := fit_str h6; obtain ⟨n7, ls7, rfl, h8⟩ := fit_int h7; obtain rfl := fit_nil h8; rfl, fun _ => rfl, rfl, fun h k hi hk n => by cases hi⟩
theorem good71 : CodGood ctx 71 ent71.c := ⟨fun _ => rfl, fun cs h0 => by obtain ⟨n0, ls0, rfl, h1⟩ := fit_int h0; obtain ⟨n1, ls1, rfl, h2⟩ := fit_str h1; obtain ⟨n2, ls2, rfl, h3⟩ := fit_int h2; obtain ⟨n3, ls3, rfl, h4⟩ := fit_int h3; obtain ⟨n4, ls4, rfl, h5⟩ := fit_int h4; obtain ⟨n5, ls5, rfl, h6⟩ := fit_bool h5; obtain ⟨n6, ls6, rfl, h7⟩ := fit_bool h6; obtain ⟨n7, ls7, rfl, h8⟩ := fit_bool h7; obtain ⟨n8, ls8, rfl, h9⟩ := fit_bool h8; obtain ⟨n9, ls9, rfl, h10⟩ := fit_str h9; obtain ⟨n10, ls10, rfl, h11⟩ := fit_int h10; obtain rfl := fit_nil h11; rfl, fun _ => rfl, rfl, fun h k hi hk n => by cases hi⟩
theorem good92 : CodGood ctx 92 ent92.c := ⟨fun _ => rfl, fun cs h0 => by obtain ⟨n0, ls0, rfl, h1⟩ := fit_int h0; obtain ⟨n1, ls1, rfl, h2⟩ := fit_bool h1; obtain rfl := fit_nil h2; rfl, fun _ => rfl, rfl, fun h k hi hk n => by cases hi⟩
theorem good93 : CodGood ctx 93 ent93.c := ⟨fun _ => rfl, fun cs h0 => by obtain ⟨n0, ls0, rfl, h1⟩ := fit_sl h0; obtain rfl := fit_nil h1; rfl, fun _ => rfl, rfl, fun h k hi hk n => by cases hi⟩
theorem good117 : CodGood ctx 117 ent117.c := ⟨fun _ => rfl, fun cs h0 => by obtain ⟨n0, ls0, rfl, h1⟩ := fit_int h0; obtain ⟨n1, ls1, rfl, h2⟩ := fit_int h1; obtain ⟨n2, ls2, rfl, h3⟩ := fit_int h2; obtain rfl := fit_nil h3; rfl, fun _ => rfl, rfl, fun h k hi hk n => by cases hi⟩
theorem good123 : CodGood ctx 123 ent123.c := ⟨fun _ => rfl, fun cs h0 => by obtain ⟨n0, ls0, rfl, h1⟩ := fit_str h0; obtain ⟨n1, ls1, rfl, h2⟩ := fit_str h1; obtain ⟨n2, ls2, rfl, h3⟩ := fit_int h2; obtain rfl := fit_nil h3; rfl, fun _ => rfl, rfl, fun h k hi hk n => by cases hi⟩
theorem good137 : CodGood ctx 137 ent137.c := ⟨fun _ => rfl, fun cs h0 => by obtain ⟨n0, ls0, rfl, h1⟩ := fit_bool h0; obtain rfl := fit_nil h1; rfl, fun _ => rfl, rfl, fun h k hi hk n => by cases hi⟩
theorem good138 : CodGood ctx 138 ent138.c := ⟨fun _ => rfl, fun cs h0 => by obtain ⟨n0, ls0, rfl, h1⟩ := fit_int h0; obtain rfl := fit_nil h1; rfl, fun _ => rfl, rfl, fun h k hi hk n => by cases hk; rfl⟩
theorem good139 : CodGood ctx 139 ent139.c := codBools_good (C := ctx) (e := 139) (n := 8) (f := fun x => x) (g := fun x => x) (fun _ => rfl) (by kernel_rfl)
theorem good149 : CodGood ctx 149 ent149.c := ⟨fun _ => rfl, fun cs h0 => by obtain ⟨n0, ls0, rfl, h1⟩ := fit_int h0; obtain ⟨n1, ls1, rfl, h2⟩ := fit_int h1; obtain rfl := fit_nil h2; rfl, fun _ => rfl, rfl, fun h k hi hk n => by cases hi⟩
theorem good155 : CodGood ctx 155 ent155.c := ⟨fun _ => rfl, fun cs h0 => by obtain ⟨n0, ls0, rfl, h1⟩ := fit_str h0; obtain ⟨n1, ls1, rfl, h2⟩ := fit_str h1; obtain ⟨n2, ls2, rfl, h3⟩ := fit_int h2; obtain rfl := fit_nil h3; rfl, fun _ => rfl, rfl, fun h k hi hk n => by cases hi⟩
theorem good162 : CodGood ctx 162 ent162.c := ⟨fun _ => rfl, fun cs h0 => by obtain ⟨n0, ls0, rfl, h1⟩ := fit_int h0; obtain ⟨n1, ls1, rfl, h2⟩ := fit_str h1; obtain ⟨n2, ls2, rfl, h3⟩ := fit_str h2; obtain ⟨n3, ls3, rfl, h4⟩ := fit_str h3; obtain rfl := fit_nil h4; rfl, fun _ => rfl, rfl, fun h k hi hk n => by cases hi⟩
theorem good167 : CodGood ctx 167 ent167.c := ⟨fun _ => rfl, fun cs h0 => by obtain ⟨n0, ls0, rfl, h1⟩ := fit_int h0; obtain ⟨n1, ls1, rfl, h2⟩ := fit_bool h1; obtain rfl := fit_nil h2; rfl, fun _ => rfl, rfl, fun h k hi hk n => by cases hi⟩
theorem good169 : CodGood ctx 169 ent169.c := ⟨fun _ => rfl, fun cs h0 => by obtain ⟨n0, ls0, rfl, h1⟩ := fit_int h0; obtain ⟨n1, ls1, rfl, h2⟩ := fit_int h1; obtain rfl := fit_nil h2; rfl, fun _ => rfl, rfl, fun h k hi hk n => by cases hi⟩
theorem good171 : CodGood ctx 171 ent171.c := ⟨fun _ => rfl, fun cs h0 => by obtain ⟨n0, ls0, rfl, h1⟩ := fit_int h0; obtain ⟨n1, ls1, rfl, h2⟩ := fit_int h1; obtain ⟨n2, ls2, rfl, h3⟩ := fit_bool h2; obtain ⟨n3, ls3, rfl, h4⟩ := fit_bool h3; obtain ⟨n4, ls4, rfl, h5⟩ := fit_bool h4; obtain ⟨n5, ls5, rfl, h6⟩ := fit_bool h5; obtain ⟨n6, ls6, rfl, h7⟩ := fit_str h6; obtain ⟨n7, ls7, rfl, h8⟩ := fit_int h7; obtain rfl := fit_nil h8; rfl, fun _ => rfl, rfl, fun h k hi hk n => by cases hi⟩
theorem good173 : CodGood ctx 173 ent173.c := ⟨fun _ => rfl, fun cs h0 => by obtain ⟨n0, ls0, rfl, h1⟩ := fit_int h0; obtain ⟨n1, ls1, rfl, h2⟩ := fit_str h1; obtain ⟨n2, ls2, rfl, h3⟩ := fit_int h2; obtain ⟨n3, ls3, rfl, h4⟩ := fit_int h3; obtain ⟨n4, ls4, rfl, h5⟩ := fit_int h4; obtain ⟨n5, ls5, rfl, h6⟩ := fit_bool h5; obtain ⟨n6, ls6, rfl, h7⟩ := fit_bool h6; obtain ⟨n7, ls7, rfl, h8⟩ := fit_bool h7; obtain ⟨n8, ls8, rfl, h9⟩ := fit_bool h8; obtain ⟨n9, ls9, rfl, h10⟩ := fit_str h9; obtain ⟨n10, ls10, rfl, h11⟩ := fit_int h10; obtain rfl := fit_nil h11; rfl, fun _ => rfl, rfl, fun h k hi hk n => by cases hi⟩
theorem good175 : CodGood ctx 175 ent175.c := ⟨fun _ => rfl, fun cs h0 => by obtain ⟨n0, ls0, rfl, h1⟩ := fit_int h0; obtain ⟨n1, ls1, rfl, h2⟩ := fit_int h1; obtain ⟨n2, ls2, rfl, h3⟩ := fit_int h2; obtain rfl := fit_nil h3; rfl, fun _ => rfl, rfl, fun h k hi hk n => by cases hi⟩
theorem good184 : CodGood ctx 184 ent184.c := ⟨fun _ => rfl, fun cs h0 => by obtain ⟨n0, ls0, rfl, h1⟩ := fit_sl h0; obtain rfl := fit_nil h1; rfl, fun _ => rfl, rfl, fun h k hi hk n => by cases hi⟩
theorem good185 : CodGood ctx 185 ent185.c := ⟨fun _ => rfl, fun cs h0 => by obtain ⟨n0, ls0, rfl, h1⟩ := fit_sl h0; obtain rfl := fit_nil h1; rfl, fun _ => rfl, rfl, fun h k hi hk n => by cases hi⟩
theorem good197 : CodGood ctx 197 ent197.c := ⟨fun _ => rfl, fun cs h0 => by obtain ⟨n0, ls0, rfl, h1⟩ := fit_str h0; obtain ⟨n1, ls1, rfl, h2⟩ := fit_str h1; obtain ⟨n2, ls2, rfl, h3⟩ := fit_int h2; obtain rfl := fit_nil h3; rfl, fun _ => rfl, rfl, fun h k hi hk n => by cases hi⟩
theorem good216 : CodGood ctx 216 ent216.c := ⟨fun _ => rfl, fun cs h0 => by obtain ⟨n0, ls0, rfl, h1⟩ := fit_bool h0; obtain rfl := fit_nil h1; rfl, fun _ => rfl, rfl, fun h k hi hk n => by cases hi⟩
theorem good217 : CodGood ctx 217 ent217.c := codBools_good (C := ctx) (e := 217) (n := 64) (f := fun x => x) (g := fun x => x) (fun _ => rfl) (by kernel_rfl)
theorem good220 : CodGood ctx 220 ent220.c := ⟨fun _ => rfl, fun cs h0 => by obtain ⟨n0, ls0, rfl, h1⟩ := fit_int h0; obtain rfl := fit_nil h1; rfl, fun _ => rfl, rfl, fun h k hi hk n => by cases hk; rfl⟩
theorem good223 : CodGood ctx 223 ent223.c := ⟨fun _ => rfl, fun cs h0 => by obtain ⟨n0, ls0, rfl, h1⟩ := fit_bool h0; obtain rfl := fit_nil h1; rfl, fun _ => rfl, rfl, fun h k hi hk n => by cases hi⟩
theorem good225 : CodGood ctx 225 ent225.c := ⟨fun _ => rfl, fun cs h0 => by obtain ⟨n0, ls0, rfl, h1⟩ := fit_str h0; obtain ⟨n1, ls1, rfl, h2⟩ := fit_int h1; obtain ⟨n2, ls2, rfl, h3⟩ := fit_bool h2; obtain rfl := fit_nil h3; rfl, fun _ => rfl, rfl, fun h k hi hk n => by cases hi⟩
theorem good229 : CodGood ctx 229 ent229.c := ⟨fun _ => rfl, fun cs h0 => by obtain ⟨n0, ls0, rfl, h1⟩ := fit_bool h0; obtain rfl := fit_nil h1; rfl, fun _ => rfl, rfl, fun h k hi hk n => by cases hi⟩
theorem good235 : CodGood ctx 235 ent235.c := ⟨fun _ => rfl, fun cs h0 => by obtain ⟨n0, ls0, rfl, h1⟩ := fit_bool h0; obtain rfl := fit_nil h1; rfl, fun _ => rfl, rfl, fun h k hi hk n => by cases hi⟩
theorem good237 : CodGood ctx 237 ent237.c := ⟨fun _ => rfl, fun cs h0 => by obtain ⟨n0, ls0, rfl, h1⟩ := fit_str h0; obtain ⟨n1, ls1, rfl, h2⟩ := fit_int h1; obtain ⟨n2, ls2, rfl, h3⟩ := fit_bool h2; obtain rfl := fit_nil h3; rfl, fun _ => rfl, rfl, fun h k hi hk n => by cases hi⟩
theorem good241 : CodGood ctx 241 ent241.c := ⟨fun _ => rfl, fun cs h0 => by obtain ⟨n0, ls0, rfl, h1⟩ := fit_sl h0; obtain rfl := fit_nil h1; rfl, fun _ => rfl, rfl, fun h k hi hk n => by cases hi⟩
theorem ctxOk : CtxOk ctx Tryz.prog := mkCtx_ok (by kernel_rfl) (fun x hx => by
  simp only [ents, List.mem_cons, List.not_mem_nil, or_false] at hx
  rcases hx with rfl | rfl | rfl | rfl | rfl | rfl | rfl | rfl | rfl | rfl | rfl | rfl | rfl | rfl | rfl | rfl | rfl | rfl | rfl | rfl | rfl | rfl | rfl | rfl | rfl | rfl | rfl | rfl | rfl | rfl | rfl | rfl | rfl | rfl | rfl | rfl | rfl | rfl | rfl | rfl | rfl | rfl | rfl | rfl | rfl | rfl | rfl | rfl | rfl | rfl | rfl | rfl | rfl | rfl | rfl
  · exact good3
  · exact good4
  · exact good5
  · exact good9
  · exact good22
  · exact good24
  · exact good25
  · exact good27
  · exact good28
  · exact good29
  · exact good31
  · exact good37
  · exact good39
  · exact good40
  · exact good42
  · exact good43
  · exact good44
  · exact good46
  · exact good51
  · exact good52
  · exact good53
  · exact good54
  · exact good56
  · exact good59
  · exact good60
  · exact good62
  · exact good69
  · exact good71
  · exact good92
  · exact good93
  · exact good117
  · exact good123
  · exact good137
  · exact good138
  · exact good139
  · exact good149
  · exact good155
  · exact good162
  · exact good167
  · exact good169
  · exact good171
  · exact good173
  · exact good175
  · exact good184
  · exact good185
  · exact good197
  · exact good216
  · exact good217
  · exact good220
  · exact good223
  · exact good225
  · exact good229
  · exact good235
  · exact good237
  · exact good241)
def cv0 : Cv (List (U (ElOf els))) Unit := cNil
def cv1 : Cv (List (U (ElOf els))) (List Int) := (cIso (cCons (uOne (cFsl 138)) cNil) (fun p => p.1) (fun s => (s, ())) (fun _ => rfl))
def cv2 : Cv (List (U (ElOf els))) (List Int) := (cIso (cCons (uOne (cRsl 138)) cNil) (fun p => p.1) (fun s => (s, ())) (fun _ => rfl))
def cv3 : Cv (List (U (ElOf els))) ByteArray := (cIso (cCons (uOne cStr) cNil) (fun p => p.1) (fun s => (s, ())) (fun _ => rfl))
def cSHasher : Cv (List (L (ElOf els))) SHasher := cIso (cCons cStr (cCons cStr (cCons (cInt .i64) cNil))) (fun p => ⟨p.1, p.2.1, p.2.2.1⟩) (fun s => (s.fState, s.fRest, s.fCount, ())) (fun _ => rfl)
def cv4 : Cv (List (U (ElOf els))) SHasher := (cIso (cCons (uAgg cSHasher) cNil) (fun p => p.1) (fun s => (s, ())) (fun _ => rfl))
def cv5 : Cv (List (U (ElOf els))) (Int × Int × Int) := (cIso (cCons (uOne (cInt .i64)) (cCons (uOne (cInt .i64)) (cCons (uOne (cInt .i64)) cNil))) (fun p => (p.1, p.2.1, p.2.2.1)) (fun s => (s.1, s.2.1, s.2.2, ())) (fun _ => rfl))
def cv6 : Cv (List (U (ElOf els))) Bool := (cIso (cCons (uOne cBool) cNil) (fun p => p.1) (fun s => (s, ())) (fun _ => rfl))
def cv7 : Cv (List (U (ElOf els))) (ByteArray × Int) := (cIso (cCons (uOne cStr) (cCons (uOne (cInt .i64)) cNil)) (fun p => (p.1, p.2.1)) (fun s => (s.1, s.2, ())) (fun _ => rfl))
def cv8 : Cv (List (U (ElOf els))) Int := (cIso (cCons (uOne (cInt .u32)) cNil) (fun p => p.1) (fun s => (s, ())) (fun _ => rfl))
def cv9 : Cv (List (U (ElOf els))) (Int × Int × Int) := (cIso (cCons (uOne (cInt .u32)) (cCons (uOne (cInt .u32)) (cCons (uOne (cInt .u32)) cNil))) (fun p => (p.1, p.2.1, p.2.2.1)) (fun s => (s.1, s.2.1, s.2.2, ())) (fun _ => rfl))
def cv10 : Cv (List (U (ElOf els))) (Int × Int × Int × Int × Bool) := (cIso (cCons (uOne (cInt .u32)) (cCons (uOne (cInt .u32)) (cCons (uOne (cInt .u32)) (cCons (uOne (cInt .u32)) (cCons (uOne cBool) cNil))))) (fun p => (p.1, p.2.1, p.2.2.1, p.2.2.2.1, p.2.2.2.2.1)) (fun s => (s.1, s.2.1, s.2.2.1, s.2.2.2.1, s.2.2.2.2, ())) (fun _ => rfl))
def cv11 : Cv (List (U (ElOf els))) ((List Int) × (List Int) × ByteArray) := (cIso (cCons (uOne (cRsl 138)) (cCons (uOne (cRsl 138)) (cCons (uOne cStr) cNil))) (fun p => (p.1, p.2.1, p.2.2.1)) (fun s => (s.1, s.2.1, s.2.2, ())) (fun _ => rfl))
def cv12 : Cv (List (U (ElOf els))) (SHasher × ByteArray) := (cIso (cCons (uAgg cSHasher) (cCons (uOne cStr) cNil)) (fun p => (p.1, p.2.1)) (fun s => (s.1, s.2, ())) (fun _ => rfl))
def cv13 : Cv (List (U (ElOf els))) (Int × Int) := (cIso (cCons (uOne (cInt .i64)) (cCons (uOne (cInt .u8)) cNil)) (fun p => (p.1, p.2.1)) (fun s => (s.1, s.2, ())) (fun _ => rfl))
def cSBookF27 : Cv (List (L (ElOf els))) SBook := cIso (cCons cStr (cCons (cInt .i64) (cCons (cFsl 69) (cCons (cInt .i64) (cCons cStr (cCons (cInt .i64) cNil)))))) (fun p => ⟨p.1, p.2.1, p.2.2.1, p.2.2.2.1, p.2.2.2.2.1, p.2.2.2.2.2.1⟩) (fun s => (s.fWord, s.fTries, s.fThings, s.fLast, s.fChain, s.fCount, ())) (fun _ => rfl)
def cv14 : Cv (List (U (ElOf els))) SBook := (cIso (cCons (uAgg cSBookF27) cNil) (fun p => p.1) (fun s => (s, ())) (fun _ => rfl))
def cv15 : Cv (List (U (ElOf els))) Int := (cIso (cCons (uOne (cInt .i64)) cNil) (fun p => p.1) (fun s => (s, ())) (fun _ => rfl))
def cSThing : Cv (List (L (ElOf els))) SThing := cIso (cCons (cInt .i64) (cCons (cInt .i64) (cCons cBool (cCons cBool (cCons cBool (cCons cBool (cCons cStr (cCons (cInt .i64) cNil)))))))) (fun p => ⟨p.1, p.2.1, p.2.2.1, p.2.2.2.1, p.2.2.2.2.1, p.2.2.2.2.2.1, p.2.2.2.2.2.2.1, p.2.2.2.2.2.2.2.1⟩) (fun s => (s.fId, s.fKind, s.fHidden, s.fFixed, s.fSigns, s.fWraps, s.fValue, s.fNext, ())) (fun _ => rfl)
def cv16 : Cv (List (U (ElOf els))) SThing := (cIso (cCons (uAgg cSThing) cNil) (fun p => p.1) (fun s => (s, ())) (fun _ => rfl))
def cv17 : Cv (List (U (ElOf els))) (Bool × Int) := (cIso (cCons (uOne cBool) (cCons (uOne (cInt .i64)) cNil)) (fun p => (p.1, p.2.1)) (fun s => (s.1, s.2, ())) (fun _ => rfl))
def cv18 : Cv (List (U (ElOf els))) (ByteArray × Bool) := (cIso (cCons (uOne cStr) (cCons (uOne cBool) cNil)) (fun p => (p.1, p.2.1)) (fun s => (s.1, s.2, ())) (fun _ => rfl))
def cSRec : Cv (List (L (ElOf els))) SRec := cIso (cCons (cInt .i64) (cCons cStr (cCons (cInt .i64) (cCons (cInt .i64) (cCons (cInt .i64) (cCons cBool (cCons cBool (cCons cBool (cCons cBool (cCons cStr (cCons (cInt .i64) cNil))))))))))) (fun p => ⟨p.1, p.2.1, p.2.2.1, ⟨p.2.2.2.1, p.2.2.2.2.1, p.2.2.2.2.2.1, p.2.2.2.2.2.2.1, p.2.2.2.2.2.2.2.1, p.2.2.2.2.2.2.2.2.1, p.2.2.2.2.2.2.2.2.2.1, p.2.2.2.2.2.2.2.2.2.2.1⟩⟩) (fun s => (s.fKind, s.fText, s.fNum, s.fThing.fId, s.fThing.fKind, s.fThing.fHidden, s.fThing.fFixed, s.fThing.fSigns, s.fThing.fWraps, s.fThing.fValue, s.fThing.fNext, ())) (fun _ => rfl)
def cv19 : Cv (List (U (ElOf els))) SRec := (cIso (cCons (uAgg cSRec) cNil) (fun p => p.1) (fun s => (s, ())) (fun _ => rfl))
def cSBook27 : Cv (List (L (ElOf els))) SBook := cIso (cCons cStr (cCons (cInt .i64) (cCons (cRsl 69) (cCons (cInt .i64) (cCons cStr (cCons (cInt .i64) cNil)))))) (fun p => ⟨p.1, p.2.1, p.2.2.1, p.2.2.2.1, p.2.2.2.2.1, p.2.2.2.2.2.1⟩) (fun s => (s.fWord, s.fTries, s.fThings, s.fLast, s.fChain, s.fCount, ())) (fun _ => rfl)
def cv20 : Cv (List (U (ElOf els))) SBook := (cIso (cCons (uAgg cSBook27) cNil) (fun p => p.1) (fun s => (s, ())) (fun _ => rfl))
def cv21 : Cv (List (U (ElOf els))) (SBook × Int) := (cIso (cCons (uAgg cSBook27) (cCons (uOne (cInt .i64)) cNil)) (fun p => (p.1, p.2.1)) (fun s => (s.1, s.2, ())) (fun _ => rfl))
def cv22 : Cv (List (U (ElOf els))) (SThing × Bool) := (cIso (cCons (uAgg cSThing) (cCons (uOne cBool) cNil)) (fun p => (p.1, p.2.1)) (fun s => (s.1, s.2, ())) (fun _ => rfl))
def cv23 : Cv (List (U (ElOf els))) (SThing × SThing) := (cIso (cCons (uAgg cSThing) (cCons (uAgg cSThing) cNil)) (fun p => (p.1, p.2.1)) (fun s => (s.1, s.2, ())) (fun _ => rfl))
def cv24 : Cv (List (U (ElOf els))) ((List SThing) × SThing) := (cIso (cCons (uOne (cRsl 69)) (cCons (uAgg cSThing) cNil)) (fun p => (p.1, p.2.1)) (fun s => (s.1, s.2, ())) (fun _ => rfl))
def cv25 : Cv (List (U (ElOf els))) (List SThing) := (cIso (cCons (uOne (cFsl 69)) cNil) (fun p => p.1) (fun s => (s, ())) (fun _ => rfl))
def cv26 : Cv (List (U (ElOf els))) (SBook × SRec) := (cIso (cCons (uAgg cSBook27) (cCons (uAgg cSRec) cNil)) (fun p => (p.1, p.2.1)) (fun s => (s.1, s.2, ())) (fun _ => rfl))
def cv27 : Cv (List (U (ElOf els))) (SBook × Bool) := (cIso (cCons (uAgg cSBookF27) (cCons (uOne cBool) cNil)) (fun p => (p.1, p.2.1)) (fun s => (s.1, s.2, ())) (fun _ => rfl))
def cv28 : Cv (List (U (ElOf els))) (ByteArray × Int) := (cIso (cCons (uOne cStr) (cCons (uOne (cInt .u8)) cNil)) (fun p => (p.1, p.2.1)) (fun s => (s.1, s.2, ())) (fun _ => rfl))
def cv29 : Cv (List (U (ElOf els))) (ByteArray × ByteArray) := (cIso (cCons (uOne cStr) (cCons (uOne cStr) cNil)) (fun p => (p.1, p.2.1)) (fun s => (s.1, s.2, ())) (fun _ => rfl))
def cv30 : Cv (List (U (ElOf els))) (ByteArray × Int × Int) := (cIso (cCons (uOne cStr) (cCons (uOne (cInt .i64)) (cCons (uOne (cInt .i64)) cNil))) (fun p => (p.1, p.2.1, p.2.2.1)) (fun s => (s.1, s.2.1, s.2.2, ())) (fun _ => rfl))
def cv31 : Cv (List (U (ElOf els))) (ByteArray × Int × ByteArray) := (cIso (cCons (uOne cStr) (cCons (uOne (cInt .i64)) (cCons (uOne cStr) cNil))) (fun p => (p.1, p.2.1, p.2.2.1)) (fun s => (s.1, s.2.1, s.2.2, ())) (fun _ => rfl))
def cv32 : Cv (List (U (ElOf els))) (Int × ByteArray) := (cIso (cCons (uOne (cInt .u32)) (cCons (uOne cStr) cNil)) (fun p => (p.1, p.2.1)) (fun s => (s.1, s.2, ())) (fun _ => rfl))
def cv33 : Cv (List (U (ElOf els))) (ByteArray × Int × SRec) := (cIso (cCons (uOne cStr) (cCons (uOne (cInt .i64)) (cCons (uAgg cSRec) cNil))) (fun p => (p.1, p.2.1, p.2.2.1)) (fun s => (s.1, s.2.1, s.2.2, ())) (fun _ => rfl))
def cv34 : Cv (List (U (ElOf els))) ((List SAct) × Bool) := (cIso (cCons (uOne (cFsl 162)) (cCons (uOne cBool) cNil)) (fun p => (p.1, p.2.1)) (fun s => (s.1, s.2, ())) (fun _ => rfl))
def cSDisk24 : Cv (List (L (ElOf els))) SDisk := cIso (cCons (cRsl 155) cNil) (fun p => ⟨p.1⟩) (fun s => (s.fFiles, ())) (fun _ => rfl)
def cv35 : Cv (List (U (ElOf els))) SDisk := (cIso (cCons (uAgg cSDisk24) cNil) (fun p => p.1) (fun s => (s, ())) (fun _ => rfl))
def cv36 : Cv (List (U (ElOf els))) (SDisk × ByteArray) := (cIso (cCons (uAgg cSDisk24) (cCons (uOne cStr) cNil)) (fun p => (p.1, p.2.1)) (fun s => (s.1, s.2, ())) (fun _ => rfl))
def cSFile : Cv (List (L (ElOf els))) SFile := cIso (cCons cStr (cCons cStr (cCons (cInt .i64) cNil))) (fun p => ⟨p.1, p.2.1, p.2.2.1⟩) (fun s => (s.fName, s.fText, s.fKept, ())) (fun _ => rfl)
def cSDiskF24 : Cv (List (L (ElOf els))) SDisk := cIso (cCons (cFsl 155) cNil) (fun p => ⟨p.1⟩) (fun s => (s.fFiles, ())) (fun _ => rfl)
def cv37 : Cv (List (U (ElOf els))) (SDisk × SFile) := (cIso (cCons (uAgg cSDisk24) (cCons (uAgg cSFile) cNil)) (fun p => (p.1, p.2.1)) (fun s => (s.1, s.2, ())) (fun _ => rfl))
def cv38 : Cv (List (U (ElOf els))) SDisk := (cIso (cCons (uAgg cSDiskF24) cNil) (fun p => p.1) (fun s => (s, ())) (fun _ => rfl))
def cSAct : Cv (List (L (ElOf els))) SAct := cIso (cCons (cInt .i64) (cCons cStr (cCons cStr (cCons cStr cNil)))) (fun p => ⟨p.1, p.2.1, p.2.2.1, p.2.2.2.1⟩) (fun s => (s.fKind, s.fName, s.fText, s.fTo, ())) (fun _ => rfl)
def cv39 : Cv (List (U (ElOf els))) (SDisk × SAct) := (cIso (cCons (uAgg cSDisk24) (cCons (uAgg cSAct) cNil)) (fun p => (p.1, p.2.1)) (fun s => (s.1, s.2, ())) (fun _ => rfl))
def cv40 : Cv (List (U (ElOf els))) (SDisk × Bool) := (cIso (cCons (uAgg cSDiskF24) (cCons (uOne cBool) cNil)) (fun p => (p.1, p.2.1)) (fun s => (s.1, s.2, ())) (fun _ => rfl))
def cv41 : Cv (List (U (ElOf els))) (SDisk × (List SAct)) := (cIso (cCons (uAgg cSDisk24) (cCons (uOne (cRsl 162)) cNil)) (fun p => (p.1, p.2.1)) (fun s => (s.1, s.2, ())) (fun _ => rfl))
def cv42 : Cv (List (U (ElOf els))) (SDisk × Int) := (cIso (cCons (uAgg cSDiskF24) (cCons (uOne (cInt .i64)) cNil)) (fun p => (p.1, p.2.1)) (fun s => (s.1, s.2, ())) (fun _ => rfl))
def cv43 : Cv (List (U (ElOf els))) (ByteArray × SDisk × Int × SRec) := (cIso (cCons (uOne cStr) (cCons (uAgg cSDisk24) (cCons (uOne (cInt .i64)) (cCons (uAgg cSRec) cNil)))) (fun p => (p.1, p.2.1, p.2.2.1, p.2.2.2.1)) (fun s => (s.1, s.2.1, s.2.2.1, s.2.2.2, ())) (fun _ => rfl))
def cSBoxF31 : Cv (List (L (ElOf els))) SBox := cIso (cCons cStr (cCons cBool (cCons (cFsl 155) (cCons cStr (cCons (cInt .i64) (cCons (cFsl 69) (cCons (cInt .i64) (cCons cStr (cCons (cInt .i64) (cCons (cFsl 92) (cCons (cFsl 149) (cCons (cInt .i64) cNil)))))))))))) (fun p => ⟨p.1, p.2.1, ⟨p.2.2.1⟩, ⟨p.2.2.2.1, p.2.2.2.2.1, p.2.2.2.2.2.1, p.2.2.2.2.2.2.1, p.2.2.2.2.2.2.2.1, p.2.2.2.2.2.2.2.2.1⟩, p.2.2.2.2.2.2.2.2.2.1, p.2.2.2.2.2.2.2.2.2.2.1, p.2.2.2.2.2.2.2.2.2.2.2.1⟩) (fun s => (s.fKey, s.fUp, s.fDisk.fFiles, s.fBook.fWord, s.fBook.fTries, s.fBook.fThings, s.fBook.fLast, s.fBook.fChain, s.fBook.fCount, s.fSessions, s.fLives, s.fOpened, ())) (fun _ => rfl)
def cv44 : Cv (List (U (ElOf els))) (SBox × Bool) := (cIso (cCons (uAgg cSBoxF31) (cCons (uOne cBool) cNil)) (fun p => (p.1, p.2.1)) (fun s => (s.1, s.2, ())) (fun _ => rfl))
def cv45 : Cv (List (U (ElOf els))) (List Int) := (cIso (cCons (uArr 138) cNil) (fun p => p.1) (fun s => (s, ())) (fun _ => rfl))
def cv46 : Cv (List (U (ElOf els))) (Int × Int) := (cIso (cCons (uOne (cInt .u32)) (cCons (uOne (cInt .i64)) cNil)) (fun p => (p.1, p.2.1)) (fun s => (s.1, s.2, ())) (fun _ => rfl))
def cv47 : Cv (List (U (ElOf els))) ((List Int) × ByteArray) := (cIso (cCons (uArr 138) (cCons (uOne cStr) cNil)) (fun p => (p.1, p.2.1)) (fun s => (s.1, s.2, ())) (fun _ => rfl))
def cv48 : Cv (List (U (ElOf els))) (SDisk × ByteArray) := (cIso (cCons (uAgg cSDiskF24) (cCons (uOne cStr) cNil)) (fun p => (p.1, p.2.1)) (fun s => (s.1, s.2, ())) (fun _ => rfl))
def cv49 : Cv (List (U (ElOf els))) (SDisk × SFile) := (cIso (cCons (uAgg cSDiskF24) (cCons (uAgg cSFile) cNil)) (fun p => (p.1, p.2.1)) (fun s => (s.1, s.2, ())) (fun _ => rfl))
def cv50 : Cv (List (U (ElOf els))) (SBook × SThing) := (cIso (cCons (uAgg cSBookF27) (cCons (uAgg cSThing) cNil)) (fun p => (p.1, p.2.1)) (fun s => (s.1, s.2, ())) (fun _ => rfl))
def cv51 : Cv (List (U (ElOf els))) (Bool × SBook) := (cIso (cCons (uOne cBool) (cCons (uAgg cSBookF27) cNil)) (fun p => (p.1, p.2.1)) (fun s => (s.1, s.2, ())) (fun _ => rfl))
def cv52 : Cv (List (U (ElOf els))) (SBox × SRec) := (cIso (cCons (uAgg cSBoxF31) (cCons (uAgg cSRec) cNil)) (fun p => (p.1, p.2.1)) (fun s => (s.1, s.2, ())) (fun _ => rfl))
def cv53 : Cv (List (U (ElOf els))) (Bool × SBox) := (cIso (cCons (uOne cBool) (cCons (uAgg cSBoxF31) cNil)) (fun p => (p.1, p.2.1)) (fun s => (s.1, s.2, ())) (fun _ => rfl))
def cv54 : Cv (List (U (ElOf els))) (SFile × SFile) := (cIso (cCons (uAgg cSFile) (cCons (uAgg cSFile) cNil)) (fun p => (p.1, p.2.1)) (fun s => (s.1, s.2, ())) (fun _ => rfl))
def cv55 : Cv (List (U (ElOf els))) ((List SFile) × (List SFile)) := (cIso (cCons (uOne (cRsl 155)) (cCons (uOne (cRsl 155)) cNil)) (fun p => (p.1, p.2.1)) (fun s => (s.1, s.2, ())) (fun _ => rfl))
def cv56 : Cv (List (U (ElOf els))) (SDisk × SDisk) := (cIso (cCons (uAgg cSDisk24) (cCons (uAgg cSDisk24) cNil)) (fun p => (p.1, p.2.1)) (fun s => (s.1, s.2, ())) (fun _ => rfl))
def cv57 : Cv (List (U (ElOf els))) ((List SThing) × (List SThing)) := (cIso (cCons (uOne (cRsl 69)) (cCons (uOne (cRsl 69)) cNil)) (fun p => (p.1, p.2.1)) (fun s => (s.1, s.2, ())) (fun _ => rfl))
def cv58 : Cv (List (U (ElOf els))) (SBook × SBook) := (cIso (cCons (uAgg cSBook27) (cCons (uAgg cSBook27) cNil)) (fun p => (p.1, p.2.1)) (fun s => (s.1, s.2, ())) (fun _ => rfl))
def cSSession : Cv (List (L (ElOf els))) SSession := cIso (cCons (cInt .i64) (cCons cBool cNil)) (fun p => ⟨p.1, p.2.1⟩) (fun s => (s.fId, s.fIn, ())) (fun _ => rfl)
def cv59 : Cv (List (U (ElOf els))) (SSession × SSession) := (cIso (cCons (uAgg cSSession) (cCons (uAgg cSSession) cNil)) (fun p => (p.1, p.2.1)) (fun s => (s.1, s.2, ())) (fun _ => rfl))
def cv60 : Cv (List (U (ElOf els))) ((List SSession) × (List SSession)) := (cIso (cCons (uOne (cRsl 92)) (cCons (uOne (cRsl 92)) cNil)) (fun p => (p.1, p.2.1)) (fun s => (s.1, s.2, ())) (fun _ => rfl))
def cSLive : Cv (List (L (ElOf els))) SLive := cIso (cCons (cInt .i64) (cCons (cInt .i64) cNil)) (fun p => ⟨p.1, p.2.1⟩) (fun s => (s.fId, s.fNext, ())) (fun _ => rfl)
def cv61 : Cv (List (U (ElOf els))) (SLive × SLive) := (cIso (cCons (uAgg cSLive) (cCons (uAgg cSLive) cNil)) (fun p => (p.1, p.2.1)) (fun s => (s.1, s.2, ())) (fun _ => rfl))
def cv62 : Cv (List (U (ElOf els))) ((List SLive) × (List SLive)) := (cIso (cCons (uOne (cRsl 149)) (cCons (uOne (cRsl 149)) cNil)) (fun p => (p.1, p.2.1)) (fun s => (s.1, s.2, ())) (fun _ => rfl))
def cSBox31 : Cv (List (L (ElOf els))) SBox := cIso (cCons cStr (cCons cBool (cCons (cRsl 155) (cCons cStr (cCons (cInt .i64) (cCons (cRsl 69) (cCons (cInt .i64) (cCons cStr (cCons (cInt .i64) (cCons (cRsl 92) (cCons (cRsl 149) (cCons (cInt .i64) cNil)))))))))))) (fun p => ⟨p.1, p.2.1, ⟨p.2.2.1⟩, ⟨p.2.2.2.1, p.2.2.2.2.1, p.2.2.2.2.2.1, p.2.2.2.2.2.2.1, p.2.2.2.2.2.2.2.1, p.2.2.2.2.2.2.2.2.1⟩, p.2.2.2.2.2.2.2.2.2.1, p.2.2.2.2.2.2.2.2.2.2.1, p.2.2.2.2.2.2.2.2.2.2.2.1⟩) (fun s => (s.fKey, s.fUp, s.fDisk.fFiles, s.fBook.fWord, s.fBook.fTries, s.fBook.fThings, s.fBook.fLast, s.fBook.fChain, s.fBook.fCount, s.fSessions, s.fLives, s.fOpened, ())) (fun _ => rfl)
def cv63 : Cv (List (U (ElOf els))) (SBox × SBox) := (cIso (cCons (uAgg cSBox31) (cCons (uAgg cSBox31) cNil)) (fun p => (p.1, p.2.1)) (fun s => (s.1, s.2, ())) (fun _ => rfl))
def cv64 : Cv (List (U (ElOf els))) ((List SFile) × Int) := (cIso (cCons (uOne (cFsl 155)) (cCons (uOne (cInt .i64)) cNil)) (fun p => (p.1, p.2.1)) (fun s => (s.1, s.2, ())) (fun _ => rfl))
def cv65 : Cv (List (U (ElOf els))) (Int × (List SFile)) := (cIso (cCons (uOne (cInt .i64)) (cCons (uAgg (cIso (cCons (cFsl 155) cNil) (fun p => p.1) (fun s => (s, ())) (fun _ => rfl))) cNil)) (fun p => (p.1, p.2.1)) (fun s => (s.1, s.2, ())) (fun _ => rfl))
def cv66 : Cv (List (U (ElOf els))) ((List SThing) × Int) := (cIso (cCons (uOne (cFsl 69)) (cCons (uOne (cInt .i64)) cNil)) (fun p => (p.1, p.2.1)) (fun s => (s.1, s.2, ())) (fun _ => rfl))
def cv67 : Cv (List (U (ElOf els))) (Int × (List SThing)) := (cIso (cCons (uOne (cInt .i64)) (cCons (uAgg (cIso (cCons (cFsl 69) cNil) (fun p => p.1) (fun s => (s, ())) (fun _ => rfl))) cNil)) (fun p => (p.1, p.2.1)) (fun s => (s.1, s.2, ())) (fun _ => rfl))
def cv68 : Cv (List (U (ElOf els))) (SBook × Int) := (cIso (cCons (uAgg cSBookF27) (cCons (uOne (cInt .i64)) cNil)) (fun p => (p.1, p.2.1)) (fun s => (s.1, s.2, ())) (fun _ => rfl))
def cv69 : Cv (List (U (ElOf els))) (Int × (List SThing)) := (cIso (cCons (uOne (cInt .i64)) (cCons (uAgg (cIso (cCons cJunk (cCons cJunk (cCons (cFsl 69) (cCons cJunk (cCons cJunk (cCons cJunk cNil)))))) (fun p => p.2.2.1) (fun s => ((), (), s, (), (), (), ())) (fun _ => rfl))) cNil)) (fun p => (p.1, p.2.1)) (fun s => (s.1, s.2, ())) (fun _ => rfl))
def cv70 : Cv (List (U (ElOf els))) ((List SSession) × Int) := (cIso (cCons (uOne (cFsl 92)) (cCons (uOne (cInt .i64)) cNil)) (fun p => (p.1, p.2.1)) (fun s => (s.1, s.2, ())) (fun _ => rfl))
def cv71 : Cv (List (U (ElOf els))) (Int × (List SSession)) := (cIso (cCons (uOne (cInt .i64)) (cCons (uAgg (cIso (cCons (cFsl 92) cNil) (fun p => p.1) (fun s => (s, ())) (fun _ => rfl))) cNil)) (fun p => (p.1, p.2.1)) (fun s => (s.1, s.2, ())) (fun _ => rfl))
def cv72 : Cv (List (U (ElOf els))) ((List SLive) × Int) := (cIso (cCons (uOne (cFsl 149)) (cCons (uOne (cInt .i64)) cNil)) (fun p => (p.1, p.2.1)) (fun s => (s.1, s.2, ())) (fun _ => rfl))
def cv73 : Cv (List (U (ElOf els))) (Int × (List SLive)) := (cIso (cCons (uOne (cInt .i64)) (cCons (uAgg (cIso (cCons (cFsl 149) cNil) (fun p => p.1) (fun s => (s, ())) (fun _ => rfl))) cNil)) (fun p => (p.1, p.2.1)) (fun s => (s.1, s.2, ())) (fun _ => rfl))
def cv74 : Cv (List (U (ElOf els))) (SBox × Int) := (cIso (cCons (uAgg cSBoxF31) (cCons (uOne (cInt .i64)) cNil)) (fun p => (p.1, p.2.1)) (fun s => (s.1, s.2, ())) (fun _ => rfl))
def cv75 : Cv (List (U (ElOf els))) (Int × ((List SFile) × (List SThing) × (List SSession) × (List SLive))) := (cIso (cCons (uOne (cInt .i64)) (cCons (uAgg (cIso (cCons cJunk (cCons cJunk (cCons (cFsl 155) (cCons cJunk (cCons cJunk (cCons (cFsl 69) (cCons cJunk (cCons cJunk (cCons cJunk (cCons (cFsl 92) (cCons (cFsl 149) (cCons cJunk cNil)))))))))))) (fun p => (p.2.2.1, p.2.2.2.2.2.1, p.2.2.2.2.2.2.2.2.2.1, p.2.2.2.2.2.2.2.2.2.2.1)) (fun s => ((), (), s.1, (), (), s.2.1, (), (), (), s.2.2.1, s.2.2.2, (), ())) (fun _ => rfl))) cNil)) (fun p => (p.1, p.2.1)) (fun s => (s.1, s.2, ())) (fun _ => rfl))
def cv76 : Cv (List (U (ElOf els))) ((List SFile) × Int) := (cIso (cCons (uOne (cRsl 155)) (cCons (uOne (cInt .i64)) cNil)) (fun p => (p.1, p.2.1)) (fun s => (s.1, s.2, ())) (fun _ => rfl))
def cv77 : Cv (List (U (ElOf els))) (SDisk × Int) := (cIso (cCons (uAgg cSDisk24) (cCons (uOne (cInt .i64)) cNil)) (fun p => (p.1, p.2.1)) (fun s => (s.1, s.2, ())) (fun _ => rfl))
def cv78 : Cv (List (U (ElOf els))) ((List SThing) × Int) := (cIso (cCons (uOne (cRsl 69)) (cCons (uOne (cInt .i64)) cNil)) (fun p => (p.1, p.2.1)) (fun s => (s.1, s.2, ())) (fun _ => rfl))
def cv79 : Cv (List (U (ElOf els))) ((List SSession) × Int) := (cIso (cCons (uOne (cRsl 92)) (cCons (uOne (cInt .i64)) cNil)) (fun p => (p.1, p.2.1)) (fun s => (s.1, s.2, ())) (fun _ => rfl))
def cv80 : Cv (List (U (ElOf els))) ((List SLive) × Int) := (cIso (cCons (uOne (cRsl 149)) (cCons (uOne (cInt .i64)) cNil)) (fun p => (p.1, p.2.1)) (fun s => (s.1, s.2, ())) (fun _ => rfl))
def cv81 : Cv (List (U (ElOf els))) (SBox × Int) := (cIso (cCons (uAgg cSBox31) (cCons (uOne (cInt .i64)) cNil)) (fun p => (p.1, p.2.1)) (fun s => (s.1, s.2, ())) (fun _ => rfl))
def cv82 : Cv (List (U (ElOf els))) (SFile × Int) := (cIso (cCons (uAgg cSFile) (cCons (uOne (cInt .i64)) cNil)) (fun p => (p.1, p.2.1)) (fun s => (s.1, s.2, ())) (fun _ => rfl))
def cv83 : Cv (List (U (ElOf els))) ((List SFile) × Int) := (cIso (cCons (uOne (cRsl 197)) (cCons (uOne (cInt .i64)) cNil)) (fun p => (p.1, p.2.1)) (fun s => (s.1, s.2, ())) (fun _ => rfl))
def cSDisk39 : Cv (List (L (ElOf els))) SDisk := cIso (cCons (cRsl 197) cNil) (fun p => ⟨p.1⟩) (fun s => (s.fFiles, ())) (fun _ => rfl)
def cv84 : Cv (List (U (ElOf els))) (SDisk × Int) := (cIso (cCons (uAgg cSDisk39) (cCons (uOne (cInt .i64)) cNil)) (fun p => (p.1, p.2.1)) (fun s => (s.1, s.2, ())) (fun _ => rfl))
def cv85 : Cv (List (U (ElOf els))) (SThing × Int) := (cIso (cCons (uAgg cSThing) (cCons (uOne (cInt .i64)) cNil)) (fun p => (p.1, p.2.1)) (fun s => (s.1, s.2, ())) (fun _ => rfl))
def cv86 : Cv (List (U (ElOf els))) ((List SThing) × Int) := (cIso (cCons (uOne (cRsl 171)) (cCons (uOne (cInt .i64)) cNil)) (fun p => (p.1, p.2.1)) (fun s => (s.1, s.2, ())) (fun _ => rfl))
def cSBook42 : Cv (List (L (ElOf els))) SBook := cIso (cCons cStr (cCons (cInt .i64) (cCons (cRsl 171) (cCons (cInt .i64) (cCons cStr (cCons (cInt .i64) cNil)))))) (fun p => ⟨p.1, p.2.1, p.2.2.1, p.2.2.2.1, p.2.2.2.2.1, p.2.2.2.2.2.1⟩) (fun s => (s.fWord, s.fTries, s.fThings, s.fLast, s.fChain, s.fCount, ())) (fun _ => rfl)
def cv87 : Cv (List (U (ElOf els))) (SBook × Int) := (cIso (cCons (uAgg cSBook42) (cCons (uOne (cInt .i64)) cNil)) (fun p => (p.1, p.2.1)) (fun s => (s.1, s.2, ())) (fun _ => rfl))
def cv88 : Cv (List (U (ElOf els))) ((List SSession) × Int) := (cIso (cCons (uOne (cRsl 167)) (cCons (uOne (cInt .i64)) cNil)) (fun p => (p.1, p.2.1)) (fun s => (s.1, s.2, ())) (fun _ => rfl))
def cv89 : Cv (List (U (ElOf els))) ((List SLive) × Int) := (cIso (cCons (uOne (cRsl 169)) (cCons (uOne (cInt .i64)) cNil)) (fun p => (p.1, p.2.1)) (fun s => (s.1, s.2, ())) (fun _ => rfl))
def cSBox46 : Cv (List (L (ElOf els))) SBox := cIso (cCons cStr (cCons cBool (cCons (cRsl 197) (cCons cStr (cCons (cInt .i64) (cCons (cRsl 171) (cCons (cInt .i64) (cCons cStr (cCons (cInt .i64) (cCons (cRsl 167) (cCons (cRsl 169) (cCons (cInt .i64) cNil)))))))))))) (fun p => ⟨p.1, p.2.1, ⟨p.2.2.1⟩, ⟨p.2.2.2.1, p.2.2.2.2.1, p.2.2.2.2.2.1, p.2.2.2.2.2.2.1, p.2.2.2.2.2.2.2.1, p.2.2.2.2.2.2.2.2.1⟩, p.2.2.2.2.2.2.2.2.2.1, p.2.2.2.2.2.2.2.2.2.2.1, p.2.2.2.2.2.2.2.2.2.2.2.1⟩) (fun s => (s.fKey, s.fUp, s.fDisk.fFiles, s.fBook.fWord, s.fBook.fTries, s.fBook.fThings, s.fBook.fLast, s.fBook.fChain, s.fBook.fCount, s.fSessions, s.fLives, s.fOpened, ())) (fun _ => rfl)
def cv90 : Cv (List (U (ElOf els))) (SBox × Int) := (cIso (cCons (uAgg cSBox46) (cCons (uOne (cInt .i64)) cNil)) (fun p => (p.1, p.2.1)) (fun s => (s.1, s.2, ())) (fun _ => rfl))
def cv91 : Cv (List (U (ElOf els))) SFile := (cIso (cCons (uAgg cSFile) cNil) (fun p => p.1) (fun s => (s, ())) (fun _ => rfl))
def cv92 : Cv (List (U (ElOf els))) (List SFile) := (cIso (cCons (uOne (cRsl 197)) cNil) (fun p => p.1) (fun s => (s, ())) (fun _ => rfl))
def cv93 : Cv (List (U (ElOf els))) (List SFile) := (cIso (cCons (uOne (cFsl 155)) cNil) (fun p => p.1) (fun s => (s, ())) (fun _ => rfl))
def cv94 : Cv (List (U (ElOf els))) SDisk := (cIso (cCons (uAgg cSDisk39) cNil) (fun p => p.1) (fun s => (s, ())) (fun _ => rfl))
def cv95 : Cv (List (U (ElOf els))) (List SThing) := (cIso (cCons (uOne (cRsl 171)) cNil) (fun p => p.1) (fun s => (s, ())) (fun _ => rfl))
def cv96 : Cv (List (U (ElOf els))) SBook := (cIso (cCons (uAgg cSBook42) cNil) (fun p => p.1) (fun s => (s, ())) (fun _ => rfl))
def cv97 : Cv (List (U (ElOf els))) SSession := (cIso (cCons (uAgg cSSession) cNil) (fun p => p.1) (fun s => (s, ())) (fun _ => rfl))
def cv98 : Cv (List (U (ElOf els))) (List SSession) := (cIso (cCons (uOne (cRsl 167)) cNil) (fun p => p.1) (fun s => (s, ())) (fun _ => rfl))
def cv99 : Cv (List (U (ElOf els))) (List SSession) := (cIso (cCons (uOne (cFsl 92)) cNil) (fun p => p.1) (fun s => (s, ())) (fun _ => rfl))
def cv100 : Cv (List (U (ElOf els))) SLive := (cIso (cCons (uAgg cSLive) cNil) (fun p => p.1) (fun s => (s, ())) (fun _ => rfl))
def cv101 : Cv (List (U (ElOf els))) (List SLive) := (cIso (cCons (uOne (cRsl 169)) cNil) (fun p => p.1) (fun s => (s, ())) (fun _ => rfl))
def cv102 : Cv (List (U (ElOf els))) (List SLive) := (cIso (cCons (uOne (cFsl 149)) cNil) (fun p => p.1) (fun s => (s, ())) (fun _ => rfl))
def cv103 : Cv (List (U (ElOf els))) SBox := (cIso (cCons (uAgg cSBox46) cNil) (fun p => p.1) (fun s => (s, ())) (fun _ => rfl))
def cv104 : Cv (List (U (ElOf els))) SBox := (cIso (cCons (uAgg cSBoxF31) cNil) (fun p => p.1) (fun s => (s, ())) (fun _ => rfl))
def cv105 : Cv (List (U (ElOf els))) (Int × Int × Bool) := (cIso (cCons (uOne (cInt .i64)) (cCons (uOne (cInt .i64)) (cCons (uOne cBool) cNil))) (fun p => (p.1, p.2.1, p.2.2.1)) (fun s => (s.1, s.2.1, s.2.2, ())) (fun _ => rfl))
def cv106 : Cv (List (U (ElOf els))) ((List ByteArray) × Int) := (cIso (cCons (uOne (cFsl 9)) (cCons (uOne (cInt .i64)) cNil)) (fun p => (p.1, p.2.1)) (fun s => (s.1, s.2, ())) (fun _ => rfl))
def cSL19Cur : Cv (List (L (ElOf els))) SL19Cur := cIso (cCons cStr (cCons (cInt .i64) (cCons cBool cNil))) (fun p => ⟨p.1, p.2.1, p.2.2.1⟩) (fun s => (s.fText, s.fAt, s.fBad, ())) (fun _ => rfl)
def cv107 : Cv (List (U (ElOf els))) (SL19Cur × Int) := (cIso (cCons (uAgg cSL19Cur) (cCons (uOne (cInt .i64)) cNil)) (fun p => (p.1, p.2.1)) (fun s => (s.1, s.2, ())) (fun _ => rfl))
def cv108 : Cv (List (U (ElOf els))) (ByteArray × SL19Cur) := (cIso (cCons (uOne cStr) (cCons (uAgg cSL19Cur) cNil)) (fun p => (p.1, p.2.1)) (fun s => (s.1, s.2, ())) (fun _ => rfl))
def cv109 : Cv (List (U (ElOf els))) SL19Cur := (cIso (cCons (uAgg cSL19Cur) cNil) (fun p => p.1) (fun s => (s, ())) (fun _ => rfl))
def cv110 : Cv (List (U (ElOf els))) (Int × SL19Cur) := (cIso (cCons (uOne (cInt .i64)) (cCons (uAgg cSL19Cur) cNil)) (fun p => (p.1, p.2.1)) (fun s => (s.1, s.2, ())) (fun _ => rfl))
def cv111 : Cv (List (U (ElOf els))) (SRec × Bool) := (cIso (cCons (uAgg cSRec) (cCons (uOne cBool) cNil)) (fun p => (p.1, p.2.1)) (fun s => (s.1, s.2, ())) (fun _ => rfl))
def cv112 : Cv (List (U (ElOf els))) ((List SRec) × Int) := (cIso (cCons (uOne (cFsl 71)) (cCons (uOne (cInt .i64)) cNil)) (fun p => (p.1, p.2.1)) (fun s => (s.1, s.2, ())) (fun _ => rfl))
def cv113 : Cv (List (U (ElOf els))) (SBook × (List SRec)) := (cIso (cCons (uAgg cSBook27) (cCons (uOne (cRsl 71)) cNil)) (fun p => (p.1, p.2.1)) (fun s => (s.1, s.2, ())) (fun _ => rfl))
def cv114 : Cv (List (U (ElOf els))) (ByteArray × SDisk) := (cIso (cCons (uOne cStr) (cCons (uAgg cSDisk24) cNil)) (fun p => (p.1, p.2.1)) (fun s => (s.1, s.2, ())) (fun _ => rfl))
def cv115 : Cv (List (U (ElOf els))) (SBook × (List SAct) × Bool) := (cIso (cCons (uAgg cSBookF27) (cCons (uOne (cFsl 162)) (cCons (uOne cBool) cNil))) (fun p => (p.1, p.2.1, p.2.2.1)) (fun s => (s.1, s.2.1, s.2.2, ())) (fun _ => rfl))
def cv116 : Cv (List (U (ElOf els))) SBox := (cIso (cCons (uAgg cSBox31) cNil) (fun p => p.1) (fun s => (s, ())) (fun _ => rfl))
def cSFields : Cv (List (L (ElOf els))) SFields := cIso (cCons cStr (cCons (cInt .i64) (cCons cBool cNil))) (fun p => ⟨p.1, p.2.1, p.2.2.1⟩) (fun s => (s.fText, s.fAt, s.fBad, ())) (fun _ => rfl)
def cv117 : Cv (List (U (ElOf els))) SFields := (cIso (cCons (uAgg cSFields) cNil) (fun p => p.1) (fun s => (s, ())) (fun _ => rfl))
def cv118 : Cv (List (U (ElOf els))) (Int × SFields) := (cIso (cCons (uOne (cInt .i64)) (cCons (uAgg cSFields) cNil)) (fun p => (p.1, p.2.1)) (fun s => (s.1, s.2, ())) (fun _ => rfl))
def cv119 : Cv (List (U (ElOf els))) (ByteArray × Int × Bool) := (cIso (cCons (uOne cStr) (cCons (uOne (cInt .i64)) (cCons (uOne cBool) cNil))) (fun p => (p.1, p.2.1, p.2.2.1)) (fun s => (s.1, s.2.1, s.2.2, ())) (fun _ => rfl))
def cv120 : Cv (List (U (ElOf els))) (ByteArray × SFields) := (cIso (cCons (uOne cStr) (cCons (uAgg cSFields) cNil)) (fun p => (p.1, p.2.1)) (fun s => (s.1, s.2, ())) (fun _ => rfl))
def cv121 : Cv (List (U (ElOf els))) ((List Int) × Int) := (cIso (cCons (uOne (cRsl 3)) (cCons (uOne (cInt .i64)) cNil)) (fun p => (p.1, p.2.1)) (fun s => (s.1, s.2, ())) (fun _ => rfl))
def cv122 : Cv (List (U (ElOf els))) ((List ByteArray) × Int) := (cIso (cCons (uOne (cRsl 9)) (cCons (uOne (cInt .i64)) cNil)) (fun p => (p.1, p.2.1)) (fun s => (s.1, s.2, ())) (fun _ => rfl))
def cv123 : Cv (List (U (ElOf els))) ((List SGiven) × Int) := (cIso (cCons (uOne (cRsl 175)) (cCons (uOne (cInt .i64)) cNil)) (fun p => (p.1, p.2.1)) (fun s => (s.1, s.2, ())) (fun _ => rfl))
def cv124 : Cv (List (U (ElOf els))) (SRec × Int) := (cIso (cCons (uAgg cSRec) (cCons (uOne (cInt .i64)) cNil)) (fun p => (p.1, p.2.1)) (fun s => (s.1, s.2, ())) (fun _ => rfl))
def cv125 : Cv (List (U (ElOf els))) ((List SRec) × Int) := (cIso (cCons (uOne (cRsl 173)) (cCons (uOne (cInt .i64)) cNil)) (fun p => (p.1, p.2.1)) (fun s => (s.1, s.2, ())) (fun _ => rfl))
def cSLife56 : Cv (List (L (ElOf els))) SLife := cIso (cCons cStr (cCons cBool (cCons (cRsl 197) (cCons cStr (cCons (cInt .i64) (cCons (cRsl 171) (cCons (cInt .i64) (cCons cStr (cCons (cInt .i64) (cCons (cRsl 167) (cCons (cRsl 169) (cCons (cInt .i64) (cCons (cRsl 3) (cCons (cRsl 9) (cCons (cRsl 175) (cCons (cRsl 173) cNil)))))))))))))))) (fun p => ⟨⟨p.1, p.2.1, ⟨p.2.2.1⟩, ⟨p.2.2.2.1, p.2.2.2.2.1, p.2.2.2.2.2.1, p.2.2.2.2.2.2.1, p.2.2.2.2.2.2.2.1, p.2.2.2.2.2.2.2.2.1⟩, p.2.2.2.2.2.2.2.2.2.1, p.2.2.2.2.2.2.2.2.2.2.1, p.2.2.2.2.2.2.2.2.2.2.2.1⟩, p.2.2.2.2.2.2.2.2.2.2.2.2.1, p.2.2.2.2.2.2.2.2.2.2.2.2.2.1, p.2.2.2.2.2.2.2.2.2.2.2.2.2.2.1, p.2.2.2.2.2.2.2.2.2.2.2.2.2.2.2.1⟩) (fun s => (s.fBox.fKey, s.fBox.fUp, s.fBox.fDisk.fFiles, s.fBox.fBook.fWord, s.fBox.fBook.fTries, s.fBox.fBook.fThings, s.fBox.fBook.fLast, s.fBox.fBook.fChain, s.fBox.fBook.fCount, s.fBox.fSessions, s.fBox.fLives, s.fBox.fOpened, s.fCodes, s.fReplies, s.fGives, s.fDone, ())) (fun _ => rfl)
def cv126 : Cv (List (U (ElOf els))) (SLife × Int) := (cIso (cCons (uAgg cSLife56) (cCons (uOne (cInt .i64)) cNil)) (fun p => (p.1, p.2.1)) (fun s => (s.1, s.2, ())) (fun _ => rfl))
def cv127 : Cv (List (U (ElOf els))) (List Int) := (cIso (cCons (uOne (cRsl 3)) cNil) (fun p => p.1) (fun s => (s, ())) (fun _ => rfl))
def cv128 : Cv (List (U (ElOf els))) (List Int) := (cIso (cCons (uOne (cFsl 3)) cNil) (fun p => p.1) (fun s => (s, ())) (fun _ => rfl))
def cv129 : Cv (List (U (ElOf els))) (List ByteArray) := (cIso (cCons (uOne (cRsl 9)) cNil) (fun p => p.1) (fun s => (s, ())) (fun _ => rfl))
def cv130 : Cv (List (U (ElOf els))) (List ByteArray) := (cIso (cCons (uOne (cFsl 9)) cNil) (fun p => p.1) (fun s => (s, ())) (fun _ => rfl))
def cSGiven : Cv (List (L (ElOf els))) SGiven := cIso (cCons (cInt .i64) (cCons (cInt .i64) (cCons (cInt .i64) cNil))) (fun p => ⟨p.1, p.2.1, p.2.2.1⟩) (fun s => (s.fThing, s.fLeaf, s.fWhen, ())) (fun _ => rfl)
def cv131 : Cv (List (U (ElOf els))) SGiven := (cIso (cCons (uAgg cSGiven) cNil) (fun p => p.1) (fun s => (s, ())) (fun _ => rfl))
def cv132 : Cv (List (U (ElOf els))) (List SGiven) := (cIso (cCons (uOne (cRsl 175)) cNil) (fun p => p.1) (fun s => (s, ())) (fun _ => rfl))
def cv133 : Cv (List (U (ElOf els))) (List SGiven) := (cIso (cCons (uOne (cFsl 117)) cNil) (fun p => p.1) (fun s => (s, ())) (fun _ => rfl))
def cv134 : Cv (List (U (ElOf els))) (List SRec) := (cIso (cCons (uOne (cRsl 173)) cNil) (fun p => p.1) (fun s => (s, ())) (fun _ => rfl))
def cv135 : Cv (List (U (ElOf els))) (List SRec) := (cIso (cCons (uOne (cFsl 71)) cNil) (fun p => p.1) (fun s => (s, ())) (fun _ => rfl))
def cSLifeF62 : Cv (List (L (ElOf els))) SLife := cIso (cCons cStr (cCons cBool (cCons (cFsl 155) (cCons cStr (cCons (cInt .i64) (cCons (cFsl 69) (cCons (cInt .i64) (cCons cStr (cCons (cInt .i64) (cCons (cFsl 92) (cCons (cFsl 149) (cCons (cInt .i64) (cCons (cFsl 3) (cCons (cFsl 9) (cCons (cFsl 117) (cCons (cFsl 71) cNil)))))))))))))))) (fun p => ⟨⟨p.1, p.2.1, ⟨p.2.2.1⟩, ⟨p.2.2.2.1, p.2.2.2.2.1, p.2.2.2.2.2.1, p.2.2.2.2.2.2.1, p.2.2.2.2.2.2.2.1, p.2.2.2.2.2.2.2.2.1⟩, p.2.2.2.2.2.2.2.2.2.1, p.2.2.2.2.2.2.2.2.2.2.1, p.2.2.2.2.2.2.2.2.2.2.2.1⟩, p.2.2.2.2.2.2.2.2.2.2.2.2.1, p.2.2.2.2.2.2.2.2.2.2.2.2.2.1, p.2.2.2.2.2.2.2.2.2.2.2.2.2.2.1, p.2.2.2.2.2.2.2.2.2.2.2.2.2.2.2.1⟩) (fun s => (s.fBox.fKey, s.fBox.fUp, s.fBox.fDisk.fFiles, s.fBox.fBook.fWord, s.fBox.fBook.fTries, s.fBox.fBook.fThings, s.fBox.fBook.fLast, s.fBox.fBook.fChain, s.fBox.fBook.fCount, s.fBox.fSessions, s.fBox.fLives, s.fBox.fOpened, s.fCodes, s.fReplies, s.fGives, s.fDone, ())) (fun _ => rfl)
def cv136 : Cv (List (U (ElOf els))) SLife := (cIso (cCons (uAgg cSLife56) cNil) (fun p => p.1) (fun s => (s, ())) (fun _ => rfl))
def cv137 : Cv (List (U (ElOf els))) SLife := (cIso (cCons (uAgg cSLifeF62) cNil) (fun p => p.1) (fun s => (s, ())) (fun _ => rfl))
def cSLife62 : Cv (List (L (ElOf els))) SLife := cIso (cCons cStr (cCons cBool (cCons (cRsl 155) (cCons cStr (cCons (cInt .i64) (cCons (cRsl 69) (cCons (cInt .i64) (cCons cStr (cCons (cInt .i64) (cCons (cRsl 92) (cCons (cRsl 149) (cCons (cInt .i64) (cCons (cRsl 3) (cCons (cRsl 9) (cCons (cRsl 117) (cCons (cRsl 71) cNil)))))))))))))))) (fun p => ⟨⟨p.1, p.2.1, ⟨p.2.2.1⟩, ⟨p.2.2.2.1, p.2.2.2.2.1, p.2.2.2.2.2.1, p.2.2.2.2.2.2.1, p.2.2.2.2.2.2.2.1, p.2.2.2.2.2.2.2.2.1⟩, p.2.2.2.2.2.2.2.2.2.1, p.2.2.2.2.2.2.2.2.2.2.1, p.2.2.2.2.2.2.2.2.2.2.2.1⟩, p.2.2.2.2.2.2.2.2.2.2.2.2.1, p.2.2.2.2.2.2.2.2.2.2.2.2.2.1, p.2.2.2.2.2.2.2.2.2.2.2.2.2.2.1, p.2.2.2.2.2.2.2.2.2.2.2.2.2.2.2.1⟩) (fun s => (s.fBox.fKey, s.fBox.fUp, s.fBox.fDisk.fFiles, s.fBox.fBook.fWord, s.fBox.fBook.fTries, s.fBox.fBook.fThings, s.fBox.fBook.fLast, s.fBox.fBook.fChain, s.fBox.fBook.fCount, s.fBox.fSessions, s.fBox.fLives, s.fBox.fOpened, s.fCodes, s.fReplies, s.fGives, s.fDone, ())) (fun _ => rfl)
def cv138 : Cv (List (U (ElOf els))) SLife := (cIso (cCons (uAgg cSLife62) cNil) (fun p => p.1) (fun s => (s, ())) (fun _ => rfl))
def cv139 : Cv (List (U (ElOf els))) ((List Int) × (List Int)) := (cIso (cCons (uOne (cRsl 3)) (cCons (uOne (cRsl 3)) cNil)) (fun p => (p.1, p.2.1)) (fun s => (s.1, s.2, ())) (fun _ => rfl))
def cv140 : Cv (List (U (ElOf els))) ((List ByteArray) × (List ByteArray)) := (cIso (cCons (uOne (cRsl 9)) (cCons (uOne (cRsl 9)) cNil)) (fun p => (p.1, p.2.1)) (fun s => (s.1, s.2, ())) (fun _ => rfl))
def cv141 : Cv (List (U (ElOf els))) (SGiven × SGiven) := (cIso (cCons (uAgg cSGiven) (cCons (uAgg cSGiven) cNil)) (fun p => (p.1, p.2.1)) (fun s => (s.1, s.2, ())) (fun _ => rfl))
def cv142 : Cv (List (U (ElOf els))) ((List SGiven) × (List SGiven)) := (cIso (cCons (uOne (cRsl 117)) (cCons (uOne (cRsl 117)) cNil)) (fun p => (p.1, p.2.1)) (fun s => (s.1, s.2, ())) (fun _ => rfl))
def cv143 : Cv (List (U (ElOf els))) (SRec × SRec) := (cIso (cCons (uAgg cSRec) (cCons (uAgg cSRec) cNil)) (fun p => (p.1, p.2.1)) (fun s => (s.1, s.2, ())) (fun _ => rfl))
def cv144 : Cv (List (U (ElOf els))) ((List SRec) × (List SRec)) := (cIso (cCons (uOne (cRsl 71)) (cCons (uOne (cRsl 71)) cNil)) (fun p => (p.1, p.2.1)) (fun s => (s.1, s.2, ())) (fun _ => rfl))
def cv145 : Cv (List (U (ElOf els))) (SLife × SLife) := (cIso (cCons (uAgg cSLife62) (cCons (uAgg cSLife62) cNil)) (fun p => (p.1, p.2.1)) (fun s => (s.1, s.2, ())) (fun _ => rfl))
def cv146 : Cv (List (U (ElOf els))) ((List SRec) × Int) := (cIso (cCons (uOne (cRsl 71)) (cCons (uOne (cInt .i64)) cNil)) (fun p => (p.1, p.2.1)) (fun s => (s.1, s.2, ())) (fun _ => rfl))
def cv147 : Cv (List (U (ElOf els))) (List SGiven) := (cIso (cCons (uOne (cRsl 117)) cNil) (fun p => p.1) (fun s => (s, ())) (fun _ => rfl))
def cv148 : Cv (List (U (ElOf els))) (List SRec) := (cIso (cCons (uOne (cRsl 71)) cNil) (fun p => p.1) (fun s => (s, ())) (fun _ => rfl))
def cv149 : Cv (List (U (ElOf els))) ((List SGiven) × Int) := (cIso (cCons (uOne (cRsl 117)) (cCons (uOne (cInt .i64)) cNil)) (fun p => (p.1, p.2.1)) (fun s => (s.1, s.2, ())) (fun _ => rfl))
end Go.Proofs.YthfpmhalgimbbaaGreatDoor.G
