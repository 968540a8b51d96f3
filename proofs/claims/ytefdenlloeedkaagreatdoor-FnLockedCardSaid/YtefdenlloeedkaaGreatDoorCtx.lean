/- The seat's tables: its types, what an element of each is, and what its functions do with what they are given. -/
import Derived.Test.YtefdenlloeedkaaGreatDoorSnd38
import Derived.Test.YtefdenlloeedkaaGreatDoorArr
import Derived.Test.YtefdenlloeedkaaGreatDoorProg
import Derived.KernelRfl
namespace Go.Proofs.YtefdenlloeedkaaGreatDoor.G
open Go Go.Ev
structure SCall where
  fOp : Int
  fSession : Int
  fThing : Int
  fKind : Int
  fText : ByteArray
  fHidden : Bool
  fFixed : Bool
structure SEvent where
  fCall : SCall
  fCut : Bool
  fLeft : (List Int)
  fRise : Bool
structure SFile where
  fName : ByteArray
  fText : ByteArray
  fKept : Int
structure SDisk where
  fFiles : (List SFile)
structure SThing where
  fId : Int
  fKind : Int
  fHidden : Bool
  fFixed : Bool
  fSigns : Bool
  fWraps : Bool
  fValue : ByteArray
  fNext : Int
structure SBook where
  fWord : ByteArray
  fTries : Int
  fThings : (List SThing)
  fLast : Int
  fChain : ByteArray
  fCount : Int
structure SSession where
  fId : Int
  fIn : Bool
structure SLive where
  fId : Int
  fNext : Int
structure SBox where
  fKey : ByteArray
  fUp : Bool
  fDisk : SDisk
  fBook : SBook
  fSessions : (List SSession)
  fLives : (List SLive)
  fOpened : Int
structure SGiven where
  fThing : Int
  fLeaf : Int
  fWhen : Int
structure SRec where
  fKind : Int
  fText : ByteArray
  fNum : Int
  fThing : SThing
structure SLife where
  fBox : SBox
  fCodes : (List Int)
  fReplies : (List ByteArray)
  fGives : (List SGiven)
  fDone : (List SRec)
structure SHasher where
  fState : ByteArray
  fRest : ByteArray
  fCount : Int
structure SL01Cur where
  fB : Unit
  fI : Int
  fH : Int
structure SAct where
  fKind : Int
  fName : ByteArray
  fText : ByteArray
  fTo : ByteArray
structure SFields where
  fText : ByteArray
  fAt : Int
  fBad : Bool
def els : List (Nat × TyE) := [(2, ⟨Int, 0⟩), (3, ⟨Int, 0⟩), (4, ⟨Bool, false⟩), (5, ⟨Int, 0⟩), (9, ⟨ByteArray, ⟨#[]⟩⟩), (22, ⟨(List Int), []⟩), (24, ⟨(List Int), []⟩), (29, ⟨SCall, ⟨0, 0, 0, 0, ⟨#[]⟩, false, false⟩⟩), (31, ⟨SEvent, ⟨⟨0, 0, 0, 0, ⟨#[]⟩, false, false⟩, false, [], false⟩⟩), (32, ⟨(List SFile), []⟩), (34, ⟨SDisk, ⟨[]⟩⟩), (35, ⟨(List SThing), []⟩), (37, ⟨SBook, ⟨⟨#[]⟩, 0, [], 0, ⟨#[]⟩, 0⟩⟩), (38, ⟨(List SSession), []⟩), (39, ⟨(List SLive), []⟩), (41, ⟨SBox, ⟨⟨#[]⟩, false, ⟨[]⟩, ⟨⟨#[]⟩, 0, [], 0, ⟨#[]⟩, 0⟩, [], [], 0⟩⟩), (42, ⟨(List ByteArray), []⟩), (43, ⟨(List SGiven), []⟩), (44, ⟨(List SRec), []⟩), (46, ⟨SLife, ⟨⟨⟨#[]⟩, false, ⟨[]⟩, ⟨⟨#[]⟩, 0, [], 0, ⟨#[]⟩, 0⟩, [], [], 0⟩, [], [], [], []⟩⟩), (49, ⟨(List SEvent), []⟩), (59, ⟨Bool, false⟩), (66, ⟨SHasher, ⟨⟨#[]⟩, ⟨#[]⟩, 0⟩⟩), (71, ⟨SThing, ⟨0, 0, false, false, false, false, ⟨#[]⟩, 0⟩⟩), (73, ⟨SRec, ⟨0, ⟨#[]⟩, 0, ⟨0, 0, false, false, false, false, ⟨#[]⟩, 0⟩⟩⟩), (88, ⟨SSession, ⟨0, false⟩⟩), (95, ⟨(List SAct), []⟩), (101, ⟨Bools 3, boolsZ 3⟩), (102, ⟨Int, 0⟩), (104, ⟨(List Int), []⟩), (109, ⟨Int, 0⟩), (110, ⟨Bools 8, boolsZ 8⟩), (115, ⟨Bool, false⟩), (121, ⟨SGiven, ⟨0, 0, 0⟩⟩), (122, ⟨Bool, false⟩), (148, ⟨SFile, ⟨⟨#[]⟩, ⟨#[]⟩, 0⟩⟩), (156, ⟨SAct, ⟨0, ⟨#[]⟩, ⟨#[]⟩, ⟨#[]⟩⟩⟩), (159, ⟨SLive, ⟨0, 0⟩⟩), (172, ⟨Bool, false⟩), (174, ⟨SFields, ⟨⟨#[]⟩, 0, false⟩⟩), (199, ⟨Bools 64, boolsZ 64⟩), (209, ⟨Bool, false⟩), (220, ⟨(List Bool), []⟩), (232, ⟨Bool, false⟩), (235, ⟨Bool, false⟩), (236, ⟨Bools 24, boolsZ 24⟩), (237, ⟨Int, 0⟩)]
def tis : List (Nat × TI) := [(2, ⟨1, 8, .int .i64⟩), (3, ⟨1, 8, .int .i64⟩), (4, ⟨1, 1, .bool⟩), (5, ⟨1, 1, .int .u8⟩), (9, ⟨1, 16, .str⟩), (22, ⟨1, 24, .sl 5⟩), (24, ⟨1, 24, .sl 3⟩), (29, ⟨7, 56, .st [(3, 0), (3, 1), (3, 2), (3, 3), (9, 4), (4, 5), (4, 6)]⟩), (31, ⟨10, 96, .st [(29, 0), (4, 7), (24, 8), (4, 9)]⟩), (32, ⟨1, 24, .sl 148⟩), (34, ⟨1, 24, .st [(32, 0)]⟩), (35, ⟨1, 24, .sl 71⟩), (37, ⟨6, 80, .st [(9, 0), (3, 1), (35, 2), (3, 3), (9, 4), (3, 5)]⟩), (38, ⟨1, 24, .sl 88⟩), (39, ⟨1, 24, .sl 159⟩), (41, ⟨12, 184, .st [(9, 0), (4, 1), (34, 2), (37, 3), (38, 9), (39, 10), (3, 11)]⟩), (42, ⟨1, 24, .sl 9⟩), (43, ⟨1, 24, .sl 121⟩), (44, ⟨1, 24, .sl 73⟩), (46, ⟨16, 280, .st [(41, 0), (24, 12), (42, 13), (43, 14), (44, 15)]⟩), (49, ⟨1, 24, .sl 31⟩), (59, ⟨1, 8, .ptr 101⟩), (66, ⟨3, 40, .st [(9, 0), (9, 1), (3, 2)]⟩), (71, ⟨8, 48, .st [(3, 0), (3, 1), (4, 2), (4, 3), (4, 4), (4, 5), (9, 6), (3, 7)]⟩), (73, ⟨11, 80, .st [(3, 0), (9, 1), (3, 2), (71, 3)]⟩), (88, ⟨2, 16, .st [(3, 0), (4, 1)]⟩), (95, ⟨1, 24, .sl 156⟩), (101, ⟨3, 40, .st [(22, 0), (3, 1), (3, 2)]⟩), (102, ⟨1, 8, .int .u64⟩), (104, ⟨1, 24, .sl 109⟩), (109, ⟨1, 4, .int .u32⟩), (110, ⟨8, 32, .arr 8 109⟩), (115, ⟨1, 8, .ptr 46⟩), (121, ⟨3, 24, .st [(3, 0), (3, 1), (3, 2)]⟩), (122, ⟨1, 8, .ptr 41⟩), (148, ⟨3, 40, .st [(9, 0), (9, 1), (3, 2)]⟩), (156, ⟨4, 56, .st [(3, 0), (9, 1), (9, 2), (9, 3)]⟩), (159, ⟨2, 16, .st [(3, 0), (3, 1)]⟩), (172, ⟨1, 8, .ptr 174⟩), (174, ⟨3, 32, .st [(9, 0), (3, 1), (4, 2)]⟩), (199, ⟨64, 256, .arr 64 109⟩), (209, ⟨1, 8, .ptr 37⟩), (220, ⟨1, 24, .sl 4⟩), (232, ⟨1, 8, .ptr 148⟩), (235, ⟨1, 8, .ptr 34⟩), (236, ⟨24, 24, .arr 24 5⟩), (237, ⟨1, 8, .int .u64⟩)]
def ent2 : Ent (ElOf els) := ⟨2, { sh := [.int .i64], enc := fun (x : Int) => [.int .i64 x], dec := fun cs => (cs.getD 0 .junk).toInt, z := (0 : Int), int? := some ⟨rfl⟩ }⟩
def ent3 : Ent (ElOf els) := ⟨3, { sh := [.int .i64], enc := fun (x : Int) => [.int .i64 x], dec := fun cs => (cs.getD 0 .junk).toInt, z := (0 : Int), int? := some ⟨rfl⟩ }⟩
def ent4 : Ent (ElOf els) := ⟨4, { sh := [.bool], enc := fun (x : Bool) => [.bool x], dec := fun cs => (cs.getD 0 .junk).toBool, z := false, int? := none }⟩
def ent5 : Ent (ElOf els) := ⟨5, { sh := [.int .u8], enc := fun (x : Int) => [.int .u8 x], dec := fun cs => (cs.getD 0 .junk).toInt, z := (0 : Int), int? := some ⟨rfl⟩ }⟩
def ent9 : Ent (ElOf els) := ⟨9, { sh := [.str], enc := fun (x : ByteArray) => [.str x], dec := fun cs => (cs.getD 0 .junk).toStr, z := (⟨#[]⟩ : ByteArray), int? := none }⟩
def ent22 : Ent (ElOf els) := ⟨22, { sh := [.sl 5], enc := fun (x : (List Int)) => [.rsl 5 x], dec := fun cs => (L.toSl 5 (cs.getD 0 .junk)), z := [], int? := none }⟩
def ent24 : Ent (ElOf els) := ⟨24, { sh := [.sl 3], enc := fun (x : (List Int)) => [.rsl 3 x], dec := fun cs => (L.toSl 3 (cs.getD 0 .junk)), z := [], int? := none }⟩
def ent29 : Ent (ElOf els) := ⟨29, { sh := [.int .i64, .int .i64, .int .i64, .int .i64, .str, .bool, .bool], enc := fun (x : SCall) => [.int .i64 x.fOp, .int .i64 x.fSession, .int .i64 x.fThing, .int .i64 x.fKind, .str x.fText, .bool x.fHidden, .bool x.fFixed], dec := fun cs => ⟨(cs.getD 0 .junk).toInt, (cs.getD 1 .junk).toInt, (cs.getD 2 .junk).toInt, (cs.getD 3 .junk).toInt, (cs.getD 4 .junk).toStr, (cs.getD 5 .junk).toBool, (cs.getD 6 .junk).toBool⟩, z := (⟨0, 0, 0, 0, ⟨#[]⟩, false, false⟩ : SCall), int? := none }⟩
def ent31 : Ent (ElOf els) := ⟨31, { sh := [.int .i64, .int .i64, .int .i64, .int .i64, .str, .bool, .bool, .bool, .sl 3, .bool], enc := fun (x : SEvent) => [.int .i64 x.fCall.fOp, .int .i64 x.fCall.fSession, .int .i64 x.fCall.fThing, .int .i64 x.fCall.fKind, .str x.fCall.fText, .bool x.fCall.fHidden, .bool x.fCall.fFixed, .bool x.fCut, .rsl 3 x.fLeft, .bool x.fRise], dec := fun cs => ⟨⟨(cs.getD 0 .junk).toInt, (cs.getD 1 .junk).toInt, (cs.getD 2 .junk).toInt, (cs.getD 3 .junk).toInt, (cs.getD 4 .junk).toStr, (cs.getD 5 .junk).toBool, (cs.getD 6 .junk).toBool⟩, (cs.getD 7 .junk).toBool, (L.toSl 3 (cs.getD 8 .junk)), (cs.getD 9 .junk).toBool⟩, z := (⟨⟨0, 0, 0, 0, ⟨#[]⟩, false, false⟩, false, [], false⟩ : SEvent), int? := none }⟩
def ent32 : Ent (ElOf els) := ⟨32, { sh := [.sl 148], enc := fun (x : (List SFile)) => [.rsl 148 x], dec := fun cs => (L.toSl 148 (cs.getD 0 .junk)), z := [], int? := none }⟩
def ent34 : Ent (ElOf els) := ⟨34, { sh := [.sl 148], enc := fun (x : SDisk) => [.rsl 148 x.fFiles], dec := fun cs => ⟨(L.toSl 148 (cs.getD 0 .junk))⟩, z := (⟨[]⟩ : SDisk), int? := none }⟩
def ent35 : Ent (ElOf els) := ⟨35, { sh := [.sl 71], enc := fun (x : (List SThing)) => [.rsl 71 x], dec := fun cs => (L.toSl 71 (cs.getD 0 .junk)), z := [], int? := none }⟩
def ent37 : Ent (ElOf els) := ⟨37, { sh := [.str, .int .i64, .sl 71, .int .i64, .str, .int .i64], enc := fun (x : SBook) => [.str x.fWord, .int .i64 x.fTries, .rsl 71 x.fThings, .int .i64 x.fLast, .str x.fChain, .int .i64 x.fCount], dec := fun cs => ⟨(cs.getD 0 .junk).toStr, (cs.getD 1 .junk).toInt, (L.toSl 71 (cs.getD 2 .junk)), (cs.getD 3 .junk).toInt, (cs.getD 4 .junk).toStr, (cs.getD 5 .junk).toInt⟩, z := (⟨⟨#[]⟩, 0, [], 0, ⟨#[]⟩, 0⟩ : SBook), int? := none }⟩
def ent38 : Ent (ElOf els) := ⟨38, { sh := [.sl 88], enc := fun (x : (List SSession)) => [.rsl 88 x], dec := fun cs => (L.toSl 88 (cs.getD 0 .junk)), z := [], int? := none }⟩
def ent39 : Ent (ElOf els) := ⟨39, { sh := [.sl 159], enc := fun (x : (List SLive)) => [.rsl 159 x], dec := fun cs => (L.toSl 159 (cs.getD 0 .junk)), z := [], int? := none }⟩
def ent41 : Ent (ElOf els) := ⟨41, { sh := [.str, .bool, .sl 148, .str, .int .i64, .sl 71, .int .i64, .str, .int .i64, .sl 88, .sl 159, .int .i64], enc := fun (x : SBox) => [.str x.fKey, .bool x.fUp, .rsl 148 x.fDisk.fFiles, .str x.fBook.fWord, .int .i64 x.fBook.fTries, .rsl 71 x.fBook.fThings, .int .i64 x.fBook.fLast, .str x.fBook.fChain, .int .i64 x.fBook.fCount, .rsl 88 x.fSessions, .rsl 159 x.fLives, .int .i64 x.fOpened], dec := fun cs => ⟨(cs.getD 0 .junk).toStr, (cs.getD 1 .junk).toBool, ⟨(L.toSl 148 (cs.getD 2 .junk))⟩, ⟨(cs.getD 3 .junk).toStr, (cs.getD 4 .junk).toInt, (L.toSl 71 (cs.getD 5 .junk)), (cs.getD 6 .junk).toInt, (cs.getD 7 .junk).toStr, (cs.getD 8 .junk).toInt⟩, (L.toSl 88 (cs.getD 9 .junk)), (L.toSl 159 (cs.getD 10 .junk)), (cs.getD 11 .junk).toInt⟩, z := (⟨⟨#[]⟩, false, ⟨[]⟩, ⟨⟨#[]⟩, 0, [], 0, ⟨#[]⟩, 0⟩, [], [], 0⟩ : SBox), int? := none }⟩
def ent42 : Ent (ElOf els) := ⟨42, { sh := [.sl 9], enc := fun (x : (List ByteArray)) => [.rsl 9 x], dec := fun cs => (L.toSl 9 (cs.getD 0 .junk)), z := [], int? := none }⟩
def ent43 : Ent (ElOf els) := ⟨43, { sh := [.sl 121], enc := fun (x : (List SGiven)) => [.rsl 121 x], dec := fun cs => (L.toSl 121 (cs.getD 0 .junk)), z := [], int? := none }⟩
def ent44 : Ent (ElOf els) := ⟨44, { sh := [.sl 73], enc := fun (x : (List SRec)) => [.rsl 73 x], dec := fun cs => (L.toSl 73 (cs.getD 0 .junk)), z := [], int? := none }⟩
def ent46 : Ent (ElOf els) := ⟨46, { sh := [.str, .bool, .sl 148, .str, .int .i64, .sl 71, .int .i64, .str, .int .i64, .sl 88, .sl 159, .int .i64, .sl 3, .sl 9, .sl 121, .sl 73], enc := fun (x : SLife) => [.str x.fBox.fKey, .bool x.fBox.fUp, .rsl 148 x.fBox.fDisk.fFiles, .str x.fBox.fBook.fWord, .int .i64 x.fBox.fBook.fTries, .rsl 71 x.fBox.fBook.fThings, .int .i64 x.fBox.fBook.fLast, .str x.fBox.fBook.fChain, .int .i64 x.fBox.fBook.fCount, .rsl 88 x.fBox.fSessions, .rsl 159 x.fBox.fLives, .int .i64 x.fBox.fOpened, .rsl 3 x.fCodes, .rsl 9 x.fReplies, .rsl 121 x.fGives, .rsl 73 x.fDone], dec := fun cs => ⟨⟨(cs.getD 0 .junk).toStr, (cs.getD 1 .junk).toBool, ⟨(L.toSl 148 (cs.getD 2 .junk))⟩, ⟨(cs.getD 3 .junk).toStr, (cs.getD 4 .junk).toInt, (L.toSl 71 (cs.getD 5 .junk)), (cs.getD 6 .junk).toInt, (cs.getD 7 .junk).toStr, (cs.getD 8 .junk).toInt⟩, (L.toSl 88 (cs.getD 9 .junk)), (L.toSl 159 (cs.getD 10 .junk)), (cs.getD 11 .junk).toInt⟩, (L.toSl 3 (cs.getD 12 .junk)), (L.toSl 9 (cs.getD 13 .junk)), (L.toSl 121 (cs.getD 14 .junk)), (L.toSl 73 (cs.getD 15 .junk))⟩, z := (⟨⟨⟨#[]⟩, false, ⟨[]⟩, ⟨⟨#[]⟩, 0, [], 0, ⟨#[]⟩, 0⟩, [], [], 0⟩, [], [], [], []⟩ : SLife), int? := none }⟩
def ent49 : Ent (ElOf els) := ⟨49, { sh := [.sl 31], enc := fun (x : (List SEvent)) => [.rsl 31 x], dec := fun cs => (L.toSl 31 (cs.getD 0 .junk)), z := [], int? := none }⟩
def ent59 : Ent (ElOf els) := ⟨59, { sh := [.bool], enc := fun (x : Bool) => [.bool x], dec := fun cs => (cs.getD 0 .junk).toBool, z := false, int? := none }⟩
def ent66 : Ent (ElOf els) := ⟨66, { sh := [.str, .str, .int .i64], enc := fun (x : SHasher) => [.str x.fState, .str x.fRest, .int .i64 x.fCount], dec := fun cs => ⟨(cs.getD 0 .junk).toStr, (cs.getD 1 .junk).toStr, (cs.getD 2 .junk).toInt⟩, z := (⟨⟨#[]⟩, ⟨#[]⟩, 0⟩ : SHasher), int? := none }⟩
def ent71 : Ent (ElOf els) := ⟨71, { sh := [.int .i64, .int .i64, .bool, .bool, .bool, .bool, .str, .int .i64], enc := fun (x : SThing) => [.int .i64 x.fId, .int .i64 x.fKind, .bool x.fHidden, .bool x.fFixed, .bool x.fSigns, .bool x.fWraps, .str x.fValue, .int .i64 x.fNext], dec := fun cs => ⟨(cs.getD 0 .junk).toInt, (cs.getD 1 .junk).toInt, (cs.getD 2 .junk).toBool, (cs.getD 3 .junk).toBool, (cs.getD 4 .junk).toBool, (cs.getD 5 .junk).toBool, (cs.getD 6 .junk).toStr, (cs.getD 7 .junk).toInt⟩, z := (⟨0, 0, false, false, false, false, ⟨#[]⟩, 0⟩ : SThing), int? := none }⟩
def ent73 : Ent (ElOf els) := ⟨73, { sh := [.int .i64, .str, .int .i64, .int .i64, .int .i64, .bool, .bool, .bool, .bool, .str, .int .i64], enc := fun (x : SRec) => [.int .i64 x.fKind, .str x.fText, .int .i64 x.fNum, .int .i64 x.fThing.fId, .int .i64 x.fThing.fKind, .bool x.fThing.fHidden, .bool x.fThing.fFixed, .bool x.fThing.fSigns, .bool x.fThing.fWraps, .str x.fThing.fValue, .int .i64 x.fThing.fNext], dec := fun cs => ⟨(cs.getD 0 .junk).toInt, (cs.getD 1 .junk).toStr, (cs.getD 2 .junk).toInt, ⟨(cs.getD 3 .junk).toInt, (cs.getD 4 .junk).toInt, (cs.getD 5 .junk).toBool, (cs.getD 6 .junk).toBool, (cs.getD 7 .junk).toBool, (cs.getD 8 .junk).toBool, (cs.getD 9 .junk).toStr, (cs.getD 10 .junk).toInt⟩⟩, z := (⟨0, ⟨#[]⟩, 0, ⟨0, 0, false, false, false, false, ⟨#[]⟩, 0⟩⟩ : SRec), int? := none }⟩
def ent88 : Ent (ElOf els) := ⟨88, { sh := [.int .i64, .bool], enc := fun (x : SSession) => [.int .i64 x.fId, .bool x.fIn], dec := fun cs => ⟨(cs.getD 0 .junk).toInt, (cs.getD 1 .junk).toBool⟩, z := (⟨0, false⟩ : SSession), int? := none }⟩
def ent95 : Ent (ElOf els) := ⟨95, { sh := [.sl 156], enc := fun (x : (List SAct)) => [.rsl 156 x], dec := fun cs => (L.toSl 156 (cs.getD 0 .junk)), z := [], int? := none }⟩
def ent101 : Ent (ElOf els) := ⟨101, codBools 3 (fun x => x) (fun x => x)⟩
def ent102 : Ent (ElOf els) := ⟨102, { sh := [.int .u64], enc := fun (x : Int) => [.int .u64 x], dec := fun cs => (cs.getD 0 .junk).toInt, z := (0 : Int), int? := some ⟨rfl⟩ }⟩
def ent104 : Ent (ElOf els) := ⟨104, { sh := [.sl 109], enc := fun (x : (List Int)) => [.rsl 109 x], dec := fun cs => (L.toSl 109 (cs.getD 0 .junk)), z := [], int? := none }⟩
def ent109 : Ent (ElOf els) := ⟨109, { sh := [.int .u32], enc := fun (x : Int) => [.int .u32 x], dec := fun cs => (cs.getD 0 .junk).toInt, z := (0 : Int), int? := some ⟨rfl⟩ }⟩
def ent110 : Ent (ElOf els) := ⟨110, codBools 8 (fun x => x) (fun x => x)⟩
def ent115 : Ent (ElOf els) := ⟨115, { sh := [.bool], enc := fun (x : Bool) => [.bool x], dec := fun cs => (cs.getD 0 .junk).toBool, z := false, int? := none }⟩
def ent121 : Ent (ElOf els) := ⟨121, { sh := [.int .i64, .int .i64, .int .i64], enc := fun (x : SGiven) => [.int .i64 x.fThing, .int .i64 x.fLeaf, .int .i64 x.fWhen], dec := fun cs => ⟨(cs.getD 0 .junk).toInt, (cs.getD 1 .junk).toInt, (cs.getD 2 .junk).toInt⟩, z := (⟨0, 0, 0⟩ : SGiven), int? := none }⟩
def ent122 : Ent (ElOf els) := ⟨122, { sh := [.bool], enc := fun (x : Bool) => [.bool x], dec := fun cs => (cs.getD 0 .junk).toBool, z := false, int? := none }⟩
def ent148 : Ent (ElOf els) := ⟨148, { sh := [.str, .str, .int .i64], enc := fun (x : SFile) => [.str x.fName, .str x.fText, .int .i64 x.fKept], dec := fun cs => ⟨(cs.getD 0 .junk).toStr, (cs.getD 1 .junk).toStr, (cs.getD 2 .junk).toInt⟩, z := (⟨⟨#[]⟩, ⟨#[]⟩, 0⟩ : SFile), int? := none }⟩
def ent156 : Ent (ElOf els) := ⟨156, { sh := [.int .i64, .str, .str, .str], enc := fun (x : SAct) => [.int .i64 x.fKind, .str x.fName, .str x.fText, .str x.fTo], dec := fun cs => ⟨(cs.getD 0 .junk).toInt, (cs.getD 1 .junk).toStr, (cs.getD 2 .junk).toStr, (cs.getD 3 .junk).toStr⟩, z := (⟨0, ⟨#[]⟩, ⟨#[]⟩, ⟨#[]⟩⟩ : SAct), int? := none }⟩
def ent159 : Ent (ElOf els) := ⟨159, { sh := [.int .i64, .int .i64], enc := fun (x : SLive) => [.int .i64 x.fId, .int .i64 x.fNext], dec := fun cs => ⟨(cs.getD 0 .junk).toInt, (cs.getD 1 .junk).toInt⟩, z := (⟨0, 0⟩ : SLive), int? := none }⟩
def ent172 : Ent (ElOf els) := ⟨172, { sh := [.bool], enc := fun (x : Bool) => [.bool x], dec := fun cs => (cs.getD 0 .junk).toBool, z := false, int? := none }⟩
def ent174 : Ent (ElOf els) := ⟨174, { sh := [.str, .int .i64, .bool], enc := fun (x : SFields) => [.str x.fText, .int .i64 x.fAt, .bool x.fBad], dec := fun cs => ⟨(cs.getD 0 .junk).toStr, (cs.getD 1 .junk).toInt, (cs.getD 2 .junk).toBool⟩, z := (⟨⟨#[]⟩, 0, false⟩ : SFields), int? := none }⟩
def ent199 : Ent (ElOf els) := ⟨199, codBools 64 (fun x => x) (fun x => x)⟩
def ent209 : Ent (ElOf els) := ⟨209, { sh := [.bool], enc := fun (x : Bool) => [.bool x], dec := fun cs => (cs.getD 0 .junk).toBool, z := false, int? := none }⟩
def ent220 : Ent (ElOf els) := ⟨220, { sh := [.sl 4], enc := fun (x : (List Bool)) => [.rsl 4 x], dec := fun cs => (L.toSl 4 (cs.getD 0 .junk)), z := [], int? := none }⟩
def ent232 : Ent (ElOf els) := ⟨232, { sh := [.bool], enc := fun (x : Bool) => [.bool x], dec := fun cs => (cs.getD 0 .junk).toBool, z := false, int? := none }⟩
def ent235 : Ent (ElOf els) := ⟨235, { sh := [.bool], enc := fun (x : Bool) => [.bool x], dec := fun cs => (cs.getD 0 .junk).toBool, z := false, int? := none }⟩
def ent236 : Ent (ElOf els) := ⟨236, codBools 24 (fun x => x) (fun x => x)⟩
def ent237 : Ent (ElOf els) := ⟨237, { sh := [.int .u64], enc := fun (x : Int) => [.int .u64 x], dec := fun cs => (cs.getD 0 .junk).toInt, z := (0 : Int), int? := some ⟨rfl⟩ }⟩
def ents : List (Ent (ElOf els)) := [ent2, ent3, ent4, ent5, ent9, ent22, ent24, ent29, ent31, ent32, ent34, ent35, ent37, ent38, ent39, ent41, ent42, ent43, ent44, ent46, ent49, ent59, ent66, ent71, ent73, ent88, ent95, ent101, ent102, ent104, ent109, ent110, ent115, ent121, ent122, ent148, ent156, ent159, ent172, ent174, ent199, ent209, ent220, ent232, ent235, ent236, ent237]
def modes : List (Nat × List Mode') := [(195, [.io, .rd]), (196, [.mv, .rd, .rd, .rd, .rd])]
def cuts : List (Nat × List (Nat × (List Nat × List Nat × List (Nat × Nat) × List (Nat × Nat × Nat)))) := [(17, [(3, ([0, 3, 4], [], [(0, 5)], []))]),
  (6, [(5, ([3, 4, 5], [448], [(4, 3)], [(448, 0, 5)]))]),
  (7, [(5, ([0, 3, 4], [], [], []))]),
  (57, [(3, ([0, 3, 4], [], [(0, 109), (3, 5)], []))]),
  (54, [(3, ([0, 3, 4], [], [(3, 109)], []))]),
  (56, [(3, ([0, 1, 7, 8], [], [(0, 109), (1, 109), (7, 109)], [])), (8, ([0, 1, 7, 9, 10], [], [(0, 109), (1, 109), (7, 109), (9, 109)], [])), (16, ([0, 1, 7, 9, 10, 13, 15, 16], [], [(0, 109), (1, 109), (7, 109), (9, 109)], [])), (23, ([0, 9, 17, 18], [], [(0, 109), (9, 109), (17, 109)], []))]),
  (22, [(7, ([1, 2, 4, 5, 6, 7, 8], [128, 256], [(5, 109), (6, 109)], []))]),
  (21, [(5, ([1, 3], [64], [(3, 5)], [])), (9, ([1, 3, 4, 5], [64], [(3, 5)], [])), (13, ([1, 3, 4, 5, 6, 7], [64], [(3, 5)], [])), (20, ([3, 8, 9, 10], [], [(3, 5), (8, 109), (9, 109)], []))]),
  (148, [(3, ([0, 2, 3, 11], [128, 192], [], [])), (6, ([0, 2, 3, 4, 11, 14], [128, 192], [], [])), (12, ([2, 3, 6], [128, 192], [], []))]),
  (105, [(4, ([2, 4, 5, 6, 7, 8, 9, 10, 11, 12, 13, 37], [128, 256, 320], [], [])), (13, ([2, 4, 17, 109], [128, 256, 1088], [], []))]),
  (59, [(1, ([1, 2, 4], [128, 256], [], []))]),
  (62, [(3, ([3, 6, 7], [], [], []))]),
  (132, [(2, ([0, 3], [], [(3, 5)], []))]),
  (134, [(3, ([3, 14, 15, 16], [], [(14, 4)], []))]),
  (218, [(3, ([1, 5, 10, 11], [], [(5, 5)], []))]),
  (151, [(6, ([0, 2, 8, 10, 11], [], [], []))]),
  (152, [(3, ([1, 5, 10, 11], [], [(5, 5)], []))]),
  (190, [(2, ([0, 1, 5], [], [], [])), (6, ([0, 1, 5, 19], [], [], []))]),
  (100, [(2, ([1, 8, 9, 10], [], [(8, 148)], []))]),
  (46, [(2, ([1, 6, 7, 8], [64], [(6, 148)], [(64, 0, 148)]))]),
  (155, [(3, ([0, 3, 4], [0, 192], [], [(0, 0, 148)]))]),
  (70, [(3, ([1, 4, 6, 13, 14, 15], [256, 384], [(1, 156), (13, 156)], [(256, 0, 148), (384, 0, 148)]))]),
  (50, [(2, ([1, 6, 7, 8], [64], [(6, 71)], [(64, 2, 71)]))]),
  (87, [(2, ([1, 8, 9, 10], [], [(8, 71)], []))]),
  (96, [(4, ([0, 1, 12, 13], [], [(0, 71), (1, 71)], []))]),
  (172, [(5, ([0, 1, 7, 8], [], [], []))]),
  (145, [(5, ([0, 4, 5], [], [(4, 9)], []))]),
  (98, [(5, ([0, 8, 9, 23, 24, 25], [], [(8, 73), (23, 9)], []))]),
  (99, [(3, ([4, 6, 13, 14, 15], [256, 384], [(13, 73)], [(256, 2, 71), (384, 2, 71)]))]),
  (51, [(2, ([1, 8, 9, 10], [64], [(8, 159)], [(64, 2, 148), (64, 5, 71), (64, 9, 88), (64, 10, 159)]))]),
  (15, [(6, ([1, 44, 45, 46], [64], [(44, 88)], [(64, 2, 148), (64, 5, 71), (64, 9, 88), (64, 10, 159)]))]),
  (40, [(2, ([1, 8, 9, 10], [], [(8, 88)], []))]),
  (150, [(5, ([1, 4, 6, 18, 19], [256, 384], [(1, 3)], [(256, 0, 148), (384, 0, 148)]))]),
  (109, [(2, ([1, 8, 9, 10], [], [(8, 159)], []))]),
  (111, [(4, ([0, 1, 2, 7], [0], [], [(0, 2, 148), (0, 5, 71), (0, 9, 88), (0, 10, 159)]))]),
  (67, [(13, ([3, 4, 5, 8, 9, 11, 12], [256, 320, 512, 576, 704], [], [(256, 2, 148), (256, 5, 71), (256, 9, 88), (256, 10, 159), (512, 2, 148), (512, 5, 71), (512, 9, 88), (512, 10, 159), (576, 2, 148), (576, 5, 71), (576, 9, 88), (576, 10, 159)])), (15, ([4, 5, 8, 9], [256, 320, 512, 576], [], [(256, 2, 148), (256, 5, 71), (256, 9, 88), (256, 10, 159), (512, 2, 148), (512, 5, 71), (512, 9, 88), (512, 10, 159), (576, 2, 148), (576, 5, 71), (576, 9, 88), (576, 10, 159)]))]),
  (27, [(6, ([0, 2, 4, 7, 8, 9, 45, 46, 47], [0, 256], [(45, 73)], [(0, 2, 148), (0, 5, 71), (0, 9, 88), (0, 10, 159), (0, 12, 3), (0, 13, 9), (0, 14, 121), (0, 15, 73), (256, 8, 3)]))]),
  (9, [(5, ([1, 2, 6, 8, 29, 30, 31], [384, 512], [(2, 31), (29, 31)], [(384, 2, 148), (384, 5, 71), (384, 9, 88), (384, 10, 159), (384, 12, 3), (384, 13, 9), (384, 14, 121), (384, 15, 73), (512, 2, 148), (512, 5, 71), (512, 9, 88), (512, 10, 159)])), (12, ([6, 12, 46, 47, 48], [384, 768], [(46, 31)], [(384, 2, 148), (384, 5, 71), (384, 9, 88), (384, 10, 159), (384, 12, 3), (384, 13, 9), (384, 14, 121), (384, 15, 73), (768, 2, 148), (768, 5, 71), (768, 9, 88), (768, 10, 159), (768, 12, 3), (768, 13, 9), (768, 14, 121), (768, 15, 73)]))]),
  (10, [(4, ([0, 1, 5], [], [(0, 3), (1, 3)], []))]),
  (30, [(3, ([0, 1, 5, 6], [], [(5, 5)], []))]),
  (31, [(5, ([0, 1, 5, 6], [0], [(5, 5)], [(0, 0, 5)]))]),
  (118, [(2, ([0, 3], [], [(3, 5)], []))]),
  (73, [(4, ([1, 3], [64], [], [(64, 2, 71)]))]),
  (75, [(2, ([1, 2, 4, 6], [128, 256], [], [(128, 2, 71)]))]),
  (77, [(3, ([0, 3, 5, 6], [192], [(0, 71), (5, 71)], [])), (9, ([0, 3, 5, 7], [192], [(0, 71), (5, 71)], []))]),
  (34, [(24, ([2, 3, 4, 6, 8, 13, 14], [128, 192, 256, 512], [(13, 71)], [(128, 2, 71), (256, 2, 71), (512, 2, 71)]))]),
  (219, [(5, ([0, 1, 5, 6], [], [(5, 5)], []))]),
  (161, [(5, ([0, 1, 2, 8, 9], [], [(8, 5)], []))]),
  (162, [(3, ([1, 5, 6], [], [(5, 5)], []))]),
  (192, [(2, ([0, 1, 5], [], [], [])), (6, ([0, 1, 5, 6], [], [], []))]),
  (166, [(4, ([1, 3], [64], [], [(64, 0, 148)]))]),
  (168, [(2, ([1, 2, 5], [128], [], [(128, 0, 148)]))]),
  (169, [(3, ([2, 3, 4, 5, 6], [128, 192, 256, 320], [], [(128, 0, 148), (256, 0, 148), (320, 0, 148)])), (9, ([2, 3, 4, 5, 7], [128, 192, 256, 320], [], [(128, 0, 148), (256, 0, 148), (320, 0, 148)]))]),
  (170, [(3, ([1, 2, 4, 5, 6], [128, 256, 320], [], [(128, 0, 148), (256, 0, 148), (320, 0, 148)]))]),
  (79, [(3, ([1, 4, 6, 7], [256, 384], [(1, 156)], [(256, 0, 148), (384, 0, 148)]))])]
def tabs : List (Nat × (Nat × List Int)) := [(0, (199, [1116352408, 1899447441, 3049323471, 3921009573, 961987163, 1508970993, 2453635748, 2870763221, 3624381080, 310598401, 607225278, 1426881987, 1925078388, 2162078206, 2614888103, 3248222580, 3835390401, 4022224774, 264347078, 604807628, 770255983, 1249150122, 1555081692, 1996064986, 2554220882, 2821834349, 2952996808, 3210313671, 3336571891, 3584528711, 113926993, 338241895, 666307205, 773529912, 1294757372, 1396182291, 1695183700, 1986661051, 2177026350, 2456956037, 2730485921, 2820302411, 3259730800, 3345764771, 3516065817, 3600352804, 4094571909, 275423344, 430227734, 506948616, 659060556, 883997877, 958139571, 1322822218, 1537002063, 1747873779, 1955562222, 2024104815, 2227730452, 2361852424, 2428436474, 2756734187, 3204031479, 3329325298]))]
set_option linter.unusedSectionVars false
variable [PC]
def ctx : Ctx := mkCtx els tis ents modes cuts tabs PC.pm
noncomputable abbrev PP : Program := Tryz.prog
abbrev LI := List Go.Item × Env ctx × Hp ctx
theorem good2 : CodGood ctx 2 ent2.c := ⟨fun _ => rfl, fun cs h0 => by obtain ⟨n0, ls0, rfl, h1⟩ := fit_int h0; obtain rfl := fit_nil h1; rfl, fun _ => rfl, rfl, fun h k hi hk n => by cases hk; rfl⟩
theorem good3 : CodGood ctx 3 ent3.c := ⟨fun _ => rfl, fun cs h0 => by obtain ⟨n0, ls0, rfl, h1⟩ := fit_int h0; obtain rfl := fit_nil h1; rfl, fun _ => rfl, rfl, fun h k hi hk n => by cases hk; rfl⟩
theorem good4 : CodGood ctx 4 ent4.c := ⟨fun _ => rfl, fun cs h0 => by obtain ⟨n0, ls0, rfl, h1⟩ := fit_bool h0; obtain rfl := fit_nil h1; rfl, fun _ => rfl, rfl, fun h k hi hk n => by cases hi⟩
theorem good5 : CodGood ctx 5 ent5.c := ⟨fun _ => rfl, fun cs h0 => by obtain ⟨n0, ls0, rfl, h1⟩ := fit_int h0; obtain rfl := fit_nil h1; rfl, fun _ => rfl, rfl, fun h k hi hk n => by cases hk; rfl⟩
theorem good9 : CodGood ctx 9 ent9.c := ⟨fun _ => rfl, fun cs h0 => by obtain ⟨n0, ls0, rfl, h1⟩ := fit_str h0; obtain rfl := fit_nil h1; rfl, fun _ => rfl, rfl, fun h k hi hk n => by cases hi⟩
theorem good22 : CodGood ctx 22 ent22.c := ⟨fun _ => rfl, fun cs h0 => by obtain ⟨n0, ls0, rfl, h1⟩ := fit_sl h0; obtain rfl := fit_nil h1; rfl, fun _ => rfl, rfl, fun h k hi hk n => by cases hi⟩
theorem good24 : CodGood ctx 24 ent24.c := ⟨fun _ => rfl, fun cs h0 => by obtain ⟨n0, ls0, rfl, h1⟩ := fit_sl h0; obtain rfl := fit_nil h1; rfl, fun _ => rfl, rfl, fun h k hi hk n => by cases hi⟩
theorem good29 : CodGood ctx 29 ent29.c := ⟨fun _ => rfl, fun cs h0 => by obtain ⟨n0, ls0, rfl, h1⟩ := fit_int h0; obtain ⟨n1, ls1, rfl, h2⟩ := fit_int h1; obtain ⟨n2, ls2, rfl, h3⟩ := fit_int h2; obtain ⟨n3, ls3, rfl, h4⟩ := fit_int h3; obtain ⟨n4, ls4, rfl, h5⟩ := fit_str h4; obtain ⟨n5, ls5, rfl, h6⟩ := fit_bool h5; obtain ⟨n6, ls6, rfl, h7⟩ := fit_bool h6; obtain rfl := fit_nil h7; rfl, fun _ => rfl, rfl, fun h k hi hk n => by cases hi⟩
theorem good31 : CodGood ctx 31 ent31.c := ⟨fun _ => rfl, fun cs h0 => by obtain ⟨n0, ls0, rfl, h1⟩ := fit_int h0; obtain ⟨n1, ls1, rfl, h2⟩ := fit_int h1; obtain ⟨n2, ls2, rfl, h3⟩ := fit_int h2; obtain ⟨n3, ls3, rfl, h4⟩ := fit_int h3; obtain ⟨n4, ls4, rfl, h5⟩ := fit_str h4; obtain ⟨n5, ls5, rfl, h6⟩ := fit_bool h5; obtain ⟨n6, ls6, rfl, h7⟩ := fit_bool h6; obtain ⟨n7, ls7, rfl, h8⟩ := fit_bool h7; obtain ⟨n8, ls8, rfl, h9⟩ := fit_sl h8; obtain ⟨n9, ls9, rfl, h10⟩ := fit_bool h9; obtain rfl := fit_nil h10; rfl, fun _ => rfl, rfl, fun h k hi hk n => by cases hi⟩
theorem good32 : CodGood ctx 32 ent32.c := ⟨fun _ => rfl, fun cs h0 => by obtain ⟨n0, ls0, rfl, h1⟩ := fit_sl h0; obtain rfl := fit_nil h1; rfl, fun _ => rfl, rfl, fun h k hi hk n => by cases hi⟩
theorem good34 : CodGood ctx 34 ent34.c := ⟨fun _ => rfl, fun cs h0 => by obtain ⟨n0, ls0, rfl, h1⟩ := fit_sl h0; obtain rfl := fit_nil h1; rfl, fun _ => rfl, rfl, fun h k hi hk n => by cases hi⟩
theorem good35 : CodGood ctx 35 ent35.c := ⟨fun _ => rfl, fun cs h0 => by obtain ⟨n0, ls0, rfl, h1⟩ := fit_sl h0; obtain rfl := fit_nil h1; rfl, fun _ => rfl, rfl, fun h k hi hk n => by cases hi⟩
theorem good37 : CodGood ctx 37 ent37.c := ⟨fun _ => rfl, fun cs h0 => by obtain ⟨n0, ls0, rfl, h1⟩ := fit_str h0; obtain ⟨n1, ls1, rfl, h2⟩ := fit_int h1; obtain ⟨n2, ls2, rfl, h3⟩ := fit_sl h2; obtain ⟨n3, ls3, rfl, h4⟩ := fit_int h3; obtain ⟨n4, ls4, rfl, h5⟩ := fit_str h4; obtain ⟨n5, ls5, rfl, h6⟩ := fit_int h5; obtain rfl := fit_nil h6; rfl, fun _ => rfl, rfl, fun h k hi hk n => by cases hi⟩
theorem good38 : CodGood ctx 38 ent38.c := ⟨fun _ => rfl, fun cs h0 => by obtain ⟨n0, ls0, rfl, h1⟩ := fit_sl h0; obtain rfl := fit_nil h1; rfl, fun _ => rfl, rfl, fun h k hi hk n => by cases hi⟩
theorem good39 : CodGood ctx 39 ent39.c := ⟨fun _ => rfl, fun cs h0 => by obtain ⟨n0, ls0, rfl, h1⟩ := fit_sl h0; obtain rfl := fit_nil h1; rfl, fun _ => rfl, rfl, fun h k hi hk n => by cases hi⟩
theorem good41 : CodGood ctx 41 ent41.c := ⟨fun _ => rfl, fun cs h0 => by obtain ⟨n0, ls0, rfl, h1⟩ := fit_str h0; obtain ⟨n1, ls1, rfl, h2⟩ := fit_bool h1; obtain ⟨n2, ls2, rfl, h3⟩ := fit_sl h2; obtain ⟨n3, ls3, rfl, h4⟩ := fit_str h3; obtain ⟨n4, ls4, rfl, h5⟩ := fit_int h4; obtain ⟨n5, ls5, rfl, h6⟩ := fit_sl h5; obtain ⟨n6, ls6, rfl, h7⟩ := fit_int h6; obtain ⟨n7, ls7, rfl, h8⟩ := fit_str h7; obtain ⟨n8, ls8, rfl, h9⟩ := fit_int h8; obtain ⟨n9, ls9, rfl, h10⟩ := fit_sl h9; obtain ⟨n10, ls10, rfl, h11⟩ := fit_sl h10; obtain ⟨n11, ls11, rfl, h12⟩ := fit_int h11; obtain rfl := fit_nil h12; rfl, fun _ => rfl, rfl, fun h k hi hk n => by cases hi⟩
theorem good42 : CodGood ctx 42 ent42.c := ⟨fun _ => rfl, fun cs h0 => by obtain ⟨n0, ls0, rfl, h1⟩ := fit_sl h0; obtain rfl := fit_nil h1; rfl, fun _ => rfl, rfl, fun h k hi hk n => by cases hi⟩
theorem good43 : CodGood ctx 43 ent43.c := ⟨fun _ => rfl, fun cs h0 => by obtain ⟨n0, ls0, rfl, h1⟩ := fit_sl h0; obtain rfl := fit_nil h1; rfl, fun _ => rfl, rfl, fun h k hi hk n => by cases hi⟩
theorem good44 : CodGood ctx 44 ent44.c := ⟨fun _ => rfl, fun cs h0 => by obtain ⟨n0, ls0, rfl, h1⟩ := fit_sl h0; obtain rfl := fit_nil h1; rfl, fun _ => rfl, rfl, fun h k hi hk n => by cases hi⟩
theorem good46 : CodGood ctx 46 ent46.c := ⟨fun _ => rfl, fun cs h0 => by obtain ⟨n0, ls0, rfl, h1⟩ := fit_str h0; obtain ⟨n1, ls1, rfl, h2⟩ := fit_bool h1; obtain ⟨n2, ls2, rfl, h3⟩ := fit_sl h2; obtain ⟨n3, ls3, rfl, h4⟩ := fit_str h3; obtain ⟨n4, ls4, rfl, h5⟩ := fit_int h4; obtain ⟨n5, ls5, rfl, h6⟩ := fit_sl h5; obtain ⟨n6, ls6, rfl, h7⟩ := fit_int h6; obtain ⟨n7, ls7, rfl, h8⟩ := fit_str h7; obtain ⟨n8, ls8, rfl, h9⟩ := fit_int h8; obtain ⟨n9, ls9, rfl, h10⟩ := fit_sl h9; obtain ⟨n10, ls10, rfl, h11⟩ := fit_sl h10; obtain ⟨n11, ls11, rfl, h12⟩ := fit_int h11; obtain ⟨n12, ls12, rfl, h13⟩ := fit_sl h12; obtain ⟨n13, ls13, rfl, h14⟩ := fit_sl h13; obtain ⟨n14, ls14, rfl, h15⟩ := fit_sl h14; obtain ⟨n15, ls15, rfl, h16⟩ := fit_sl h15; obtain rfl := fit_nil h16; rfl, fun _ => rfl, rfl, fun h k hi hk n => by cases hi⟩
theorem good49 : CodGood ctx 49 ent49.c := ⟨fun _ => rfl, fun cs h0 => by obtain ⟨n0, ls0, rfl, h1⟩ := fit_sl h0; obtain rfl := fit_nil h1; rfl, fun _ => rfl, rfl, fun h k hi hk n => by cases hi⟩
theorem good59 : CodGood ctx 59 ent59.c := ⟨fun _ => rfl, fun cs h0 => by obtain ⟨n0, ls0, rfl, h1⟩ := fit_bool h0; obtain rfl := fit_nil h1; rfl, fun _ => rfl, rfl, fun h k hi hk n => by cases hi⟩
theorem good66 : CodGood ctx 66 ent66.c := ⟨fun _ => rfl, fun cs h0 => by obtain ⟨n0, ls0, rfl, h1⟩ := fit_str h0; obtain ⟨n1, ls1, rfl, h2⟩ := fit_str h1; obtain ⟨n2, ls2, rfl, h3⟩ := fit_int h2; obtain rfl := fit_nil h3; rfl, fun _ => rfl, rfl, fun h k hi hk n => by cases hi⟩
theorem good71 : CodGood ctx 71 ent71.c := ⟨fun _ => rfl, fun cs h0 => by obtain ⟨n0, ls0, rfl, h1⟩ := fit_int h0; obtain ⟨n1, ls1, rfl, h2⟩ := fit_int h1; obtain ⟨n2, ls2, rfl, h3⟩ := fit_bool h2; obtain ⟨n3, ls3, rfl, h4⟩ := fit_bool h3; obtain ⟨n4, ls4, rfl, h5⟩ := fit_bool h4; obtain ⟨n5, ls5, rfl, h6⟩ := fit_bool h5; obtain ⟨n6, ls6, rfl, h7⟩ := fit_str h6; obtain ⟨n7, ls7, rfl, h8⟩ := fit_int h7; obtain rfl := fit_nil h8; rfl, fun _ => rfl, rfl, fun h k hi hk n => by cases hi⟩
theorem good73 : CodGood ctx 73 ent73.c := ⟨fun _ => rfl, fun cs h0 => by obtain ⟨n0, ls0, rfl, h1⟩ := fit_int h0; obtain ⟨n1, ls1, rfl, h2⟩ := fit_str h1; obtain ⟨n2, ls2, rfl, h3⟩ := fit_int h2; obtain ⟨n3, ls3, rfl, h4⟩ := fit_int h3; obtain ⟨n4, ls4, rfl, h5⟩ := fit_int h4; obtain ⟨n5, ls5, rfl, h6⟩ := fit_bool h5; obtain ⟨n6, ls6, rfl, h7⟩ := fit_bool h6; obtain ⟨n7, ls7, rfl, h8⟩ := fit_bool h7; obtain ⟨n8, ls8, rfl, h9⟩ := fit_bool h8; obtain ⟨n9, ls9, rfl, h10⟩ := fit_str h9; obtain ⟨n10, ls10, rfl, h11⟩ := fit_int h10; obtain rfl := fit_nil h11; rfl, fun _ => rfl, rfl, fun h k hi hk n => by cases hi⟩
theorem good88 : CodGood ctx 88 ent88.c := ⟨fun _ => rfl, fun cs h0 => by obtain ⟨n0, ls0, rfl, h1⟩ := fit_int h0; obtain ⟨n1, ls1, rfl, h2⟩ := fit_bool h1; obtain rfl := fit_nil h2; rfl, fun _ => rfl, rfl, fun h k hi hk n => by cases hi⟩
theorem good95 : CodGood ctx 95 ent95.c := ⟨fun _ => rfl, fun cs h0 => by obtain ⟨n0, ls0, rfl, h1⟩ := fit_sl h0; obtain rfl := fit_nil h1; rfl, fun _ => rfl, rfl, fun h k hi hk n => by cases hi⟩
theorem good101 : CodGood ctx 101 ent101.c := codBools_good (C := ctx) (e := 101) (n := 3) (f := fun x => x) (g := fun x => x) (fun _ => rfl) (by kernel_rfl)
theorem good102 : CodGood ctx 102 ent102.c := ⟨fun _ => rfl, fun cs h0 => by obtain ⟨n0, ls0, rfl, h1⟩ := fit_int h0; obtain rfl := fit_nil h1; rfl, fun _ => rfl, rfl, fun h k hi hk n => by cases hk; rfl⟩
theorem good104 : CodGood ctx 104 ent104.c := ⟨fun _ => rfl, fun cs h0 => by obtain ⟨n0, ls0, rfl, h1⟩ := fit_sl h0; obtain rfl := fit_nil h1; rfl, fun _ => rfl, rfl, fun h k hi hk n => by cases hi⟩
theorem good109 : CodGood ctx 109 ent109.c := ⟨fun _ => rfl, fun cs h0 => by obtain ⟨n0, ls0, rfl, h1⟩ := fit_int h0; obtain rfl := fit_nil h1; rfl, fun _ => rfl, rfl, fun h k hi hk n => by cases hk; rfl⟩
theorem good110 : CodGood ctx 110 ent110.c := codBools_good (C := ctx) (e := 110) (n := 8) (f := fun x => x) (g := fun x => x) (fun _ => rfl) (by kernel_rfl)
theorem good115 : CodGood ctx 115 ent115.c := ⟨fun _ => rfl, fun cs h0 => by obtain ⟨n0, ls0, rfl, h1⟩ := fit_bool h0; obtain rfl := fit_nil h1; rfl, fun _ => rfl, rfl, fun h k hi hk n => by cases hi⟩
theorem good121 : CodGood ctx 121 ent121.c := ⟨fun _ => rfl, fun cs h0 => by obtain ⟨n0, ls0, rfl, h1⟩ := fit_int h0; obtain ⟨n1, ls1, rfl, h2⟩ := fit_int h1; obtain ⟨n2, ls2, rfl, h3⟩ := fit_int h2; obtain rfl := fit_nil h3; rfl, fun _ => rfl, rfl, fun h k hi hk n => by cases hi⟩
theorem good122 : CodGood ctx 122 ent122.c := ⟨fun _ => rfl, fun cs h0 => by obtain ⟨n0, ls0, rfl, h1⟩ := fit_bool h0; obtain rfl := fit_nil h1; rfl, fun _ => rfl, rfl, fun h k hi hk n => by cases hi⟩
theorem good148 : CodGood ctx 148 ent148.c := ⟨fun _ => rfl, fun cs h0 => by obtain ⟨n0, ls0, rfl, h1⟩ := fit_str h0; obtain ⟨n1, ls1, rfl, h2⟩ := fit_str h1; obtain ⟨n2, ls2, rfl, h3⟩ := fit_int h2; obtain rfl := fit_nil h3; rfl, fun _ => rfl, rfl, fun h k hi hk n => by cases hi⟩
theorem good156 : CodGood ctx 156 ent156.c := ⟨fun _ => rfl, fun cs h0 => by obtain ⟨n0, ls0, rfl, h1⟩ := fit_int h0; obtain ⟨n1, ls1, rfl, h2⟩ := fit_str h1; obtain ⟨n2, ls2, rfl, h3⟩ := fit_str h2; obtain ⟨n3, ls3, rfl, h4⟩ := fit_str h3; obtain rfl := fit_nil h4; rfl, fun _ => rfl, rfl, fun h k hi hk n => by cases hi⟩
theorem good159 : CodGood ctx 159 ent159.c := ⟨fun _ => rfl, fun cs h0 => by obtain ⟨n0, ls0, rfl, h1⟩ := fit_int h0; obtain ⟨n1, ls1, rfl, h2⟩ := fit_int h1; obtain rfl := fit_nil h2; rfl, fun _ => rfl, rfl, fun h k hi hk n => by cases hi⟩
theorem good172 : CodGood ctx 172 ent172.c := ⟨fun _ => rfl, fun cs h0 => by obtain ⟨n0, ls0, rfl, h1⟩ := fit_bool h0; obtain rfl := fit_nil h1; rfl, fun _ => rfl, rfl, fun h k hi hk n => by cases hi⟩
theorem good174 : CodGood ctx 174 ent174.c := ⟨fun _ => rfl, fun cs h0 => by obtain ⟨n0, ls0, rfl, h1⟩ := fit_str h0; obtain ⟨n1, ls1, rfl, h2⟩ := fit_int h1; obtain ⟨n2, ls2, rfl, h3⟩ := fit_bool h2; obtain rfl := fit_nil h3; rfl, fun _ => rfl, rfl, fun h k hi hk n => by cases hi⟩
theorem good199 : CodGood ctx 199 ent199.c := codBools_good (C := ctx) (e := 199) (n := 64) (f := fun x => x) (g := fun x => x) (fun _ => rfl) (by kernel_rfl)
theorem good209 : CodGood ctx 209 ent209.c := ⟨fun _ => rfl, fun cs h0 => by obtain ⟨n0, ls0, rfl, h1⟩ := fit_bool h0; obtain rfl := fit_nil h1; rfl, fun _ => rfl, rfl, fun h k hi hk n => by cases hi⟩
theorem good220 : CodGood ctx 220 ent220.c := ⟨fun _ => rfl, fun cs h0 => by obtain ⟨n0, ls0, rfl, h1⟩ := fit_sl h0; obtain rfl := fit_nil h1; rfl, fun _ => rfl, rfl, fun h k hi hk n => by cases hi⟩
theorem good232 : CodGood ctx 232 ent232.c := ⟨fun _ => rfl, fun cs h0 => by obtain ⟨n0, ls0, rfl, h1⟩ := fit_bool h0; obtain rfl := fit_nil h1; rfl, fun _ => rfl, rfl, fun h k hi hk n => by cases hi⟩
theorem good235 : CodGood ctx 235 ent235.c := ⟨fun _ => rfl, fun cs h0 => by obtain ⟨n0, ls0, rfl, h1⟩ := fit_bool h0; obtain rfl := fit_nil h1; rfl, fun _ => rfl, rfl, fun h k hi hk n => by cases hi⟩
theorem good236 : CodGood ctx 236 ent236.c := codBools_good (C := ctx) (e := 236) (n := 24) (f := fun x => x) (g := fun x => x) (fun _ => rfl) (by kernel_rfl)
theorem good237 : CodGood ctx 237 ent237.c := ⟨fun _ => rfl, fun cs h0 => by obtain ⟨n0, ls0, rfl, h1⟩ := fit_int h0; obtain rfl := fit_nil h1; rfl, fun _ => rfl, rfl, fun h k hi hk n => by cases hk; rfl⟩
theorem ctxOk : CtxOk ctx Tryz.prog := mkCtx_ok (by kernel_rfl) (fun x hx => by
  simp only [ents, List.mem_cons, List.not_mem_nil, or_false] at hx
  rcases hx with rfl | rfl | rfl | rfl | rfl | rfl | rfl | rfl | rfl | rfl | rfl | rfl | rfl | rfl | rfl | rfl | rfl | rfl | rfl | rfl | rfl | rfl | rfl | rfl | rfl | rfl | rfl | rfl | rfl | rfl | rfl | rfl | rfl | rfl | rfl | rfl | rfl | rfl | rfl | rfl | rfl | rfl | rfl | rfl | rfl | rfl | rfl
  · exact good2
  · exact good3
  · exact good4
  · exact good5
  · exact good9
  · exact good22
  · exact good24
  · exact good29
  · exact good31
  · exact good32
  · exact good34
  · exact good35
  · exact good37
  · exact good38
  · exact good39
  · exact good41
  · exact good42
  · exact good43
  · exact good44
  · exact good46
  · exact good49
  · exact good59
  · exact good66
  · exact good71
  · exact good73
  · exact good88
  · exact good95
  · exact good101
  · exact good102
  · exact good104
  · exact good109
  · exact good110
  · exact good115
  · exact good121
  · exact good122
  · exact good148
  · exact good156
  · exact good159
  · exact good172
  · exact good174
  · exact good199
  · exact good209
  · exact good220
  · exact good232
  · exact good235
  · exact good236
  · exact good237)
def cv0 : Cv (List (U (ElOf els))) Unit := (cIso (cCons (uOne cCsl) cNil) (fun p => p.1) (fun s => (s, ())) (fun _ => rfl))
def cv1 : Cv (List (U (ElOf els))) Bool := (cIso (cCons (uOne cBool) cNil) (fun p => p.1) (fun s => (s, ())) (fun _ => rfl))
def cSL01CurF : Cv (List (L (ElOf els))) SL01Cur := cIso (cCons cCsl (cCons (cInt .i64) (cCons (cInt .i64) cNil))) (fun p => ⟨p.1, p.2.1, p.2.2.1⟩) (fun s => (s.fB, s.fI, s.fH, ())) (fun _ => rfl)
def cv2 : Cv (List (U (ElOf els))) SL01Cur := (cIso (cCons (uAgg (cPre cPtr0 cSL01CurF)) cNil) (fun p => p.1) (fun s => (s, ())) (fun _ => rfl))
def cv3 : Cv (List (U (ElOf els))) SL01Cur := (cIso (cCons (uAgg cSL01CurF) cNil) (fun p => p.1) (fun s => (s, ())) (fun _ => rfl))
def cv4 : Cv (List (U (ElOf els))) (Int × SL01Cur) := (cIso (cCons (uOne (cInt .i64)) (cCons (uAgg cSL01CurF) cNil)) (fun p => (p.1, p.2.1)) (fun s => (s.1, s.2, ())) (fun _ => rfl))
def cv5 : Cv (List (U (ElOf els))) (SL01Cur × Int) := (cIso (cCons (uAgg cSL01CurF) (cCons (uOne (cInt .i64)) cNil)) (fun p => (p.1, p.2.1)) (fun s => (s.1, s.2, ())) (fun _ => rfl))
def cv6 : Cv (List (U (ElOf els))) (List Int) := (cIso (cCons (uOne (cFsl 3)) cNil) (fun p => p.1) (fun s => (s, ())) (fun _ => rfl))
def cv7 : Cv (List (U (ElOf els))) Int := (cIso (cCons (uOne (cInt .i64)) cNil) (fun p => p.1) (fun s => (s, ())) (fun _ => rfl))
def cv8 : Cv (List (U (ElOf els))) Int := (cIso (cCons (uOne (cInt .u8)) cNil) (fun p => p.1) (fun s => (s, ())) (fun _ => rfl))
def cv9 : Cv (List (U (ElOf els))) ByteArray := (cIso (cCons (uOne cStr) cNil) (fun p => p.1) (fun s => (s, ())) (fun _ => rfl))
def cv10 : Cv (List (U (ElOf els))) Unit := cNil
def cv11 : Cv (List (U (ElOf els))) (List Int) := (cIso (cCons (uOne (cFsl 109)) cNil) (fun p => p.1) (fun s => (s, ())) (fun _ => rfl))
def cv12 : Cv (List (U (ElOf els))) (List Int) := (cIso (cCons (uOne (cRsl 109)) cNil) (fun p => p.1) (fun s => (s, ())) (fun _ => rfl))
def cSHasher : Cv (List (L (ElOf els))) SHasher := cIso (cCons cStr (cCons cStr (cCons (cInt .i64) cNil))) (fun p => ⟨p.1, p.2.1, p.2.2.1⟩) (fun s => (s.fState, s.fRest, s.fCount, ())) (fun _ => rfl)
def cv13 : Cv (List (U (ElOf els))) SHasher := (cIso (cCons (uAgg cSHasher) cNil) (fun p => p.1) (fun s => (s, ())) (fun _ => rfl))
def cv14 : Cv (List (U (ElOf els))) (Int × Int × Int) := (cIso (cCons (uOne (cInt .i64)) (cCons (uOne (cInt .i64)) (cCons (uOne (cInt .i64)) cNil))) (fun p => (p.1, p.2.1, p.2.2.1)) (fun s => (s.1, s.2.1, s.2.2, ())) (fun _ => rfl))
def cv15 : Cv (List (U (ElOf els))) (ByteArray × Int) := (cIso (cCons (uOne cStr) (cCons (uOne (cInt .i64)) cNil)) (fun p => (p.1, p.2.1)) (fun s => (s.1, s.2, ())) (fun _ => rfl))
def cv16 : Cv (List (U (ElOf els))) Int := (cIso (cCons (uOne (cInt .u32)) cNil) (fun p => p.1) (fun s => (s, ())) (fun _ => rfl))
def cv17 : Cv (List (U (ElOf els))) (Int × Int × Int) := (cIso (cCons (uOne (cInt .u32)) (cCons (uOne (cInt .u32)) (cCons (uOne (cInt .u32)) cNil))) (fun p => (p.1, p.2.1, p.2.2.1)) (fun s => (s.1, s.2.1, s.2.2, ())) (fun _ => rfl))
def cv18 : Cv (List (U (ElOf els))) (Int × Int × Int × Int × Bool) := (cIso (cCons (uOne (cInt .u32)) (cCons (uOne (cInt .u32)) (cCons (uOne (cInt .u32)) (cCons (uOne (cInt .u32)) (cCons (uOne cBool) cNil))))) (fun p => (p.1, p.2.1, p.2.2.1, p.2.2.2.1, p.2.2.2.2.1)) (fun s => (s.1, s.2.1, s.2.2.1, s.2.2.2.1, s.2.2.2.2, ())) (fun _ => rfl))
def cv19 : Cv (List (U (ElOf els))) ((List Int) × (List Int) × ByteArray) := (cIso (cCons (uOne (cRsl 109)) (cCons (uOne (cRsl 109)) (cCons (uOne cStr) cNil))) (fun p => (p.1, p.2.1, p.2.2.1)) (fun s => (s.1, s.2.1, s.2.2, ())) (fun _ => rfl))
def cv20 : Cv (List (U (ElOf els))) (SHasher × ByteArray) := (cIso (cCons (uAgg cSHasher) (cCons (uOne cStr) cNil)) (fun p => (p.1, p.2.1)) (fun s => (s.1, s.2, ())) (fun _ => rfl))
def cv21 : Cv (List (U (ElOf els))) (List Int) := (cIso (cCons (uArr 109) cNil) (fun p => p.1) (fun s => (s, ())) (fun _ => rfl))
def cv22 : Cv (List (U (ElOf els))) (Int × Int) := (cIso (cCons (uOne (cInt .u32)) (cCons (uOne (cInt .i64)) cNil)) (fun p => (p.1, p.2.1)) (fun s => (s.1, s.2, ())) (fun _ => rfl))
def cv23 : Cv (List (U (ElOf els))) ((List Int) × ByteArray) := (cIso (cCons (uArr 109) (cCons (uOne cStr) cNil)) (fun p => (p.1, p.2.1)) (fun s => (s.1, s.2, ())) (fun _ => rfl))
def cSBookF : Cv (List (L (ElOf els))) SBook := cIso (cCons cStr (cCons (cInt .i64) (cCons (cFsl 71) (cCons (cInt .i64) (cCons cStr (cCons (cInt .i64) cNil)))))) (fun p => ⟨p.1, p.2.1, p.2.2.1, p.2.2.2.1, p.2.2.2.2.1, p.2.2.2.2.2.1⟩) (fun s => (s.fWord, s.fTries, s.fThings, s.fLast, s.fChain, s.fCount, ())) (fun _ => rfl)
def cv24 : Cv (List (U (ElOf els))) SBook := (cIso (cCons (uAgg cSBookF) cNil) (fun p => p.1) (fun s => (s, ())) (fun _ => rfl))
def cSThing : Cv (List (L (ElOf els))) SThing := cIso (cCons (cInt .i64) (cCons (cInt .i64) (cCons cBool (cCons cBool (cCons cBool (cCons cBool (cCons cStr (cCons (cInt .i64) cNil)))))))) (fun p => ⟨p.1, p.2.1, p.2.2.1, p.2.2.2.1, p.2.2.2.2.1, p.2.2.2.2.2.1, p.2.2.2.2.2.2.1, p.2.2.2.2.2.2.2.1⟩) (fun s => (s.fId, s.fKind, s.fHidden, s.fFixed, s.fSigns, s.fWraps, s.fValue, s.fNext, ())) (fun _ => rfl)
def cv25 : Cv (List (U (ElOf els))) SThing := (cIso (cCons (uAgg cSThing) cNil) (fun p => p.1) (fun s => (s, ())) (fun _ => rfl))
def cv26 : Cv (List (U (ElOf els))) (ByteArray × Bool) := (cIso (cCons (uOne cStr) (cCons (uOne cBool) cNil)) (fun p => (p.1, p.2.1)) (fun s => (s.1, s.2, ())) (fun _ => rfl))
def cSRec : Cv (List (L (ElOf els))) SRec := cIso (cCons (cInt .i64) (cCons cStr (cCons (cInt .i64) (cCons (cInt .i64) (cCons (cInt .i64) (cCons cBool (cCons cBool (cCons cBool (cCons cBool (cCons cStr (cCons (cInt .i64) cNil))))))))))) (fun p => ⟨p.1, p.2.1, p.2.2.1, ⟨p.2.2.2.1, p.2.2.2.2.1, p.2.2.2.2.2.1, p.2.2.2.2.2.2.1, p.2.2.2.2.2.2.2.1, p.2.2.2.2.2.2.2.2.1, p.2.2.2.2.2.2.2.2.2.1, p.2.2.2.2.2.2.2.2.2.2.1⟩⟩) (fun s => (s.fKind, s.fText, s.fNum, s.fThing.fId, s.fThing.fKind, s.fThing.fHidden, s.fThing.fFixed, s.fThing.fSigns, s.fThing.fWraps, s.fThing.fValue, s.fThing.fNext, ())) (fun _ => rfl)
def cv27 : Cv (List (U (ElOf els))) SRec := (cIso (cCons (uAgg cSRec) cNil) (fun p => p.1) (fun s => (s, ())) (fun _ => rfl))
def cv28 : Cv (List (U (ElOf els))) (ByteArray × Int) := (cIso (cCons (uOne cStr) (cCons (uOne (cInt .u8)) cNil)) (fun p => (p.1, p.2.1)) (fun s => (s.1, s.2, ())) (fun _ => rfl))
def cv29 : Cv (List (U (ElOf els))) (ByteArray × ByteArray) := (cIso (cCons (uOne cStr) (cCons (uOne cStr) cNil)) (fun p => (p.1, p.2.1)) (fun s => (s.1, s.2, ())) (fun _ => rfl))
def cv30 : Cv (List (U (ElOf els))) (ByteArray × Int × Int) := (cIso (cCons (uOne cStr) (cCons (uOne (cInt .i64)) (cCons (uOne (cInt .i64)) cNil))) (fun p => (p.1, p.2.1, p.2.2.1)) (fun s => (s.1, s.2.1, s.2.2, ())) (fun _ => rfl))
def cv31 : Cv (List (U (ElOf els))) (ByteArray × Int × ByteArray) := (cIso (cCons (uOne cStr) (cCons (uOne (cInt .i64)) (cCons (uOne cStr) cNil))) (fun p => (p.1, p.2.1, p.2.2.1)) (fun s => (s.1, s.2.1, s.2.2, ())) (fun _ => rfl))
def cv32 : Cv (List (U (ElOf els))) (Int × ByteArray) := (cIso (cCons (uOne (cInt .u32)) (cCons (uOne cStr) cNil)) (fun p => (p.1, p.2.1)) (fun s => (s.1, s.2, ())) (fun _ => rfl))
def cv33 : Cv (List (U (ElOf els))) (ByteArray × Int × SRec) := (cIso (cCons (uOne cStr) (cCons (uOne (cInt .i64)) (cCons (uAgg cSRec) cNil))) (fun p => (p.1, p.2.1, p.2.2.1)) (fun s => (s.1, s.2.1, s.2.2, ())) (fun _ => rfl))
def cv34 : Cv (List (U (ElOf els))) ((List SAct) × Bool) := (cIso (cCons (uOne (cFsl 156)) (cCons (uOne cBool) cNil)) (fun p => (p.1, p.2.1)) (fun s => (s.1, s.2, ())) (fun _ => rfl))
def cSDisk : Cv (List (L (ElOf els))) SDisk := cIso (cCons (cRsl 148) cNil) (fun p => ⟨p.1⟩) (fun s => (s.fFiles, ())) (fun _ => rfl)
def cSDiskF : Cv (List (L (ElOf els))) SDisk := cIso (cCons (cFsl 148) cNil) (fun p => ⟨p.1⟩) (fun s => (s.fFiles, ())) (fun _ => rfl)
def cv35 : Cv (List (U (ElOf els))) SDisk := (cIso (cCons (uAgg cSDisk) cNil) (fun p => p.1) (fun s => (s, ())) (fun _ => rfl))
def cv36 : Cv (List (U (ElOf els))) SDisk := (cIso (cCons (uAgg cSDiskF) cNil) (fun p => p.1) (fun s => (s, ())) (fun _ => rfl))
def cv37 : Cv (List (U (ElOf els))) (SDisk × ByteArray) := (cIso (cCons (uAgg cSDisk) (cCons (uOne cStr) cNil)) (fun p => (p.1, p.2.1)) (fun s => (s.1, s.2, ())) (fun _ => rfl))
def cv38 : Cv (List (U (ElOf els))) (SDisk × ByteArray) := (cIso (cCons (uAgg cSDiskF) (cCons (uOne cStr) cNil)) (fun p => (p.1, p.2.1)) (fun s => (s.1, s.2, ())) (fun _ => rfl))
def cSFile : Cv (List (L (ElOf els))) SFile := cIso (cCons cStr (cCons cStr (cCons (cInt .i64) cNil))) (fun p => ⟨p.1, p.2.1, p.2.2.1⟩) (fun s => (s.fName, s.fText, s.fKept, ())) (fun _ => rfl)
def cv39 : Cv (List (U (ElOf els))) (SDisk × SFile) := (cIso (cCons (uAgg cSDiskF) (cCons (uAgg cSFile) cNil)) (fun p => (p.1, p.2.1)) (fun s => (s.1, s.2, ())) (fun _ => rfl))
def cSAct : Cv (List (L (ElOf els))) SAct := cIso (cCons (cInt .i64) (cCons cStr (cCons cStr (cCons cStr cNil)))) (fun p => ⟨p.1, p.2.1, p.2.2.1, p.2.2.2.1⟩) (fun s => (s.fKind, s.fName, s.fText, s.fTo, ())) (fun _ => rfl)
def cv40 : Cv (List (U (ElOf els))) (SDisk × SAct) := (cIso (cCons (uAgg cSDisk) (cCons (uAgg cSAct) cNil)) (fun p => (p.1, p.2.1)) (fun s => (s.1, s.2, ())) (fun _ => rfl))
def cv41 : Cv (List (U (ElOf els))) (SDisk × Bool) := (cIso (cCons (uAgg cSDiskF) (cCons (uOne cBool) cNil)) (fun p => (p.1, p.2.1)) (fun s => (s.1, s.2, ())) (fun _ => rfl))
def cv42 : Cv (List (U (ElOf els))) (SDisk × (List SAct)) := (cIso (cCons (uAgg cSDisk) (cCons (uOne (cRsl 156)) cNil)) (fun p => (p.1, p.2.1)) (fun s => (s.1, s.2, ())) (fun _ => rfl))
def cv43 : Cv (List (U (ElOf els))) (SDisk × Int) := (cIso (cCons (uAgg cSDiskF) (cCons (uOne (cInt .i64)) cNil)) (fun p => (p.1, p.2.1)) (fun s => (s.1, s.2, ())) (fun _ => rfl))
def cSBook : Cv (List (L (ElOf els))) SBook := cIso (cCons cStr (cCons (cInt .i64) (cCons (cRsl 71) (cCons (cInt .i64) (cCons cStr (cCons (cInt .i64) cNil)))))) (fun p => ⟨p.1, p.2.1, p.2.2.1, p.2.2.2.1, p.2.2.2.2.1, p.2.2.2.2.2.1⟩) (fun s => (s.fWord, s.fTries, s.fThings, s.fLast, s.fChain, s.fCount, ())) (fun _ => rfl)
def cv44 : Cv (List (U (ElOf els))) SBook := (cIso (cCons (uAgg cSBook) cNil) (fun p => p.1) (fun s => (s, ())) (fun _ => rfl))
def cv45 : Cv (List (U (ElOf els))) (SBook × Int) := (cIso (cCons (uAgg cSBook) (cCons (uOne (cInt .i64)) cNil)) (fun p => (p.1, p.2.1)) (fun s => (s.1, s.2, ())) (fun _ => rfl))
def cv46 : Cv (List (U (ElOf els))) (SThing × SThing) := (cIso (cCons (uAgg cSThing) (cCons (uAgg cSThing) cNil)) (fun p => (p.1, p.2.1)) (fun s => (s.1, s.2, ())) (fun _ => rfl))
def cv47 : Cv (List (U (ElOf els))) (SBook × SThing) := (cIso (cCons (uAgg cSBookF) (cCons (uAgg cSThing) cNil)) (fun p => (p.1, p.2.1)) (fun s => (s.1, s.2, ())) (fun _ => rfl))
def cv48 : Cv (List (U (ElOf els))) (Bool × SBook) := (cIso (cCons (uOne cBool) (cCons (uAgg cSBookF) cNil)) (fun p => (p.1, p.2.1)) (fun s => (s.1, s.2, ())) (fun _ => rfl))
def cv49 : Cv (List (U (ElOf els))) (SBook × SRec) := (cIso (cCons (uAgg cSBook) (cCons (uAgg cSRec) cNil)) (fun p => (p.1, p.2.1)) (fun s => (s.1, s.2, ())) (fun _ => rfl))
def cv50 : Cv (List (U (ElOf els))) (SBook × Bool) := (cIso (cCons (uAgg cSBookF) (cCons (uOne cBool) cNil)) (fun p => (p.1, p.2.1)) (fun s => (s.1, s.2, ())) (fun _ => rfl))
def cSBoxF : Cv (List (L (ElOf els))) SBox := cIso (cCons cStr (cCons cBool (cCons (cFsl 148) (cCons cStr (cCons (cInt .i64) (cCons (cFsl 71) (cCons (cInt .i64) (cCons cStr (cCons (cInt .i64) (cCons (cFsl 88) (cCons (cFsl 159) (cCons (cInt .i64) cNil)))))))))))) (fun p => ⟨p.1, p.2.1, ⟨p.2.2.1⟩, ⟨p.2.2.2.1, p.2.2.2.2.1, p.2.2.2.2.2.1, p.2.2.2.2.2.2.1, p.2.2.2.2.2.2.2.1, p.2.2.2.2.2.2.2.2.1⟩, p.2.2.2.2.2.2.2.2.2.1, p.2.2.2.2.2.2.2.2.2.2.1, p.2.2.2.2.2.2.2.2.2.2.2.1⟩) (fun s => (s.fKey, s.fUp, s.fDisk.fFiles, s.fBook.fWord, s.fBook.fTries, s.fBook.fThings, s.fBook.fLast, s.fBook.fChain, s.fBook.fCount, s.fSessions, s.fLives, s.fOpened, ())) (fun _ => rfl)
def cv51 : Cv (List (U (ElOf els))) (SBox × SRec) := (cIso (cCons (uAgg cSBoxF) (cCons (uAgg cSRec) cNil)) (fun p => (p.1, p.2.1)) (fun s => (s.1, s.2, ())) (fun _ => rfl))
def cv52 : Cv (List (U (ElOf els))) (Bool × SBox) := (cIso (cCons (uOne cBool) (cCons (uAgg cSBoxF) cNil)) (fun p => (p.1, p.2.1)) (fun s => (s.1, s.2, ())) (fun _ => rfl))
def cv53 : Cv (List (U (ElOf els))) (SBox × Bool) := (cIso (cCons (uAgg cSBoxF) (cCons (uOne cBool) cNil)) (fun p => (p.1, p.2.1)) (fun s => (s.1, s.2, ())) (fun _ => rfl))
def cSCall : Cv (List (L (ElOf els))) SCall := cIso (cCons (cInt .i64) (cCons (cInt .i64) (cCons (cInt .i64) (cCons (cInt .i64) (cCons cStr (cCons cBool (cCons cBool cNil))))))) (fun p => ⟨p.1, p.2.1, p.2.2.1, p.2.2.2.1, p.2.2.2.2.1, p.2.2.2.2.2.1, p.2.2.2.2.2.2.1⟩) (fun s => (s.fOp, s.fSession, s.fThing, s.fKind, s.fText, s.fHidden, s.fFixed, ())) (fun _ => rfl)
def cv54 : Cv (List (U (ElOf els))) SCall := (cIso (cCons (uAgg cSCall) cNil) (fun p => p.1) (fun s => (s, ())) (fun _ => rfl))
def cSEvent : Cv (List (L (ElOf els))) SEvent := cIso (cCons (cInt .i64) (cCons (cInt .i64) (cCons (cInt .i64) (cCons (cInt .i64) (cCons cStr (cCons cBool (cCons cBool (cCons cBool (cCons (cRsl 3) (cCons cBool cNil)))))))))) (fun p => ⟨⟨p.1, p.2.1, p.2.2.1, p.2.2.2.1, p.2.2.2.2.1, p.2.2.2.2.2.1, p.2.2.2.2.2.2.1⟩, p.2.2.2.2.2.2.2.1, p.2.2.2.2.2.2.2.2.1, p.2.2.2.2.2.2.2.2.2.1⟩) (fun s => (s.fCall.fOp, s.fCall.fSession, s.fCall.fThing, s.fCall.fKind, s.fCall.fText, s.fCall.fHidden, s.fCall.fFixed, s.fCut, s.fLeft, s.fRise, ())) (fun _ => rfl)
def cv55 : Cv (List (U (ElOf els))) SEvent := (cIso (cCons (uAgg cSEvent) cNil) (fun p => p.1) (fun s => (s, ())) (fun _ => rfl))
def cv56 : Cv (List (U (ElOf els))) ((List SThing) × (List SThing)) := (cIso (cCons (uOne (cRsl 71)) (cCons (uOne (cRsl 71)) cNil)) (fun p => (p.1, p.2.1)) (fun s => (s.1, s.2, ())) (fun _ => rfl))
def cv57 : Cv (List (U (ElOf els))) (SBook × SBook) := (cIso (cCons (uAgg cSBook) (cCons (uAgg cSBook) cNil)) (fun p => (p.1, p.2.1)) (fun s => (s.1, s.2, ())) (fun _ => rfl))
def cv58 : Cv (List (U (ElOf els))) (Int × Int × Bool) := (cIso (cCons (uOne (cInt .i64)) (cCons (uOne (cInt .i64)) (cCons (uOne cBool) cNil))) (fun p => (p.1, p.2.1, p.2.2.1)) (fun s => (s.1, s.2.1, s.2.2, ())) (fun _ => rfl))
def cv59 : Cv (List (U (ElOf els))) ((List ByteArray) × Int) := (cIso (cCons (uOne (cFsl 9)) (cCons (uOne (cInt .i64)) cNil)) (fun p => (p.1, p.2.1)) (fun s => (s.1, s.2, ())) (fun _ => rfl))
def cSFields : Cv (List (L (ElOf els))) SFields := cIso (cCons cStr (cCons (cInt .i64) (cCons cBool cNil))) (fun p => ⟨p.1, p.2.1, p.2.2.1⟩) (fun s => (s.fText, s.fAt, s.fBad, ())) (fun _ => rfl)
def cv60 : Cv (List (U (ElOf els))) SFields := (cIso (cCons (uAgg cSFields) cNil) (fun p => p.1) (fun s => (s, ())) (fun _ => rfl))
def cv61 : Cv (List (U (ElOf els))) (Int × SFields) := (cIso (cCons (uOne (cInt .i64)) (cCons (uAgg cSFields) cNil)) (fun p => (p.1, p.2.1)) (fun s => (s.1, s.2, ())) (fun _ => rfl))
def cv62 : Cv (List (U (ElOf els))) (ByteArray × Int × Bool) := (cIso (cCons (uOne cStr) (cCons (uOne (cInt .i64)) (cCons (uOne cBool) cNil))) (fun p => (p.1, p.2.1, p.2.2.1)) (fun s => (s.1, s.2.1, s.2.2, ())) (fun _ => rfl))
def cv63 : Cv (List (U (ElOf els))) (ByteArray × SFields) := (cIso (cCons (uOne cStr) (cCons (uAgg cSFields) cNil)) (fun p => (p.1, p.2.1)) (fun s => (s.1, s.2, ())) (fun _ => rfl))
def cv64 : Cv (List (U (ElOf els))) (SThing × Bool) := (cIso (cCons (uAgg cSThing) (cCons (uOne cBool) cNil)) (fun p => (p.1, p.2.1)) (fun s => (s.1, s.2, ())) (fun _ => rfl))
def cv65 : Cv (List (U (ElOf els))) (SRec × Bool) := (cIso (cCons (uAgg cSRec) (cCons (uOne cBool) cNil)) (fun p => (p.1, p.2.1)) (fun s => (s.1, s.2, ())) (fun _ => rfl))
def cv66 : Cv (List (U (ElOf els))) ((List SRec) × Int) := (cIso (cCons (uOne (cFsl 73)) (cCons (uOne (cInt .i64)) cNil)) (fun p => (p.1, p.2.1)) (fun s => (s.1, s.2, ())) (fun _ => rfl))
def cv67 : Cv (List (U (ElOf els))) (SBook × (List SRec)) := (cIso (cCons (uAgg cSBook) (cCons (uOne (cRsl 73)) cNil)) (fun p => (p.1, p.2.1)) (fun s => (s.1, s.2, ())) (fun _ => rfl))
def cv68 : Cv (List (U (ElOf els))) (ByteArray × SDisk) := (cIso (cCons (uOne cStr) (cCons (uAgg cSDisk) cNil)) (fun p => (p.1, p.2.1)) (fun s => (s.1, s.2, ())) (fun _ => rfl))
def cv69 : Cv (List (U (ElOf els))) (SBook × (List SAct) × Bool) := (cIso (cCons (uAgg cSBookF) (cCons (uOne (cFsl 156)) (cCons (uOne cBool) cNil))) (fun p => (p.1, p.2.1, p.2.2.1)) (fun s => (s.1, s.2.1, s.2.2, ())) (fun _ => rfl))
def cSBox : Cv (List (L (ElOf els))) SBox := cIso (cCons cStr (cCons cBool (cCons (cRsl 148) (cCons cStr (cCons (cInt .i64) (cCons (cRsl 71) (cCons (cInt .i64) (cCons cStr (cCons (cInt .i64) (cCons (cRsl 88) (cCons (cRsl 159) (cCons (cInt .i64) cNil)))))))))))) (fun p => ⟨p.1, p.2.1, ⟨p.2.2.1⟩, ⟨p.2.2.2.1, p.2.2.2.2.1, p.2.2.2.2.2.1, p.2.2.2.2.2.2.1, p.2.2.2.2.2.2.2.1, p.2.2.2.2.2.2.2.2.1⟩, p.2.2.2.2.2.2.2.2.2.1, p.2.2.2.2.2.2.2.2.2.2.1, p.2.2.2.2.2.2.2.2.2.2.2.1⟩) (fun s => (s.fKey, s.fUp, s.fDisk.fFiles, s.fBook.fWord, s.fBook.fTries, s.fBook.fThings, s.fBook.fLast, s.fBook.fChain, s.fBook.fCount, s.fSessions, s.fLives, s.fOpened, ())) (fun _ => rfl)
def cv70 : Cv (List (U (ElOf els))) SBox := (cIso (cCons (uAgg cSBox) cNil) (fun p => p.1) (fun s => (s, ())) (fun _ => rfl))
def cSLifeF : Cv (List (L (ElOf els))) SLife := cIso (cCons cStr (cCons cBool (cCons (cFsl 148) (cCons cStr (cCons (cInt .i64) (cCons (cFsl 71) (cCons (cInt .i64) (cCons cStr (cCons (cInt .i64) (cCons (cFsl 88) (cCons (cFsl 159) (cCons (cInt .i64) (cCons (cFsl 3) (cCons (cFsl 9) (cCons (cFsl 121) (cCons (cFsl 73) cNil)))))))))))))))) (fun p => ⟨⟨p.1, p.2.1, ⟨p.2.2.1⟩, ⟨p.2.2.2.1, p.2.2.2.2.1, p.2.2.2.2.2.1, p.2.2.2.2.2.2.1, p.2.2.2.2.2.2.2.1, p.2.2.2.2.2.2.2.2.1⟩, p.2.2.2.2.2.2.2.2.2.1, p.2.2.2.2.2.2.2.2.2.2.1, p.2.2.2.2.2.2.2.2.2.2.2.1⟩, p.2.2.2.2.2.2.2.2.2.2.2.2.1, p.2.2.2.2.2.2.2.2.2.2.2.2.2.1, p.2.2.2.2.2.2.2.2.2.2.2.2.2.2.1, p.2.2.2.2.2.2.2.2.2.2.2.2.2.2.2.1⟩) (fun s => (s.fBox.fKey, s.fBox.fUp, s.fBox.fDisk.fFiles, s.fBox.fBook.fWord, s.fBox.fBook.fTries, s.fBox.fBook.fThings, s.fBox.fBook.fLast, s.fBox.fBook.fChain, s.fBox.fBook.fCount, s.fBox.fSessions, s.fBox.fLives, s.fBox.fOpened, s.fCodes, s.fReplies, s.fGives, s.fDone, ())) (fun _ => rfl)
def cv71 : Cv (List (U (ElOf els))) (SLife × Int × ByteArray) := (cIso (cCons (uAgg cSLifeF) (cCons (uOne (cInt .i64)) (cCons (uOne cStr) cNil))) (fun p => (p.1, p.2.1, p.2.2.1)) (fun s => (s.1, s.2.1, s.2.2, ())) (fun _ => rfl))
def cv72 : Cv (List (U (ElOf els))) SLife := (cIso (cCons (uAgg cSLifeF) cNil) (fun p => p.1) (fun s => (s, ())) (fun _ => rfl))
def cv73 : Cv (List (U (ElOf els))) ((List SRec) × Int × ByteArray) := (cIso (cCons (uOne (cFsl 73)) (cCons (uOne (cInt .i64)) (cCons (uOne cStr) cNil))) (fun p => (p.1, p.2.1, p.2.2.1)) (fun s => (s.1, s.2.1, s.2.2, ())) (fun _ => rfl))
def cv74 : Cv (List (U (ElOf els))) Int := (cIso (cCons (uOne (cInt .u64)) cNil) (fun p => p.1) (fun s => (s, ())) (fun _ => rfl))
def cv75 : Cv (List (U (ElOf els))) ((List Int) × Int) := (cIso (cCons (uOne (cFsl 5)) (cCons (uOne (cInt .u64)) cNil)) (fun p => (p.1, p.2.1)) (fun s => (s.1, s.2, ())) (fun _ => rfl))
def cv76 : Cv (List (U (ElOf els))) (List Int) := (cIso (cCons (uAgg (cIso (cCons (cFsl 5) cNil) (fun p => p.1) (fun s => (s, ())) (fun _ => rfl))) cNil) (fun p => p.1) (fun s => (s, ())) (fun _ => rfl))
def cv77 : Cv (List (U (ElOf els))) ((List Int) × Int × Int × Bool × Bool) := (cIso (cCons (uOne (cFsl 5)) (cCons (uOne (cInt .u64)) (cCons (uOne (cInt .i64)) (cCons (uOne cBool) (cCons (uOne cBool) cNil))))) (fun p => (p.1, p.2.1, p.2.2.1, p.2.2.2.1, p.2.2.2.2.1)) (fun s => (s.1, s.2.1, s.2.2.1, s.2.2.2.1, s.2.2.2.2, ())) (fun _ => rfl))
def cv78 : Cv (List (U (ElOf els))) ((List Int) × ByteArray) := (cIso (cCons (uOne (cFsl 5)) (cCons (uOne cStr) cNil)) (fun p => (p.1, p.2.1)) (fun s => (s.1, s.2, ())) (fun _ => rfl))
def cv79 : Cv (List (U (ElOf els))) (Int × Int) := (cIso (cCons (uOne (cInt .i64)) (cCons (uOne (cInt .i64)) cNil)) (fun p => (p.1, p.2.1)) (fun s => (s.1, s.2, ())) (fun _ => rfl))
def cv80 : Cv (List (U (ElOf els))) (SBox × Int) := (cIso (cCons (uAgg cSBox) (cCons (uOne (cInt .i64)) cNil)) (fun p => (p.1, p.2.1)) (fun s => (s.1, s.2, ())) (fun _ => rfl))
def cv81 : Cv (List (U (ElOf els))) (SBox × SCall) := (cIso (cCons (uAgg cSBox) (cCons (uAgg cSCall) cNil)) (fun p => (p.1, p.2.1)) (fun s => (s.1, s.2, ())) (fun _ => rfl))
def cv82 : Cv (List (U (ElOf els))) (SBox × SCall × SThing) := (cIso (cCons (uAgg cSBox) (cCons (uAgg cSCall) (cCons (uAgg cSThing) cNil))) (fun p => (p.1, p.2.1, p.2.2.1)) (fun s => (s.1, s.2.1, s.2.2, ())) (fun _ => rfl))
def cv83 : Cv (List (U (ElOf els))) (SDisk × (List Int)) := (cIso (cCons (uAgg cSDisk) (cCons (uOne (cRsl 3)) cNil)) (fun p => (p.1, p.2.1)) (fun s => (s.1, s.2, ())) (fun _ => rfl))
def cv84 : Cv (List (U (ElOf els))) (SDisk × (List SAct) × Int × (List Int)) := (cIso (cCons (uAgg cSDisk) (cCons (uOne (cRsl 156)) (cCons (uOne (cInt .i64)) (cCons (uOne (cRsl 3)) cNil)))) (fun p => (p.1, p.2.1, p.2.2.1, p.2.2.2.1)) (fun s => (s.1, s.2.1, s.2.2.1, s.2.2.2, ())) (fun _ => rfl))
def cv85 : Cv (List (U (ElOf els))) SBox := (cIso (cCons (uAgg cSBoxF) cNil) (fun p => p.1) (fun s => (s, ())) (fun _ => rfl))
def cv86 : Cv (List (U (ElOf els))) (SLife × SRec × (List Int)) := (cIso (cCons (uAgg cSLifeF) (cCons (uAgg cSRec) (cCons (uOne (cRsl 3)) cNil))) (fun p => (p.1, p.2.1, p.2.2.1)) (fun s => (s.1, s.2.1, s.2.2, ())) (fun _ => rfl))
def cv87 : Cv (List (U (ElOf els))) (SBox × Int × Int) := (cIso (cCons (uAgg cSBoxF) (cCons (uOne (cInt .i64)) (cCons (uOne (cInt .i64)) cNil))) (fun p => (p.1, p.2.1, p.2.2.1)) (fun s => (s.1, s.2.1, s.2.2, ())) (fun _ => rfl))
def cv88 : Cv (List (U (ElOf els))) (SBox × SCall × Int × Int) := (cIso (cCons (uAgg cSBox) (cCons (uAgg cSCall) (cCons (uOne (cInt .i64)) (cCons (uOne (cInt .i64)) cNil)))) (fun p => (p.1, p.2.1, p.2.2.1, p.2.2.2.1)) (fun s => (s.1, s.2.1, s.2.2.1, s.2.2.2, ())) (fun _ => rfl))
def cv89 : Cv (List (U (ElOf els))) (SLife × SEvent × Int) := (cIso (cCons (uAgg cSLifeF) (cCons (uAgg cSEvent) (cCons (uOne (cInt .i64)) cNil))) (fun p => (p.1, p.2.1, p.2.2.1)) (fun s => (s.1, s.2.1, s.2.2, ())) (fun _ => rfl))
def cv90 : Cv (List (U (ElOf els))) (ByteArray × ByteArray × (List SEvent)) := (cIso (cCons (uOne cStr) (cCons (uOne cStr) (cCons (uOne (cRsl 31)) cNil))) (fun p => (p.1, p.2.1, p.2.2.1)) (fun s => (s.1, s.2.1, s.2.2, ())) (fun _ => rfl))
def cv91 : Cv (List (U (ElOf els))) (SLife × Bool) := (cIso (cCons (uAgg cSLifeF) (cCons (uOne cBool) cNil)) (fun p => (p.1, p.2.1)) (fun s => (s.1, s.2, ())) (fun _ => rfl))
def cv92 : Cv (List (U (ElOf els))) ((List Int) × (List Int)) := (cIso (cCons (uOne (cRsl 3)) (cCons (uOne (cRsl 3)) cNil)) (fun p => (p.1, p.2.1)) (fun s => (s.1, s.2, ())) (fun _ => rfl))
def cv93 : Cv (List (U (ElOf els))) (Bool × SL01Cur) := (cIso (cCons (uOne cBool) (cCons (uAgg cSL01CurF) cNil)) (fun p => (p.1, p.2.1)) (fun s => (s.1, s.2, ())) (fun _ => rfl))
def cv94 : Cv (List (U (ElOf els))) (SL01Cur × (List Int)) := (cIso (cCons (uAgg cSL01CurF) (cCons (uOne (cRsl 3)) cNil)) (fun p => (p.1, p.2.1)) (fun s => (s.1, s.2, ())) (fun _ => rfl))
def cv95 : Cv (List (U (ElOf els))) (Int × Int) := (cIso (cCons (uOne (cInt .i64)) (cCons (uOne (cInt .u8)) cNil)) (fun p => (p.1, p.2.1)) (fun s => (s.1, s.2, ())) (fun _ => rfl))
def cv96 : Cv (List (U (ElOf els))) (ByteArray × SL01Cur) := (cIso (cCons (uOne cStr) (cCons (uAgg cSL01CurF) cNil)) (fun p => (p.1, p.2.1)) (fun s => (s.1, s.2, ())) (fun _ => rfl))
def cv97 : Cv (List (U (ElOf els))) (Bool × Int) := (cIso (cCons (uOne cBool) (cCons (uOne (cInt .i64)) cNil)) (fun p => (p.1, p.2.1)) (fun s => (s.1, s.2, ())) (fun _ => rfl))
def cv98 : Cv (List (U (ElOf els))) ((List SThing) × SThing) := (cIso (cCons (uOne (cRsl 71)) (cCons (uAgg cSThing) cNil)) (fun p => (p.1, p.2.1)) (fun s => (s.1, s.2, ())) (fun _ => rfl))
def cv99 : Cv (List (U (ElOf els))) (List SThing) := (cIso (cCons (uOne (cFsl 71)) cNil) (fun p => p.1) (fun s => (s, ())) (fun _ => rfl))
def cv100 : Cv (List (U (ElOf els))) (SDisk × SFile) := (cIso (cCons (uAgg cSDisk) (cCons (uAgg cSFile) cNil)) (fun p => (p.1, p.2.1)) (fun s => (s.1, s.2, ())) (fun _ => rfl))
def cv101 : Cv (List (U (ElOf els))) (ByteArray × SDisk × Int × SRec) := (cIso (cCons (uOne cStr) (cCons (uAgg cSDisk) (cCons (uOne (cInt .i64)) (cCons (uAgg cSRec) cNil)))) (fun p => (p.1, p.2.1, p.2.2.1, p.2.2.2.1)) (fun s => (s.1, s.2.1, s.2.2.1, s.2.2.2, ())) (fun _ => rfl))
end Go.Proofs.YtefdenlloeedkaaGreatDoor.G
