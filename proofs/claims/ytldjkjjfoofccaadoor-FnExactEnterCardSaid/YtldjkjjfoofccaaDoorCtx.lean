/- The seat's tables: its types, what an element of each is, and what its functions do with what they are given. -/
import Derived.Test.YtldjkjjfoofccaaDoorSnd38
import Derived.Test.YtldjkjjfoofccaaDoorArr
import Derived.Test.YtldjkjjfoofccaaDoorProg
import Derived.KernelRfl
namespace Go.Proofs.YtldjkjjfoofccaaDoor.G
open Go Go.Ev
structure SThing where
  fId : Int
  fKind : Int
  fHidden : Bool
  fFixed : Bool
  fSigns : Bool
  fWraps : Bool
  fValue : ByteArray
  fNext : Int
structure SRec where
  fKind : Int
  fText : ByteArray
  fNum : Int
  fThing : SThing
structure SBook where
  fWord : ByteArray
  fTries : Int
  fThings : (List SThing)
  fLast : Int
  fChain : ByteArray
  fCount : Int
structure SFile where
  fName : ByteArray
  fText : ByteArray
  fKept : Int
structure SDisk where
  fFiles : (List SFile)
structure SSession where
  fId : Int
  fIn : Bool
structure SLive where
  fId : Int
  fNext : Int
structure SBox where
  fKey : ByteArray
  fUp : Bool
  fDisk : SDisk
  fBook : SBook
  fSessions : (List SSession)
  fLives : (List SLive)
  fOpened : Int
structure SAct where
  fKind : Int
  fName : ByteArray
  fText : ByteArray
  fTo : ByteArray
structure SHasher where
  fState : ByteArray
  fRest : ByteArray
  fCount : Int
structure SL19Cur where
  fText : ByteArray
  fAt : Int
  fBad : Bool
structure SFields where
  fText : ByteArray
  fAt : Int
  fBad : Bool
def els : List (Nat × TyE) := [(3, ⟨Int, 0⟩), (4, ⟨Bool, false⟩), (5, ⟨Int, 0⟩), (9, ⟨ByteArray, ⟨#[]⟩⟩), (26, ⟨SThing, ⟨0, 0, false, false, false, false, ⟨#[]⟩, 0⟩⟩), (28, ⟨SRec, ⟨0, ⟨#[]⟩, 0, ⟨0, 0, false, false, false, false, ⟨#[]⟩, 0⟩⟩⟩), (30, ⟨(List SAct), []⟩), (33, ⟨SThing, ⟨0, 0, false, false, false, false, ⟨#[]⟩, 0⟩⟩), (35, ⟨SRec, ⟨0, ⟨#[]⟩, 0, ⟨0, 0, false, false, false, false, ⟨#[]⟩, 0⟩⟩⟩), (40, ⟨(List SRec), []⟩), (43, ⟨(List SRec), []⟩), (47, ⟨(List SThing), []⟩), (49, ⟨SBook, ⟨⟨#[]⟩, 0, [], 0, ⟨#[]⟩, 0⟩⟩), (51, ⟨(List SThing), []⟩), (53, ⟨SBook, ⟨⟨#[]⟩, 0, [], 0, ⟨#[]⟩, 0⟩⟩), (62, ⟨(List SFile), []⟩), (64, ⟨SDisk, ⟨[]⟩⟩), (65, ⟨(List SSession), []⟩), (66, ⟨(List SLive), []⟩), (68, ⟨SBox, ⟨⟨#[]⟩, false, ⟨[]⟩, ⟨⟨#[]⟩, 0, [], 0, ⟨#[]⟩, 0⟩, [], [], 0⟩⟩), (70, ⟨(List SFile), []⟩), (72, ⟨SDisk, ⟨[]⟩⟩), (73, ⟨(List SSession), []⟩), (74, ⟨(List SLive), []⟩), (76, ⟨SBox, ⟨⟨#[]⟩, false, ⟨[]⟩, ⟨⟨#[]⟩, 0, [], 0, ⟨#[]⟩, 0⟩, [], [], 0⟩⟩), (86, ⟨(List Int), []⟩), (99, ⟨SAct, ⟨0, ⟨#[]⟩, ⟨#[]⟩, ⟨#[]⟩⟩⟩), (128, ⟨(List ByteArray), []⟩), (138, ⟨Int, 0⟩), (143, ⟨SHasher, ⟨⟨#[]⟩, ⟨#[]⟩, 0⟩⟩), (146, ⟨Bool, false⟩), (147, ⟨Bools 8, boolsZ 8⟩), (155, ⟨SSession, ⟨0, false⟩⟩), (157, ⟨SSession, ⟨0, false⟩⟩), (159, ⟨SLive, ⟨0, 0⟩⟩), (161, ⟨SLive, ⟨0, 0⟩⟩), (166, ⟨Bool, false⟩), (168, ⟨SL19Cur, ⟨⟨#[]⟩, 0, false⟩⟩), (174, ⟨Int, 0⟩), (178, ⟨(List Int), []⟩), (186, ⟨SFile, ⟨⟨#[]⟩, ⟨#[]⟩, 0⟩⟩), (187, ⟨SFile, ⟨⟨#[]⟩, ⟨#[]⟩, 0⟩⟩), (191, ⟨Bool, false⟩), (193, ⟨SFields, ⟨⟨#[]⟩, 0, false⟩⟩), (197, ⟨(List Bool), []⟩), (200, ⟨Bools 64, boolsZ 64⟩)]
def tis : List (Nat × TI) := [(3, ⟨1, 8, .int .i64⟩), (4, ⟨1, 1, .bool⟩), (5, ⟨1, 1, .int .u8⟩), (9, ⟨1, 16, .str⟩), (26, ⟨8, 48, .st [(3, 0), (3, 1), (4, 2), (4, 3), (4, 4), (4, 5), (9, 6), (3, 7)]⟩), (28, ⟨11, 80, .st [(3, 0), (9, 1), (3, 2), (26, 3)]⟩), (30, ⟨1, 24, .sl 99⟩), (33, ⟨8, 48, .st [(3, 0), (3, 1), (4, 2), (4, 3), (4, 4), (4, 5), (9, 6), (3, 7)]⟩), (35, ⟨11, 80, .st [(3, 0), (9, 1), (3, 2), (33, 3)]⟩), (40, ⟨1, 24, .sl 28⟩), (43, ⟨1, 24, .sl 35⟩), (47, ⟨1, 24, .sl 26⟩), (49, ⟨6, 80, .st [(9, 0), (3, 1), (47, 2), (3, 3), (9, 4), (3, 5)]⟩), (51, ⟨1, 24, .sl 33⟩), (53, ⟨6, 80, .st [(9, 0), (3, 1), (51, 2), (3, 3), (9, 4), (3, 5)]⟩), (62, ⟨1, 24, .sl 186⟩), (64, ⟨1, 24, .st [(62, 0)]⟩), (65, ⟨1, 24, .sl 157⟩), (66, ⟨1, 24, .sl 161⟩), (68, ⟨12, 184, .st [(9, 0), (4, 1), (64, 2), (49, 3), (65, 9), (66, 10), (3, 11)]⟩), (70, ⟨1, 24, .sl 187⟩), (72, ⟨1, 24, .st [(70, 0)]⟩), (73, ⟨1, 24, .sl 155⟩), (74, ⟨1, 24, .sl 159⟩), (76, ⟨12, 184, .st [(9, 0), (4, 1), (72, 2), (53, 3), (73, 9), (74, 10), (3, 11)]⟩), (86, ⟨1, 24, .sl 5⟩), (99, ⟨4, 56, .st [(3, 0), (9, 1), (9, 2), (9, 3)]⟩), (128, ⟨1, 24, .sl 9⟩), (138, ⟨1, 4, .int .u32⟩), (143, ⟨3, 40, .st [(9, 0), (9, 1), (3, 2)]⟩), (146, ⟨1, 8, .ptr 53⟩), (147, ⟨8, 32, .arr 8 138⟩), (155, ⟨2, 16, .st [(3, 0), (4, 1)]⟩), (157, ⟨2, 16, .st [(3, 0), (4, 1)]⟩), (159, ⟨2, 16, .st [(3, 0), (3, 1)]⟩), (161, ⟨2, 16, .st [(3, 0), (3, 1)]⟩), (166, ⟨1, 8, .ptr 168⟩), (168, ⟨3, 32, .st [(9, 0), (3, 1), (4, 2)]⟩), (174, ⟨1, 8, .int .u64⟩), (178, ⟨1, 24, .sl 138⟩), (186, ⟨3, 40, .st [(9, 0), (9, 1), (3, 2)]⟩), (187, ⟨3, 40, .st [(9, 0), (9, 1), (3, 2)]⟩), (191, ⟨1, 8, .ptr 193⟩), (193, ⟨3, 32, .st [(9, 0), (3, 1), (4, 2)]⟩), (197, ⟨1, 24, .sl 4⟩), (200, ⟨64, 256, .arr 64 138⟩)]
def ent3 : Ent (ElOf els) := ⟨3, { sh := [.int .i64], enc := fun (x : Int) => [.int .i64 x], dec := fun cs => (cs.getD 0 .junk).toInt, z := (0 : Int), int? := some ⟨rfl⟩ }⟩
def ent4 : Ent (ElOf els) := ⟨4, { sh := [.bool], enc := fun (x : Bool) => [.bool x], dec := fun cs => (cs.getD 0 .junk).toBool, z := false, int? := none }⟩
def ent5 : Ent (ElOf els) := ⟨5, { sh := [.int .u8], enc := fun (x : Int) => [.int .u8 x], dec := fun cs => (cs.getD 0 .junk).toInt, z := (0 : Int), int? := some ⟨rfl⟩ }⟩
def ent9 : Ent (ElOf els) := ⟨9, { sh := [.str], enc := fun (x : ByteArray) => [.str x], dec := fun cs => (cs.getD 0 .junk).toStr, z := (⟨#[]⟩ : ByteArray), int? := none }⟩
def ent26 : Ent (ElOf els) := ⟨26, { sh := [.int .i64, .int .i64, .bool, .bool, .bool, .bool, .str, .int .i64], enc := fun (x : SThing) => [.int .i64 x.fId, .int .i64 x.fKind, .bool x.fHidden, .bool x.fFixed, .bool x.fSigns, .bool x.fWraps, .str x.fValue, .int .i64 x.fNext], dec := fun cs => ⟨(cs.getD 0 .junk).toInt, (cs.getD 1 .junk).toInt, (cs.getD 2 .junk).toBool, (cs.getD 3 .junk).toBool, (cs.getD 4 .junk).toBool, (cs.getD 5 .junk).toBool, (cs.getD 6 .junk).toStr, (cs.getD 7 .junk).toInt⟩, z := (⟨0, 0, false, false, false, false, ⟨#[]⟩, 0⟩ : SThing), int? := none }⟩
def ent28 : Ent (ElOf els) := ⟨28, { sh := [.int .i64, .str, .int .i64, .int .i64, .int .i64, .bool, .bool, .bool, .bool, .str, .int .i64], enc := fun (x : SRec) => [.int .i64 x.fKind, .str x.fText, .int .i64 x.fNum, .int .i64 x.fThing.fId, .int .i64 x.fThing.fKind, .bool x.fThing.fHidden, .bool x.fThing.fFixed, .bool x.fThing.fSigns, .bool x.fThing.fWraps, .str x.fThing.fValue, .int .i64 x.fThing.fNext], dec := fun cs => ⟨(cs.getD 0 .junk).toInt, (cs.getD 1 .junk).toStr, (cs.getD 2 .junk).toInt, ⟨(cs.getD 3 .junk).toInt, (cs.getD 4 .junk).toInt, (cs.getD 5 .junk).toBool, (cs.getD 6 .junk).toBool, (cs.getD 7 .junk).toBool, (cs.getD 8 .junk).toBool, (cs.getD 9 .junk).toStr, (cs.getD 10 .junk).toInt⟩⟩, z := (⟨0, ⟨#[]⟩, 0, ⟨0, 0, false, false, false, false, ⟨#[]⟩, 0⟩⟩ : SRec), int? := none }⟩
def ent30 : Ent (ElOf els) := ⟨30, { sh := [.sl 99], enc := fun (x : (List SAct)) => [.rsl 99 x], dec := fun cs => (L.toSl 99 (cs.getD 0 .junk)), z := [], int? := none }⟩
def ent33 : Ent (ElOf els) := ⟨33, { sh := [.int .i64, .int .i64, .bool, .bool, .bool, .bool, .str, .int .i64], enc := fun (x : SThing) => [.int .i64 x.fId, .int .i64 x.fKind, .bool x.fHidden, .bool x.fFixed, .bool x.fSigns, .bool x.fWraps, .str x.fValue, .int .i64 x.fNext], dec := fun cs => ⟨(cs.getD 0 .junk).toInt, (cs.getD 1 .junk).toInt, (cs.getD 2 .junk).toBool, (cs.getD 3 .junk).toBool, (cs.getD 4 .junk).toBool, (cs.getD 5 .junk).toBool, (cs.getD 6 .junk).toStr, (cs.getD 7 .junk).toInt⟩, z := (⟨0, 0, false, false, false, false, ⟨#[]⟩, 0⟩ : SThing), int? := none }⟩
def ent35 : Ent (ElOf els) := ⟨35, { sh := [.int .i64, .str, .int .i64, .int .i64, .int .i64, .bool, .bool, .bool, .bool, .str, .int .i64], enc := fun (x : SRec) => [.int .i64 x.fKind, .str x.fText, .int .i64 x.fNum, .int .i64 x.fThing.fId, .int .i64 x.fThing.fKind, .bool x.fThing.fHidden, .bool x.fThing.fFixed, .bool x.fThing.fSigns, .bool x.fThing.fWraps, .str x.fThing.fValue, .int .i64 x.fThing.fNext], dec := fun cs => ⟨(cs.getD 0 .junk).toInt, (cs.getD 1 .junk).toStr, (cs.getD 2 .junk).toInt, ⟨(cs.getD 3 .junk).toInt, (cs.getD 4 .junk).toInt, (cs.getD 5 .junk).toBool, (cs.getD 6 .junk).toBool, (cs.getD 7 .junk).toBool, (cs.getD 8 .junk).toBool, (cs.getD 9 .junk).toStr, (cs.getD 10 .junk).toInt⟩⟩, z := (⟨0, ⟨#[]⟩, 0, ⟨0, 0, false, false, false, false, ⟨#[]⟩, 0⟩⟩ : SRec), int? := none }⟩
def ent40 : Ent (ElOf els) := ⟨40, { sh := [.sl 28], enc := fun (x : (List SRec)) => [.rsl 28 x], dec := fun cs => (L.toSl 28 (cs.getD 0 .junk)), z := [], int? := none }⟩
def ent43 : Ent (ElOf els) := ⟨43, { sh := [.sl 35], enc := fun (x : (List SRec)) => [.rsl 35 x], dec := fun cs => (L.toSl 35 (cs.getD 0 .junk)), z := [], int? := none }⟩
def ent47 : Ent (ElOf els) := ⟨47, { sh := [.sl 26], enc := fun (x : (List SThing)) => [.rsl 26 x], dec := fun cs => (L.toSl 26 (cs.getD 0 .junk)), z := [], int? := none }⟩
def ent49 : Ent (ElOf els) := ⟨49, { sh := [.str, .int .i64, .sl 26, .int .i64, .str, .int .i64], enc := fun (x : SBook) => [.str x.fWord, .int .i64 x.fTries, .rsl 26 x.fThings, .int .i64 x.fLast, .str x.fChain, .int .i64 x.fCount], dec := fun cs => ⟨(cs.getD 0 .junk).toStr, (cs.getD 1 .junk).toInt, (L.toSl 26 (cs.getD 2 .junk)), (cs.getD 3 .junk).toInt, (cs.getD 4 .junk).toStr, (cs.getD 5 .junk).toInt⟩, z := (⟨⟨#[]⟩, 0, [], 0, ⟨#[]⟩, 0⟩ : SBook), int? := none }⟩
def ent51 : Ent (ElOf els) := ⟨51, { sh := [.sl 33], enc := fun (x : (List SThing)) => [.rsl 33 x], dec := fun cs => (L.toSl 33 (cs.getD 0 .junk)), z := [], int? := none }⟩
def ent53 : Ent (ElOf els) := ⟨53, { sh := [.str, .int .i64, .sl 33, .int .i64, .str, .int .i64], enc := fun (x : SBook) => [.str x.fWord, .int .i64 x.fTries, .rsl 33 x.fThings, .int .i64 x.fLast, .str x.fChain, .int .i64 x.fCount], dec := fun cs => ⟨(cs.getD 0 .junk).toStr, (cs.getD 1 .junk).toInt, (L.toSl 33 (cs.getD 2 .junk)), (cs.getD 3 .junk).toInt, (cs.getD 4 .junk).toStr, (cs.getD 5 .junk).toInt⟩, z := (⟨⟨#[]⟩, 0, [], 0, ⟨#[]⟩, 0⟩ : SBook), int? := none }⟩
def ent62 : Ent (ElOf els) := ⟨62, { sh := [.sl 186], enc := fun (x : (List SFile)) => [.rsl 186 x], dec := fun cs => (L.toSl 186 (cs.getD 0 .junk)), z := [], int? := none }⟩
def ent64 : Ent (ElOf els) := ⟨64, { sh := [.sl 186], enc := fun (x : SDisk) => [.rsl 186 x.fFiles], dec := fun cs => ⟨(L.toSl 186 (cs.getD 0 .junk))⟩, z := (⟨[]⟩ : SDisk), int? := none }⟩
def ent65 : Ent (ElOf els) := ⟨65, { sh := [.sl 157], enc := fun (x : (List SSession)) => [.rsl 157 x], dec := fun cs => (L.toSl 157 (cs.getD 0 .junk)), z := [], int? := none }⟩
def ent66 : Ent (ElOf els) := ⟨66, { sh := [.sl 161], enc := fun (x : (List SLive)) => [.rsl 161 x], dec := fun cs => (L.toSl 161 (cs.getD 0 .junk)), z := [], int? := none }⟩
def ent68 : Ent (ElOf els) := ⟨68, { sh := [.str, .bool, .sl 186, .str, .int .i64, .sl 26, .int .i64, .str, .int .i64, .sl 157, .sl 161, .int .i64], enc := fun (x : SBox) => [.str x.fKey, .bool x.fUp, .rsl 186 x.fDisk.fFiles, .str x.fBook.fWord, .int .i64 x.fBook.fTries, .rsl 26 x.fBook.fThings, .int .i64 x.fBook.fLast, .str x.fBook.fChain, .int .i64 x.fBook.fCount, .rsl 157 x.fSessions, .rsl 161 x.fLives, .int .i64 x.fOpened], dec := fun cs => ⟨(cs.getD 0 .junk).toStr, (cs.getD 1 .junk).toBool, ⟨(L.toSl 186 (cs.getD 2 .junk))⟩, ⟨(cs.getD 3 .junk).toStr, (cs.getD 4 .junk).toInt, (L.toSl 26 (cs.getD 5 .junk)), (cs.getD 6 .junk).toInt, (cs.getD 7 .junk).toStr, (cs.getD 8 .junk).toInt⟩, (L.toSl 157 (cs.getD 9 .junk)), (L.toSl 161 (cs.getD 10 .junk)), (cs.getD 11 .junk).toInt⟩, z := (⟨⟨#[]⟩, false, ⟨[]⟩, ⟨⟨#[]⟩, 0, [], 0, ⟨#[]⟩, 0⟩, [], [], 0⟩ : SBox), int? := none }⟩
def ent70 : Ent (ElOf els) := ⟨70, { sh := [.sl 187], enc := fun (x : (List SFile)) => [.rsl 187 x], dec := fun cs => (L.toSl 187 (cs.getD 0 .junk)), z := [], int? := none }⟩
def ent72 : Ent (ElOf els) := ⟨72, { sh := [.sl 187], enc := fun (x : SDisk) => [.rsl 187 x.fFiles], dec := fun cs => ⟨(L.toSl 187 (cs.getD 0 .junk))⟩, z := (⟨[]⟩ : SDisk), int? := none }⟩
def ent73 : Ent (ElOf els) := ⟨73, { sh := [.sl 155], enc := fun (x : (List SSession)) => [.rsl 155 x], dec := fun cs => (L.toSl 155 (cs.getD 0 .junk)), z := [], int? := none }⟩
def ent74 : Ent (ElOf els) := ⟨74, { sh := [.sl 159], enc := fun (x : (List SLive)) => [.rsl 159 x], dec := fun cs => (L.toSl 159 (cs.getD 0 .junk)), z := [], int? := none }⟩
def ent76 : Ent (ElOf els) := ⟨76, { sh := [.str, .bool, .sl 187, .str, .int .i64, .sl 33, .int .i64, .str, .int .i64, .sl 155, .sl 159, .int .i64], enc := fun (x : SBox) => [.str x.fKey, .bool x.fUp, .rsl 187 x.fDisk.fFiles, .str x.fBook.fWord, .int .i64 x.fBook.fTries, .rsl 33 x.fBook.fThings, .int .i64 x.fBook.fLast, .str x.fBook.fChain, .int .i64 x.fBook.fCount, .rsl 155 x.fSessions, .rsl 159 x.fLives, .int .i64 x.fOpened], dec := fun cs => ⟨(cs.getD 0 .junk).toStr, (cs.getD 1 .junk).toBool, ⟨(L.toSl 187 (cs.getD 2 .junk))⟩, ⟨(cs.getD 3 .junk).toStr, (cs.getD 4 .junk).toInt, (L.toSl 33 (cs.getD 5 .junk)), (cs.getD 6 .junk).toInt, (cs.getD 7 .junk).toStr, (cs.getD 8 .junk).toInt⟩, (L.toSl 155 (cs.getD 9 .junk)), (L.toSl 159 (cs.getD 10 .junk)), (cs.getD 11 .junk).toInt⟩, z := (⟨⟨#[]⟩, false, ⟨[]⟩, ⟨⟨#[]⟩, 0, [], 0, ⟨#[]⟩, 0⟩, [], [], 0⟩ : SBox), int? := none }⟩
def ent86 : Ent (ElOf els) := ⟨86, { sh := [.sl 5], enc := fun (x : (List Int)) => [.rsl 5 x], dec := fun cs => (L.toSl 5 (cs.getD 0 .junk)), z := [], int? := none }⟩
def ent99 : Ent (ElOf els) := ⟨99, { sh := [.int .i64, .str, .str, .str], enc := fun (x : SAct) => [.int .i64 x.fKind, .str x.fName, .str x.fText, .str x.fTo], dec := fun cs => ⟨(cs.getD 0 .junk).toInt, (cs.getD 1 .junk).toStr, (cs.getD 2 .junk).toStr, (cs.getD 3 .junk).toStr⟩, z := (⟨0, ⟨#[]⟩, ⟨#[]⟩, ⟨#[]⟩⟩ : SAct), int? := none }⟩
def ent128 : Ent (ElOf els) := ⟨128, { sh := [.sl 9], enc := fun (x : (List ByteArray)) => [.rsl 9 x], dec := fun cs => (L.toSl 9 (cs.getD 0 .junk)), z := [], int? := none }⟩
def ent138 : Ent (ElOf els) := ⟨138, { sh := [.int .u32], enc := fun (x : Int) => [.int .u32 x], dec := fun cs => (cs.getD 0 .junk).toInt, z := (0 : Int), int? := some ⟨rfl⟩ }⟩
def ent143 : Ent (ElOf els) := ⟨143, { sh := [.str, .str, .int .i64], enc := fun (x : SHasher) => [.str x.fState, .str x.fRest, .int .i64 x.fCount], dec := fun cs => ⟨(cs.getD 0 .junk).toStr, (cs.getD 1 .junk).toStr, (cs.getD 2 .junk).toInt⟩, z := (⟨⟨#[]⟩, ⟨#[]⟩, 0⟩ : SHasher), int? := none }⟩
def ent146 : Ent (ElOf els) := ⟨146, { sh := [.bool], enc := fun (x : Bool) => [.bool x], dec := fun cs => (cs.getD 0 .junk).toBool, z := false, int? := none }⟩
def ent147 : Ent (ElOf els) := ⟨147, codBools 8 (fun x => x) (fun x => x)⟩
def ent155 : Ent (ElOf els) := ⟨155, { sh := [.int .i64, .bool], enc := fun (x : SSession) => [.int .i64 x.fId, .bool x.fIn], dec := fun cs => ⟨(cs.getD 0 .junk).toInt, (cs.getD 1 .junk).toBool⟩, z := (⟨0, false⟩ : SSession), int? := none }⟩
def ent157 : Ent (ElOf els) := ⟨157, { sh := [.int .i64, .bool], enc := fun (x : SSession) => [.int .i64 x.fId, .bool x.fIn], dec := fun cs => ⟨(cs.getD 0 .junk).toInt, (cs.getD 1 .junk).toBool⟩, z := (⟨0, false⟩ : SSession), int? := none }⟩
def ent159 : Ent (ElOf els) := ⟨159, { sh := [.int .i64, .int .i64], enc := fun (x : SLive) => [.int .i64 x.fId, .int .i64 x.fNext], dec := fun cs => ⟨(cs.getD 0 .junk).toInt, (cs.getD 1 .junk).toInt⟩, z := (⟨0, 0⟩ : SLive), int? := none }⟩
def ent161 : Ent (ElOf els) := ⟨161, { sh := [.int .i64, .int .i64], enc := fun (x : SLive) => [.int .i64 x.fId, .int .i64 x.fNext], dec := fun cs => ⟨(cs.getD 0 .junk).toInt, (cs.getD 1 .junk).toInt⟩, z := (⟨0, 0⟩ : SLive), int? := none }⟩
def ent166 : Ent (ElOf els) := ⟨166, { sh := [.bool], enc := fun (x : Bool) => [.bool x], dec := fun cs => (cs.getD 0 .junk).toBool, z := false, int? := none }⟩
def ent168 : Ent (ElOf els) := ⟨168, { sh := [.str, .int .i64, .bool], enc := fun (x : SL19Cur) => [.str x.fText, .int .i64 x.fAt, .bool x.fBad], dec := fun cs => ⟨(cs.getD 0 .junk).toStr, (cs.getD 1 .junk).toInt, (cs.getD 2 .junk).toBool⟩, z := (⟨⟨#[]⟩, 0, false⟩ : SL19Cur), int? := none }⟩
def ent174 : Ent (ElOf els) := ⟨174, { sh := [.int .u64], enc := fun (x : Int) => [.int .u64 x], dec := fun cs => (cs.getD 0 .junk).toInt, z := (0 : Int), int? := some ⟨rfl⟩ }⟩
def ent178 : Ent (ElOf els) := ⟨178, { sh := [.sl 138], enc := fun (x : (List Int)) => [.rsl 138 x], dec := fun cs => (L.toSl 138 (cs.getD 0 .junk)), z := [], int? := none }⟩
def ent186 : Ent (ElOf els) := ⟨186, { sh := [.str, .str, .int .i64], enc := fun (x : SFile) => [.str x.fName, .str x.fText, .int .i64 x.fKept], dec := fun cs => ⟨(cs.getD 0 .junk).toStr, (cs.getD 1 .junk).toStr, (cs.getD 2 .junk).toInt⟩, z := (⟨⟨#[]⟩, ⟨#[]⟩, 0⟩ : SFile), int? := none }⟩
def ent187 : Ent (ElOf els) := ⟨187, { sh := [.str, .str, .int .i64], enc := fun (x : SFile) => [.str x.fName, .str x.fText, .int .i64 x.fKept], dec := fun cs => ⟨(cs.getD 0 .junk).toStr, (cs.getD 1 .junk).toStr, (cs.getD 2 .junk).toInt⟩, z := (⟨⟨#[]⟩, ⟨#[]⟩, 0⟩ : SFile), int? := none }⟩
def ent191 : Ent (ElOf els) := ⟨191, { sh := [.bool], enc := fun (x : Bool) => [.bool x], dec := fun cs => (cs.getD 0 .junk).toBool, z := false, int? := none }⟩
def ent193 : Ent (ElOf els) := ⟨193, { sh := [.str, .int .i64, .bool], enc := fun (x : SFields) => [.str x.fText, .int .i64 x.fAt, .bool x.fBad], dec := fun cs => ⟨(cs.getD 0 .junk).toStr, (cs.getD 1 .junk).toInt, (cs.getD 2 .junk).toBool⟩, z := (⟨⟨#[]⟩, 0, false⟩ : SFields), int? := none }⟩
def ent197 : Ent (ElOf els) := ⟨197, { sh := [.sl 4], enc := fun (x : (List Bool)) => [.rsl 4 x], dec := fun cs => (L.toSl 4 (cs.getD 0 .junk)), z := [], int? := none }⟩
def ent200 : Ent (ElOf els) := ⟨200, codBools 64 (fun x => x) (fun x => x)⟩
def ents : List (Ent (ElOf els)) := [ent3, ent4, ent5, ent9, ent26, ent28, ent30, ent33, ent35, ent40, ent43, ent47, ent49, ent51, ent53, ent62, ent64, ent65, ent66, ent68, ent70, ent72, ent73, ent74, ent76, ent86, ent99, ent128, ent138, ent143, ent146, ent147, ent155, ent157, ent159, ent161, ent166, ent168, ent174, ent178, ent186, ent187, ent191, ent193, ent197, ent200]
def modes : List (Nat × List Mode') := [(21, [.io, .rd]), (86, [.io, .rd]), (33, [.io, .rd]), (144, [.io, .rd]), (98, [.io, .rd]), (99, [.io, .rd]), (100, [.io, .rd]), (42, [.io, .rd]), (46, [.io, .rd])]
def cuts : List (Nat × List (Nat × (List Nat × List Nat × List (Nat × Nat) × List (Nat × Nat × Nat)))) := [(50, [(2, ([0, 3], [], [(3, 5)], []))]),
  (165, [(3, ([0, 3, 4], [], [(0, 138), (3, 5)], []))]),
  (162, [(3, ([0, 3, 4], [], [(3, 138)], []))]),
  (164, [(3, ([0, 1, 7, 8], [], [(0, 138), (1, 138), (7, 138)], [])), (8, ([0, 1, 7, 9, 10], [], [(0, 138), (1, 138), (7, 138), (9, 138)], [])), (16, ([0, 1, 7, 9, 10, 13, 15, 16], [], [(0, 138), (1, 138), (7, 138), (9, 138)], [])), (23, ([0, 9, 17, 18], [], [(0, 138), (9, 138), (17, 138)], []))]),
  (129, [(7, ([1, 2, 4, 5, 6, 7, 8], [128, 256], [(5, 138), (6, 138)], []))]),
  (128, [(5, ([1, 3], [64], [(3, 5)], [])), (9, ([1, 3, 4, 5], [64], [(3, 5)], [])), (13, ([1, 3, 4, 5, 6, 7], [64], [(3, 5)], [])), (20, ([3, 8, 9, 10], [], [(3, 5), (8, 138), (9, 138)], []))]),
  (175, [(5, ([0, 1, 5, 6], [], [(5, 5)], []))]),
  (108, [(5, ([0, 1, 2, 8, 9], [], [(8, 5)], []))]),
  (109, [(3, ([1, 5, 6], [], [(5, 5)], []))]),
  (12, [(4, ([0, 6], [], [(6, 5)], []))]),
  (114, [(2, ([0, 3], [], [(3, 5)], []))]),
  (179, [(3, ([0, 2, 3, 11], [128, 192], [], [])), (6, ([0, 2, 3, 4, 11, 14], [128, 192], [], [])), (12, ([2, 3, 6], [128, 192], [], []))]),
  (167, [(4, ([2, 4, 5, 6, 7, 8, 9, 10, 11, 12, 13, 37], [128, 256, 320], [], [])), (13, ([2, 4, 17, 109], [128, 256, 1088], [], []))]),
  (133, [(1, ([1, 2, 4], [128, 256], [], []))]),
  (136, [(3, ([3, 6, 7], [], [], []))]),
  (176, [(3, ([1, 5, 10, 11], [], [(5, 5)], []))]),
  (111, [(6, ([0, 2, 8, 10, 11], [], [], []))]),
  (112, [(3, ([1, 5, 10, 11], [], [(5, 5)], []))]),
  (55, [(6, ([0, 1, 7, 8, 9], [], [], []))]),
  (117, [(5, ([0, 1, 7, 8], [], [], []))]),
  (157, [(2, ([0, 1, 5], [], [], [])), (6, ([0, 1, 5, 6], [], [], []))]),
  (158, [(3, ([3, 14, 15, 16], [], [(14, 4)], []))]),
  (160, [(2, ([0, 1, 5], [], [], [])), (6, ([0, 1, 5, 19], [], [], []))]),
  (20, [(4, ([0, 1, 5], [], [(0, 99), (1, 99)], []))]),
  (67, [(4, ([0, 3], [], [], []))]),
  (21, [(2, ([0, 1, 5], [1], [(0, 99)], [])), (6, ([0, 1, 5], [1], [(0, 99)], [])), (8, ([0, 1, 5], [1], [(0, 99)], [])), (10, ([0, 1, 5], [1], [(0, 99)], []))]),
  (22, [(2, ([0, 1, 5], [], [(0, 99)], []))]),
  (23, [(5, ([0, 1, 5], [], [(0, 28)], []))]),
  (25, [(3, ([0, 3, 4], [], [(0, 28), (3, 35)], []))]),
  (125, [(3, ([0, 1, 5, 6], [], [(5, 5)], []))]),
  (74, [(4, ([1, 3], [64], [], [(64, 2, 33)]))]),
  (69, [(2, ([1, 2, 4, 6], [128, 256], [], [(128, 2, 33)]))]),
  (77, [(3, ([0, 3, 5, 6], [192], [(0, 33), (5, 33)], [])), (9, ([0, 3, 5, 7], [192], [(0, 33), (5, 33)], []))]),
  (29, [(24, ([2, 3, 4, 6, 8, 13, 14], [128, 192, 256, 512], [(13, 33)], [(128, 2, 33), (256, 2, 33), (512, 2, 33)]))]),
  (24, [(3, ([0, 3, 4], [192], [(0, 35)], [(192, 2, 33)])), (9, ([0, 3, 4, 5, 7], [192, 320], [(0, 35)], [(192, 2, 33), (320, 2, 33)]))]),
  (80, [(2, ([1, 6, 7, 8], [64], [(6, 33)], [(64, 2, 33)]))]),
  (83, [(2, ([1, 8, 9, 10], [], [(8, 33)], []))]),
  (26, [(3, ([3, 13, 14, 15], [192], [(13, 35)], [(192, 2, 33)])), (9, ([3, 6, 13, 14, 15, 28, 29, 30], [192, 384], [(13, 35), (28, 33)], [(192, 2, 33), (384, 2, 33)]))]),
  (27, [(4, ([0, 1, 5], [], [(0, 35), (1, 35)], []))]),
  (73, [(5, ([0, 1, 5], [], [(0, 26)], []))]),
  (79, [(3, ([0, 3, 4], [], [(0, 26), (3, 33)], []))]),
  (85, [(4, ([0, 1, 5], [], [(0, 33), (1, 33)], []))]),
  (86, [(2, ([0, 1, 5], [1], [(0, 33)], [])), (6, ([0, 1, 5], [1], [(0, 33)], [])), (8, ([0, 1, 5], [1], [(0, 33)], [])), (10, ([0, 1, 5], [1], [(0, 33)], [])), (12, ([0, 1, 5], [1], [(0, 33)], [])), (14, ([0, 1, 5], [1], [(0, 33)], [])), (16, ([0, 1, 5], [1], [(0, 33)], [])), (18, ([0, 1, 5], [1], [(0, 33)], []))]),
  (87, [(2, ([0, 1, 5], [], [(0, 33)], []))]),
  (44, [(3, ([1, 4, 6, 7], [256, 384], [(1, 35)], [(256, 2, 33), (384, 2, 33)]))]),
  (45, [(3, ([4, 6, 13, 14, 15], [256, 384], [(13, 35)], [(256, 2, 33), (384, 2, 33)]))]),
  (137, [(5, ([0, 1, 5], [], [(0, 186)], []))]),
  (138, [(3, ([0, 3, 4], [], [(0, 186), (3, 187)], []))]),
  (92, [(3, ([0, 3, 4], [], [(0, 157), (3, 155)], []))]),
  (93, [(3, ([0, 3, 4], [], [(0, 161), (3, 159)], []))]),
  (141, [(4, ([0, 1, 5], [], [(0, 187), (1, 187)], []))]),
  (96, [(4, ([0, 1, 5], [], [(0, 155), (1, 155)], []))]),
  (97, [(4, ([0, 1, 5], [], [(0, 159), (1, 159)], []))]),
  (144, [(2, ([0, 1, 5], [1], [(0, 187)], []))]),
  (99, [(2, ([0, 1, 5], [1], [(0, 155)], []))]),
  (100, [(2, ([0, 1, 5], [1], [(0, 159)], []))]),
  (145, [(2, ([0, 1, 5], [], [(0, 187)], []))]),
  (102, [(2, ([0, 1, 5], [], [(0, 155)], []))]),
  (103, [(2, ([0, 1, 5], [], [(0, 159)], []))]),
  (46, [(2, ([0, 1, 5], [1], [(0, 35)], [])), (6, ([0, 1, 5], [1], [(0, 35)], [])), (8, ([0, 1, 5], [1], [(0, 35)], [])), (10, ([0, 1, 5], [1], [(0, 35)], [])), (12, ([0, 1, 5], [1], [(0, 35)], [])), (14, ([0, 1, 5], [1], [(0, 35)], [])), (16, ([0, 1, 5], [1], [(0, 35)], [])), (18, ([0, 1, 5], [1], [(0, 35)], [])), (20, ([0, 1, 5], [1], [(0, 35)], [])), (22, ([0, 1, 5], [1], [(0, 35)], [])), (24, ([0, 1, 5], [1], [(0, 35)], []))]),
  (104, [(5, ([0, 4, 5], [], [(4, 9)], []))]),
  (47, [(5, ([0, 6, 7, 9, 10], [], [(6, 35), (7, 9)], []))]),
  (106, [(5, ([0, 4, 5], [], [(4, 9)], []))]),
  (48, [(5, ([0, 8, 9, 23, 24, 25], [], [(8, 35), (23, 9)], []))]),
  (49, [(2, ([0, 1, 5], [], [(0, 35)], []))])]
def tabs : List (Nat × (Nat × List Int)) := [(0, (200, [1116352408, 1899447441, 3049323471, 3921009573, 961987163, 1508970993, 2453635748, 2870763221, 3624381080, 310598401, 607225278, 1426881987, 1925078388, 2162078206, 2614888103, 3248222580, 3835390401, 4022224774, 264347078, 604807628, 770255983, 1249150122, 1555081692, 1996064986, 2554220882, 2821834349, 2952996808, 3210313671, 3336571891, 3584528711, 113926993, 338241895, 666307205, 773529912, 1294757372, 1396182291, 1695183700, 1986661051, 2177026350, 2456956037, 2730485921, 2820302411, 3259730800, 3345764771, 3516065817, 3600352804, 4094571909, 275423344, 430227734, 506948616, 659060556, 883997877, 958139571, 1322822218, 1537002063, 1747873779, 1955562222, 2024104815, 2227730452, 2361852424, 2428436474, 2756734187, 3204031479, 3329325298]))]
def ctx : Ctx := mkCtx els tis ents modes cuts tabs
noncomputable abbrev PP : Program := Tryd.prog
abbrev LI := List Go.Item × Env ctx × Hp ctx
theorem good3 : CodGood ctx 3 ent3.c := ⟨fun _ => rfl, fun cs h0 => by obtain ⟨n0, ls0, rfl, h1⟩ := fit_int h0; obtain rfl := fit_nil h1; rfl, fun _ => rfl, rfl, fun h k hi hk n => by cases hk; rfl⟩
theorem good4 : CodGood ctx 4 ent4.c := ⟨fun _ => rfl, fun cs h0 => by obtain ⟨n0, ls0, rfl, h1⟩ := fit_bool h0; obtain rfl := fit_nil h1; rfl, fun _ => rfl, rfl, fun h k hi hk n => by cases hi⟩
theorem good5 : CodGood ctx 5 ent5.c := ⟨fun _ => rfl, fun cs h0 => by obtain ⟨n0, ls0, rfl, h1⟩ := fit_int h0; obtain rfl := fit_nil h1; rfl, fun _ => rfl, rfl, fun h k hi hk n => by cases hk; rfl⟩
theorem good9 : CodGood ctx 9 ent9.c := ⟨fun _ => rfl, fun cs h0 => by obtain ⟨n0, ls0, rfl, h1⟩ := fit_str h0; obtain rfl := fit_nil h1; rfl, fun _ => rfl, rfl, fun h k hi hk n => by cases hi⟩
theorem good26 : CodGood ctx 26 ent26.c := ⟨fun _ => rfl, fun cs h0 => by obtain ⟨n0, ls0, rfl, h1⟩ := fit_int h0; obtain ⟨n1, ls1, rfl, h2⟩ := fit_int h1; obtain ⟨n2, ls2, rfl, h3⟩ := fit_bool h2; obtain ⟨n3, ls3, rfl, h4⟩ := fit_bool h3; obtain ⟨n4, ls4, rfl, h5⟩ := fit_bool h4; obtain ⟨n5, ls5, rfl, h6⟩ := fit_bool h5; obtain ⟨n6, ls6, rfl, h7⟩ := fit_str h6; obtain ⟨n7, ls7, rfl, h8⟩ := fit_int h7; obtain rfl := fit_nil h8; rfl, fun _ => rfl, rfl, fun h k hi hk n => by cases hi⟩
theorem good28 : CodGood ctx 28 ent28.c := ⟨fun _ => rfl, fun cs h0 => by obtain ⟨n0, ls0, rfl, h1⟩ := fit_int h0; obtain ⟨n1, ls1, rfl, h2⟩ := fit_str h1; obtain ⟨n2, ls2, rfl, h3⟩ := fit_int h2; obtain ⟨n3, ls3, rfl, h4⟩ := fit_int h3; obtain ⟨n4, ls4, rfl, h5⟩ := fit_int h4; obtain ⟨n5, ls5, rfl, h6⟩ := fit_bool h5; obtain ⟨n6, ls6, rfl, h7⟩ := fit_bool h6; obtain ⟨n7, ls7, rfl, h8⟩ := fit_bool h7; obtain ⟨n8, ls8, rfl, h9⟩ := fit_bool h8; obtain ⟨n9, ls9, rfl, h10⟩ := fit_str h9; obtain ⟨n10, ls10, rfl, h11⟩ := fit_int h10; obtain rfl := fit_nil h11; rfl, fun _ => rfl, rfl, fun h k hi hk n => by cases hi⟩
theorem good30 : CodGood ctx 30 ent30.c := ⟨fun _ => rfl, fun cs h0 => by obtain ⟨n0, ls0, rfl, h1⟩ := fit_sl h0; obtain rfl := fit_nil h1; rfl, fun _ => rfl, rfl, fun h k hi hk n => by cases hi⟩
theorem good33 : CodGood ctx 33 ent33.c := ⟨fun _ => rfl, fun cs h0 => by obtain ⟨n0, ls0, rfl, h1⟩ := fit_int h0; obtain ⟨n1, ls1, rfl, h2⟩ := fit_int h1; obtain ⟨n2, ls2, rfl, h3⟩ := fit_bool h2; obtain ⟨n3, ls3, rfl, h4⟩ := fit_bool h3; obtain ⟨n4, ls4, rfl, h5⟩ := fit_bool h4; obtain ⟨n5, ls5, rfl, h6⟩ := fit_bool h5; obtain ⟨n6, ls6, rfl, h7⟩ := fit_str h6; obtain ⟨n7, ls7, rfl, h8⟩ := fit_int h7; obtain rfl := fit_nil h8; rfl, fun _ => rfl, rfl, fun h k hi hk n => by cases hi⟩
theorem good35 : CodGood ctx 35 ent35.c := ⟨fun _ => rfl, fun cs h0 => by obtain ⟨n0, ls0, rfl, h1⟩ := fit_int h0; obtain ⟨n1, ls1, rfl, h2⟩ := fit_str h1; obtain ⟨n2, ls2, rfl, h3⟩ := fit_int h2; obtain ⟨n3, ls3, rfl, h4⟩ := fit_int h3; obtain ⟨n4, ls4, rfl, h5⟩ := fit_int h4; obtain ⟨n5, ls5, rfl, h6⟩ := fit_bool h5; obtain ⟨n6, ls6, rfl, h7⟩ := fit_bool h6; obtain ⟨n7, ls7, rfl, h8⟩ := fit_bool h7; obtain ⟨n8, ls8, rfl, h9⟩ := fit_bool h8; obtain ⟨n9, ls9, rfl, h10⟩ := fit_str h9; obtain ⟨n10, ls10, rfl, h11⟩ := fit_int h10; obtain rfl := fit_nil h11; rfl, fun _ => rfl, rfl, fun h k hi hk n => by cases hi⟩
theorem good40 : CodGood ctx 40 ent40.c := ⟨fun _ => rfl, fun cs h0 => by obtain ⟨n0, ls0, rfl, h1⟩ := fit_sl h0; obtain rfl := fit_nil h1; rfl, fun _ => rfl, rfl, fun h k hi hk n => by cases hi⟩
theorem good43 : CodGood ctx 43 ent43.c := ⟨fun _ => rfl, fun cs h0 => by obtain ⟨n0, ls0, rfl, h1⟩ := fit_sl h0; obtain rfl := fit_nil h1; rfl, fun _ => rfl, rfl, fun h k hi hk n => by cases hi⟩
theorem good47 : CodGood ctx 47 ent47.c := ⟨fun _ => rfl, fun cs h0 => by obtain ⟨n0, ls0, rfl, h1⟩ := fit_sl h0; obtain rfl := fit_nil h1; rfl, fun _ => rfl, rfl, fun h k hi hk n => by cases hi⟩
theorem good49 : CodGood ctx 49 ent49.c := ⟨fun _ => rfl, fun cs h0 => by obtain ⟨n0, ls0, rfl, h1⟩ := fit_str h0; obtain ⟨n1, ls1, rfl, h2⟩ := fit_int h1; obtain ⟨n2, ls2, rfl, h3⟩ := fit_sl h2; obtain ⟨n3, ls3, rfl, h4⟩ := fit_int h3; obtain ⟨n4, ls4, rfl, h5⟩ := fit_str h4; obtain ⟨n5, ls5, rfl, h6⟩ := fit_int h5; obtain rfl := fit_nil h6; rfl, fun _ => rfl, rfl, fun h k hi hk n => by cases hi⟩
theorem good51 : CodGood ctx 51 ent51.c := ⟨fun _ => rfl, fun cs h0 => by obtain ⟨n0, ls0, rfl, h1⟩ := fit_sl h0; obtain rfl := fit_nil h1; rfl, fun _ => rfl, rfl, fun h k hi hk n => by cases hi⟩
theorem good53 : CodGood ctx 53 ent53.c := ⟨fun _ => rfl, fun cs h0 => by obtain ⟨n0, ls0, rfl, h1⟩ := fit_str h0; obtain ⟨n1, ls1, rfl, h2⟩ := fit_int h1; obtain ⟨n2, ls2, rfl, h3⟩ := fit_sl h2; obtain ⟨n3, ls3, rfl, h4⟩ := fit_int h3; obtain ⟨n4, ls4, rfl, h5⟩ := fit_str h4; obtain ⟨n5, ls5, rfl, h6⟩ := fit_int h5; obtain rfl := fit_nil h6; rfl, fun _ => rfl, rfl, fun h k hi hk n => by cases hi⟩
theorem good62 : CodGood ctx 62 ent62.c := ⟨fun _ => rfl, fun cs h0 => by obtain ⟨n0, ls0, rfl, h1⟩ := fit_sl h0; obtain rfl := fit_nil h1; rfl, fun _ => rfl, rfl, fun h k hi hk n => by cases hi⟩
theorem good64 : CodGood ctx 64 ent64.c := ⟨fun _ => rfl, fun cs h0 => by obtain ⟨n0, ls0, rfl, h1⟩ := fit_sl h0; obtain rfl := fit_nil h1; rfl, fun _ => rfl, rfl, fun h k hi hk n => by cases hi⟩
theorem good65 : CodGood ctx 65 ent65.c := ⟨fun _ => rfl, fun cs h0 => by obtain ⟨n0, ls0, rfl, h1⟩ := fit_sl h0; obtain rfl := fit_nil h1; rfl, fun _ => rfl, rfl, fun h k hi hk n => by cases hi⟩
theorem good66 : CodGood ctx 66 ent66.c := ⟨fun _ => rfl, fun cs h0 => by obtain ⟨n0, ls0, rfl, h1⟩ := fit_sl h0; obtain rfl := fit_nil h1; rfl, fun _ => rfl, rfl, fun h k hi hk n => by cases hi⟩
theorem good68 : CodGood ctx 68 ent68.c := ⟨fun _ => rfl, fun cs h0 => by obtain ⟨n0, ls0, rfl, h1⟩ := fit_str h0; obtain ⟨n1, ls1, rfl, h2⟩ := fit_bool h1; obtain ⟨n2, ls2, rfl, h3⟩ := fit_sl h2; obtain ⟨n3, ls3, rfl, h4⟩ := fit_str h3; obtain ⟨n4, ls4, rfl, h5⟩ := fit_int h4; obtain ⟨n5, ls5, rfl, h6⟩ := fit_sl h5; obtain ⟨n6, ls6, rfl, h7⟩ := fit_int h6; obtain ⟨n7, ls7, rfl, h8⟩ := fit_str h7; obtain ⟨n8, ls8, rfl, h9⟩ := fit_int h8; obtain ⟨n9, ls9, rfl, h10⟩ := fit_sl h9; obtain ⟨n10, ls10, rfl, h11⟩ := fit_sl h10; obtain ⟨n11, ls11, rfl, h12⟩ := fit_int h11; obtain rfl := fit_nil h12; rfl, fun _ => rfl, rfl, fun h k hi hk n => by cases hi⟩
theorem good70 : CodGood ctx 70 ent70.c := ⟨fun _ => rfl, fun cs h0 => by obtain ⟨n0, ls0, rfl, h1⟩ := fit_sl h0; obtain rfl := fit_nil h1; rfl, fun _ => rfl, rfl, fun h k hi hk n => by cases hi⟩
theorem good72 : CodGood ctx 72 ent72.c := ⟨fun _ => rfl, fun cs h0 => by obtain ⟨n0, ls0, rfl, h1⟩ := fit_sl h0; obtain rfl := fit_nil h1; rfl, fun _ => rfl, rfl, fun h k hi hk n => by cases hi⟩
theorem good73 : CodGood ctx 73 ent73.c := ⟨fun _ => rfl, fun cs h0 => by obtain ⟨n0, ls0, rfl, h1⟩ := fit_sl h0; obtain rfl := fit_nil h1; rfl, fun _ => rfl, rfl, fun h k hi hk n => by cases hi⟩
theorem good74 : CodGood ctx 74 ent74.c := ⟨fun _ => rfl, fun cs h0 => by obtain ⟨n0, ls0, rfl, h1⟩ := fit_sl h0; obtain rfl := fit_nil h1; rfl, fun _ => rfl, rfl, fun h k hi hk n => by cases hi⟩
theorem good76 : CodGood ctx 76 ent76.c := ⟨fun _ => rfl, fun cs h0 => by obtain ⟨n0, ls0, rfl, h1⟩ := fit_str h0; obtain ⟨n1, ls1, rfl, h2⟩ := fit_bool h1; obtain ⟨n2, ls2, rfl, h3⟩ := fit_sl h2; obtain ⟨n3, ls3, rfl, h4⟩ := fit_str h3; obtain ⟨n4, ls4, rfl, h5⟩ := fit_int h4; obtain ⟨n5, ls5, rfl, h6⟩ := fit_sl h5; obtain ⟨n6, ls6, rfl, h7⟩ := fit_int h6; obtain ⟨n7, ls7, rfl, h8⟩ := fit_str h7; obtain ⟨n8, ls8, rfl, h9⟩ := fit_int h8; obtain ⟨n9, ls9, rfl, h10⟩ := fit_sl h9; obtain ⟨n10, ls10, rfl, h11⟩ := fit_sl h10; obtain ⟨n11, ls11, rfl, h12⟩ := fit_int h11; obtain rfl := fit_nil h12; rfl, fun _ => rfl, rfl, fun h k hi hk n => by cases hi⟩
theorem good86 : CodGood ctx 86 ent86.c := ⟨fun _ => rfl, fun cs h0 => by obtain ⟨n0, ls0, rfl, h1⟩ := fit_sl h0; obtain rfl := fit_nil h1; rfl, fun _ => rfl, rfl, fun h k hi hk n => by cases hi⟩
theorem good99 : CodGood ctx 99 ent99.c := ⟨fun _ => rfl, fun cs h0 => by obtain ⟨n0, ls0, rfl, h1⟩ := fit_int h0; obtain ⟨n1, ls1, rfl, h2⟩ := fit_str h1; obtain ⟨n2, ls2, rfl, h3⟩ := fit_str h2; obtain ⟨n3, ls3, rfl, h4⟩ := fit_str h3; obtain rfl := fit_nil h4; rfl, fun _ => rfl, rfl, fun h k hi hk n => by cases hi⟩
theorem good128 : CodGood ctx 128 ent128.c := ⟨fun _ => rfl, fun cs h0 => by obtain ⟨n0, ls0, rfl, h1⟩ := fit_sl h0; obtain rfl := fit_nil h1; rfl, fun _ => rfl, rfl, fun h k hi hk n => by cases hi⟩
theorem good138 : CodGood ctx 138 ent138.c := ⟨fun _ => rfl, fun cs h0 => by obtain ⟨n0, ls0, rfl, h1⟩ := fit_int h0; obtain rfl := fit_nil h1; rfl, fun _ => rfl, rfl, fun h k hi hk n => by cases hk; rfl⟩
theorem good143 : CodGood ctx 143 ent143.c := ⟨fun _ => rfl, fun cs h0 => by obtain ⟨n0, ls0, rfl, h1⟩ := fit_str h0; obtain ⟨n1, ls1, rfl, h2⟩ := fit_str h1; obtain ⟨n2, ls2, rfl, h3⟩ := fit_int h2; obtain rfl := fit_nil h3; rfl, fun _ => rfl, rfl, fun h k hi hk n => by cases hi⟩
theorem good146 : CodGood ctx 146 ent146.c := ⟨fun _ => rfl, fun cs h0 => by obtain ⟨n0, ls0, rfl, h1⟩ := fit_bool h0; obtain rfl := fit_nil h1; rfl, fun _ => rfl, rfl, fun h k hi hk n => by cases hi⟩
theorem good147 : CodGood ctx 147 ent147.c := codBools_good (C := ctx) (e := 147) (n := 8) (f := fun x => x) (g := fun x => x) (fun _ => rfl) (by kernel_rfl)
theorem good155 : CodGood ctx 155 ent155.c := ⟨fun _ => rfl, fun cs h0 => by obtain ⟨n0, ls0, rfl, h1⟩ := fit_int h0; obtain ⟨n1, ls1, rfl, h2⟩ := fit_bool h1; obtain rfl := fit_nil h2; rfl, fun _ => rfl, rfl, fun h k hi hk n => by cases hi⟩
theorem good157 : CodGood ctx 157 ent157.c := ⟨fun _ => rfl, fun cs h0 => by obtain ⟨n0, ls0, rfl, h1⟩ := fit_int h0; obtain ⟨n1, ls1, rfl, h2⟩ := fit_bool h1; obtain rfl := fit_nil h2; rfl, fun _ => rfl, rfl, fun h k hi hk n => by cases hi⟩
theorem good159 : CodGood ctx 159 ent159.c := ⟨fun _ => rfl, fun cs h0 => by obtain ⟨n0, ls0, rfl, h1⟩ := fit_int h0; obtain ⟨n1, ls1, rfl, h2⟩ := fit_int h1; obtain rfl := fit_nil h2; rfl, fun _ => rfl, rfl, fun h k hi hk n => by cases hi⟩
theorem good161 : CodGood ctx 161 ent161.c := ⟨fun _ => rfl, fun cs h0 => by obtain ⟨n0, ls0, rfl, h1⟩ := fit_int h0; obtain ⟨n1, ls1, rfl, h2⟩ := fit_int h1; obtain rfl := fit_nil h2; rfl, fun _ => rfl, rfl, fun h k hi hk n => by cases hi⟩
theorem good166 : CodGood ctx 166 ent166.c := ⟨fun _ => rfl, fun cs h0 => by obtain ⟨n0, ls0, rfl, h1⟩ := fit_bool h0; obtain rfl := fit_nil h1; rfl, fun _ => rfl, rfl, fun h k hi hk n => by cases hi⟩
theorem good168 : CodGood ctx 168 ent168.c := ⟨fun _ => rfl, fun cs h0 => by obtain ⟨n0, ls0, rfl, h1⟩ := fit_str h0; obtain ⟨n1, ls1, rfl, h2⟩ := fit_int h1; obtain ⟨n2, ls2, rfl, h3⟩ := fit_bool h2; obtain rfl := fit_nil h3; rfl, fun _ => rfl, rfl, fun h k hi hk n => by cases hi⟩
theorem good174 : CodGood ctx 174 ent174.c := ⟨fun _ => rfl, fun cs h0 => by obtain ⟨n0, ls0, rfl, h1⟩ := fit_int h0; obtain rfl := fit_nil h1; rfl, fun _ => rfl, rfl, fun h k hi hk n => by cases hk; rfl⟩
theorem good178 : CodGood ctx 178 ent178.c := ⟨fun _ => rfl, fun cs h0 => by obtain ⟨n0, ls0, rfl, h1⟩ := fit_sl h0; obtain rfl := fit_nil h1; rfl, fun _ => rfl, rfl, fun h k hi hk n => by cases hi⟩
theorem good186 : CodGood ctx 186 ent186.c := ⟨fun _ => rfl, fun cs h0 => by obtain ⟨n0, ls0, rfl, h1⟩ := fit_str h0; obtain ⟨n1, ls1, rfl, h2⟩ := fit_str h1; obtain ⟨n2, ls2, rfl, h3⟩ := fit_int h2; obtain rfl := fit_nil h3; rfl, fun _ => rfl, rfl, fun h k hi hk n => by cases hi⟩
theorem good187 : CodGood ctx 187 ent187.c := ⟨fun _ => rfl, fun cs h0 => by obtain ⟨n0, ls0, rfl, h1⟩ := fit_str h0; obtain ⟨n1, ls1, rfl, h2⟩ := fit_str h1; obtain ⟨n2, ls2, rfl, h3⟩ := fit_int h2; obtain rfl := fit_nil h3; rfl, fun _ => rfl, rfl, fun h k hi hk n => by cases hi⟩
theorem good191 : CodGood ctx 191 ent191.c := ⟨fun _ => rfl, fun cs h0 => by obtain ⟨n0, ls0, rfl, h1⟩ := fit_bool h0; obtain rfl := fit_nil h1; rfl, fun _ => rfl, rfl, fun h k hi hk n => by cases hi⟩
theorem good193 : CodGood ctx 193 ent193.c := ⟨fun _ => rfl, fun cs h0 => by obtain ⟨n0, ls0, rfl, h1⟩ := fit_str h0; obtain ⟨n1, ls1, rfl, h2⟩ := fit_int h1; obtain ⟨n2, ls2, rfl, h3⟩ := fit_bool h2; obtain rfl := fit_nil h3; rfl, fun _ => rfl, rfl, fun h k hi hk n => by cases hi⟩
theorem good197 : CodGood ctx 197 ent197.c := ⟨fun _ => rfl, fun cs h0 => by obtain ⟨n0, ls0, rfl, h1⟩ := fit_sl h0; obtain rfl := fit_nil h1; rfl, fun _ => rfl, rfl, fun h k hi hk n => by cases hi⟩
theorem good200 : CodGood ctx 200 ent200.c := codBools_good (C := ctx) (e := 200) (n := 64) (f := fun x => x) (g := fun x => x) (fun _ => rfl) (by kernel_rfl)
theorem ctxOk : CtxOk ctx Tryd.prog := mkCtx_ok (by kernel_rfl) (fun x hx => by
  simp only [ents, List.mem_cons, List.not_mem_nil, or_false] at hx
  rcases hx with rfl | rfl | rfl | rfl | rfl | rfl | rfl | rfl | rfl | rfl | rfl | rfl | rfl | rfl | rfl | rfl | rfl | rfl | rfl | rfl | rfl | rfl | rfl | rfl | rfl | rfl | rfl | rfl | rfl | rfl | rfl | rfl | rfl | rfl | rfl | rfl | rfl | rfl | rfl | rfl | rfl | rfl | rfl | rfl | rfl | rfl
  · exact good3
  · exact good4
  · exact good5
  · exact good9
  · exact good26
  · exact good28
  · exact good30
  · exact good33
  · exact good35
  · exact good40
  · exact good43
  · exact good47
  · exact good49
  · exact good51
  · exact good53
  · exact good62
  · exact good64
  · exact good65
  · exact good66
  · exact good68
  · exact good70
  · exact good72
  · exact good73
  · exact good74
  · exact good76
  · exact good86
  · exact good99
  · exact good128
  · exact good138
  · exact good143
  · exact good146
  · exact good147
  · exact good155
  · exact good157
  · exact good159
  · exact good161
  · exact good166
  · exact good168
  · exact good174
  · exact good178
  · exact good186
  · exact good187
  · exact good191
  · exact good193
  · exact good197
  · exact good200)
def cv0 : Cv (List (U (ElOf els))) Int := (cIso (cCons (uOne (cInt .i64)) cNil) (fun p => p.1) (fun s => (s, ())) (fun _ => rfl))
def cv1 : Cv (List (U (ElOf els))) ByteArray := (cIso (cCons (uOne cStr) cNil) (fun p => p.1) (fun s => (s, ())) (fun _ => rfl))
def cv2 : Cv (List (U (ElOf els))) (Int × Int × Int) := (cIso (cCons (uOne (cInt .i64)) (cCons (uOne (cInt .i64)) (cCons (uOne (cInt .i64)) cNil))) (fun p => (p.1, p.2.1, p.2.2.1)) (fun s => (s.1, s.2.1, s.2.2, ())) (fun _ => rfl))
def cv3 : Cv (List (U (ElOf els))) Bool := (cIso (cCons (uOne cBool) cNil) (fun p => p.1) (fun s => (s, ())) (fun _ => rfl))
def cv4 : Cv (List (U (ElOf els))) Unit := cNil
def cv5 : Cv (List (U (ElOf els))) (List Int) := (cIso (cCons (uOne (cFsl 138)) cNil) (fun p => p.1) (fun s => (s, ())) (fun _ => rfl))
def cv6 : Cv (List (U (ElOf els))) (List Int) := (cIso (cCons (uOne (cRsl 138)) cNil) (fun p => p.1) (fun s => (s, ())) (fun _ => rfl))
def cSHasher : Cv (List (L (ElOf els))) SHasher := cIso (cCons cStr (cCons cStr (cCons (cInt .i64) cNil))) (fun p => ⟨p.1, p.2.1, p.2.2.1⟩) (fun s => (s.fState, s.fRest, s.fCount, ())) (fun _ => rfl)
def cv7 : Cv (List (U (ElOf els))) SHasher := (cIso (cCons (uAgg cSHasher) cNil) (fun p => p.1) (fun s => (s, ())) (fun _ => rfl))
def cv8 : Cv (List (U (ElOf els))) (ByteArray × Int) := (cIso (cCons (uOne cStr) (cCons (uOne (cInt .i64)) cNil)) (fun p => (p.1, p.2.1)) (fun s => (s.1, s.2, ())) (fun _ => rfl))
def cv9 : Cv (List (U (ElOf els))) Int := (cIso (cCons (uOne (cInt .u32)) cNil) (fun p => p.1) (fun s => (s, ())) (fun _ => rfl))
def cv10 : Cv (List (U (ElOf els))) (Int × Int × Int) := (cIso (cCons (uOne (cInt .u32)) (cCons (uOne (cInt .u32)) (cCons (uOne (cInt .u32)) cNil))) (fun p => (p.1, p.2.1, p.2.2.1)) (fun s => (s.1, s.2.1, s.2.2, ())) (fun _ => rfl))
def cv11 : Cv (List (U (ElOf els))) (Int × Int × Int × Int × Bool) := (cIso (cCons (uOne (cInt .u32)) (cCons (uOne (cInt .u32)) (cCons (uOne (cInt .u32)) (cCons (uOne (cInt .u32)) (cCons (uOne cBool) cNil))))) (fun p => (p.1, p.2.1, p.2.2.1, p.2.2.2.1, p.2.2.2.2.1)) (fun s => (s.1, s.2.1, s.2.2.1, s.2.2.2.1, s.2.2.2.2, ())) (fun _ => rfl))
def cv12 : Cv (List (U (ElOf els))) ((List Int) × (List Int) × ByteArray) := (cIso (cCons (uOne (cRsl 138)) (cCons (uOne (cRsl 138)) (cCons (uOne cStr) cNil))) (fun p => (p.1, p.2.1, p.2.2.1)) (fun s => (s.1, s.2.1, s.2.2, ())) (fun _ => rfl))
def cv13 : Cv (List (U (ElOf els))) (SHasher × ByteArray) := (cIso (cCons (uAgg cSHasher) (cCons (uOne cStr) cNil)) (fun p => (p.1, p.2.1)) (fun s => (s.1, s.2, ())) (fun _ => rfl))
def cv14 : Cv (List (U (ElOf els))) (ByteArray × Int) := (cIso (cCons (uOne cStr) (cCons (uOne (cInt .u8)) cNil)) (fun p => (p.1, p.2.1)) (fun s => (s.1, s.2, ())) (fun _ => rfl))
def cv15 : Cv (List (U (ElOf els))) (ByteArray × ByteArray) := (cIso (cCons (uOne cStr) (cCons (uOne cStr) cNil)) (fun p => (p.1, p.2.1)) (fun s => (s.1, s.2, ())) (fun _ => rfl))
def cv16 : Cv (List (U (ElOf els))) (ByteArray × Int × Int) := (cIso (cCons (uOne cStr) (cCons (uOne (cInt .i64)) (cCons (uOne (cInt .i64)) cNil))) (fun p => (p.1, p.2.1, p.2.2.1)) (fun s => (s.1, s.2.1, s.2.2, ())) (fun _ => rfl))
def cv17 : Cv (List (U (ElOf els))) (ByteArray × Bool) := (cIso (cCons (uOne cStr) (cCons (uOne cBool) cNil)) (fun p => (p.1, p.2.1)) (fun s => (s.1, s.2, ())) (fun _ => rfl))
def cv18 : Cv (List (U (ElOf els))) (ByteArray × Int × ByteArray) := (cIso (cCons (uOne cStr) (cCons (uOne (cInt .i64)) (cCons (uOne cStr) cNil))) (fun p => (p.1, p.2.1, p.2.2.1)) (fun s => (s.1, s.2.1, s.2.2, ())) (fun _ => rfl))
def cv19 : Cv (List (U (ElOf els))) (List Int) := (cIso (cCons (uArr 138) cNil) (fun p => p.1) (fun s => (s, ())) (fun _ => rfl))
def cv20 : Cv (List (U (ElOf els))) (Int × Int) := (cIso (cCons (uOne (cInt .u32)) (cCons (uOne (cInt .i64)) cNil)) (fun p => (p.1, p.2.1)) (fun s => (s.1, s.2, ())) (fun _ => rfl))
def cv21 : Cv (List (U (ElOf els))) ((List Int) × ByteArray) := (cIso (cCons (uArr 138) (cCons (uOne cStr) cNil)) (fun p => (p.1, p.2.1)) (fun s => (s.1, s.2, ())) (fun _ => rfl))
def cv22 : Cv (List (U (ElOf els))) (Int × Int × Bool) := (cIso (cCons (uOne (cInt .i64)) (cCons (uOne (cInt .i64)) (cCons (uOne cBool) cNil))) (fun p => (p.1, p.2.1, p.2.2.1)) (fun s => (s.1, s.2.1, s.2.2, ())) (fun _ => rfl))
def cv23 : Cv (List (U (ElOf els))) (ByteArray × Int × Bool) := (cIso (cCons (uOne cStr) (cCons (uOne (cInt .i64)) (cCons (uOne cBool) cNil))) (fun p => (p.1, p.2.1, p.2.2.1)) (fun s => (s.1, s.2.1, s.2.2, ())) (fun _ => rfl))
def cSThing : Cv (List (L (ElOf els))) SThing := cIso (cCons (cInt .i64) (cCons (cInt .i64) (cCons cBool (cCons cBool (cCons cBool (cCons cBool (cCons cStr (cCons (cInt .i64) cNil)))))))) (fun p => ⟨p.1, p.2.1, p.2.2.1, p.2.2.2.1, p.2.2.2.2.1, p.2.2.2.2.2.1, p.2.2.2.2.2.2.1, p.2.2.2.2.2.2.2.1⟩) (fun s => (s.fId, s.fKind, s.fHidden, s.fFixed, s.fSigns, s.fWraps, s.fValue, s.fNext, ())) (fun _ => rfl)
def cv24 : Cv (List (U (ElOf els))) (SThing × Int) := (cIso (cCons (uAgg cSThing) (cCons (uOne (cInt .i64)) cNil)) (fun p => (p.1, p.2.1)) (fun s => (s.1, s.2, ())) (fun _ => rfl))
def cSRec : Cv (List (L (ElOf els))) SRec := cIso (cCons (cInt .i64) (cCons cStr (cCons (cInt .i64) (cCons (cInt .i64) (cCons (cInt .i64) (cCons cBool (cCons cBool (cCons cBool (cCons cBool (cCons cStr (cCons (cInt .i64) cNil))))))))))) (fun p => ⟨p.1, p.2.1, p.2.2.1, ⟨p.2.2.2.1, p.2.2.2.2.1, p.2.2.2.2.2.1, p.2.2.2.2.2.2.1, p.2.2.2.2.2.2.2.1, p.2.2.2.2.2.2.2.2.1, p.2.2.2.2.2.2.2.2.2.1, p.2.2.2.2.2.2.2.2.2.2.1⟩⟩) (fun s => (s.fKind, s.fText, s.fNum, s.fThing.fId, s.fThing.fKind, s.fThing.fHidden, s.fThing.fFixed, s.fThing.fSigns, s.fThing.fWraps, s.fThing.fValue, s.fThing.fNext, ())) (fun _ => rfl)
def cv25 : Cv (List (U (ElOf els))) (SRec × Int) := (cIso (cCons (uAgg cSRec) (cCons (uOne (cInt .i64)) cNil)) (fun p => (p.1, p.2.1)) (fun s => (s.1, s.2, ())) (fun _ => rfl))
def cv26 : Cv (List (U (ElOf els))) SThing := (cIso (cCons (uAgg cSThing) cNil) (fun p => p.1) (fun s => (s, ())) (fun _ => rfl))
def cv27 : Cv (List (U (ElOf els))) SRec := (cIso (cCons (uAgg cSRec) cNil) (fun p => p.1) (fun s => (s, ())) (fun _ => rfl))
def cv28 : Cv (List (U (ElOf els))) (Bool × Int) := (cIso (cCons (uOne cBool) (cCons (uOne (cInt .i64)) cNil)) (fun p => (p.1, p.2.1)) (fun s => (s.1, s.2, ())) (fun _ => rfl))
def cv29 : Cv (List (U (ElOf els))) (Int × ByteArray) := (cIso (cCons (uOne (cInt .u32)) (cCons (uOne cStr) cNil)) (fun p => (p.1, p.2.1)) (fun s => (s.1, s.2, ())) (fun _ => rfl))
def cv30 : Cv (List (U (ElOf els))) (ByteArray × Int × SRec) := (cIso (cCons (uOne cStr) (cCons (uOne (cInt .i64)) (cCons (uAgg cSRec) cNil))) (fun p => (p.1, p.2.1, p.2.2.1)) (fun s => (s.1, s.2.1, s.2.2, ())) (fun _ => rfl))
def cv31 : Cv (List (U (ElOf els))) ((List SAct) × Bool) := (cIso (cCons (uOne (cFsl 99)) (cCons (uOne cBool) cNil)) (fun p => (p.1, p.2.1)) (fun s => (s.1, s.2, ())) (fun _ => rfl))
def cSAct : Cv (List (L (ElOf els))) SAct := cIso (cCons (cInt .i64) (cCons cStr (cCons cStr (cCons cStr cNil)))) (fun p => ⟨p.1, p.2.1, p.2.2.1, p.2.2.2.1⟩) (fun s => (s.fKind, s.fName, s.fText, s.fTo, ())) (fun _ => rfl)
def cv32 : Cv (List (U (ElOf els))) (SAct × SAct) := (cIso (cCons (uAgg cSAct) (cCons (uAgg cSAct) cNil)) (fun p => (p.1, p.2.1)) (fun s => (s.1, s.2, ())) (fun _ => rfl))
def cv33 : Cv (List (U (ElOf els))) ((List SAct) × (List SAct)) := (cIso (cCons (uOne (cRsl 99)) (cCons (uOne (cRsl 99)) cNil)) (fun p => (p.1, p.2.1)) (fun s => (s.1, s.2, ())) (fun _ => rfl))
def cv34 : Cv (List (U (ElOf els))) ((List SAct) × Int) := (cIso (cCons (uOne (cFsl 99)) (cCons (uOne (cInt .i64)) cNil)) (fun p => (p.1, p.2.1)) (fun s => (s.1, s.2, ())) (fun _ => rfl))
def cv35 : Cv (List (U (ElOf els))) (Int × (List SAct)) := (cIso (cCons (uOne (cInt .i64)) (cCons (uAgg (cIso (cCons (cFsl 99) cNil) (fun p => p.1) (fun s => (s, ())) (fun _ => rfl))) cNil)) (fun p => (p.1, p.2.1)) (fun s => (s.1, s.2, ())) (fun _ => rfl))
def cv36 : Cv (List (U (ElOf els))) ((List SAct) × Int) := (cIso (cCons (uOne (cRsl 99)) (cCons (uOne (cInt .i64)) cNil)) (fun p => (p.1, p.2.1)) (fun s => (s.1, s.2, ())) (fun _ => rfl))
def cv37 : Cv (List (U (ElOf els))) ((List SRec) × Int) := (cIso (cCons (uOne (cRsl 28)) (cCons (uOne (cInt .i64)) cNil)) (fun p => (p.1, p.2.1)) (fun s => (s.1, s.2, ())) (fun _ => rfl))
def cv38 : Cv (List (U (ElOf els))) (List SRec) := (cIso (cCons (uOne (cRsl 28)) cNil) (fun p => p.1) (fun s => (s, ())) (fun _ => rfl))
def cv39 : Cv (List (U (ElOf els))) (List SRec) := (cIso (cCons (uOne (cFsl 35)) cNil) (fun p => p.1) (fun s => (s, ())) (fun _ => rfl))
def cv40 : Cv (List (U (ElOf els))) (Int × Int) := (cIso (cCons (uOne (cInt .i64)) (cCons (uOne (cInt .u8)) cNil)) (fun p => (p.1, p.2.1)) (fun s => (s.1, s.2, ())) (fun _ => rfl))
def cSBookF53 : Cv (List (L (ElOf els))) SBook := cIso (cCons cStr (cCons (cInt .i64) (cCons (cFsl 33) (cCons (cInt .i64) (cCons cStr (cCons (cInt .i64) cNil)))))) (fun p => ⟨p.1, p.2.1, p.2.2.1, p.2.2.2.1, p.2.2.2.2.1, p.2.2.2.2.2.1⟩) (fun s => (s.fWord, s.fTries, s.fThings, s.fLast, s.fChain, s.fCount, ())) (fun _ => rfl)
def cv41 : Cv (List (U (ElOf els))) SBook := (cIso (cCons (uAgg cSBookF53) cNil) (fun p => p.1) (fun s => (s, ())) (fun _ => rfl))
def cSBook53 : Cv (List (L (ElOf els))) SBook := cIso (cCons cStr (cCons (cInt .i64) (cCons (cRsl 33) (cCons (cInt .i64) (cCons cStr (cCons (cInt .i64) cNil)))))) (fun p => ⟨p.1, p.2.1, p.2.2.1, p.2.2.2.1, p.2.2.2.2.1, p.2.2.2.2.2.1⟩) (fun s => (s.fWord, s.fTries, s.fThings, s.fLast, s.fChain, s.fCount, ())) (fun _ => rfl)
def cv42 : Cv (List (U (ElOf els))) SBook := (cIso (cCons (uAgg cSBook53) cNil) (fun p => p.1) (fun s => (s, ())) (fun _ => rfl))
def cv43 : Cv (List (U (ElOf els))) (SBook × Int) := (cIso (cCons (uAgg cSBook53) (cCons (uOne (cInt .i64)) cNil)) (fun p => (p.1, p.2.1)) (fun s => (s.1, s.2, ())) (fun _ => rfl))
def cv44 : Cv (List (U (ElOf els))) (SThing × Bool) := (cIso (cCons (uAgg cSThing) (cCons (uOne cBool) cNil)) (fun p => (p.1, p.2.1)) (fun s => (s.1, s.2, ())) (fun _ => rfl))
def cv45 : Cv (List (U (ElOf els))) (SThing × SThing) := (cIso (cCons (uAgg cSThing) (cCons (uAgg cSThing) cNil)) (fun p => (p.1, p.2.1)) (fun s => (s.1, s.2, ())) (fun _ => rfl))
def cv46 : Cv (List (U (ElOf els))) ((List SThing) × SThing) := (cIso (cCons (uOne (cRsl 33)) (cCons (uAgg cSThing) cNil)) (fun p => (p.1, p.2.1)) (fun s => (s.1, s.2, ())) (fun _ => rfl))
def cv47 : Cv (List (U (ElOf els))) (List SThing) := (cIso (cCons (uOne (cFsl 33)) cNil) (fun p => p.1) (fun s => (s, ())) (fun _ => rfl))
def cv48 : Cv (List (U (ElOf els))) (SBook × SRec) := (cIso (cCons (uAgg cSBook53) (cCons (uAgg cSRec) cNil)) (fun p => (p.1, p.2.1)) (fun s => (s.1, s.2, ())) (fun _ => rfl))
def cv49 : Cv (List (U (ElOf els))) (SBook × Bool) := (cIso (cCons (uAgg cSBookF53) (cCons (uOne cBool) cNil)) (fun p => (p.1, p.2.1)) (fun s => (s.1, s.2, ())) (fun _ => rfl))
def cv50 : Cv (List (U (ElOf els))) (List SRec) := (cIso (cCons (uOne (cRsl 35)) cNil) (fun p => p.1) (fun s => (s, ())) (fun _ => rfl))
def cv51 : Cv (List (U (ElOf els))) (SBook × SThing) := (cIso (cCons (uAgg cSBookF53) (cCons (uAgg cSThing) cNil)) (fun p => (p.1, p.2.1)) (fun s => (s.1, s.2, ())) (fun _ => rfl))
def cv52 : Cv (List (U (ElOf els))) (Bool × SBook) := (cIso (cCons (uOne cBool) (cCons (uAgg cSBookF53) cNil)) (fun p => (p.1, p.2.1)) (fun s => (s.1, s.2, ())) (fun _ => rfl))
def cv53 : Cv (List (U (ElOf els))) (SRec × SRec) := (cIso (cCons (uAgg cSRec) (cCons (uAgg cSRec) cNil)) (fun p => (p.1, p.2.1)) (fun s => (s.1, s.2, ())) (fun _ => rfl))
def cv54 : Cv (List (U (ElOf els))) ((List SRec) × (List SRec)) := (cIso (cCons (uOne (cRsl 35)) (cCons (uOne (cRsl 35)) cNil)) (fun p => (p.1, p.2.1)) (fun s => (s.1, s.2, ())) (fun _ => rfl))
def cv55 : Cv (List (U (ElOf els))) ((List SThing) × Int) := (cIso (cCons (uOne (cRsl 26)) (cCons (uOne (cInt .i64)) cNil)) (fun p => (p.1, p.2.1)) (fun s => (s.1, s.2, ())) (fun _ => rfl))
def cSBook49 : Cv (List (L (ElOf els))) SBook := cIso (cCons cStr (cCons (cInt .i64) (cCons (cRsl 26) (cCons (cInt .i64) (cCons cStr (cCons (cInt .i64) cNil)))))) (fun p => ⟨p.1, p.2.1, p.2.2.1, p.2.2.2.1, p.2.2.2.2.1, p.2.2.2.2.2.1⟩) (fun s => (s.fWord, s.fTries, s.fThings, s.fLast, s.fChain, s.fCount, ())) (fun _ => rfl)
def cv56 : Cv (List (U (ElOf els))) (SBook × Int) := (cIso (cCons (uAgg cSBook49) (cCons (uOne (cInt .i64)) cNil)) (fun p => (p.1, p.2.1)) (fun s => (s.1, s.2, ())) (fun _ => rfl))
def cv57 : Cv (List (U (ElOf els))) (List SThing) := (cIso (cCons (uOne (cRsl 26)) cNil) (fun p => p.1) (fun s => (s, ())) (fun _ => rfl))
def cv58 : Cv (List (U (ElOf els))) SBook := (cIso (cCons (uAgg cSBook49) cNil) (fun p => p.1) (fun s => (s, ())) (fun _ => rfl))
def cv59 : Cv (List (U (ElOf els))) ((List SThing) × (List SThing)) := (cIso (cCons (uOne (cRsl 33)) (cCons (uOne (cRsl 33)) cNil)) (fun p => (p.1, p.2.1)) (fun s => (s.1, s.2, ())) (fun _ => rfl))
def cv60 : Cv (List (U (ElOf els))) (SBook × SBook) := (cIso (cCons (uAgg cSBook53) (cCons (uAgg cSBook53) cNil)) (fun p => (p.1, p.2.1)) (fun s => (s.1, s.2, ())) (fun _ => rfl))
def cv61 : Cv (List (U (ElOf els))) ((List SThing) × Int) := (cIso (cCons (uOne (cFsl 33)) (cCons (uOne (cInt .i64)) cNil)) (fun p => (p.1, p.2.1)) (fun s => (s.1, s.2, ())) (fun _ => rfl))
def cv62 : Cv (List (U (ElOf els))) (Int × (List SThing)) := (cIso (cCons (uOne (cInt .i64)) (cCons (uAgg (cIso (cCons (cFsl 33) cNil) (fun p => p.1) (fun s => (s, ())) (fun _ => rfl))) cNil)) (fun p => (p.1, p.2.1)) (fun s => (s.1, s.2, ())) (fun _ => rfl))
def cv63 : Cv (List (U (ElOf els))) (SBook × Int) := (cIso (cCons (uAgg cSBookF53) (cCons (uOne (cInt .i64)) cNil)) (fun p => (p.1, p.2.1)) (fun s => (s.1, s.2, ())) (fun _ => rfl))
def cv64 : Cv (List (U (ElOf els))) (Int × (List SThing)) := (cIso (cCons (uOne (cInt .i64)) (cCons (uAgg (cIso (cCons cJunk (cCons cJunk (cCons (cFsl 33) (cCons cJunk (cCons cJunk (cCons cJunk cNil)))))) (fun p => p.2.2.1) (fun s => ((), (), s, (), (), (), ())) (fun _ => rfl))) cNil)) (fun p => (p.1, p.2.1)) (fun s => (s.1, s.2, ())) (fun _ => rfl))
def cv65 : Cv (List (U (ElOf els))) ((List SThing) × Int) := (cIso (cCons (uOne (cRsl 33)) (cCons (uOne (cInt .i64)) cNil)) (fun p => (p.1, p.2.1)) (fun s => (s.1, s.2, ())) (fun _ => rfl))
def cv66 : Cv (List (U (ElOf els))) (SBook × SRec) := (cIso (cCons (uAgg cSBook49) (cCons (uAgg cSRec) cNil)) (fun p => (p.1, p.2.1)) (fun s => (s.1, s.2, ())) (fun _ => rfl))
def cv67 : Cv (List (U (ElOf els))) (SBook × (List SRec)) := (cIso (cCons (uAgg cSBook53) (cCons (uOne (cRsl 35)) cNil)) (fun p => (p.1, p.2.1)) (fun s => (s.1, s.2, ())) (fun _ => rfl))
def cv68 : Cv (List (U (ElOf els))) (SBook × (List SRec)) := (cIso (cCons (uAgg cSBook49) (cCons (uOne (cRsl 28)) cNil)) (fun p => (p.1, p.2.1)) (fun s => (s.1, s.2, ())) (fun _ => rfl))
def cSFile : Cv (List (L (ElOf els))) SFile := cIso (cCons cStr (cCons cStr (cCons (cInt .i64) cNil))) (fun p => ⟨p.1, p.2.1, p.2.2.1⟩) (fun s => (s.fName, s.fText, s.fKept, ())) (fun _ => rfl)
def cv69 : Cv (List (U (ElOf els))) (SFile × Int) := (cIso (cCons (uAgg cSFile) (cCons (uOne (cInt .i64)) cNil)) (fun p => (p.1, p.2.1)) (fun s => (s.1, s.2, ())) (fun _ => rfl))
def cv70 : Cv (List (U (ElOf els))) ((List SFile) × Int) := (cIso (cCons (uOne (cRsl 186)) (cCons (uOne (cInt .i64)) cNil)) (fun p => (p.1, p.2.1)) (fun s => (s.1, s.2, ())) (fun _ => rfl))
def cSDisk64 : Cv (List (L (ElOf els))) SDisk := cIso (cCons (cRsl 186) cNil) (fun p => ⟨p.1⟩) (fun s => (s.fFiles, ())) (fun _ => rfl)
def cv71 : Cv (List (U (ElOf els))) (SDisk × Int) := (cIso (cCons (uAgg cSDisk64) (cCons (uOne (cInt .i64)) cNil)) (fun p => (p.1, p.2.1)) (fun s => (s.1, s.2, ())) (fun _ => rfl))
def cv72 : Cv (List (U (ElOf els))) ((List SSession) × Int) := (cIso (cCons (uOne (cRsl 157)) (cCons (uOne (cInt .i64)) cNil)) (fun p => (p.1, p.2.1)) (fun s => (s.1, s.2, ())) (fun _ => rfl))
def cv73 : Cv (List (U (ElOf els))) ((List SLive) × Int) := (cIso (cCons (uOne (cRsl 161)) (cCons (uOne (cInt .i64)) cNil)) (fun p => (p.1, p.2.1)) (fun s => (s.1, s.2, ())) (fun _ => rfl))
def cSBox68 : Cv (List (L (ElOf els))) SBox := cIso (cCons cStr (cCons cBool (cCons (cRsl 186) (cCons cStr (cCons (cInt .i64) (cCons (cRsl 26) (cCons (cInt .i64) (cCons cStr (cCons (cInt .i64) (cCons (cRsl 157) (cCons (cRsl 161) (cCons (cInt .i64) cNil)))))))))))) (fun p => ⟨p.1, p.2.1, ⟨p.2.2.1⟩, ⟨p.2.2.2.1, p.2.2.2.2.1, p.2.2.2.2.2.1, p.2.2.2.2.2.2.1, p.2.2.2.2.2.2.2.1, p.2.2.2.2.2.2.2.2.1⟩, p.2.2.2.2.2.2.2.2.2.1, p.2.2.2.2.2.2.2.2.2.2.1, p.2.2.2.2.2.2.2.2.2.2.2.1⟩) (fun s => (s.fKey, s.fUp, s.fDisk.fFiles, s.fBook.fWord, s.fBook.fTries, s.fBook.fThings, s.fBook.fLast, s.fBook.fChain, s.fBook.fCount, s.fSessions, s.fLives, s.fOpened, ())) (fun _ => rfl)
def cv74 : Cv (List (U (ElOf els))) (SBox × Int) := (cIso (cCons (uAgg cSBox68) (cCons (uOne (cInt .i64)) cNil)) (fun p => (p.1, p.2.1)) (fun s => (s.1, s.2, ())) (fun _ => rfl))
def cv75 : Cv (List (U (ElOf els))) SFile := (cIso (cCons (uAgg cSFile) cNil) (fun p => p.1) (fun s => (s, ())) (fun _ => rfl))
def cv76 : Cv (List (U (ElOf els))) (List SFile) := (cIso (cCons (uOne (cRsl 186)) cNil) (fun p => p.1) (fun s => (s, ())) (fun _ => rfl))
def cv77 : Cv (List (U (ElOf els))) (List SFile) := (cIso (cCons (uOne (cFsl 187)) cNil) (fun p => p.1) (fun s => (s, ())) (fun _ => rfl))
def cSDiskF72 : Cv (List (L (ElOf els))) SDisk := cIso (cCons (cFsl 187) cNil) (fun p => ⟨p.1⟩) (fun s => (s.fFiles, ())) (fun _ => rfl)
def cv78 : Cv (List (U (ElOf els))) SDisk := (cIso (cCons (uAgg cSDisk64) cNil) (fun p => p.1) (fun s => (s, ())) (fun _ => rfl))
def cv79 : Cv (List (U (ElOf els))) SDisk := (cIso (cCons (uAgg cSDiskF72) cNil) (fun p => p.1) (fun s => (s, ())) (fun _ => rfl))
def cSSession : Cv (List (L (ElOf els))) SSession := cIso (cCons (cInt .i64) (cCons cBool cNil)) (fun p => ⟨p.1, p.2.1⟩) (fun s => (s.fId, s.fIn, ())) (fun _ => rfl)
def cv80 : Cv (List (U (ElOf els))) SSession := (cIso (cCons (uAgg cSSession) cNil) (fun p => p.1) (fun s => (s, ())) (fun _ => rfl))
def cv81 : Cv (List (U (ElOf els))) (List SSession) := (cIso (cCons (uOne (cRsl 157)) cNil) (fun p => p.1) (fun s => (s, ())) (fun _ => rfl))
def cv82 : Cv (List (U (ElOf els))) (List SSession) := (cIso (cCons (uOne (cFsl 155)) cNil) (fun p => p.1) (fun s => (s, ())) (fun _ => rfl))
def cSLive : Cv (List (L (ElOf els))) SLive := cIso (cCons (cInt .i64) (cCons (cInt .i64) cNil)) (fun p => ⟨p.1, p.2.1⟩) (fun s => (s.fId, s.fNext, ())) (fun _ => rfl)
def cv83 : Cv (List (U (ElOf els))) SLive := (cIso (cCons (uAgg cSLive) cNil) (fun p => p.1) (fun s => (s, ())) (fun _ => rfl))
def cv84 : Cv (List (U (ElOf els))) (List SLive) := (cIso (cCons (uOne (cRsl 161)) cNil) (fun p => p.1) (fun s => (s, ())) (fun _ => rfl))
def cv85 : Cv (List (U (ElOf els))) (List SLive) := (cIso (cCons (uOne (cFsl 159)) cNil) (fun p => p.1) (fun s => (s, ())) (fun _ => rfl))
def cSBoxF76 : Cv (List (L (ElOf els))) SBox := cIso (cCons cStr (cCons cBool (cCons (cFsl 187) (cCons cStr (cCons (cInt .i64) (cCons (cFsl 33) (cCons (cInt .i64) (cCons cStr (cCons (cInt .i64) (cCons (cFsl 155) (cCons (cFsl 159) (cCons (cInt .i64) cNil)))))))))))) (fun p => ⟨p.1, p.2.1, ⟨p.2.2.1⟩, ⟨p.2.2.2.1, p.2.2.2.2.1, p.2.2.2.2.2.1, p.2.2.2.2.2.2.1, p.2.2.2.2.2.2.2.1, p.2.2.2.2.2.2.2.2.1⟩, p.2.2.2.2.2.2.2.2.2.1, p.2.2.2.2.2.2.2.2.2.2.1, p.2.2.2.2.2.2.2.2.2.2.2.1⟩) (fun s => (s.fKey, s.fUp, s.fDisk.fFiles, s.fBook.fWord, s.fBook.fTries, s.fBook.fThings, s.fBook.fLast, s.fBook.fChain, s.fBook.fCount, s.fSessions, s.fLives, s.fOpened, ())) (fun _ => rfl)
def cv86 : Cv (List (U (ElOf els))) SBox := (cIso (cCons (uAgg cSBox68) cNil) (fun p => p.1) (fun s => (s, ())) (fun _ => rfl))
def cv87 : Cv (List (U (ElOf els))) SBox := (cIso (cCons (uAgg cSBoxF76) cNil) (fun p => p.1) (fun s => (s, ())) (fun _ => rfl))
def cSBox76 : Cv (List (L (ElOf els))) SBox := cIso (cCons cStr (cCons cBool (cCons (cRsl 187) (cCons cStr (cCons (cInt .i64) (cCons (cRsl 33) (cCons (cInt .i64) (cCons cStr (cCons (cInt .i64) (cCons (cRsl 155) (cCons (cRsl 159) (cCons (cInt .i64) cNil)))))))))))) (fun p => ⟨p.1, p.2.1, ⟨p.2.2.1⟩, ⟨p.2.2.2.1, p.2.2.2.2.1, p.2.2.2.2.2.1, p.2.2.2.2.2.2.1, p.2.2.2.2.2.2.2.1, p.2.2.2.2.2.2.2.2.1⟩, p.2.2.2.2.2.2.2.2.2.1, p.2.2.2.2.2.2.2.2.2.2.1, p.2.2.2.2.2.2.2.2.2.2.2.1⟩) (fun s => (s.fKey, s.fUp, s.fDisk.fFiles, s.fBook.fWord, s.fBook.fTries, s.fBook.fThings, s.fBook.fLast, s.fBook.fChain, s.fBook.fCount, s.fSessions, s.fLives, s.fOpened, ())) (fun _ => rfl)
def cv88 : Cv (List (U (ElOf els))) SBox := (cIso (cCons (uAgg cSBox76) cNil) (fun p => p.1) (fun s => (s, ())) (fun _ => rfl))
def cSDisk72 : Cv (List (L (ElOf els))) SDisk := cIso (cCons (cRsl 187) cNil) (fun p => ⟨p.1⟩) (fun s => (s.fFiles, ())) (fun _ => rfl)
def cv89 : Cv (List (U (ElOf els))) SDisk := (cIso (cCons (uAgg cSDisk72) cNil) (fun p => p.1) (fun s => (s, ())) (fun _ => rfl))
def cv90 : Cv (List (U (ElOf els))) (SFile × SFile) := (cIso (cCons (uAgg cSFile) (cCons (uAgg cSFile) cNil)) (fun p => (p.1, p.2.1)) (fun s => (s.1, s.2, ())) (fun _ => rfl))
def cv91 : Cv (List (U (ElOf els))) ((List SFile) × (List SFile)) := (cIso (cCons (uOne (cRsl 187)) (cCons (uOne (cRsl 187)) cNil)) (fun p => (p.1, p.2.1)) (fun s => (s.1, s.2, ())) (fun _ => rfl))
def cv92 : Cv (List (U (ElOf els))) (SDisk × SDisk) := (cIso (cCons (uAgg cSDisk72) (cCons (uAgg cSDisk72) cNil)) (fun p => (p.1, p.2.1)) (fun s => (s.1, s.2, ())) (fun _ => rfl))
def cv93 : Cv (List (U (ElOf els))) (SSession × SSession) := (cIso (cCons (uAgg cSSession) (cCons (uAgg cSSession) cNil)) (fun p => (p.1, p.2.1)) (fun s => (s.1, s.2, ())) (fun _ => rfl))
def cv94 : Cv (List (U (ElOf els))) ((List SSession) × (List SSession)) := (cIso (cCons (uOne (cRsl 155)) (cCons (uOne (cRsl 155)) cNil)) (fun p => (p.1, p.2.1)) (fun s => (s.1, s.2, ())) (fun _ => rfl))
def cv95 : Cv (List (U (ElOf els))) (SLive × SLive) := (cIso (cCons (uAgg cSLive) (cCons (uAgg cSLive) cNil)) (fun p => (p.1, p.2.1)) (fun s => (s.1, s.2, ())) (fun _ => rfl))
def cv96 : Cv (List (U (ElOf els))) ((List SLive) × (List SLive)) := (cIso (cCons (uOne (cRsl 159)) (cCons (uOne (cRsl 159)) cNil)) (fun p => (p.1, p.2.1)) (fun s => (s.1, s.2, ())) (fun _ => rfl))
def cv97 : Cv (List (U (ElOf els))) (SBox × SBox) := (cIso (cCons (uAgg cSBox76) (cCons (uAgg cSBox76) cNil)) (fun p => (p.1, p.2.1)) (fun s => (s.1, s.2, ())) (fun _ => rfl))
def cv98 : Cv (List (U (ElOf els))) ((List SFile) × Int) := (cIso (cCons (uOne (cFsl 187)) (cCons (uOne (cInt .i64)) cNil)) (fun p => (p.1, p.2.1)) (fun s => (s.1, s.2, ())) (fun _ => rfl))
def cv99 : Cv (List (U (ElOf els))) (Int × (List SFile)) := (cIso (cCons (uOne (cInt .i64)) (cCons (uAgg (cIso (cCons (cFsl 187) cNil) (fun p => p.1) (fun s => (s, ())) (fun _ => rfl))) cNil)) (fun p => (p.1, p.2.1)) (fun s => (s.1, s.2, ())) (fun _ => rfl))
def cv100 : Cv (List (U (ElOf els))) (SDisk × Int) := (cIso (cCons (uAgg cSDiskF72) (cCons (uOne (cInt .i64)) cNil)) (fun p => (p.1, p.2.1)) (fun s => (s.1, s.2, ())) (fun _ => rfl))
def cv101 : Cv (List (U (ElOf els))) ((List SSession) × Int) := (cIso (cCons (uOne (cFsl 155)) (cCons (uOne (cInt .i64)) cNil)) (fun p => (p.1, p.2.1)) (fun s => (s.1, s.2, ())) (fun _ => rfl))
def cv102 : Cv (List (U (ElOf els))) (Int × (List SSession)) := (cIso (cCons (uOne (cInt .i64)) (cCons (uAgg (cIso (cCons (cFsl 155) cNil) (fun p => p.1) (fun s => (s, ())) (fun _ => rfl))) cNil)) (fun p => (p.1, p.2.1)) (fun s => (s.1, s.2, ())) (fun _ => rfl))
def cv103 : Cv (List (U (ElOf els))) ((List SLive) × Int) := (cIso (cCons (uOne (cFsl 159)) (cCons (uOne (cInt .i64)) cNil)) (fun p => (p.1, p.2.1)) (fun s => (s.1, s.2, ())) (fun _ => rfl))
def cv104 : Cv (List (U (ElOf els))) (Int × (List SLive)) := (cIso (cCons (uOne (cInt .i64)) (cCons (uAgg (cIso (cCons (cFsl 159) cNil) (fun p => p.1) (fun s => (s, ())) (fun _ => rfl))) cNil)) (fun p => (p.1, p.2.1)) (fun s => (s.1, s.2, ())) (fun _ => rfl))
def cv105 : Cv (List (U (ElOf els))) (SBox × Int) := (cIso (cCons (uAgg cSBoxF76) (cCons (uOne (cInt .i64)) cNil)) (fun p => (p.1, p.2.1)) (fun s => (s.1, s.2, ())) (fun _ => rfl))
def cv106 : Cv (List (U (ElOf els))) (Int × ((List SFile) × (List SThing) × (List SSession) × (List SLive))) := (cIso (cCons (uOne (cInt .i64)) (cCons (uAgg (cIso (cCons cJunk (cCons cJunk (cCons (cFsl 187) (cCons cJunk (cCons cJunk (cCons (cFsl 33) (cCons cJunk (cCons cJunk (cCons cJunk (cCons (cFsl 155) (cCons (cFsl 159) (cCons cJunk cNil)))))))))))) (fun p => (p.2.2.1, p.2.2.2.2.2.1, p.2.2.2.2.2.2.2.2.2.1, p.2.2.2.2.2.2.2.2.2.2.1)) (fun s => ((), (), s.1, (), (), s.2.1, (), (), (), s.2.2.1, s.2.2.2, (), ())) (fun _ => rfl))) cNil)) (fun p => (p.1, p.2.1)) (fun s => (s.1, s.2, ())) (fun _ => rfl))
def cv107 : Cv (List (U (ElOf els))) ((List SFile) × Int) := (cIso (cCons (uOne (cRsl 187)) (cCons (uOne (cInt .i64)) cNil)) (fun p => (p.1, p.2.1)) (fun s => (s.1, s.2, ())) (fun _ => rfl))
def cv108 : Cv (List (U (ElOf els))) (SDisk × Int) := (cIso (cCons (uAgg cSDisk72) (cCons (uOne (cInt .i64)) cNil)) (fun p => (p.1, p.2.1)) (fun s => (s.1, s.2, ())) (fun _ => rfl))
def cv109 : Cv (List (U (ElOf els))) ((List SSession) × Int) := (cIso (cCons (uOne (cRsl 155)) (cCons (uOne (cInt .i64)) cNil)) (fun p => (p.1, p.2.1)) (fun s => (s.1, s.2, ())) (fun _ => rfl))
def cv110 : Cv (List (U (ElOf els))) ((List SLive) × Int) := (cIso (cCons (uOne (cRsl 159)) (cCons (uOne (cInt .i64)) cNil)) (fun p => (p.1, p.2.1)) (fun s => (s.1, s.2, ())) (fun _ => rfl))
def cv111 : Cv (List (U (ElOf els))) (SBox × Int) := (cIso (cCons (uAgg cSBox76) (cCons (uOne (cInt .i64)) cNil)) (fun p => (p.1, p.2.1)) (fun s => (s.1, s.2, ())) (fun _ => rfl))
def cv112 : Cv (List (U (ElOf els))) ((List SRec) × Int) := (cIso (cCons (uOne (cFsl 35)) (cCons (uOne (cInt .i64)) cNil)) (fun p => (p.1, p.2.1)) (fun s => (s.1, s.2, ())) (fun _ => rfl))
def cv113 : Cv (List (U (ElOf els))) (Int × (List SRec)) := (cIso (cCons (uOne (cInt .i64)) (cCons (uAgg (cIso (cCons (cFsl 35) cNil) (fun p => p.1) (fun s => (s, ())) (fun _ => rfl))) cNil)) (fun p => (p.1, p.2.1)) (fun s => (s.1, s.2, ())) (fun _ => rfl))
def cv114 : Cv (List (U (ElOf els))) ((List ByteArray) × Int) := (cIso (cCons (uOne (cFsl 9)) (cCons (uOne (cInt .i64)) cNil)) (fun p => (p.1, p.2.1)) (fun s => (s.1, s.2, ())) (fun _ => rfl))
def cSL19Cur : Cv (List (L (ElOf els))) SL19Cur := cIso (cCons cStr (cCons (cInt .i64) (cCons cBool cNil))) (fun p => ⟨p.1, p.2.1, p.2.2.1⟩) (fun s => (s.fText, s.fAt, s.fBad, ())) (fun _ => rfl)
def cv115 : Cv (List (U (ElOf els))) (SL19Cur × Int) := (cIso (cCons (uAgg cSL19Cur) (cCons (uOne (cInt .i64)) cNil)) (fun p => (p.1, p.2.1)) (fun s => (s.1, s.2, ())) (fun _ => rfl))
def cv116 : Cv (List (U (ElOf els))) (ByteArray × SL19Cur) := (cIso (cCons (uOne cStr) (cCons (uAgg cSL19Cur) cNil)) (fun p => (p.1, p.2.1)) (fun s => (s.1, s.2, ())) (fun _ => rfl))
def cv117 : Cv (List (U (ElOf els))) SL19Cur := (cIso (cCons (uAgg cSL19Cur) cNil) (fun p => p.1) (fun s => (s, ())) (fun _ => rfl))
def cv118 : Cv (List (U (ElOf els))) (Int × SL19Cur) := (cIso (cCons (uOne (cInt .i64)) (cCons (uAgg cSL19Cur) cNil)) (fun p => (p.1, p.2.1)) (fun s => (s.1, s.2, ())) (fun _ => rfl))
def cv119 : Cv (List (U (ElOf els))) (SRec × Bool) := (cIso (cCons (uAgg cSRec) (cCons (uOne cBool) cNil)) (fun p => (p.1, p.2.1)) (fun s => (s.1, s.2, ())) (fun _ => rfl))
def cSFields : Cv (List (L (ElOf els))) SFields := cIso (cCons cStr (cCons (cInt .i64) (cCons cBool cNil))) (fun p => ⟨p.1, p.2.1, p.2.2.1⟩) (fun s => (s.fText, s.fAt, s.fBad, ())) (fun _ => rfl)
def cv120 : Cv (List (U (ElOf els))) SFields := (cIso (cCons (uAgg cSFields) cNil) (fun p => p.1) (fun s => (s, ())) (fun _ => rfl))
def cv121 : Cv (List (U (ElOf els))) (Int × SFields) := (cIso (cCons (uOne (cInt .i64)) (cCons (uAgg cSFields) cNil)) (fun p => (p.1, p.2.1)) (fun s => (s.1, s.2, ())) (fun _ => rfl))
def cv122 : Cv (List (U (ElOf els))) (ByteArray × SFields) := (cIso (cCons (uOne cStr) (cCons (uAgg cSFields) cNil)) (fun p => (p.1, p.2.1)) (fun s => (s.1, s.2, ())) (fun _ => rfl))
def cv123 : Cv (List (U (ElOf els))) ((List SRec) × Int) := (cIso (cCons (uOne (cRsl 35)) (cCons (uOne (cInt .i64)) cNil)) (fun p => (p.1, p.2.1)) (fun s => (s.1, s.2, ())) (fun _ => rfl))
end Go.Proofs.YtldjkjjfoofccaaDoor.G
