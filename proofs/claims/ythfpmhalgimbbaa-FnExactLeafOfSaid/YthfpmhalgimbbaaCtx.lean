/- The seat's tables: its types, what an element of each is, and what its functions do with what they are given. -/
import Derived.Test.YthfpmhalgimbbaaSnd38
import Derived.Test.YthfpmhalgimbbaaProg
import Derived.KernelRfl
namespace Go.Proofs.Ythfpmhalgimbbaa.G
open Go Go.Ev
structure SFile where
  fName : ByteArray
  fText : ByteArray
  fKept : Int
structure SDisk where
  fFiles : (List SFile)
structure SThing where
  fId : Int
  fKind : Int
  fHidden : Bool
  fFixed : Bool
  fSigns : Bool
  fWraps : Bool
  fValue : ByteArray
  fNext : Int
structure SBook where
  fWord : ByteArray
  fTries : Int
  fThings : (List SThing)
  fLast : Int
  fChain : ByteArray
  fCount : Int
structure SSession where
  fId : Int
  fIn : Bool
structure SLive where
  fId : Int
  fNext : Int
structure SBox where
  fKey : ByteArray
  fUp : Bool
  fDisk : SDisk
  fBook : SBook
  fSessions : (List SSession)
  fLives : (List SLive)
  fOpened : Int
structure SCall where
  fOp : Int
  fSession : Int
  fThing : Int
  fKind : Int
  fText : ByteArray
  fHidden : Bool
  fFixed : Bool
def els : List (Nat × TyE) := [(3, ⟨Int, 0⟩), (4, ⟨Bool, false⟩), (5, ⟨Int, 0⟩), (9, ⟨ByteArray, ⟨#[]⟩⟩), (22, ⟨(List SFile), []⟩), (24, ⟨SDisk, ⟨[]⟩⟩), (25, ⟨(List SThing), []⟩), (27, ⟨SBook, ⟨⟨#[]⟩, 0, [], 0, ⟨#[]⟩, 0⟩⟩), (28, ⟨(List SSession), []⟩), (29, ⟨(List SLive), []⟩), (31, ⟨SBox, ⟨⟨#[]⟩, false, ⟨[]⟩, ⟨⟨#[]⟩, 0, [], 0, ⟨#[]⟩, 0⟩, [], [], 0⟩⟩), (34, ⟨(List SFile), []⟩), (36, ⟨SDisk, ⟨[]⟩⟩), (37, ⟨(List SThing), []⟩), (39, ⟨SBook, ⟨⟨#[]⟩, 0, [], 0, ⟨#[]⟩, 0⟩⟩), (40, ⟨(List SSession), []⟩), (41, ⟨(List SLive), []⟩), (43, ⟨SBox, ⟨⟨#[]⟩, false, ⟨[]⟩, ⟨⟨#[]⟩, 0, [], 0, ⟨#[]⟩, 0⟩, [], [], 0⟩⟩), (48, ⟨SCall, ⟨0, 0, 0, 0, ⟨#[]⟩, false, false⟩⟩), (51, ⟨SCall, ⟨0, 0, 0, 0, ⟨#[]⟩, false, false⟩⟩), (59, ⟨SThing, ⟨0, 0, false, false, false, false, ⟨#[]⟩, 0⟩⟩), (68, ⟨SLive, ⟨0, 0⟩⟩), (75, ⟨SSession, ⟨0, false⟩⟩), (87, ⟨SSession, ⟨0, false⟩⟩), (89, ⟨SLive, ⟨0, 0⟩⟩), (96, ⟨Bool, false⟩), (101, ⟨SFile, ⟨⟨#[]⟩, ⟨#[]⟩, 0⟩⟩), (103, ⟨SThing, ⟨0, 0, false, false, false, false, ⟨#[]⟩, 0⟩⟩), (104, ⟨SFile, ⟨⟨#[]⟩, ⟨#[]⟩, 0⟩⟩), (110, ⟨(List Int), []⟩)]
def tis : List (Nat × TI) := [(3, ⟨1, 8, .int .i64⟩), (4, ⟨1, 1, .bool⟩), (5, ⟨1, 1, .int .u8⟩), (9, ⟨1, 16, .str⟩), (22, ⟨1, 24, .sl 101⟩), (24, ⟨1, 24, .st [(22, 0)]⟩), (25, ⟨1, 24, .sl 103⟩), (27, ⟨6, 80, .st [(9, 0), (3, 1), (25, 2), (3, 3), (9, 4), (3, 5)]⟩), (28, ⟨1, 24, .sl 87⟩), (29, ⟨1, 24, .sl 89⟩), (31, ⟨12, 184, .st [(9, 0), (4, 1), (24, 2), (27, 3), (28, 9), (29, 10), (3, 11)]⟩), (34, ⟨1, 24, .sl 104⟩), (36, ⟨1, 24, .st [(34, 0)]⟩), (37, ⟨1, 24, .sl 59⟩), (39, ⟨6, 80, .st [(9, 0), (3, 1), (37, 2), (3, 3), (9, 4), (3, 5)]⟩), (40, ⟨1, 24, .sl 75⟩), (41, ⟨1, 24, .sl 68⟩), (43, ⟨12, 184, .st [(9, 0), (4, 1), (36, 2), (39, 3), (40, 9), (41, 10), (3, 11)]⟩), (48, ⟨7, 56, .st [(3, 0), (3, 1), (3, 2), (3, 3), (9, 4), (4, 5), (4, 6)]⟩), (51, ⟨7, 56, .st [(3, 0), (3, 1), (3, 2), (3, 3), (9, 4), (4, 5), (4, 6)]⟩), (59, ⟨8, 48, .st [(3, 0), (3, 1), (4, 2), (4, 3), (4, 4), (4, 5), (9, 6), (3, 7)]⟩), (68, ⟨2, 16, .st [(3, 0), (3, 1)]⟩), (75, ⟨2, 16, .st [(3, 0), (4, 1)]⟩), (87, ⟨2, 16, .st [(3, 0), (4, 1)]⟩), (89, ⟨2, 16, .st [(3, 0), (3, 1)]⟩), (96, ⟨1, 8, .ptr 43⟩), (101, ⟨3, 40, .st [(9, 0), (9, 1), (3, 2)]⟩), (103, ⟨8, 48, .st [(3, 0), (3, 1), (4, 2), (4, 3), (4, 4), (4, 5), (9, 6), (3, 7)]⟩), (104, ⟨3, 40, .st [(9, 0), (9, 1), (3, 2)]⟩), (110, ⟨1, 24, .sl 5⟩)]
def ent3 : Ent (ElOf els) := ⟨3, { sh := [.int .i64], enc := fun (x : Int) => [.int .i64 x], dec := fun cs => (cs.getD 0 .junk).toInt, z := (0 : Int), int? := some ⟨rfl⟩ }⟩
def ent4 : Ent (ElOf els) := ⟨4, { sh := [.bool], enc := fun (x : Bool) => [.bool x], dec := fun cs => (cs.getD 0 .junk).toBool, z := false, int? := none }⟩
def ent5 : Ent (ElOf els) := ⟨5, { sh := [.int .u8], enc := fun (x : Int) => [.int .u8 x], dec := fun cs => (cs.getD 0 .junk).toInt, z := (0 : Int), int? := some ⟨rfl⟩ }⟩
def ent9 : Ent (ElOf els) := ⟨9, { sh := [.str], enc := fun (x : ByteArray) => [.str x], dec := fun cs => (cs.getD 0 .junk).toStr, z := (⟨#[]⟩ : ByteArray), int? := none }⟩
def ent22 : Ent (ElOf els) := ⟨22, { sh := [.sl 101], enc := fun (x : (List SFile)) => [.rsl 101 x], dec := fun cs => (L.toSl 101 (cs.getD 0 .junk)), z := [], int? := none }⟩
def ent24 : Ent (ElOf els) := ⟨24, { sh := [.sl 101], enc := fun (x : SDisk) => [.rsl 101 x.fFiles], dec := fun cs => ⟨(L.toSl 101 (cs.getD 0 .junk))⟩, z := (⟨[]⟩ : SDisk), int? := none }⟩
def ent25 : Ent (ElOf els) := ⟨25, { sh := [.sl 103], enc := fun (x : (List SThing)) => [.rsl 103 x], dec := fun cs => (L.toSl 103 (cs.getD 0 .junk)), z := [], int? := none }⟩
def ent27 : Ent (ElOf els) := ⟨27, { sh := [.str, .int .i64, .sl 103, .int .i64, .str, .int .i64], enc := fun (x : SBook) => [.str x.fWord, .int .i64 x.fTries, .rsl 103 x.fThings, .int .i64 x.fLast, .str x.fChain, .int .i64 x.fCount], dec := fun cs => ⟨(cs.getD 0 .junk).toStr, (cs.getD 1 .junk).toInt, (L.toSl 103 (cs.getD 2 .junk)), (cs.getD 3 .junk).toInt, (cs.getD 4 .junk).toStr, (cs.getD 5 .junk).toInt⟩, z := (⟨⟨#[]⟩, 0, [], 0, ⟨#[]⟩, 0⟩ : SBook), int? := none }⟩
def ent28 : Ent (ElOf els) := ⟨28, { sh := [.sl 87], enc := fun (x : (List SSession)) => [.rsl 87 x], dec := fun cs => (L.toSl 87 (cs.getD 0 .junk)), z := [], int? := none }⟩
def ent29 : Ent (ElOf els) := ⟨29, { sh := [.sl 89], enc := fun (x : (List SLive)) => [.rsl 89 x], dec := fun cs => (L.toSl 89 (cs.getD 0 .junk)), z := [], int? := none }⟩
def ent31 : Ent (ElOf els) := ⟨31, { sh := [.str, .bool, .sl 101, .str, .int .i64, .sl 103, .int .i64, .str, .int .i64, .sl 87, .sl 89, .int .i64], enc := fun (x : SBox) => [.str x.fKey, .bool x.fUp, .rsl 101 x.fDisk.fFiles, .str x.fBook.fWord, .int .i64 x.fBook.fTries, .rsl 103 x.fBook.fThings, .int .i64 x.fBook.fLast, .str x.fBook.fChain, .int .i64 x.fBook.fCount, .rsl 87 x.fSessions, .rsl 89 x.fLives, .int .i64 x.fOpened], dec := fun cs => ⟨(cs.getD 0 .junk).toStr, (cs.getD 1 .junk).toBool, ⟨(L.toSl 101 (cs.getD 2 .junk))⟩, ⟨(cs.getD 3 .junk).toStr, (cs.getD 4 .junk).toInt, (L.toSl 103 (cs.getD 5 .junk)), (cs.getD 6 .junk).toInt, (cs.getD 7 .junk).toStr, (cs.getD 8 .junk).toInt⟩, (L.toSl 87 (cs.getD 9 .junk)), (L.toSl 89 (cs.getD 10 .junk)), (cs.getD 11 .junk).toInt⟩, z := (⟨⟨#[]⟩, false, ⟨[]⟩, ⟨⟨#[]⟩, 0, [], 0, ⟨#[]⟩, 0⟩, [], [], 0⟩ : SBox), int? := none }⟩
def ent34 : Ent (ElOf els) := ⟨34, { sh := [.sl 104], enc := fun (x : (List SFile)) => [.rsl 104 x], dec := fun cs => (L.toSl 104 (cs.getD 0 .junk)), z := [], int? := none }⟩
def ent36 : Ent (ElOf els) := ⟨36, { sh := [.sl 104], enc := fun (x : SDisk) => [.rsl 104 x.fFiles], dec := fun cs => ⟨(L.toSl 104 (cs.getD 0 .junk))⟩, z := (⟨[]⟩ : SDisk), int? := none }⟩
def ent37 : Ent (ElOf els) := ⟨37, { sh := [.sl 59], enc := fun (x : (List SThing)) => [.rsl 59 x], dec := fun cs => (L.toSl 59 (cs.getD 0 .junk)), z := [], int? := none }⟩
def ent39 : Ent (ElOf els) := ⟨39, { sh := [.str, .int .i64, .sl 59, .int .i64, .str, .int .i64], enc := fun (x : SBook) => [.str x.fWord, .int .i64 x.fTries, .rsl 59 x.fThings, .int .i64 x.fLast, .str x.fChain, .int .i64 x.fCount], dec := fun cs => ⟨(cs.getD 0 .junk).toStr, (cs.getD 1 .junk).toInt, (L.toSl 59 (cs.getD 2 .junk)), (cs.getD 3 .junk).toInt, (cs.getD 4 .junk).toStr, (cs.getD 5 .junk).toInt⟩, z := (⟨⟨#[]⟩, 0, [], 0, ⟨#[]⟩, 0⟩ : SBook), int? := none }⟩
def ent40 : Ent (ElOf els) := ⟨40, { sh := [.sl 75], enc := fun (x : (List SSession)) => [.rsl 75 x], dec := fun cs => (L.toSl 75 (cs.getD 0 .junk)), z := [], int? := none }⟩
def ent41 : Ent (ElOf els) := ⟨41, { sh := [.sl 68], enc := fun (x : (List SLive)) => [.rsl 68 x], dec := fun cs => (L.toSl 68 (cs.getD 0 .junk)), z := [], int? := none }⟩
def ent43 : Ent (ElOf els) := ⟨43, { sh := [.str, .bool, .sl 104, .str, .int .i64, .sl 59, .int .i64, .str, .int .i64, .sl 75, .sl 68, .int .i64], enc := fun (x : SBox) => [.str x.fKey, .bool x.fUp, .rsl 104 x.fDisk.fFiles, .str x.fBook.fWord, .int .i64 x.fBook.fTries, .rsl 59 x.fBook.fThings, .int .i64 x.fBook.fLast, .str x.fBook.fChain, .int .i64 x.fBook.fCount, .rsl 75 x.fSessions, .rsl 68 x.fLives, .int .i64 x.fOpened], dec := fun cs => ⟨(cs.getD 0 .junk).toStr, (cs.getD 1 .junk).toBool, ⟨(L.toSl 104 (cs.getD 2 .junk))⟩, ⟨(cs.getD 3 .junk).toStr, (cs.getD 4 .junk).toInt, (L.toSl 59 (cs.getD 5 .junk)), (cs.getD 6 .junk).toInt, (cs.getD 7 .junk).toStr, (cs.getD 8 .junk).toInt⟩, (L.toSl 75 (cs.getD 9 .junk)), (L.toSl 68 (cs.getD 10 .junk)), (cs.getD 11 .junk).toInt⟩, z := (⟨⟨#[]⟩, false, ⟨[]⟩, ⟨⟨#[]⟩, 0, [], 0, ⟨#[]⟩, 0⟩, [], [], 0⟩ : SBox), int? := none }⟩
def ent48 : Ent (ElOf els) := ⟨48, { sh := [.int .i64, .int .i64, .int .i64, .int .i64, .str, .bool, .bool], enc := fun (x : SCall) => [.int .i64 x.fOp, .int .i64 x.fSession, .int .i64 x.fThing, .int .i64 x.fKind, .str x.fText, .bool x.fHidden, .bool x.fFixed], dec := fun cs => ⟨(cs.getD 0 .junk).toInt, (cs.getD 1 .junk).toInt, (cs.getD 2 .junk).toInt, (cs.getD 3 .junk).toInt, (cs.getD 4 .junk).toStr, (cs.getD 5 .junk).toBool, (cs.getD 6 .junk).toBool⟩, z := (⟨0, 0, 0, 0, ⟨#[]⟩, false, false⟩ : SCall), int? := none }⟩
def ent51 : Ent (ElOf els) := ⟨51, { sh := [.int .i64, .int .i64, .int .i64, .int .i64, .str, .bool, .bool], enc := fun (x : SCall) => [.int .i64 x.fOp, .int .i64 x.fSession, .int .i64 x.fThing, .int .i64 x.fKind, .str x.fText, .bool x.fHidden, .bool x.fFixed], dec := fun cs => ⟨(cs.getD 0 .junk).toInt, (cs.getD 1 .junk).toInt, (cs.getD 2 .junk).toInt, (cs.getD 3 .junk).toInt, (cs.getD 4 .junk).toStr, (cs.getD 5 .junk).toBool, (cs.getD 6 .junk).toBool⟩, z := (⟨0, 0, 0, 0, ⟨#[]⟩, false, false⟩ : SCall), int? := none }⟩
def ent59 : Ent (ElOf els) := ⟨59, { sh := [.int .i64, .int .i64, .bool, .bool, .bool, .bool, .str, .int .i64], enc := fun (x : SThing) => [.int .i64 x.fId, .int .i64 x.fKind, .bool x.fHidden, .bool x.fFixed, .bool x.fSigns, .bool x.fWraps, .str x.fValue, .int .i64 x.fNext], dec := fun cs => ⟨(cs.getD 0 .junk).toInt, (cs.getD 1 .junk).toInt, (cs.getD 2 .junk).toBool, (cs.getD 3 .junk).toBool, (cs.getD 4 .junk).toBool, (cs.getD 5 .junk).toBool, (cs.getD 6 .junk).toStr, (cs.getD 7 .junk).toInt⟩, z := (⟨0, 0, false, false, false, false, ⟨#[]⟩, 0⟩ : SThing), int? := none }⟩
def ent68 : Ent (ElOf els) := ⟨68, { sh := [.int .i64, .int .i64], enc := fun (x : SLive) => [.int .i64 x.fId, .int .i64 x.fNext], dec := fun cs => ⟨(cs.getD 0 .junk).toInt, (cs.getD 1 .junk).toInt⟩, z := (⟨0, 0⟩ : SLive), int? := none }⟩
def ent75 : Ent (ElOf els) := ⟨75, { sh := [.int .i64, .bool], enc := fun (x : SSession) => [.int .i64 x.fId, .bool x.fIn], dec := fun cs => ⟨(cs.getD 0 .junk).toInt, (cs.getD 1 .junk).toBool⟩, z := (⟨0, false⟩ : SSession), int? := none }⟩
def ent87 : Ent (ElOf els) := ⟨87, { sh := [.int .i64, .bool], enc := fun (x : SSession) => [.int .i64 x.fId, .bool x.fIn], dec := fun cs => ⟨(cs.getD 0 .junk).toInt, (cs.getD 1 .junk).toBool⟩, z := (⟨0, false⟩ : SSession), int? := none }⟩
def ent89 : Ent (ElOf els) := ⟨89, { sh := [.int .i64, .int .i64], enc := fun (x : SLive) => [.int .i64 x.fId, .int .i64 x.fNext], dec := fun cs => ⟨(cs.getD 0 .junk).toInt, (cs.getD 1 .junk).toInt⟩, z := (⟨0, 0⟩ : SLive), int? := none }⟩
def ent96 : Ent (ElOf els) := ⟨96, { sh := [.bool], enc := fun (x : Bool) => [.bool x], dec := fun cs => (cs.getD 0 .junk).toBool, z := false, int? := none }⟩
def ent101 : Ent (ElOf els) := ⟨101, { sh := [.str, .str, .int .i64], enc := fun (x : SFile) => [.str x.fName, .str x.fText, .int .i64 x.fKept], dec := fun cs => ⟨(cs.getD 0 .junk).toStr, (cs.getD 1 .junk).toStr, (cs.getD 2 .junk).toInt⟩, z := (⟨⟨#[]⟩, ⟨#[]⟩, 0⟩ : SFile), int? := none }⟩
def ent103 : Ent (ElOf els) := ⟨103, { sh := [.int .i64, .int .i64, .bool, .bool, .bool, .bool, .str, .int .i64], enc := fun (x : SThing) => [.int .i64 x.fId, .int .i64 x.fKind, .bool x.fHidden, .bool x.fFixed, .bool x.fSigns, .bool x.fWraps, .str x.fValue, .int .i64 x.fNext], dec := fun cs => ⟨(cs.getD 0 .junk).toInt, (cs.getD 1 .junk).toInt, (cs.getD 2 .junk).toBool, (cs.getD 3 .junk).toBool, (cs.getD 4 .junk).toBool, (cs.getD 5 .junk).toBool, (cs.getD 6 .junk).toStr, (cs.getD 7 .junk).toInt⟩, z := (⟨0, 0, false, false, false, false, ⟨#[]⟩, 0⟩ : SThing), int? := none }⟩
def ent104 : Ent (ElOf els) := ⟨104, { sh := [.str, .str, .int .i64], enc := fun (x : SFile) => [.str x.fName, .str x.fText, .int .i64 x.fKept], dec := fun cs => ⟨(cs.getD 0 .junk).toStr, (cs.getD 1 .junk).toStr, (cs.getD 2 .junk).toInt⟩, z := (⟨⟨#[]⟩, ⟨#[]⟩, 0⟩ : SFile), int? := none }⟩
def ent110 : Ent (ElOf els) := ⟨110, { sh := [.sl 5], enc := fun (x : (List Int)) => [.rsl 5 x], dec := fun cs => (L.toSl 5 (cs.getD 0 .junk)), z := [], int? := none }⟩
def ents : List (Ent (ElOf els)) := [ent3, ent4, ent5, ent9, ent22, ent24, ent25, ent27, ent28, ent29, ent31, ent34, ent36, ent37, ent39, ent40, ent41, ent43, ent48, ent51, ent59, ent68, ent75, ent87, ent89, ent96, ent101, ent103, ent104, ent110]
def modes : List (Nat × List Mode') := [(59, [.io, .rd]), (37, [.io, .rd]), (60, [.io, .rd]), (38, [.io, .rd]), (39, [.io, .rd]), (40, [.io, .rd]), (14, [.io, .rd])]
def cuts : List (Nat × List (Nat × (List Nat × List Nat × List (Nat × Nat) × List (Nat × Nat × Nat)))) := [(45, [(5, ([0, 1, 5], [], [(0, 101)], []))]),
  (46, [(5, ([0, 1, 5], [], [(0, 103)], []))]),
  (47, [(3, ([0, 3, 4], [], [(0, 101), (3, 104)], []))]),
  (48, [(3, ([0, 3, 4], [], [(0, 103), (3, 59)], []))]),
  (24, [(3, ([0, 3, 4], [], [(0, 87), (3, 75)], []))]),
  (25, [(3, ([0, 3, 4], [], [(0, 89), (3, 68)], []))]),
  (20, [(2, ([1, 2, 4, 6], [128, 256], [], [(128, 2, 59)]))]),
  (21, [(2, ([2, 3, 5], [128, 192], [], [(128, 2, 104), (128, 5, 59), (128, 9, 75), (128, 10, 68)]))]),
  (51, [(2, ([1, 8, 9, 10], [], [(8, 59)], []))]),
  (27, [(2, ([1, 8, 9, 10], [], [(8, 68)], []))]),
  (52, [(4, ([0, 1, 5], [], [(0, 104), (1, 104)], []))]),
  (53, [(4, ([0, 1, 5], [], [(0, 59), (1, 59)], []))]),
  (30, [(4, ([0, 1, 5], [], [(0, 75), (1, 75)], []))]),
  (31, [(4, ([0, 1, 5], [], [(0, 68), (1, 68)], []))]),
  (33, [(3, ([0, 1, 2, 7, 8], [], [(0, 68), (7, 68)], [])), (10, ([0, 1, 7, 9], [], [(0, 68), (7, 68)], []))]),
  (11, [(11, ([4, 5, 8, 9, 10, 11], [256, 320, 512, 576], [(10, 75)], [(256, 2, 104), (256, 5, 59), (256, 9, 75), (256, 10, 68), (512, 2, 104), (512, 5, 59), (512, 9, 75), (512, 10, 68), (576, 2, 104), (576, 5, 59), (576, 9, 75), (576, 10, 68)])), (18, ([5, 8, 9, 12], [320, 512, 576], [], [(512, 2, 104), (512, 5, 59), (512, 9, 75), (512, 10, 68), (576, 2, 104), (576, 5, 59), (576, 9, 75), (576, 10, 68)]))]),
  (35, [(2, ([1, 8, 9, 10], [], [(8, 75)], []))]),
  (36, [(4, ([0, 1, 2, 7], [0], [], [(0, 2, 104), (0, 5, 59), (0, 9, 75), (0, 10, 68)]))]),
  (69, [(4, ([0, 3], [], [], []))]),
  (59, [(2, ([0, 1, 5], [1], [(0, 104)], []))]),
  (60, [(2, ([0, 1, 5], [1], [(0, 59)], [])), (6, ([0, 1, 5], [1], [(0, 59)], [])), (8, ([0, 1, 5], [1], [(0, 59)], [])), (10, ([0, 1, 5], [1], [(0, 59)], [])), (12, ([0, 1, 5], [1], [(0, 59)], [])), (14, ([0, 1, 5], [1], [(0, 59)], [])), (16, ([0, 1, 5], [1], [(0, 59)], [])), (18, ([0, 1, 5], [1], [(0, 59)], []))]),
  (39, [(2, ([0, 1, 5], [1], [(0, 75)], []))]),
  (40, [(2, ([0, 1, 5], [1], [(0, 68)], []))]),
  (61, [(2, ([0, 1, 5], [], [(0, 104)], []))]),
  (62, [(2, ([0, 1, 5], [], [(0, 59)], []))]),
  (43, [(2, ([0, 1, 5], [], [(0, 75)], []))]),
  (44, [(2, ([0, 1, 5], [], [(0, 68)], []))])]
def ctx : Ctx := mkCtx els tis ents modes cuts []
noncomputable abbrev PP : Program := Try.prog
abbrev LI := List Go.Item × Env ctx × Hp ctx
theorem good3 : CodGood ctx 3 ent3.c := ⟨fun _ => rfl, fun cs h0 => by obtain ⟨n0, ls0, rfl, h1⟩ := fit_int h0; obtain rfl := fit_nil h1; rfl, fun _ => rfl, rfl, fun h k hi hk n => by cases hk; rfl⟩
theorem good4 : CodGood ctx 4 ent4.c := ⟨fun _ => rfl, fun cs h0 => by obtain ⟨n0, ls0, rfl, h1⟩ := fit_bool h0; obtain rfl := fit_nil h1; rfl, fun _ => rfl, rfl, fun h k hi hk n => by cases hi⟩
theorem good5 : CodGood ctx 5 ent5.c := ⟨fun _ => rfl, fun cs h0 => by obtain ⟨n0, ls0, rfl, h1⟩ := fit_int h0; obtain rfl := fit_nil h1; rfl, fun _ => rfl, rfl, fun h k hi hk n => by cases hk; rfl⟩
theorem good9 : CodGood ctx 9 ent9.c := ⟨fun _ => rfl, fun cs h0 => by obtain ⟨n0, ls0, rfl, h1⟩ := fit_str h0; obtain rfl := fit_nil h1; rfl, fun _ => rfl, rfl, fun h k hi hk n => by cases hi⟩
theorem good22 : CodGood ctx 22 ent22.c := ⟨fun _ => rfl, fun cs h0 => by obtain ⟨n0, ls0, rfl, h1⟩ := fit_sl h0; obtain rfl := fit_nil h1; rfl, fun _ => rfl, rfl, fun h k hi hk n => by cases hi⟩
theorem good24 : CodGood ctx 24 ent24.c := ⟨fun _ => rfl, fun cs h0 => by obtain ⟨n0, ls0, rfl, h1⟩ := fit_sl h0; obtain rfl := fit_nil h1; rfl, fun _ => rfl, rfl, fun h k hi hk n => by cases hi⟩
theorem good25 : CodGood ctx 25 ent25.c := ⟨fun _ => rfl, fun cs h0 => by obtain ⟨n0, ls0, rfl, h1⟩ := fit_sl h0; obtain rfl := fit_nil h1; rfl, fun _ => rfl, rfl, fun h k hi hk n => by cases hi⟩
theorem good27 : CodGood ctx 27 ent27.c := ⟨fun _ => rfl, fun cs h0 => by obtain ⟨n0, ls0, rfl, h1⟩ := fit_str h0; obtain ⟨n1, ls1, rfl, h2⟩ := fit_int h1; obtain ⟨n2, ls2, rfl, h3⟩ := fit_sl h2; obtain ⟨n3, ls3, rfl, h4⟩ := fit_int h3; obtain ⟨n4, ls4, rfl, h5⟩ := fit_str h4; obtain ⟨n5, ls5, rfl, h6⟩ := fit_int h5; obtain rfl := fit_nil h6; rfl, fun _ => rfl, rfl, fun h k hi hk n => by cases hi⟩
theorem good28 : CodGood ctx 28 ent28.c := ⟨fun _ => rfl, fun cs h0 => by obtain ⟨n0, ls0, rfl, h1⟩ := fit_sl h0; obtain rfl := fit_nil h1; rfl, fun _ => rfl, rfl, fun h k hi hk n => by cases hi⟩
theorem good29 : CodGood ctx 29 ent29.c := ⟨fun _ => rfl, fun cs h0 => by obtain ⟨n0, ls0, rfl, h1⟩ := fit_sl h0; obtain rfl := fit_nil h1; rfl, fun _ => rfl, rfl, fun h k hi hk n => by cases hi⟩
theorem good31 : CodGood ctx 31 ent31.c := ⟨fun _ => rfl, fun cs h0 => by obtain ⟨n0, ls0, rfl, h1⟩ := fit_str h0; obtain ⟨n1, ls1, rfl, h2⟩ := fit_bool h1; obtain ⟨n2, ls2, rfl, h3⟩ := fit_sl h2; obtain ⟨n3, ls3, rfl, h4⟩ := fit_str h3; obtain ⟨n4, ls4, rfl, h5⟩ := fit_int h4; obtain ⟨n5, ls5, rfl, h6⟩ := fit_sl h5; obtain ⟨n6, ls6, rfl, h7⟩ := fit_int h6; obtain ⟨n7, ls7, rfl, h8⟩ := fit_str h7; obtain ⟨n8, ls8, rfl, h9⟩ := fit_int h8; obtain ⟨n9, ls9, rfl, h10⟩ := fit_sl h9; obtain ⟨n10, ls10, rfl, h11⟩ := fit_sl h10; obtain ⟨n11, ls11, rfl, h12⟩ := fit_int h11; obtain rfl := fit_nil h12; rfl, fun _ => rfl, rfl, fun h k hi hk n => by cases hi⟩
theorem good34 : CodGood ctx 34 ent34.c := ⟨fun _ => rfl, fun cs h0 => by obtain ⟨n0, ls0, rfl, h1⟩ := fit_sl h0; obtain rfl := fit_nil h1; rfl, fun _ => rfl, rfl, fun h k hi hk n => by cases hi⟩
theorem good36 : CodGood ctx 36 ent36.c := ⟨fun _ => rfl, fun cs h0 => by obtain ⟨n0, ls0, rfl, h1⟩ := fit_sl h0; obtain rfl := fit_nil h1; rfl, fun _ => rfl, rfl, fun h k hi hk n => by cases hi⟩
theorem good37 : CodGood ctx 37 ent37.c := ⟨fun _ => rfl, fun cs h0 => by obtain ⟨n0, ls0, rfl, h1⟩ := fit_sl h0; obtain rfl := fit_nil h1; rfl, fun _ => rfl, rfl, fun h k hi hk n => by cases hi⟩
theorem good39 : CodGood ctx 39 ent39.c := ⟨fun _ => rfl, fun cs h0 => by obtain ⟨n0, ls0, rfl, h1⟩ := fit_str h0; obtain ⟨n1, ls1, rfl, h2⟩ := fit_int h1; obtain ⟨n2, ls2, rfl, h3⟩ := fit_sl h2; obtain ⟨n3, ls3, rfl, h4⟩ := fit_int h3; obtain ⟨n4, ls4, rfl, h5⟩ := fit_str h4; obtain ⟨n5, ls5, rfl, h6⟩ := fit_int h5; obtain rfl := fit_nil h6; rfl, fun _ => rfl, rfl, fun h k hi hk n => by cases hi⟩
theorem good40 : CodGood ctx 40 ent40.c := ⟨fun _ => rfl, fun cs h0 => by obtain ⟨n0, ls0, rfl, h1⟩ := fit_sl h0; obtain rfl := fit_nil h1; rfl, fun _ => rfl, rfl, fun h k hi hk n => by cases hi⟩
theorem good41 : CodGood ctx 41 ent41.c := ⟨fun _ => rfl, fun cs h0 => by obtain ⟨n0, ls0, rfl, h1⟩ := fit_sl h0; obtain rfl := fit_nil h1; rfl, fun _ => rfl, rfl, fun h k hi hk n => by cases hi⟩
theorem good43 : CodGood ctx 43 ent43.c := ⟨fun _ => rfl, fun cs h0 => by obtain ⟨n0, ls0, rfl, h1⟩ := fit_str h0; obtain ⟨n1, ls1, rfl, h2⟩ := fit_bool h1; obtain ⟨n2, ls2, rfl, h3⟩ := fit_sl h2; obtain ⟨n3, ls3, rfl, h4⟩ := fit_str h3; obtain ⟨n4, ls4, rfl, h5⟩ := fit_int h4; obtain ⟨n5, ls5, rfl, h6⟩ := fit_sl h5; obtain ⟨n6, ls6, rfl, h7⟩ := fit_int h6; obtain ⟨n7, ls7, rfl, h8⟩ := fit_str h7; obtain ⟨n8, ls8, rfl, h9⟩ := fit_int h8; obtain ⟨n9, ls9, rfl, h10⟩ := fit_sl h9; obtain ⟨n10, ls10, rfl, h11⟩ := fit_sl h10; obtain ⟨n11, ls11, rfl, h12⟩ := fit_int h11; obtain rfl := fit_nil h12; rfl, fun _ => rfl, rfl, fun h k hi hk n => by cases hi⟩
theorem good48 : CodGood ctx 48 ent48.c := ⟨fun _ => rfl, fun cs h0 => by obtain ⟨n0, ls0, rfl, h1⟩ := fit_int h0; obtain ⟨n1, ls1, rfl, h2⟩ := fit_int h1; obtain ⟨n2, ls2, rfl, h3⟩ := fit_int h2; obtain ⟨n3, ls3, rfl, h4⟩ := fit_int h3; obtain ⟨n4, ls4, rfl, h5⟩ := fit_str h4; obtain ⟨n5, ls5, rfl, h6⟩ := fit_bool h5; obtain ⟨n6, ls6, rfl, h7⟩ := fit_bool h6; obtain rfl := fit_nil h7; rfl, fun _ => rfl, rfl, fun h k hi hk n => by cases hi⟩
theorem good51 : CodGood ctx 51 ent51.c := ⟨fun _ => rfl, fun cs h0 => by obtain ⟨n0, ls0, rfl, h1⟩ := fit_int h0; obtain ⟨n1, ls1, rfl, h2⟩ := fit_int h1; obtain ⟨n2, ls2, rfl, h3⟩ := fit_int h2; obtain ⟨n3, ls3, rfl, h4⟩ := fit_int h3; obtain ⟨n4, ls4, rfl, h5⟩ := fit_str h4; obtain ⟨n5, ls5, rfl, h6⟩ := fit_bool h5; obtain ⟨n6, ls6, rfl, h7⟩ := fit_bool h6; obtain rfl := fit_nil h7; rfl, fun _ => rfl, rfl, fun h k hi hk n => by cases hi⟩
theorem good59 : CodGood ctx 59 ent59.c := ⟨fun _ => rfl, fun cs h0 => by obtain ⟨n0, ls0, rfl, h1⟩ := fit_int h0; obtain ⟨n1, ls1, rfl, h2⟩ := fit_int h1; obtain ⟨n2, ls2, rfl, h3⟩ := fit_bool h2; obtain ⟨n3, ls3, rfl, h4⟩ := fit_bool h3; obtain ⟨n4, ls4, rfl, h5⟩ := fit_bool h4; obtain ⟨n5, ls5, rfl, h6⟩ := fit_bool h5; obtain ⟨n6, ls6, rfl, h7⟩ := fit_str h6; obtain ⟨n7, ls7, rfl, h8⟩ := fit_int h7; obtain rfl := fit_nil h8; rfl, fun _ => rfl, rfl, fun h k hi hk n => by cases hi⟩
theorem good68 : CodGood ctx 68 ent68.c := ⟨fun _ => rfl, fun cs h0 => by obtain ⟨n0, ls0, rfl, h1⟩ := fit_int h0; obtain ⟨n1, ls1, rfl, h2⟩ := fit_int h1; obtain rfl := fit_nil h2; rfl, fun _ => rfl, rfl, fun h k hi hk n => by cases hi⟩
theorem good75 : CodGood ctx 75 ent75.c := ⟨fun _ => rfl, fun cs h0 => by obtain ⟨n0, ls0, rfl, h1⟩ := fit_int h0; obtain ⟨n1, ls1, rfl, h2⟩ := fit_bool h1; obtain rfl := fit_nil h2; rfl, fun _ => rfl, rfl, fun h k hi hk n => by cases hi⟩
theorem good87 : CodGood ctx 87 ent87.c := ⟨fun _ => rfl, fun cs h0 => by obtain ⟨n0, ls0, rfl, h1⟩ := fit_int h0; obtain ⟨n1, ls1, rfl, h2⟩ := fit_bool h1; obtain rfl := fit_nil h2; rfl, fun _ => rfl, rfl, fun h k hi hk n => by cases hi⟩
theorem good89 : CodGood ctx 89 ent89.c := ⟨fun _ => rfl, fun cs h0 => by obtain ⟨n0, ls0, rfl, h1⟩ := fit_int h0; obtain ⟨n1, ls1, rfl, h2⟩ := fit_int h1; obtain rfl := fit_nil h2; rfl, fun _ => rfl, rfl, fun h k hi hk n => by cases hi⟩
theorem good96 : CodGood ctx 96 ent96.c := ⟨fun _ => rfl, fun cs h0 => by obtain ⟨n0, ls0, rfl, h1⟩ := fit_bool h0; obtain rfl := fit_nil h1; rfl, fun _ => rfl, rfl, fun h k hi hk n => by cases hi⟩
theorem good101 : CodGood ctx 101 ent101.c := ⟨fun _ => rfl, fun cs h0 => by obtain ⟨n0, ls0, rfl, h1⟩ := fit_str h0; obtain ⟨n1, ls1, rfl, h2⟩ := fit_str h1; obtain ⟨n2, ls2, rfl, h3⟩ := fit_int h2; obtain rfl := fit_nil h3; rfl, fun _ => rfl, rfl, fun h k hi hk n => by cases hi⟩
theorem good103 : CodGood ctx 103 ent103.c := ⟨fun _ => rfl, fun cs h0 => by obtain ⟨n0, ls0, rfl, h1⟩ := fit_int h0; obtain ⟨n1, ls1, rfl, h2⟩ := fit_int h1; obtain ⟨n2, ls2, rfl, h3⟩ := fit_bool h2; obtain ⟨n3, ls3, rfl, h4⟩ := fit_bool h3; obtain ⟨n4, ls4, rfl, h5⟩ := fit_bool h4; obtain ⟨n5, ls5, rfl, h6⟩ := fit_bool h5; obtain ⟨n6, ls6, rfl, h7⟩ := fit_str h6; obtain ⟨n7, ls7, rfl, h8⟩ := fit_int h7; obtain rfl := fit_nil h8; rfl, fun _ => rfl, rfl, fun h k hi hk n => by cases hi⟩
theorem good104 : CodGood ctx 104 ent104.c := ⟨fun _ => rfl, fun cs h0 => by obtain ⟨n0, ls0, rfl, h1⟩ := fit_str h0; obtain ⟨n1, ls1, rfl, h2⟩ := fit_str h1; obtain ⟨n2, ls2, rfl, h3⟩ := fit_int h2; obtain rfl := fit_nil h3; rfl, fun _ => rfl, rfl, fun h k hi hk n => by cases hi⟩
theorem good110 : CodGood ctx 110 ent110.c := ⟨fun _ => rfl, fun cs h0 => by obtain ⟨n0, ls0, rfl, h1⟩ := fit_sl h0; obtain rfl := fit_nil h1; rfl, fun _ => rfl, rfl, fun h k hi hk n => by cases hi⟩
theorem ctxOk : CtxOk ctx Try.prog := mkCtx_ok (by kernel_rfl) (fun x hx => by
  simp only [ents, List.mem_cons, List.not_mem_nil, or_false] at hx
  rcases hx with rfl | rfl | rfl | rfl | rfl | rfl | rfl | rfl | rfl | rfl | rfl | rfl | rfl | rfl | rfl | rfl | rfl | rfl | rfl | rfl | rfl | rfl | rfl | rfl | rfl | rfl | rfl | rfl | rfl | rfl
  · exact good3
  · exact good4
  · exact good5
  · exact good9
  · exact good22
  · exact good24
  · exact good25
  · exact good27
  · exact good28
  · exact good29
  · exact good31
  · exact good34
  · exact good36
  · exact good37
  · exact good39
  · exact good40
  · exact good41
  · exact good43
  · exact good48
  · exact good51
  · exact good59
  · exact good68
  · exact good75
  · exact good87
  · exact good89
  · exact good96
  · exact good101
  · exact good103
  · exact good104
  · exact good110)
def cSFile : Cv (List (L (ElOf els))) SFile := cIso (cCons cStr (cCons cStr (cCons (cInt .i64) cNil))) (fun p => ⟨p.1, p.2.1, p.2.2.1⟩) (fun s => (s.fName, s.fText, s.fKept, ())) (fun _ => rfl)
def cv0 : Cv (List (U (ElOf els))) (SFile × Int) := (cIso (cCons (uAgg cSFile) (cCons (uOne (cInt .i64)) cNil)) (fun p => (p.1, p.2.1)) (fun s => (s.1, s.2, ())) (fun _ => rfl))
def cv1 : Cv (List (U (ElOf els))) Int := (cIso (cCons (uOne (cInt .i64)) cNil) (fun p => p.1) (fun s => (s, ())) (fun _ => rfl))
def cv2 : Cv (List (U (ElOf els))) ((List SFile) × Int) := (cIso (cCons (uOne (cRsl 101)) (cCons (uOne (cInt .i64)) cNil)) (fun p => (p.1, p.2.1)) (fun s => (s.1, s.2, ())) (fun _ => rfl))
def cSDisk24 : Cv (List (L (ElOf els))) SDisk := cIso (cCons (cRsl 101) cNil) (fun p => ⟨p.1⟩) (fun s => (s.fFiles, ())) (fun _ => rfl)
def cv3 : Cv (List (U (ElOf els))) (SDisk × Int) := (cIso (cCons (uAgg cSDisk24) (cCons (uOne (cInt .i64)) cNil)) (fun p => (p.1, p.2.1)) (fun s => (s.1, s.2, ())) (fun _ => rfl))
def cSThing : Cv (List (L (ElOf els))) SThing := cIso (cCons (cInt .i64) (cCons (cInt .i64) (cCons cBool (cCons cBool (cCons cBool (cCons cBool (cCons cStr (cCons (cInt .i64) cNil)))))))) (fun p => ⟨p.1, p.2.1, p.2.2.1, p.2.2.2.1, p.2.2.2.2.1, p.2.2.2.2.2.1, p.2.2.2.2.2.2.1, p.2.2.2.2.2.2.2.1⟩) (fun s => (s.fId, s.fKind, s.fHidden, s.fFixed, s.fSigns, s.fWraps, s.fValue, s.fNext, ())) (fun _ => rfl)
def cv4 : Cv (List (U (ElOf els))) (SThing × Int) := (cIso (cCons (uAgg cSThing) (cCons (uOne (cInt .i64)) cNil)) (fun p => (p.1, p.2.1)) (fun s => (s.1, s.2, ())) (fun _ => rfl))
def cv5 : Cv (List (U (ElOf els))) ((List SThing) × Int) := (cIso (cCons (uOne (cRsl 103)) (cCons (uOne (cInt .i64)) cNil)) (fun p => (p.1, p.2.1)) (fun s => (s.1, s.2, ())) (fun _ => rfl))
def cSBook27 : Cv (List (L (ElOf els))) SBook := cIso (cCons cStr (cCons (cInt .i64) (cCons (cRsl 103) (cCons (cInt .i64) (cCons cStr (cCons (cInt .i64) cNil)))))) (fun p => ⟨p.1, p.2.1, p.2.2.1, p.2.2.2.1, p.2.2.2.2.1, p.2.2.2.2.2.1⟩) (fun s => (s.fWord, s.fTries, s.fThings, s.fLast, s.fChain, s.fCount, ())) (fun _ => rfl)
def cv6 : Cv (List (U (ElOf els))) (SBook × Int) := (cIso (cCons (uAgg cSBook27) (cCons (uOne (cInt .i64)) cNil)) (fun p => (p.1, p.2.1)) (fun s => (s.1, s.2, ())) (fun _ => rfl))
def cv7 : Cv (List (U (ElOf els))) ((List SSession) × Int) := (cIso (cCons (uOne (cRsl 87)) (cCons (uOne (cInt .i64)) cNil)) (fun p => (p.1, p.2.1)) (fun s => (s.1, s.2, ())) (fun _ => rfl))
def cv8 : Cv (List (U (ElOf els))) ((List SLive) × Int) := (cIso (cCons (uOne (cRsl 89)) (cCons (uOne (cInt .i64)) cNil)) (fun p => (p.1, p.2.1)) (fun s => (s.1, s.2, ())) (fun _ => rfl))
def cSBox31 : Cv (List (L (ElOf els))) SBox := cIso (cCons cStr (cCons cBool (cCons (cRsl 101) (cCons cStr (cCons (cInt .i64) (cCons (cRsl 103) (cCons (cInt .i64) (cCons cStr (cCons (cInt .i64) (cCons (cRsl 87) (cCons (cRsl 89) (cCons (cInt .i64) cNil)))))))))))) (fun p => ⟨p.1, p.2.1, ⟨p.2.2.1⟩, ⟨p.2.2.2.1, p.2.2.2.2.1, p.2.2.2.2.2.1, p.2.2.2.2.2.2.1, p.2.2.2.2.2.2.2.1, p.2.2.2.2.2.2.2.2.1⟩, p.2.2.2.2.2.2.2.2.2.1, p.2.2.2.2.2.2.2.2.2.2.1, p.2.2.2.2.2.2.2.2.2.2.2.1⟩) (fun s => (s.fKey, s.fUp, s.fDisk.fFiles, s.fBook.fWord, s.fBook.fTries, s.fBook.fThings, s.fBook.fLast, s.fBook.fChain, s.fBook.fCount, s.fSessions, s.fLives, s.fOpened, ())) (fun _ => rfl)
def cv9 : Cv (List (U (ElOf els))) (SBox × Int) := (cIso (cCons (uAgg cSBox31) (cCons (uOne (cInt .i64)) cNil)) (fun p => (p.1, p.2.1)) (fun s => (s.1, s.2, ())) (fun _ => rfl))
def cv10 : Cv (List (U (ElOf els))) SFile := (cIso (cCons (uAgg cSFile) cNil) (fun p => p.1) (fun s => (s, ())) (fun _ => rfl))
def cv11 : Cv (List (U (ElOf els))) (List SFile) := (cIso (cCons (uOne (cRsl 101)) cNil) (fun p => p.1) (fun s => (s, ())) (fun _ => rfl))
def cv12 : Cv (List (U (ElOf els))) (List SFile) := (cIso (cCons (uOne (cFsl 104)) cNil) (fun p => p.1) (fun s => (s, ())) (fun _ => rfl))
def cSDiskF36 : Cv (List (L (ElOf els))) SDisk := cIso (cCons (cFsl 104) cNil) (fun p => ⟨p.1⟩) (fun s => (s.fFiles, ())) (fun _ => rfl)
def cv13 : Cv (List (U (ElOf els))) SDisk := (cIso (cCons (uAgg cSDisk24) cNil) (fun p => p.1) (fun s => (s, ())) (fun _ => rfl))
def cv14 : Cv (List (U (ElOf els))) SDisk := (cIso (cCons (uAgg cSDiskF36) cNil) (fun p => p.1) (fun s => (s, ())) (fun _ => rfl))
def cv15 : Cv (List (U (ElOf els))) SThing := (cIso (cCons (uAgg cSThing) cNil) (fun p => p.1) (fun s => (s, ())) (fun _ => rfl))
def cv16 : Cv (List (U (ElOf els))) (List SThing) := (cIso (cCons (uOne (cRsl 103)) cNil) (fun p => p.1) (fun s => (s, ())) (fun _ => rfl))
def cv17 : Cv (List (U (ElOf els))) (List SThing) := (cIso (cCons (uOne (cFsl 59)) cNil) (fun p => p.1) (fun s => (s, ())) (fun _ => rfl))
def cSBookF39 : Cv (List (L (ElOf els))) SBook := cIso (cCons cStr (cCons (cInt .i64) (cCons (cFsl 59) (cCons (cInt .i64) (cCons cStr (cCons (cInt .i64) cNil)))))) (fun p => ⟨p.1, p.2.1, p.2.2.1, p.2.2.2.1, p.2.2.2.2.1, p.2.2.2.2.2.1⟩) (fun s => (s.fWord, s.fTries, s.fThings, s.fLast, s.fChain, s.fCount, ())) (fun _ => rfl)
def cv18 : Cv (List (U (ElOf els))) SBook := (cIso (cCons (uAgg cSBook27) cNil) (fun p => p.1) (fun s => (s, ())) (fun _ => rfl))
def cv19 : Cv (List (U (ElOf els))) SBook := (cIso (cCons (uAgg cSBookF39) cNil) (fun p => p.1) (fun s => (s, ())) (fun _ => rfl))
def cSSession : Cv (List (L (ElOf els))) SSession := cIso (cCons (cInt .i64) (cCons cBool cNil)) (fun p => ⟨p.1, p.2.1⟩) (fun s => (s.fId, s.fIn, ())) (fun _ => rfl)
def cv20 : Cv (List (U (ElOf els))) SSession := (cIso (cCons (uAgg cSSession) cNil) (fun p => p.1) (fun s => (s, ())) (fun _ => rfl))
def cv21 : Cv (List (U (ElOf els))) (List SSession) := (cIso (cCons (uOne (cRsl 87)) cNil) (fun p => p.1) (fun s => (s, ())) (fun _ => rfl))
def cv22 : Cv (List (U (ElOf els))) (List SSession) := (cIso (cCons (uOne (cFsl 75)) cNil) (fun p => p.1) (fun s => (s, ())) (fun _ => rfl))
def cSLive : Cv (List (L (ElOf els))) SLive := cIso (cCons (cInt .i64) (cCons (cInt .i64) cNil)) (fun p => ⟨p.1, p.2.1⟩) (fun s => (s.fId, s.fNext, ())) (fun _ => rfl)
def cv23 : Cv (List (U (ElOf els))) SLive := (cIso (cCons (uAgg cSLive) cNil) (fun p => p.1) (fun s => (s, ())) (fun _ => rfl))
def cv24 : Cv (List (U (ElOf els))) (List SLive) := (cIso (cCons (uOne (cRsl 89)) cNil) (fun p => p.1) (fun s => (s, ())) (fun _ => rfl))
def cv25 : Cv (List (U (ElOf els))) (List SLive) := (cIso (cCons (uOne (cFsl 68)) cNil) (fun p => p.1) (fun s => (s, ())) (fun _ => rfl))
def cSBoxF43 : Cv (List (L (ElOf els))) SBox := cIso (cCons cStr (cCons cBool (cCons (cFsl 104) (cCons cStr (cCons (cInt .i64) (cCons (cFsl 59) (cCons (cInt .i64) (cCons cStr (cCons (cInt .i64) (cCons (cFsl 75) (cCons (cFsl 68) (cCons (cInt .i64) cNil)))))))))))) (fun p => ⟨p.1, p.2.1, ⟨p.2.2.1⟩, ⟨p.2.2.2.1, p.2.2.2.2.1, p.2.2.2.2.2.1, p.2.2.2.2.2.2.1, p.2.2.2.2.2.2.2.1, p.2.2.2.2.2.2.2.2.1⟩, p.2.2.2.2.2.2.2.2.2.1, p.2.2.2.2.2.2.2.2.2.2.1, p.2.2.2.2.2.2.2.2.2.2.2.1⟩) (fun s => (s.fKey, s.fUp, s.fDisk.fFiles, s.fBook.fWord, s.fBook.fTries, s.fBook.fThings, s.fBook.fLast, s.fBook.fChain, s.fBook.fCount, s.fSessions, s.fLives, s.fOpened, ())) (fun _ => rfl)
def cv26 : Cv (List (U (ElOf els))) SBox := (cIso (cCons (uAgg cSBox31) cNil) (fun p => p.1) (fun s => (s, ())) (fun _ => rfl))
def cv27 : Cv (List (U (ElOf els))) SBox := (cIso (cCons (uAgg cSBoxF43) cNil) (fun p => p.1) (fun s => (s, ())) (fun _ => rfl))
def cSBook39 : Cv (List (L (ElOf els))) SBook := cIso (cCons cStr (cCons (cInt .i64) (cCons (cRsl 59) (cCons (cInt .i64) (cCons cStr (cCons (cInt .i64) cNil)))))) (fun p => ⟨p.1, p.2.1, p.2.2.1, p.2.2.2.1, p.2.2.2.2.1, p.2.2.2.2.2.1⟩) (fun s => (s.fWord, s.fTries, s.fThings, s.fLast, s.fChain, s.fCount, ())) (fun _ => rfl)
def cv28 : Cv (List (U (ElOf els))) (SBook × Int) := (cIso (cCons (uAgg cSBook39) (cCons (uOne (cInt .i64)) cNil)) (fun p => (p.1, p.2.1)) (fun s => (s.1, s.2, ())) (fun _ => rfl))
def cv29 : Cv (List (U (ElOf els))) (SThing × Bool) := (cIso (cCons (uAgg cSThing) (cCons (uOne cBool) cNil)) (fun p => (p.1, p.2.1)) (fun s => (s.1, s.2, ())) (fun _ => rfl))
def cSBox43 : Cv (List (L (ElOf els))) SBox := cIso (cCons cStr (cCons cBool (cCons (cRsl 104) (cCons cStr (cCons (cInt .i64) (cCons (cRsl 59) (cCons (cInt .i64) (cCons cStr (cCons (cInt .i64) (cCons (cRsl 75) (cCons (cRsl 68) (cCons (cInt .i64) cNil)))))))))))) (fun p => ⟨p.1, p.2.1, ⟨p.2.2.1⟩, ⟨p.2.2.2.1, p.2.2.2.2.1, p.2.2.2.2.2.1, p.2.2.2.2.2.2.1, p.2.2.2.2.2.2.2.1, p.2.2.2.2.2.2.2.2.1⟩, p.2.2.2.2.2.2.2.2.2.1, p.2.2.2.2.2.2.2.2.2.2.1, p.2.2.2.2.2.2.2.2.2.2.2.1⟩) (fun s => (s.fKey, s.fUp, s.fDisk.fFiles, s.fBook.fWord, s.fBook.fTries, s.fBook.fThings, s.fBook.fLast, s.fBook.fChain, s.fBook.fCount, s.fSessions, s.fLives, s.fOpened, ())) (fun _ => rfl)
def cv30 : Cv (List (U (ElOf els))) (SBox × SThing) := (cIso (cCons (uAgg cSBox43) (cCons (uAgg cSThing) cNil)) (fun p => (p.1, p.2.1)) (fun s => (s.1, s.2, ())) (fun _ => rfl))
def cv31 : Cv (List (U (ElOf els))) (SBox × Int) := (cIso (cCons (uAgg cSBox43) (cCons (uOne (cInt .i64)) cNil)) (fun p => (p.1, p.2.1)) (fun s => (s.1, s.2, ())) (fun _ => rfl))
def cv32 : Cv (List (U (ElOf els))) (SFile × SFile) := (cIso (cCons (uAgg cSFile) (cCons (uAgg cSFile) cNil)) (fun p => (p.1, p.2.1)) (fun s => (s.1, s.2, ())) (fun _ => rfl))
def cv33 : Cv (List (U (ElOf els))) Bool := (cIso (cCons (uOne cBool) cNil) (fun p => p.1) (fun s => (s, ())) (fun _ => rfl))
def cv34 : Cv (List (U (ElOf els))) ((List SFile) × (List SFile)) := (cIso (cCons (uOne (cRsl 104)) (cCons (uOne (cRsl 104)) cNil)) (fun p => (p.1, p.2.1)) (fun s => (s.1, s.2, ())) (fun _ => rfl))
def cSDisk36 : Cv (List (L (ElOf els))) SDisk := cIso (cCons (cRsl 104) cNil) (fun p => ⟨p.1⟩) (fun s => (s.fFiles, ())) (fun _ => rfl)
def cv35 : Cv (List (U (ElOf els))) (SDisk × SDisk) := (cIso (cCons (uAgg cSDisk36) (cCons (uAgg cSDisk36) cNil)) (fun p => (p.1, p.2.1)) (fun s => (s.1, s.2, ())) (fun _ => rfl))
def cv36 : Cv (List (U (ElOf els))) (SThing × SThing) := (cIso (cCons (uAgg cSThing) (cCons (uAgg cSThing) cNil)) (fun p => (p.1, p.2.1)) (fun s => (s.1, s.2, ())) (fun _ => rfl))
def cv37 : Cv (List (U (ElOf els))) ((List SThing) × (List SThing)) := (cIso (cCons (uOne (cRsl 59)) (cCons (uOne (cRsl 59)) cNil)) (fun p => (p.1, p.2.1)) (fun s => (s.1, s.2, ())) (fun _ => rfl))
def cv38 : Cv (List (U (ElOf els))) (SBook × SBook) := (cIso (cCons (uAgg cSBook39) (cCons (uAgg cSBook39) cNil)) (fun p => (p.1, p.2.1)) (fun s => (s.1, s.2, ())) (fun _ => rfl))
def cv39 : Cv (List (U (ElOf els))) (SSession × SSession) := (cIso (cCons (uAgg cSSession) (cCons (uAgg cSSession) cNil)) (fun p => (p.1, p.2.1)) (fun s => (s.1, s.2, ())) (fun _ => rfl))
def cv40 : Cv (List (U (ElOf els))) ((List SSession) × (List SSession)) := (cIso (cCons (uOne (cRsl 75)) (cCons (uOne (cRsl 75)) cNil)) (fun p => (p.1, p.2.1)) (fun s => (s.1, s.2, ())) (fun _ => rfl))
def cv41 : Cv (List (U (ElOf els))) (SLive × SLive) := (cIso (cCons (uAgg cSLive) (cCons (uAgg cSLive) cNil)) (fun p => (p.1, p.2.1)) (fun s => (s.1, s.2, ())) (fun _ => rfl))
def cv42 : Cv (List (U (ElOf els))) ((List SLive) × (List SLive)) := (cIso (cCons (uOne (cRsl 68)) (cCons (uOne (cRsl 68)) cNil)) (fun p => (p.1, p.2.1)) (fun s => (s.1, s.2, ())) (fun _ => rfl))
def cv43 : Cv (List (U (ElOf els))) (SBox × SBox) := (cIso (cCons (uAgg cSBox43) (cCons (uAgg cSBox43) cNil)) (fun p => (p.1, p.2.1)) (fun s => (s.1, s.2, ())) (fun _ => rfl))
def cSCall : Cv (List (L (ElOf els))) SCall := cIso (cCons (cInt .i64) (cCons (cInt .i64) (cCons (cInt .i64) (cCons (cInt .i64) (cCons cStr (cCons cBool (cCons cBool cNil))))))) (fun p => ⟨p.1, p.2.1, p.2.2.1, p.2.2.2.1, p.2.2.2.2.1, p.2.2.2.2.2.1, p.2.2.2.2.2.2.1⟩) (fun s => (s.fOp, s.fSession, s.fThing, s.fKind, s.fText, s.fHidden, s.fFixed, ())) (fun _ => rfl)
def cv44 : Cv (List (U (ElOf els))) (SCall × Int) := (cIso (cCons (uAgg cSCall) (cCons (uOne (cInt .i64)) cNil)) (fun p => (p.1, p.2.1)) (fun s => (s.1, s.2, ())) (fun _ => rfl))
def cv45 : Cv (List (U (ElOf els))) SCall := (cIso (cCons (uAgg cSCall) cNil) (fun p => p.1) (fun s => (s, ())) (fun _ => rfl))
def cv46 : Cv (List (U (ElOf els))) SBook := (cIso (cCons (uAgg cSBook39) cNil) (fun p => p.1) (fun s => (s, ())) (fun _ => rfl))
def cv47 : Cv (List (U (ElOf els))) SBox := (cIso (cCons (uAgg cSBox43) cNil) (fun p => p.1) (fun s => (s, ())) (fun _ => rfl))
def cv48 : Cv (List (U (ElOf els))) ((List SLive) × Int × Int) := (cIso (cCons (uOne (cRsl 68)) (cCons (uOne (cInt .i64)) (cCons (uOne (cInt .i64)) cNil))) (fun p => (p.1, p.2.1, p.2.2.1)) (fun s => (s.1, s.2.1, s.2.2, ())) (fun _ => rfl))
def cv49 : Cv (List (U (ElOf els))) (SBox × SCall × Int × Int) := (cIso (cCons (uAgg cSBox43) (cCons (uAgg cSCall) (cCons (uOne (cInt .i64)) (cCons (uOne (cInt .i64)) cNil)))) (fun p => (p.1, p.2.1, p.2.2.1, p.2.2.2.1)) (fun s => (s.1, s.2.1, s.2.2.1, s.2.2.2, ())) (fun _ => rfl))
def cv50 : Cv (List (U (ElOf els))) SDisk := (cIso (cCons (uAgg cSDisk36) cNil) (fun p => p.1) (fun s => (s, ())) (fun _ => rfl))
def cv51 : Cv (List (U (ElOf els))) (SBox × Int × Int) := (cIso (cCons (uAgg cSBoxF43) (cCons (uOne (cInt .i64)) (cCons (uOne (cInt .i64)) cNil))) (fun p => (p.1, p.2.1, p.2.2.1)) (fun s => (s.1, s.2.1, s.2.2, ())) (fun _ => rfl))
def cv52 : Cv (List (U (ElOf els))) ByteArray := (cIso (cCons (uOne cStr) cNil) (fun p => p.1) (fun s => (s, ())) (fun _ => rfl))
def cv53 : Cv (List (U (ElOf els))) ((List SFile) × Int) := (cIso (cCons (uOne (cFsl 104)) (cCons (uOne (cInt .i64)) cNil)) (fun p => (p.1, p.2.1)) (fun s => (s.1, s.2, ())) (fun _ => rfl))
def cv54 : Cv (List (U (ElOf els))) (Int × (List SFile)) := (cIso (cCons (uOne (cInt .i64)) (cCons (uAgg (cIso (cCons (cFsl 104) cNil) (fun p => p.1) (fun s => (s, ())) (fun _ => rfl))) cNil)) (fun p => (p.1, p.2.1)) (fun s => (s.1, s.2, ())) (fun _ => rfl))
def cv55 : Cv (List (U (ElOf els))) (SDisk × Int) := (cIso (cCons (uAgg cSDiskF36) (cCons (uOne (cInt .i64)) cNil)) (fun p => (p.1, p.2.1)) (fun s => (s.1, s.2, ())) (fun _ => rfl))
def cv56 : Cv (List (U (ElOf els))) ((List SThing) × Int) := (cIso (cCons (uOne (cFsl 59)) (cCons (uOne (cInt .i64)) cNil)) (fun p => (p.1, p.2.1)) (fun s => (s.1, s.2, ())) (fun _ => rfl))
def cv57 : Cv (List (U (ElOf els))) (Int × (List SThing)) := (cIso (cCons (uOne (cInt .i64)) (cCons (uAgg (cIso (cCons (cFsl 59) cNil) (fun p => p.1) (fun s => (s, ())) (fun _ => rfl))) cNil)) (fun p => (p.1, p.2.1)) (fun s => (s.1, s.2, ())) (fun _ => rfl))
def cv58 : Cv (List (U (ElOf els))) (SBook × Int) := (cIso (cCons (uAgg cSBookF39) (cCons (uOne (cInt .i64)) cNil)) (fun p => (p.1, p.2.1)) (fun s => (s.1, s.2, ())) (fun _ => rfl))
def cv59 : Cv (List (U (ElOf els))) (Int × (List SThing)) := (cIso (cCons (uOne (cInt .i64)) (cCons (uAgg (cIso (cCons cJunk (cCons cJunk (cCons (cFsl 59) (cCons cJunk (cCons cJunk (cCons cJunk cNil)))))) (fun p => p.2.2.1) (fun s => ((), (), s, (), (), (), ())) (fun _ => rfl))) cNil)) (fun p => (p.1, p.2.1)) (fun s => (s.1, s.2, ())) (fun _ => rfl))
def cv60 : Cv (List (U (ElOf els))) ((List SSession) × Int) := (cIso (cCons (uOne (cFsl 75)) (cCons (uOne (cInt .i64)) cNil)) (fun p => (p.1, p.2.1)) (fun s => (s.1, s.2, ())) (fun _ => rfl))
def cv61 : Cv (List (U (ElOf els))) (Int × (List SSession)) := (cIso (cCons (uOne (cInt .i64)) (cCons (uAgg (cIso (cCons (cFsl 75) cNil) (fun p => p.1) (fun s => (s, ())) (fun _ => rfl))) cNil)) (fun p => (p.1, p.2.1)) (fun s => (s.1, s.2, ())) (fun _ => rfl))
def cv62 : Cv (List (U (ElOf els))) ((List SLive) × Int) := (cIso (cCons (uOne (cFsl 68)) (cCons (uOne (cInt .i64)) cNil)) (fun p => (p.1, p.2.1)) (fun s => (s.1, s.2, ())) (fun _ => rfl))
def cv63 : Cv (List (U (ElOf els))) (Int × (List SLive)) := (cIso (cCons (uOne (cInt .i64)) (cCons (uAgg (cIso (cCons (cFsl 68) cNil) (fun p => p.1) (fun s => (s, ())) (fun _ => rfl))) cNil)) (fun p => (p.1, p.2.1)) (fun s => (s.1, s.2, ())) (fun _ => rfl))
def cv64 : Cv (List (U (ElOf els))) (SBox × Int) := (cIso (cCons (uAgg cSBoxF43) (cCons (uOne (cInt .i64)) cNil)) (fun p => (p.1, p.2.1)) (fun s => (s.1, s.2, ())) (fun _ => rfl))
def cv65 : Cv (List (U (ElOf els))) (Int × ((List SFile) × (List SThing) × (List SSession) × (List SLive))) := (cIso (cCons (uOne (cInt .i64)) (cCons (uAgg (cIso (cCons cJunk (cCons cJunk (cCons (cFsl 104) (cCons cJunk (cCons cJunk (cCons (cFsl 59) (cCons cJunk (cCons cJunk (cCons cJunk (cCons (cFsl 75) (cCons (cFsl 68) (cCons cJunk cNil)))))))))))) (fun p => (p.2.2.1, p.2.2.2.2.2.1, p.2.2.2.2.2.2.2.2.2.1, p.2.2.2.2.2.2.2.2.2.2.1)) (fun s => ((), (), s.1, (), (), s.2.1, (), (), (), s.2.2.1, s.2.2.2, (), ())) (fun _ => rfl))) cNil)) (fun p => (p.1, p.2.1)) (fun s => (s.1, s.2, ())) (fun _ => rfl))
def cv66 : Cv (List (U (ElOf els))) ((List SFile) × Int) := (cIso (cCons (uOne (cRsl 104)) (cCons (uOne (cInt .i64)) cNil)) (fun p => (p.1, p.2.1)) (fun s => (s.1, s.2, ())) (fun _ => rfl))
def cv67 : Cv (List (U (ElOf els))) (SDisk × Int) := (cIso (cCons (uAgg cSDisk36) (cCons (uOne (cInt .i64)) cNil)) (fun p => (p.1, p.2.1)) (fun s => (s.1, s.2, ())) (fun _ => rfl))
def cv68 : Cv (List (U (ElOf els))) ((List SThing) × Int) := (cIso (cCons (uOne (cRsl 59)) (cCons (uOne (cInt .i64)) cNil)) (fun p => (p.1, p.2.1)) (fun s => (s.1, s.2, ())) (fun _ => rfl))
def cv69 : Cv (List (U (ElOf els))) ((List SSession) × Int) := (cIso (cCons (uOne (cRsl 75)) (cCons (uOne (cInt .i64)) cNil)) (fun p => (p.1, p.2.1)) (fun s => (s.1, s.2, ())) (fun _ => rfl))
def cv70 : Cv (List (U (ElOf els))) ((List SLive) × Int) := (cIso (cCons (uOne (cRsl 68)) (cCons (uOne (cInt .i64)) cNil)) (fun p => (p.1, p.2.1)) (fun s => (s.1, s.2, ())) (fun _ => rfl))
def cv71 : Cv (List (U (ElOf els))) (SBox × SCall × Int × Int) := (cIso (cCons (uAgg cSBox31) (cCons (uAgg cSCall) (cCons (uOne (cInt .i64)) (cCons (uOne (cInt .i64)) cNil)))) (fun p => (p.1, p.2.1, p.2.2.1, p.2.2.2.1)) (fun s => (s.1, s.2.1, s.2.2.1, s.2.2.2, ())) (fun _ => rfl))
end Go.Proofs.Ythfpmhalgimbbaa.G
