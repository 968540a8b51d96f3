/- The seat's tables: its types, what an element of each is, and what its functions do with what they are given. -/
import Derived.Test.YtjfkbidckphneaaSnd38
import Derived.Test.YtjfkbidckphneaaArr
import Derived.Test.YtjfkbidckphneaaProg
import Derived.KernelRfl
namespace Go.Proofs.Ytjfkbidckphneaa.G
open Go Go.Ev
structure SThing where
  fId : Int
  fKind : Int
  fHidden : Bool
  fFixed : Bool
  fSigns : Bool
  fWraps : Bool
  fValue : ByteArray
  fNext : Int
structure SRec where
  fKind : Int
  fText : ByteArray
  fNum : Int
  fThing : SThing
structure SBook where
  fWord : ByteArray
  fTries : Int
  fThings : (List SThing)
  fLast : Int
  fChain : ByteArray
  fCount : Int
structure SL19Cur where
  fText : ByteArray
  fAt : Int
  fBad : Bool
structure SL01Cur where
  fB : Unit
  fI : Int
  fH : Int
structure SFields where
  fText : ByteArray
  fAt : Int
  fBad : Bool
structure SHasher where
  fState : ByteArray
  fRest : ByteArray
  fCount : Int
def els : List (Nat × TyE) := [(3, ⟨Int, 0⟩), (4, ⟨Bool, false⟩), (5, ⟨Int, 0⟩), (9, ⟨ByteArray, ⟨#[]⟩⟩), (22, ⟨(List Int), []⟩), (25, ⟨SThing, ⟨0, 0, false, false, false, false, ⟨#[]⟩, 0⟩⟩), (33, ⟨SRec, ⟨0, ⟨#[]⟩, 0, ⟨0, 0, false, false, false, false, ⟨#[]⟩, 0⟩⟩⟩), (40, ⟨Bool, false⟩), (45, ⟨(List SRec), []⟩), (46, ⟨(List SThing), []⟩), (48, ⟨SBook, ⟨⟨#[]⟩, 0, [], 0, ⟨#[]⟩, 0⟩⟩), (58, ⟨Bool, false⟩), (60, ⟨SL19Cur, ⟨⟨#[]⟩, 0, false⟩⟩), (64, ⟨Bools 3, boolsZ 3⟩), (67, ⟨(List Int), []⟩), (74, ⟨Bool, false⟩), (76, ⟨SFields, ⟨⟨#[]⟩, 0, false⟩⟩), (83, ⟨(List ByteArray), []⟩), (90, ⟨(List Bool), []⟩), (95, ⟨SHasher, ⟨⟨#[]⟩, ⟨#[]⟩, 0⟩⟩), (100, ⟨(List Int), []⟩), (105, ⟨Int, 0⟩)]
def tis : List (Nat × TI) := [(3, ⟨1, 8, .int .i64⟩), (4, ⟨1, 1, .bool⟩), (5, ⟨1, 1, .int .u8⟩), (9, ⟨1, 16, .str⟩), (22, ⟨1, 24, .sl 5⟩), (25, ⟨8, 48, .st [(3, 0), (3, 1), (4, 2), (4, 3), (4, 4), (4, 5), (9, 6), (3, 7)]⟩), (33, ⟨11, 80, .st [(3, 0), (9, 1), (3, 2), (25, 3)]⟩), (40, ⟨1, 8, .ptr 64⟩), (45, ⟨1, 24, .sl 33⟩), (46, ⟨1, 24, .sl 25⟩), (48, ⟨6, 80, .st [(9, 0), (3, 1), (46, 2), (3, 3), (9, 4), (3, 5)]⟩), (58, ⟨1, 8, .ptr 60⟩), (60, ⟨3, 32, .st [(9, 0), (3, 1), (4, 2)]⟩), (64, ⟨3, 40, .st [(22, 0), (3, 1), (3, 2)]⟩), (67, ⟨1, 24, .sl 3⟩), (74, ⟨1, 8, .ptr 76⟩), (76, ⟨3, 32, .st [(9, 0), (3, 1), (4, 2)]⟩), (83, ⟨1, 24, .sl 9⟩), (90, ⟨1, 24, .sl 4⟩), (95, ⟨3, 40, .st [(9, 0), (9, 1), (3, 2)]⟩), (100, ⟨1, 24, .sl 105⟩), (105, ⟨1, 4, .int .u32⟩)]
def ent3 : Ent (ElOf els) := ⟨3, { sh := [.int .i64], enc := fun (x : Int) => [.int .i64 x], dec := fun cs => (cs.getD 0 .junk).toInt, z := (0 : Int), int? := some ⟨rfl⟩ }⟩
def ent4 : Ent (ElOf els) := ⟨4, { sh := [.bool], enc := fun (x : Bool) => [.bool x], dec := fun cs => (cs.getD 0 .junk).toBool, z := false, int? := none }⟩
def ent5 : Ent (ElOf els) := ⟨5, { sh := [.int .u8], enc := fun (x : Int) => [.int .u8 x], dec := fun cs => (cs.getD 0 .junk).toInt, z := (0 : Int), int? := some ⟨rfl⟩ }⟩
def ent9 : Ent (ElOf els) := ⟨9, { sh := [.str], enc := fun (x : ByteArray) => [.str x], dec := fun cs => (cs.getD 0 .junk).toStr, z := (⟨#[]⟩ : ByteArray), int? := none }⟩
def ent22 : Ent (ElOf els) := ⟨22, { sh := [.sl 5], enc := fun (x : (List Int)) => [.rsl 5 x], dec := fun cs => (L.toSl 5 (cs.getD 0 .junk)), z := [], int? := none }⟩
def ent25 : Ent (ElOf els) := ⟨25, { sh := [.int .i64, .int .i64, .bool, .bool, .bool, .bool, .str, .int .i64], enc := fun (x : SThing) => [.int .i64 x.fId, .int .i64 x.fKind, .bool x.fHidden, .bool x.fFixed, .bool x.fSigns, .bool x.fWraps, .str x.fValue, .int .i64 x.fNext], dec := fun cs => ⟨(cs.getD 0 .junk).toInt, (cs.getD 1 .junk).toInt, (cs.getD 2 .junk).toBool, (cs.getD 3 .junk).toBool, (cs.getD 4 .junk).toBool, (cs.getD 5 .junk).toBool, (cs.getD 6 .junk).toStr, (cs.getD 7 .junk).toInt⟩, z := (⟨0, 0, false, false, false, false, ⟨#[]⟩, 0⟩ : SThing), int? := none }⟩
def ent33 : Ent (ElOf els) := ⟨33, { sh := [.int .i64, .str, .int .i64, .int .i64, .int .i64, .bool, .bool, .bool, .bool, .str, .int .i64], enc := fun (x : SRec) => [.int .i64 x.fKind, .str x.fText, .int .i64 x.fNum, .int .i64 x.fThing.fId, .int .i64 x.fThing.fKind, .bool x.fThing.fHidden, .bool x.fThing.fFixed, .bool x.fThing.fSigns, .bool x.fThing.fWraps, .str x.fThing.fValue, .int .i64 x.fThing.fNext], dec := fun cs => ⟨(cs.getD 0 .junk).toInt, (cs.getD 1 .junk).toStr, (cs.getD 2 .junk).toInt, ⟨(cs.getD 3 .junk).toInt, (cs.getD 4 .junk).toInt, (cs.getD 5 .junk).toBool, (cs.getD 6 .junk).toBool, (cs.getD 7 .junk).toBool, (cs.getD 8 .junk).toBool, (cs.getD 9 .junk).toStr, (cs.getD 10 .junk).toInt⟩⟩, z := (⟨0, ⟨#[]⟩, 0, ⟨0, 0, false, false, false, false, ⟨#[]⟩, 0⟩⟩ : SRec), int? := none }⟩
def ent40 : Ent (ElOf els) := ⟨40, { sh := [.bool], enc := fun (x : Bool) => [.bool x], dec := fun cs => (cs.getD 0 .junk).toBool, z := false, int? := none }⟩
def ent45 : Ent (ElOf els) := ⟨45, { sh := [.sl 33], enc := fun (x : (List SRec)) => [.rsl 33 x], dec := fun cs => (L.toSl 33 (cs.getD 0 .junk)), z := [], int? := none }⟩
def ent46 : Ent (ElOf els) := ⟨46, { sh := [.sl 25], enc := fun (x : (List SThing)) => [.rsl 25 x], dec := fun cs => (L.toSl 25 (cs.getD 0 .junk)), z := [], int? := none }⟩
def ent48 : Ent (ElOf els) := ⟨48, { sh := [.str, .int .i64, .sl 25, .int .i64, .str, .int .i64], enc := fun (x : SBook) => [.str x.fWord, .int .i64 x.fTries, .rsl 25 x.fThings, .int .i64 x.fLast, .str x.fChain, .int .i64 x.fCount], dec := fun cs => ⟨(cs.getD 0 .junk).toStr, (cs.getD 1 .junk).toInt, (L.toSl 25 (cs.getD 2 .junk)), (cs.getD 3 .junk).toInt, (cs.getD 4 .junk).toStr, (cs.getD 5 .junk).toInt⟩, z := (⟨⟨#[]⟩, 0, [], 0, ⟨#[]⟩, 0⟩ : SBook), int? := none }⟩
def ent58 : Ent (ElOf els) := ⟨58, { sh := [.bool], enc := fun (x : Bool) => [.bool x], dec := fun cs => (cs.getD 0 .junk).toBool, z := false, int? := none }⟩
def ent60 : Ent (ElOf els) := ⟨60, { sh := [.str, .int .i64, .bool], enc := fun (x : SL19Cur) => [.str x.fText, .int .i64 x.fAt, .bool x.fBad], dec := fun cs => ⟨(cs.getD 0 .junk).toStr, (cs.getD 1 .junk).toInt, (cs.getD 2 .junk).toBool⟩, z := (⟨⟨#[]⟩, 0, false⟩ : SL19Cur), int? := none }⟩
def ent64 : Ent (ElOf els) := ⟨64, codBools 3 (fun x => x) (fun x => x)⟩
def ent67 : Ent (ElOf els) := ⟨67, { sh := [.sl 3], enc := fun (x : (List Int)) => [.rsl 3 x], dec := fun cs => (L.toSl 3 (cs.getD 0 .junk)), z := [], int? := none }⟩
def ent74 : Ent (ElOf els) := ⟨74, { sh := [.bool], enc := fun (x : Bool) => [.bool x], dec := fun cs => (cs.getD 0 .junk).toBool, z := false, int? := none }⟩
def ent76 : Ent (ElOf els) := ⟨76, { sh := [.str, .int .i64, .bool], enc := fun (x : SFields) => [.str x.fText, .int .i64 x.fAt, .bool x.fBad], dec := fun cs => ⟨(cs.getD 0 .junk).toStr, (cs.getD 1 .junk).toInt, (cs.getD 2 .junk).toBool⟩, z := (⟨⟨#[]⟩, 0, false⟩ : SFields), int? := none }⟩
def ent83 : Ent (ElOf els) := ⟨83, { sh := [.sl 9], enc := fun (x : (List ByteArray)) => [.rsl 9 x], dec := fun cs => (L.toSl 9 (cs.getD 0 .junk)), z := [], int? := none }⟩
def ent90 : Ent (ElOf els) := ⟨90, { sh := [.sl 4], enc := fun (x : (List Bool)) => [.rsl 4 x], dec := fun cs => (L.toSl 4 (cs.getD 0 .junk)), z := [], int? := none }⟩
def ent95 : Ent (ElOf els) := ⟨95, { sh := [.str, .str, .int .i64], enc := fun (x : SHasher) => [.str x.fState, .str x.fRest, .int .i64 x.fCount], dec := fun cs => ⟨(cs.getD 0 .junk).toStr, (cs.getD 1 .junk).toStr, (cs.getD 2 .junk).toInt⟩, z := (⟨⟨#[]⟩, ⟨#[]⟩, 0⟩ : SHasher), int? := none }⟩
def ent100 : Ent (ElOf els) := ⟨100, { sh := [.sl 105], enc := fun (x : (List Int)) => [.rsl 105 x], dec := fun cs => (L.toSl 105 (cs.getD 0 .junk)), z := [], int? := none }⟩
def ent105 : Ent (ElOf els) := ⟨105, { sh := [.int .u32], enc := fun (x : Int) => [.int .u32 x], dec := fun cs => (cs.getD 0 .junk).toInt, z := (0 : Int), int? := some ⟨rfl⟩ }⟩
def ents : List (Ent (ElOf els)) := [ent3, ent4, ent5, ent9, ent22, ent25, ent33, ent40, ent45, ent46, ent48, ent58, ent60, ent64, ent67, ent74, ent76, ent83, ent90, ent95, ent100, ent105]
def modes : List (Nat × List Mode') := []
def cuts : List (Nat × List (Nat × (List Nat × List Nat × List (Nat × Nat) × List (Nat × Nat × Nat)))) := [(18, [(3, ([0, 3, 4], [], [(0, 5)], []))]),
  (51, [(5, ([0, 1, 5, 6], [0], [(5, 5)], [(0, 0, 5)]))]),
  (70, [(3, ([0, 3, 4], [], [(0, 105), (3, 5)], []))]),
  (67, [(3, ([0, 3, 4], [], [(3, 105)], []))]),
  (69, [(3, ([0, 1, 7, 8], [], [(0, 105), (1, 105), (7, 105)], [])), (8, ([0, 1, 7, 9, 10], [], [(0, 105), (1, 105), (7, 105), (9, 105)], [])), (16, ([0, 1, 7, 9, 10, 13, 15, 16], [], [(0, 105), (1, 105), (7, 105), (9, 105)], [])), (23, ([0, 9, 17, 18], [], [(0, 105), (9, 105), (17, 105)], []))]),
  (64, [(7, ([1, 2, 4, 5, 6, 7, 8], [128, 256], [(5, 105), (6, 105)], []))]),
  (63, [(5, ([1, 3], [64], [(3, 5)], [])), (9, ([1, 3, 4, 5], [64], [(3, 5)], [])), (13, ([1, 3, 4, 5, 6, 7], [64], [(3, 5)], [])), (20, ([3, 8, 9, 10], [], [(3, 5), (8, 105), (9, 105)], []))]),
  (40, [(3, ([0, 1, 5, 6], [], [(5, 5)], []))]),
  (3, [(12, ([3, 6, 8], [192, 384], [], [])), (7, ([3, 6, 7], [192, 384], [], [])), (9, ([3, 6, 7], [192, 384], [], []))]),
  (30, [(2, ([0, 3], [], [(3, 5)], []))]),
  (57, [(4, ([1, 3], [64], [], [(64, 2, 25)]))]),
  (59, [(2, ([1, 2, 4, 6], [128, 256], [], [(128, 2, 25)]))]),
  (61, [(3, ([0, 3, 5, 6], [192], [(0, 25), (5, 25)], [])), (9, ([0, 3, 5, 7], [192], [(0, 25), (5, 25)], []))]),
  (43, [(24, ([2, 3, 4, 6, 8, 13, 14], [128, 192, 256, 512], [(13, 25)], [(128, 2, 25), (256, 2, 25), (512, 2, 25)]))]),
  (23, [(4, ([0, 3, 4, 5, 6], [0, 192, 256], [(5, 33)], [(0, 0, 5), (192, 2, 25), (256, 2, 25)]))]),
  (25, [(2, ([0, 3], [], [(3, 5)], []))]),
  (44, [(3, ([3, 14, 15, 16], [], [(14, 4)], []))]),
  (29, [(5, ([0, 1, 7, 8], [], [], []))]),
  (52, [(6, ([0, 1, 7, 8, 9], [], [], []))])]
set_option linter.unusedSectionVars false
variable [PC]
def ctx : Ctx := mkCtx els tis ents modes cuts [] PC.pm
noncomputable abbrev PP : Program := Try.prog
abbrev LI := List Go.Item × Env ctx × Hp ctx
theorem good3 : CodGood ctx 3 ent3.c := ⟨fun _ => rfl, fun cs h0 => by obtain ⟨n0, ls0, rfl, h1⟩ := fit_int h0; obtain rfl := fit_nil h1; rfl, fun _ => rfl, rfl, fun h k hi hk n => by cases hk; rfl⟩
theorem good4 : CodGood ctx 4 ent4.c := ⟨fun _ => rfl, fun cs h0 => by obtain ⟨n0, ls0, rfl, h1⟩ := fit_bool h0; obtain rfl := fit_nil h1; rfl, fun _ => rfl, rfl, fun h k hi hk n => by cases hi⟩
theorem good5 : CodGood ctx 5 ent5.c := ⟨fun _ => rfl, fun cs h0 => by obtain ⟨n0, ls0, rfl, h1⟩ := fit_int h0; obtain rfl := fit_nil h1; rfl, fun _ => rfl, rfl, fun h k hi hk n => by cases hk; rfl⟩
theorem good9 : CodGood ctx 9 ent9.c := ⟨fun _ => rfl, fun cs h0 => by obtain ⟨n0, ls0, rfl, h1⟩ := fit_str h0; obtain rfl := fit_nil h1; rfl, fun _ => rfl, rfl, fun h k hi hk n => by cases hi⟩
theorem good22 : CodGood ctx 22 ent22.c := ⟨fun _ => rfl, fun cs h0 => by obtain ⟨n0, ls0, rfl, h1⟩ := fit_sl h0; obtain rfl := fit_nil h1; rfl, fun _ => rfl, rfl, fun h k hi hk n => by cases hi⟩
theorem good25 : CodGood ctx 25 ent25.c := ⟨fun _ => rfl, fun cs h0 => by obtain ⟨n0, ls0, rfl, h1⟩ := fit_int h0; obtain ⟨n1, ls1, rfl, h2⟩ := fit_int h1; obtain ⟨n2, ls2, rfl, h3⟩ := fit_bool h2; obtain ⟨n3, ls3, rfl, h4⟩ := fit_bool h3; obtain ⟨n4, ls4, rfl, h5⟩ := fit_bool h4; obtain ⟨n5, ls5, rfl, h6⟩ := fit_bool h5; obtain ⟨n6, ls6, rfl, h7⟩ := fit_str h6; obtain ⟨n7, ls7, rfl, h8⟩ := fit_int h7; obtain rfl := fit_nil h8; rfl, fun _ => rfl, rfl, fun h k hi hk n => by cases hi⟩
theorem good33 : CodGood ctx 33 ent33.c := ⟨fun _ => rfl, fun cs h0 => by obtain ⟨n0, ls0, rfl, h1⟩ := fit_int h0; obtain ⟨n1, ls1, rfl, h2⟩ := fit_str h1; obtain ⟨n2, ls2, rfl, h3⟩ := fit_int h2; obtain ⟨n3, ls3, rfl, h4⟩ := fit_int h3; obtain ⟨n4, ls4, rfl, h5⟩ := fit_int h4; obtain ⟨n5, ls5, rfl, h6⟩ := fit_bool h5; obtain ⟨n6, ls6, rfl, h7⟩ := fit_bool h6; obtain ⟨n7, ls7, rfl, h8⟩ := fit_bool h7; obtain ⟨n8, ls8, rfl, h9⟩ := fit_bool h8; obtain ⟨n9, ls9, rfl, h10⟩ := fit_str h9; obtain ⟨n10, ls10, rfl, h11⟩ := fit_int h10; obtain rfl := fit_nil h11; rfl, fun _ => rfl, rfl, fun h k hi hk n => by cases hi⟩
theorem good40 : CodGood ctx 40 ent40.c := ⟨fun _ => rfl, fun cs h0 => by obtain ⟨n0, ls0, rfl, h1⟩ := fit_bool h0; obtain rfl := fit_nil h1; rfl, fun _ => rfl, rfl, fun h k hi hk n => by cases hi⟩
theorem good45 : CodGood ctx 45 ent45.c := ⟨fun _ => rfl, fun cs h0 => by obtain ⟨n0, ls0, rfl, h1⟩ := fit_sl h0; obtain rfl := fit_nil h1; rfl, fun _ => rfl, rfl, fun h k hi hk n => by cases hi⟩
theorem good46 : CodGood ctx 46 ent46.c := ⟨fun _ => rfl, fun cs h0 => by obtain ⟨n0, ls0, rfl, h1⟩ := fit_sl h0; obtain rfl := fit_nil h1; rfl, fun _ => rfl, rfl, fun h k hi hk n => by cases hi⟩
theorem good48 : CodGood ctx 48 ent48.c := ⟨fun _ => rfl, fun cs h0 => by obtain ⟨n0, ls0, rfl, h1⟩ := fit_str h0; obtain ⟨n1, ls1, rfl, h2⟩ := fit_int h1; obtain ⟨n2, ls2, rfl, h3⟩ := fit_sl h2; obtain ⟨n3, ls3, rfl, h4⟩ := fit_int h3; obtain ⟨n4, ls4, rfl, h5⟩ := fit_str h4; obtain ⟨n5, ls5, rfl, h6⟩ := fit_int h5; obtain rfl := fit_nil h6; rfl, fun _ => rfl, rfl, fun h k hi hk n => by cases hi⟩
theorem good58 : CodGood ctx 58 ent58.c := ⟨fun _ => rfl, fun cs h0 => by obtain ⟨n0, ls0, rfl, h1⟩ := fit_bool h0; obtain rfl := fit_nil h1; rfl, fun _ => rfl, rfl, fun h k hi hk n => by cases hi⟩
theorem good60 : CodGood ctx 60 ent60.c := ⟨fun _ => rfl, fun cs h0 => by obtain ⟨n0, ls0, rfl, h1⟩ := fit_str h0; obtain ⟨n1, ls1, rfl, h2⟩ := fit_int h1; obtain ⟨n2, ls2, rfl, h3⟩ := fit_bool h2; obtain rfl := fit_nil h3; rfl, fun _ => rfl, rfl, fun h k hi hk n => by cases hi⟩
theorem good64 : CodGood ctx 64 ent64.c := codBools_good (C := ctx) (e := 64) (n := 3) (f := fun x => x) (g := fun x => x) (fun _ => rfl) (by kernel_rfl)
theorem good67 : CodGood ctx 67 ent67.c := ⟨fun _ => rfl, fun cs h0 => by obtain ⟨n0, ls0, rfl, h1⟩ := fit_sl h0; obtain rfl := fit_nil h1; rfl, fun _ => rfl, rfl, fun h k hi hk n => by cases hi⟩
theorem good74 : CodGood ctx 74 ent74.c := ⟨fun _ => rfl, fun cs h0 => by obtain ⟨n0, ls0, rfl, h1⟩ := fit_bool h0; obtain rfl := fit_nil h1; rfl, fun _ => rfl, rfl, fun h k hi hk n => by cases hi⟩
theorem good76 : CodGood ctx 76 ent76.c := ⟨fun _ => rfl, fun cs h0 => by obtain ⟨n0, ls0, rfl, h1⟩ := fit_str h0; obtain ⟨n1, ls1, rfl, h2⟩ := fit_int h1; obtain ⟨n2, ls2, rfl, h3⟩ := fit_bool h2; obtain rfl := fit_nil h3; rfl, fun _ => rfl, rfl, fun h k hi hk n => by cases hi⟩
theorem good83 : CodGood ctx 83 ent83.c := ⟨fun _ => rfl, fun cs h0 => by obtain ⟨n0, ls0, rfl, h1⟩ := fit_sl h0; obtain rfl := fit_nil h1; rfl, fun _ => rfl, rfl, fun h k hi hk n => by cases hi⟩
theorem good90 : CodGood ctx 90 ent90.c := ⟨fun _ => rfl, fun cs h0 => by obtain ⟨n0, ls0, rfl, h1⟩ := fit_sl h0; obtain rfl := fit_nil h1; rfl, fun _ => rfl, rfl, fun h k hi hk n => by cases hi⟩
theorem good95 : CodGood ctx 95 ent95.c := ⟨fun _ => rfl, fun cs h0 => by obtain ⟨n0, ls0, rfl, h1⟩ := fit_str h0; obtain ⟨n1, ls1, rfl, h2⟩ := fit_str h1; obtain ⟨n2, ls2, rfl, h3⟩ := fit_int h2; obtain rfl := fit_nil h3; rfl, fun _ => rfl, rfl, fun h k hi hk n => by cases hi⟩
theorem good100 : CodGood ctx 100 ent100.c := ⟨fun _ => rfl, fun cs h0 => by obtain ⟨n0, ls0, rfl, h1⟩ := fit_sl h0; obtain rfl := fit_nil h1; rfl, fun _ => rfl, rfl, fun h k hi hk n => by cases hi⟩
theorem good105 : CodGood ctx 105 ent105.c := ⟨fun _ => rfl, fun cs h0 => by obtain ⟨n0, ls0, rfl, h1⟩ := fit_int h0; obtain rfl := fit_nil h1; rfl, fun _ => rfl, rfl, fun h k hi hk n => by cases hk; rfl⟩
theorem ctxOk : CtxOk ctx Try.prog := mkCtx_ok (by kernel_rfl) (fun x hx => by
  simp only [ents, List.mem_cons, List.not_mem_nil, or_false] at hx
  rcases hx with rfl | rfl | rfl | rfl | rfl | rfl | rfl | rfl | rfl | rfl | rfl | rfl | rfl | rfl | rfl | rfl | rfl | rfl | rfl | rfl | rfl | rfl
  · exact good3
  · exact good4
  · exact good5
  · exact good9
  · exact good22
  · exact good25
  · exact good33
  · exact good40
  · exact good45
  · exact good46
  · exact good48
  · exact good58
  · exact good60
  · exact good64
  · exact good67
  · exact good74
  · exact good76
  · exact good83
  · exact good90
  · exact good95
  · exact good100
  · exact good105)
def cv0 : Cv (List (U (ElOf els))) Unit := (cIso (cCons (uOne cCsl) cNil) (fun p => p.1) (fun s => (s, ())) (fun _ => rfl))
def cv1 : Cv (List (U (ElOf els))) Bool := (cIso (cCons (uOne cBool) cNil) (fun p => p.1) (fun s => (s, ())) (fun _ => rfl))
def cSL01CurF : Cv (List (L (ElOf els))) SL01Cur := cIso (cCons cCsl (cCons (cInt .i64) (cCons (cInt .i64) cNil))) (fun p => ⟨p.1, p.2.1, p.2.2.1⟩) (fun s => (s.fB, s.fI, s.fH, ())) (fun _ => rfl)
def cv2 : Cv (List (U (ElOf els))) SL01Cur := (cIso (cCons (uAgg (cPre cPtr0 cSL01CurF)) cNil) (fun p => p.1) (fun s => (s, ())) (fun _ => rfl))
def cv3 : Cv (List (U (ElOf els))) SL01Cur := (cIso (cCons (uAgg cSL01CurF) cNil) (fun p => p.1) (fun s => (s, ())) (fun _ => rfl))
def cv4 : Cv (List (U (ElOf els))) (Int × SL01Cur) := (cIso (cCons (uOne (cInt .i64)) (cCons (uAgg cSL01CurF) cNil)) (fun p => (p.1, p.2.1)) (fun s => (s.1, s.2, ())) (fun _ => rfl))
def cv5 : Cv (List (U (ElOf els))) (SL01Cur × Int) := (cIso (cCons (uAgg cSL01CurF) (cCons (uOne (cInt .i64)) cNil)) (fun p => (p.1, p.2.1)) (fun s => (s.1, s.2, ())) (fun _ => rfl))
def cv6 : Cv (List (U (ElOf els))) (Bool × SL01Cur) := (cIso (cCons (uOne cBool) (cCons (uAgg cSL01CurF) cNil)) (fun p => (p.1, p.2.1)) (fun s => (s.1, s.2, ())) (fun _ => rfl))
def cv7 : Cv (List (U (ElOf els))) (ByteArray × SL01Cur) := (cIso (cCons (uOne cStr) (cCons (uAgg cSL01CurF) cNil)) (fun p => (p.1, p.2.1)) (fun s => (s.1, s.2, ())) (fun _ => rfl))
def cv8 : Cv (List (U (ElOf els))) (SL01Cur × (List ByteArray)) := (cIso (cCons (uAgg cSL01CurF) (cCons (uOne (cRsl 9)) cNil)) (fun p => (p.1, p.2.1)) (fun s => (s.1, s.2, ())) (fun _ => rfl))
def cv9 : Cv (List (U (ElOf els))) Unit := cNil
def cv10 : Cv (List (U (ElOf els))) (List Int) := (cIso (cCons (uOne (cFsl 105)) cNil) (fun p => p.1) (fun s => (s, ())) (fun _ => rfl))
def cv11 : Cv (List (U (ElOf els))) (List Int) := (cIso (cCons (uOne (cRsl 105)) cNil) (fun p => p.1) (fun s => (s, ())) (fun _ => rfl))
def cv12 : Cv (List (U (ElOf els))) ByteArray := (cIso (cCons (uOne cStr) cNil) (fun p => p.1) (fun s => (s, ())) (fun _ => rfl))
def cSHasher : Cv (List (L (ElOf els))) SHasher := cIso (cCons cStr (cCons cStr (cCons (cInt .i64) cNil))) (fun p => ⟨p.1, p.2.1, p.2.2.1⟩) (fun s => (s.fState, s.fRest, s.fCount, ())) (fun _ => rfl)
def cv13 : Cv (List (U (ElOf els))) SHasher := (cIso (cCons (uAgg cSHasher) cNil) (fun p => p.1) (fun s => (s, ())) (fun _ => rfl))
def cv14 : Cv (List (U (ElOf els))) (Int × Int × Int) := (cIso (cCons (uOne (cInt .i64)) (cCons (uOne (cInt .i64)) (cCons (uOne (cInt .i64)) cNil))) (fun p => (p.1, p.2.1, p.2.2.1)) (fun s => (s.1, s.2.1, s.2.2, ())) (fun _ => rfl))
def cv15 : Cv (List (U (ElOf els))) (ByteArray × Int) := (cIso (cCons (uOne cStr) (cCons (uOne (cInt .i64)) cNil)) (fun p => (p.1, p.2.1)) (fun s => (s.1, s.2, ())) (fun _ => rfl))
def cv16 : Cv (List (U (ElOf els))) Int := (cIso (cCons (uOne (cInt .u32)) cNil) (fun p => p.1) (fun s => (s, ())) (fun _ => rfl))
def cv17 : Cv (List (U (ElOf els))) (Int × Int × Int) := (cIso (cCons (uOne (cInt .u32)) (cCons (uOne (cInt .u32)) (cCons (uOne (cInt .u32)) cNil))) (fun p => (p.1, p.2.1, p.2.2.1)) (fun s => (s.1, s.2.1, s.2.2, ())) (fun _ => rfl))
def cv18 : Cv (List (U (ElOf els))) (Int × Int × Int × Int × Bool) := (cIso (cCons (uOne (cInt .u32)) (cCons (uOne (cInt .u32)) (cCons (uOne (cInt .u32)) (cCons (uOne (cInt .u32)) (cCons (uOne cBool) cNil))))) (fun p => (p.1, p.2.1, p.2.2.1, p.2.2.2.1, p.2.2.2.2.1)) (fun s => (s.1, s.2.1, s.2.2.1, s.2.2.2.1, s.2.2.2.2, ())) (fun _ => rfl))
def cv19 : Cv (List (U (ElOf els))) ((List Int) × (List Int) × ByteArray) := (cIso (cCons (uOne (cRsl 105)) (cCons (uOne (cRsl 105)) (cCons (uOne cStr) cNil))) (fun p => (p.1, p.2.1, p.2.2.1)) (fun s => (s.1, s.2.1, s.2.2, ())) (fun _ => rfl))
def cv20 : Cv (List (U (ElOf els))) (SHasher × ByteArray) := (cIso (cCons (uAgg cSHasher) (cCons (uOne cStr) cNil)) (fun p => (p.1, p.2.1)) (fun s => (s.1, s.2, ())) (fun _ => rfl))
def cSThing : Cv (List (L (ElOf els))) SThing := cIso (cCons (cInt .i64) (cCons (cInt .i64) (cCons cBool (cCons cBool (cCons cBool (cCons cBool (cCons cStr (cCons (cInt .i64) cNil)))))))) (fun p => ⟨p.1, p.2.1, p.2.2.1, p.2.2.2.1, p.2.2.2.2.1, p.2.2.2.2.2.1, p.2.2.2.2.2.2.1, p.2.2.2.2.2.2.2.1⟩) (fun s => (s.fId, s.fKind, s.fHidden, s.fFixed, s.fSigns, s.fWraps, s.fValue, s.fNext, ())) (fun _ => rfl)
def cv21 : Cv (List (U (ElOf els))) (SThing × SL01Cur) := (cIso (cCons (uAgg cSThing) (cCons (uAgg cSL01CurF) cNil)) (fun p => (p.1, p.2.1)) (fun s => (s.1, s.2, ())) (fun _ => rfl))
def cv22 : Cv (List (U (ElOf els))) (SL01Cur × (List Int)) := (cIso (cCons (uAgg cSL01CurF) (cCons (uOne (cRsl 3)) cNil)) (fun p => (p.1, p.2.1)) (fun s => (s.1, s.2, ())) (fun _ => rfl))
def cv23 : Cv (List (U (ElOf els))) (Int × Int) := (cIso (cCons (uOne (cInt .i64)) (cCons (uOne (cInt .u8)) cNil)) (fun p => (p.1, p.2.1)) (fun s => (s.1, s.2, ())) (fun _ => rfl))
def cv24 : Cv (List (U (ElOf els))) (SThing × Bool × Bool) := (cIso (cCons (uAgg cSThing) (cCons (uOne cBool) (cCons (uOne cBool) cNil))) (fun p => (p.1, p.2.1, p.2.2.1)) (fun s => (s.1, s.2.1, s.2.2, ())) (fun _ => rfl))
def cv25 : Cv (List (U (ElOf els))) SThing := (cIso (cCons (uAgg cSThing) cNil) (fun p => p.1) (fun s => (s, ())) (fun _ => rfl))
def cv26 : Cv (List (U (ElOf els))) (SThing × Bool) := (cIso (cCons (uAgg cSThing) (cCons (uOne cBool) cNil)) (fun p => (p.1, p.2.1)) (fun s => (s.1, s.2, ())) (fun _ => rfl))
def cv27 : Cv (List (U (ElOf els))) (SThing × Int) := (cIso (cCons (uAgg cSThing) (cCons (uOne (cInt .i64)) cNil)) (fun p => (p.1, p.2.1)) (fun s => (s.1, s.2, ())) (fun _ => rfl))
def cSBookF : Cv (List (L (ElOf els))) SBook := cIso (cCons cStr (cCons (cInt .i64) (cCons (cFsl 25) (cCons (cInt .i64) (cCons cStr (cCons (cInt .i64) cNil)))))) (fun p => ⟨p.1, p.2.1, p.2.2.1, p.2.2.2.1, p.2.2.2.2.1, p.2.2.2.2.2.1⟩) (fun s => (s.fWord, s.fTries, s.fThings, s.fLast, s.fChain, s.fCount, ())) (fun _ => rfl)
def cv28 : Cv (List (U (ElOf els))) SBook := (cIso (cCons (uAgg cSBookF) cNil) (fun p => p.1) (fun s => (s, ())) (fun _ => rfl))
def cSBook : Cv (List (L (ElOf els))) SBook := cIso (cCons cStr (cCons (cInt .i64) (cCons (cRsl 25) (cCons (cInt .i64) (cCons cStr (cCons (cInt .i64) cNil)))))) (fun p => ⟨p.1, p.2.1, p.2.2.1, p.2.2.2.1, p.2.2.2.2.1, p.2.2.2.2.2.1⟩) (fun s => (s.fWord, s.fTries, s.fThings, s.fLast, s.fChain, s.fCount, ())) (fun _ => rfl)
def cSRec : Cv (List (L (ElOf els))) SRec := cIso (cCons (cInt .i64) (cCons cStr (cCons (cInt .i64) (cCons (cInt .i64) (cCons (cInt .i64) (cCons cBool (cCons cBool (cCons cBool (cCons cBool (cCons cStr (cCons (cInt .i64) cNil))))))))))) (fun p => ⟨p.1, p.2.1, p.2.2.1, ⟨p.2.2.2.1, p.2.2.2.2.1, p.2.2.2.2.2.1, p.2.2.2.2.2.2.1, p.2.2.2.2.2.2.2.1, p.2.2.2.2.2.2.2.2.1, p.2.2.2.2.2.2.2.2.2.1, p.2.2.2.2.2.2.2.2.2.2.1⟩⟩) (fun s => (s.fKind, s.fText, s.fNum, s.fThing.fId, s.fThing.fKind, s.fThing.fHidden, s.fThing.fFixed, s.fThing.fSigns, s.fThing.fWraps, s.fThing.fValue, s.fThing.fNext, ())) (fun _ => rfl)
def cv29 : Cv (List (U (ElOf els))) (SL01Cur × SBook) := (cIso (cCons (uAgg cSL01CurF) (cCons (uAgg cSBook) cNil)) (fun p => (p.1, p.2.1)) (fun s => (s.1, s.2, ())) (fun _ => rfl))
def cv30 : Cv (List (U (ElOf els))) (SRec × SL01Cur) := (cIso (cCons (uAgg cSRec) (cCons (uAgg cSL01CurF) cNil)) (fun p => (p.1, p.2.1)) (fun s => (s.1, s.2, ())) (fun _ => rfl))
def cv31 : Cv (List (U (ElOf els))) Int := (cIso (cCons (uOne (cInt .i64)) cNil) (fun p => p.1) (fun s => (s, ())) (fun _ => rfl))
def cv32 : Cv (List (U (ElOf els))) (Bool × Int) := (cIso (cCons (uOne cBool) (cCons (uOne (cInt .i64)) cNil)) (fun p => (p.1, p.2.1)) (fun s => (s.1, s.2, ())) (fun _ => rfl))
def cv33 : Cv (List (U (ElOf els))) (ByteArray × Bool) := (cIso (cCons (uOne cStr) (cCons (uOne cBool) cNil)) (fun p => (p.1, p.2.1)) (fun s => (s.1, s.2, ())) (fun _ => rfl))
def cv34 : Cv (List (U (ElOf els))) SRec := (cIso (cCons (uAgg cSRec) cNil) (fun p => p.1) (fun s => (s, ())) (fun _ => rfl))
def cv35 : Cv (List (U (ElOf els))) SBook := (cIso (cCons (uAgg cSBook) cNil) (fun p => p.1) (fun s => (s, ())) (fun _ => rfl))
def cv36 : Cv (List (U (ElOf els))) (SBook × Int) := (cIso (cCons (uAgg cSBook) (cCons (uOne (cInt .i64)) cNil)) (fun p => (p.1, p.2.1)) (fun s => (s.1, s.2, ())) (fun _ => rfl))
def cv37 : Cv (List (U (ElOf els))) (SThing × SThing) := (cIso (cCons (uAgg cSThing) (cCons (uAgg cSThing) cNil)) (fun p => (p.1, p.2.1)) (fun s => (s.1, s.2, ())) (fun _ => rfl))
def cv38 : Cv (List (U (ElOf els))) ((List SThing) × SThing) := (cIso (cCons (uOne (cRsl 25)) (cCons (uAgg cSThing) cNil)) (fun p => (p.1, p.2.1)) (fun s => (s.1, s.2, ())) (fun _ => rfl))
def cv39 : Cv (List (U (ElOf els))) (List SThing) := (cIso (cCons (uOne (cFsl 25)) cNil) (fun p => p.1) (fun s => (s, ())) (fun _ => rfl))
def cv40 : Cv (List (U (ElOf els))) (SBook × SRec) := (cIso (cCons (uAgg cSBook) (cCons (uAgg cSRec) cNil)) (fun p => (p.1, p.2.1)) (fun s => (s.1, s.2, ())) (fun _ => rfl))
def cv41 : Cv (List (U (ElOf els))) (SBook × Bool) := (cIso (cCons (uAgg cSBookF) (cCons (uOne cBool) cNil)) (fun p => (p.1, p.2.1)) (fun s => (s.1, s.2, ())) (fun _ => rfl))
def cv42 : Cv (List (U (ElOf els))) ((List SRec) × SBook × SL01Cur) := (cIso (cCons (uOne (cFsl 33)) (cCons (uAgg cSBookF) (cCons (uAgg cSL01CurF) cNil))) (fun p => (p.1, p.2.1, p.2.2.1)) (fun s => (s.1, s.2.1, s.2.2, ())) (fun _ => rfl))
def cv43 : Cv (List (U (ElOf els))) (Int × Int × Bool) := (cIso (cCons (uOne (cInt .i64)) (cCons (uOne (cInt .i64)) (cCons (uOne cBool) cNil))) (fun p => (p.1, p.2.1, p.2.2.1)) (fun s => (s.1, s.2.1, s.2.2, ())) (fun _ => rfl))
def cSFields : Cv (List (L (ElOf els))) SFields := cIso (cCons cStr (cCons (cInt .i64) (cCons cBool cNil))) (fun p => ⟨p.1, p.2.1, p.2.2.1⟩) (fun s => (s.fText, s.fAt, s.fBad, ())) (fun _ => rfl)
def cv44 : Cv (List (U (ElOf els))) SFields := (cIso (cCons (uAgg cSFields) cNil) (fun p => p.1) (fun s => (s, ())) (fun _ => rfl))
def cv45 : Cv (List (U (ElOf els))) (Int × SFields) := (cIso (cCons (uOne (cInt .i64)) (cCons (uAgg cSFields) cNil)) (fun p => (p.1, p.2.1)) (fun s => (s.1, s.2, ())) (fun _ => rfl))
def cv46 : Cv (List (U (ElOf els))) (ByteArray × Int × Bool) := (cIso (cCons (uOne cStr) (cCons (uOne (cInt .i64)) (cCons (uOne cBool) cNil))) (fun p => (p.1, p.2.1, p.2.2.1)) (fun s => (s.1, s.2.1, s.2.2, ())) (fun _ => rfl))
def cv47 : Cv (List (U (ElOf els))) (ByteArray × SFields) := (cIso (cCons (uOne cStr) (cCons (uAgg cSFields) cNil)) (fun p => (p.1, p.2.1)) (fun s => (s.1, s.2, ())) (fun _ => rfl))
def cv48 : Cv (List (U (ElOf els))) (SRec × Bool) := (cIso (cCons (uAgg cSRec) (cCons (uOne cBool) cNil)) (fun p => (p.1, p.2.1)) (fun s => (s.1, s.2, ())) (fun _ => rfl))
def cv49 : Cv (List (U (ElOf els))) (SL01Cur × ByteArray) := (cIso (cCons (uAgg cSL01CurF) (cCons (uOne cStr) cNil)) (fun p => (p.1, p.2.1)) (fun s => (s.1, s.2, ())) (fun _ => rfl))
def cSL19Cur : Cv (List (L (ElOf els))) SL19Cur := cIso (cCons cStr (cCons (cInt .i64) (cCons cBool cNil))) (fun p => ⟨p.1, p.2.1, p.2.2.1⟩) (fun s => (s.fText, s.fAt, s.fBad, ())) (fun _ => rfl)
def cv50 : Cv (List (U (ElOf els))) (SL19Cur × Int) := (cIso (cCons (uAgg cSL19Cur) (cCons (uOne (cInt .i64)) cNil)) (fun p => (p.1, p.2.1)) (fun s => (s.1, s.2, ())) (fun _ => rfl))
def cv51 : Cv (List (U (ElOf els))) (ByteArray × SL19Cur) := (cIso (cCons (uOne cStr) (cCons (uAgg cSL19Cur) cNil)) (fun p => (p.1, p.2.1)) (fun s => (s.1, s.2, ())) (fun _ => rfl))
def cv52 : Cv (List (U (ElOf els))) SL19Cur := (cIso (cCons (uAgg cSL19Cur) cNil) (fun p => p.1) (fun s => (s, ())) (fun _ => rfl))
def cv53 : Cv (List (U (ElOf els))) (Int × SL19Cur) := (cIso (cCons (uOne (cInt .i64)) (cCons (uAgg cSL19Cur) cNil)) (fun p => (p.1, p.2.1)) (fun s => (s.1, s.2, ())) (fun _ => rfl))
end Go.Proofs.Ytjfkbidckphneaa.G
