/- The seat's tables: its types, what an element of each is, and what its functions do with what they are given. -/
import Derived.Test.YtjfkbidckphneaaDoorSnd38
import Derived.Test.YtjfkbidckphneaaDoorArr
import Derived.Test.YtjfkbidckphneaaDoorProg
import Derived.KernelRfl
namespace Go.Proofs.YtjfkbidckphneaaDoor.G
open Go Go.Ev
structure SThing where
  fId : Int
  fKind : Int
  fHidden : Bool
  fFixed : Bool
  fSigns : Bool
  fWraps : Bool
  fValue : ByteArray
  fNext : Int
structure SBook where
  fWord : ByteArray
  fTries : Int
  fThings : (List SThing)
  fLast : Int
  fChain : ByteArray
  fCount : Int
structure SRec where
  fKind : Int
  fText : ByteArray
  fNum : Int
  fThing : SThing
structure SL01Cur where
  fB : Unit
  fI : Int
  fH : Int
structure SHasher where
  fState : ByteArray
  fRest : ByteArray
  fCount : Int
def els : List (Nat × TyE) := [(3, ⟨Int, 0⟩), (4, ⟨Bool, false⟩), (5, ⟨Int, 0⟩), (9, ⟨ByteArray, ⟨#[]⟩⟩), (22, ⟨(List Int), []⟩), (27, ⟨SThing, ⟨0, 0, false, false, false, false, ⟨#[]⟩, 0⟩⟩), (43, ⟨(List SThing), []⟩), (45, ⟨SBook, ⟨⟨#[]⟩, 0, [], 0, ⟨#[]⟩, 0⟩⟩), (47, ⟨SRec, ⟨0, ⟨#[]⟩, 0, ⟨0, 0, false, false, false, false, ⟨#[]⟩, 0⟩⟩⟩), (55, ⟨(List SRec), []⟩), (59, ⟨(List Int), []⟩), (70, ⟨Bool, false⟩), (99, ⟨(List ByteArray), []⟩), (112, ⟨Bools 3, boolsZ 3⟩), (114, ⟨Int, 0⟩), (115, ⟨Bools 8, boolsZ 8⟩), (122, ⟨SHasher, ⟨⟨#[]⟩, ⟨#[]⟩, 0⟩⟩), (127, ⟨Bool, false⟩), (128, ⟨Int, 0⟩), (143, ⟨(List Int), []⟩), (158, ⟨Bools 64, boolsZ 64⟩), (163, ⟨(List Bool), []⟩)]
def tis : List (Nat × TI) := [(3, ⟨1, 8, .int .i64⟩), (4, ⟨1, 1, .bool⟩), (5, ⟨1, 1, .int .u8⟩), (9, ⟨1, 16, .str⟩), (22, ⟨1, 24, .sl 5⟩), (27, ⟨8, 48, .st [(3, 0), (3, 1), (4, 2), (4, 3), (4, 4), (4, 5), (9, 6), (3, 7)]⟩), (43, ⟨1, 24, .sl 27⟩), (45, ⟨6, 80, .st [(9, 0), (3, 1), (43, 2), (3, 3), (9, 4), (3, 5)]⟩), (47, ⟨11, 80, .st [(3, 0), (9, 1), (3, 2), (27, 3)]⟩), (55, ⟨1, 24, .sl 47⟩), (59, ⟨1, 24, .sl 3⟩), (70, ⟨1, 8, .ptr 112⟩), (99, ⟨1, 24, .sl 9⟩), (112, ⟨3, 40, .st [(22, 0), (3, 1), (3, 2)]⟩), (114, ⟨1, 4, .int .u32⟩), (115, ⟨8, 32, .arr 8 114⟩), (122, ⟨3, 40, .st [(9, 0), (9, 1), (3, 2)]⟩), (127, ⟨1, 8, .ptr 45⟩), (128, ⟨1, 8, .int .u64⟩), (143, ⟨1, 24, .sl 114⟩), (158, ⟨64, 256, .arr 64 114⟩), (163, ⟨1, 24, .sl 4⟩)]
def ent3 : Ent (ElOf els) := ⟨3, { sh := [.int .i64], enc := fun (x : Int) => [.int .i64 x], dec := fun cs => (cs.getD 0 .junk).toInt, z := (0 : Int), int? := some ⟨rfl⟩ }⟩
def ent4 : Ent (ElOf els) := ⟨4, { sh := [.bool], enc := fun (x : Bool) => [.bool x], dec := fun cs => (cs.getD 0 .junk).toBool, z := false, int? := none }⟩
def ent5 : Ent (ElOf els) := ⟨5, { sh := [.int .u8], enc := fun (x : Int) => [.int .u8 x], dec := fun cs => (cs.getD 0 .junk).toInt, z := (0 : Int), int? := some ⟨rfl⟩ }⟩
def ent9 : Ent (ElOf els) := ⟨9, { sh := [.str], enc := fun (x : ByteArray) => [.str x], dec := fun cs => (cs.getD 0 .junk).toStr, z := (⟨#[]⟩ : ByteArray), int? := none }⟩
def ent22 : Ent (ElOf els) := ⟨22, { sh := [.sl 5], enc := fun (x : (List Int)) => [.rsl 5 x], dec := fun cs => (L.toSl 5 (cs.getD 0 .junk)), z := [], int? := none }⟩
def ent27 : Ent (ElOf els) := ⟨27, { sh := [.int .i64, .int .i64, .bool, .bool, .bool, .bool, .str, .int .i64], enc := fun (x : SThing) => [.int .i64 x.fId, .int .i64 x.fKind, .bool x.fHidden, .bool x.fFixed, .bool x.fSigns, .bool x.fWraps, .str x.fValue, .int .i64 x.fNext], dec := fun cs => ⟨(cs.getD 0 .junk).toInt, (cs.getD 1 .junk).toInt, (cs.getD 2 .junk).toBool, (cs.getD 3 .junk).toBool, (cs.getD 4 .junk).toBool, (cs.getD 5 .junk).toBool, (cs.getD 6 .junk).toStr, (cs.getD 7 .junk).toInt⟩, z := (⟨0, 0, false, false, false, false, ⟨#[]⟩, 0⟩ : SThing), int? := none }⟩
def ent43 : Ent (ElOf els) := ⟨43, { sh := [.sl 27], enc := fun (x : (List SThing)) => [.rsl 27 x], dec := fun cs => (L.toSl 27 (cs.getD 0 .junk)), z := [], int? := none }⟩
def ent45 : Ent (ElOf els) := ⟨45, { sh := [.str, .int .i64, .sl 27, .int .i64, .str, .int .i64], enc := fun (x : SBook) => [.str x.fWord, .int .i64 x.fTries, .rsl 27 x.fThings, .int .i64 x.fLast, .str x.fChain, .int .i64 x.fCount], dec := fun cs => ⟨(cs.getD 0 .junk).toStr, (cs.getD 1 .junk).toInt, (L.toSl 27 (cs.getD 2 .junk)), (cs.getD 3 .junk).toInt, (cs.getD 4 .junk).toStr, (cs.getD 5 .junk).toInt⟩, z := (⟨⟨#[]⟩, 0, [], 0, ⟨#[]⟩, 0⟩ : SBook), int? := none }⟩
def ent47 : Ent (ElOf els) := ⟨47, { sh := [.int .i64, .str, .int .i64, .int .i64, .int .i64, .bool, .bool, .bool, .bool, .str, .int .i64], enc := fun (x : SRec) => [.int .i64 x.fKind, .str x.fText, .int .i64 x.fNum, .int .i64 x.fThing.fId, .int .i64 x.fThing.fKind, .bool x.fThing.fHidden, .bool x.fThing.fFixed, .bool x.fThing.fSigns, .bool x.fThing.fWraps, .str x.fThing.fValue, .int .i64 x.fThing.fNext], dec := fun cs => ⟨(cs.getD 0 .junk).toInt, (cs.getD 1 .junk).toStr, (cs.getD 2 .junk).toInt, ⟨(cs.getD 3 .junk).toInt, (cs.getD 4 .junk).toInt, (cs.getD 5 .junk).toBool, (cs.getD 6 .junk).toBool, (cs.getD 7 .junk).toBool, (cs.getD 8 .junk).toBool, (cs.getD 9 .junk).toStr, (cs.getD 10 .junk).toInt⟩⟩, z := (⟨0, ⟨#[]⟩, 0, ⟨0, 0, false, false, false, false, ⟨#[]⟩, 0⟩⟩ : SRec), int? := none }⟩
def ent55 : Ent (ElOf els) := ⟨55, { sh := [.sl 47], enc := fun (x : (List SRec)) => [.rsl 47 x], dec := fun cs => (L.toSl 47 (cs.getD 0 .junk)), z := [], int? := none }⟩
def ent59 : Ent (ElOf els) := ⟨59, { sh := [.sl 3], enc := fun (x : (List Int)) => [.rsl 3 x], dec := fun cs => (L.toSl 3 (cs.getD 0 .junk)), z := [], int? := none }⟩
def ent70 : Ent (ElOf els) := ⟨70, { sh := [.bool], enc := fun (x : Bool) => [.bool x], dec := fun cs => (cs.getD 0 .junk).toBool, z := false, int? := none }⟩
def ent99 : Ent (ElOf els) := ⟨99, { sh := [.sl 9], enc := fun (x : (List ByteArray)) => [.rsl 9 x], dec := fun cs => (L.toSl 9 (cs.getD 0 .junk)), z := [], int? := none }⟩
def ent112 : Ent (ElOf els) := ⟨112, codBools 3 (fun x => x) (fun x => x)⟩
def ent114 : Ent (ElOf els) := ⟨114, { sh := [.int .u32], enc := fun (x : Int) => [.int .u32 x], dec := fun cs => (cs.getD 0 .junk).toInt, z := (0 : Int), int? := some ⟨rfl⟩ }⟩
def ent115 : Ent (ElOf els) := ⟨115, codBools 8 (fun x => x) (fun x => x)⟩
def ent122 : Ent (ElOf els) := ⟨122, { sh := [.str, .str, .int .i64], enc := fun (x : SHasher) => [.str x.fState, .str x.fRest, .int .i64 x.fCount], dec := fun cs => ⟨(cs.getD 0 .junk).toStr, (cs.getD 1 .junk).toStr, (cs.getD 2 .junk).toInt⟩, z := (⟨⟨#[]⟩, ⟨#[]⟩, 0⟩ : SHasher), int? := none }⟩
def ent127 : Ent (ElOf els) := ⟨127, { sh := [.bool], enc := fun (x : Bool) => [.bool x], dec := fun cs => (cs.getD 0 .junk).toBool, z := false, int? := none }⟩
def ent128 : Ent (ElOf els) := ⟨128, { sh := [.int .u64], enc := fun (x : Int) => [.int .u64 x], dec := fun cs => (cs.getD 0 .junk).toInt, z := (0 : Int), int? := some ⟨rfl⟩ }⟩
def ent143 : Ent (ElOf els) := ⟨143, { sh := [.sl 114], enc := fun (x : (List Int)) => [.rsl 114 x], dec := fun cs => (L.toSl 114 (cs.getD 0 .junk)), z := [], int? := none }⟩
def ent158 : Ent (ElOf els) := ⟨158, codBools 64 (fun x => x) (fun x => x)⟩
def ent163 : Ent (ElOf els) := ⟨163, { sh := [.sl 4], enc := fun (x : (List Bool)) => [.rsl 4 x], dec := fun cs => (L.toSl 4 (cs.getD 0 .junk)), z := [], int? := none }⟩
def ents : List (Ent (ElOf els)) := [ent3, ent4, ent5, ent9, ent22, ent27, ent43, ent45, ent47, ent55, ent59, ent70, ent99, ent112, ent114, ent115, ent122, ent127, ent128, ent143, ent158, ent163]
def modes : List (Nat × List Mode') := []
def cuts : List (Nat × List (Nat × (List Nat × List Nat × List (Nat × Nat) × List (Nat × Nat × Nat)))) := [(53, [(3, ([0, 3, 4], [], [(0, 5)], []))]),
  (56, [(3, ([0, 1, 5, 6], [], [(5, 5)], []))]),
  (58, [(5, ([0, 1, 5, 6], [0], [(5, 5)], [(0, 0, 5)]))]),
  (153, [(3, ([0, 2, 3, 11], [128, 192], [], [])), (6, ([0, 2, 3, 4, 11, 14], [128, 192], [], [])), (12, ([2, 3, 6], [128, 192], [], []))]),
  (132, [(4, ([2, 4, 5, 6, 7, 8, 9, 10, 11, 12, 13, 37], [128, 256, 320], [], [])), (13, ([2, 4, 17, 109], [128, 256, 1088], [], []))]),
  (106, [(1, ([1, 2, 4], [128, 256], [], []))]),
  (109, [(3, ([3, 6, 7], [], [], []))]),
  (139, [(3, ([0, 3, 4], [], [(0, 114), (3, 5)], []))]),
  (136, [(3, ([0, 3, 4], [], [(3, 114)], []))]),
  (138, [(3, ([0, 1, 7, 8], [], [(0, 114), (1, 114), (7, 114)], [])), (8, ([0, 1, 7, 9, 10], [], [(0, 114), (1, 114), (7, 114), (9, 114)], [])), (16, ([0, 1, 7, 9, 10, 13, 15, 16], [], [(0, 114), (1, 114), (7, 114), (9, 114)], [])), (23, ([0, 9, 17, 18], [], [(0, 114), (9, 114), (17, 114)], []))]),
  (111, [(7, ([1, 2, 4, 5, 6, 7, 8], [128, 256], [(5, 114), (6, 114)], []))]),
  (110, [(5, ([1, 3], [64], [(3, 5)], [])), (9, ([1, 3, 4, 5], [64], [(3, 5)], [])), (13, ([1, 3, 4, 5, 6, 7], [64], [(3, 5)], [])), (20, ([3, 8, 9, 10], [], [(3, 5), (8, 114), (9, 114)], []))]),
  (114, [(2, ([0, 3], [], [(3, 5)], []))]),
  (117, [(3, ([1, 5, 10, 11], [], [(5, 5)], []))]),
  (24, [(6, ([0, 2, 8, 10, 11], [], [], []))]),
  (66, [(3, ([1, 5, 10, 11], [], [(5, 5)], []))]),
  (78, [(2, ([0, 3], [], [(3, 5)], []))]),
  (141, [(5, ([0, 1, 5, 6], [], [(5, 5)], []))]),
  (68, [(5, ([0, 1, 2, 8, 9], [], [(8, 5)], []))]),
  (69, [(3, ([1, 5, 6], [], [(5, 5)], []))]),
  (118, [(5, ([0, 1, 7, 8], [], [], []))]),
  (29, [(4, ([0, 6], [], [(6, 5)], []))]),
  (79, [(6, ([0, 1, 7, 8, 9], [], [], []))]),
  (37, [(4, ([1, 3], [64], [], [(64, 2, 27)]))]),
  (88, [(2, ([1, 2, 4, 6], [128, 256], [], [(128, 2, 27)]))]),
  (90, [(3, ([0, 3, 5, 6], [192], [(0, 27), (5, 27)], [])), (9, ([0, 3, 5, 7], [192], [(0, 27), (5, 27)], []))]),
  (34, [(24, ([2, 3, 4, 6, 8, 13, 14], [128, 192, 256, 512], [(13, 27)], [(128, 2, 27), (256, 2, 27), (512, 2, 27)]))]),
  (91, [(4, ([0, 3, 4, 5, 6], [0, 192, 256], [(5, 47)], [(0, 0, 5), (192, 2, 27), (256, 2, 27)]))]),
  (142, [(3, ([3, 14, 15, 16], [], [(14, 4)], []))]),
  (36, [(2, ([1, 6, 7, 8], [64], [(6, 27)], [(64, 2, 27)]))]),
  (85, [(2, ([1, 8, 9, 10], [], [(8, 27)], []))]),
  (35, [(4, ([2, 3, 5], [128, 192], [], [(128, 2, 27), (192, 2, 27)]))]),
  (6, [(11, ([3, 4, 5, 9], [192, 256, 320], [], [(192, 2, 27), (320, 2, 27)]))]),
  (40, [(3, ([4, 6, 13, 14, 15], [256, 384], [(13, 47)], [(256, 2, 27), (384, 2, 27)]))]),
  (42, [(3, ([1, 4, 6, 7], [256, 384], [(1, 47)], [(256, 2, 27), (384, 2, 27)]))]),
  (44, [(5, ([3, 4, 5], [448], [(4, 3)], [(448, 0, 5)]))])]
def tabs : List (Nat × (Nat × List Int)) := [(0, (158, [1116352408, 1899447441, 3049323471, 3921009573, 961987163, 1508970993, 2453635748, 2870763221, 3624381080, 310598401, 607225278, 1426881987, 1925078388, 2162078206, 2614888103, 3248222580, 3835390401, 4022224774, 264347078, 604807628, 770255983, 1249150122, 1555081692, 1996064986, 2554220882, 2821834349, 2952996808, 3210313671, 3336571891, 3584528711, 113926993, 338241895, 666307205, 773529912, 1294757372, 1396182291, 1695183700, 1986661051, 2177026350, 2456956037, 2730485921, 2820302411, 3259730800, 3345764771, 3516065817, 3600352804, 4094571909, 275423344, 430227734, 506948616, 659060556, 883997877, 958139571, 1322822218, 1537002063, 1747873779, 1955562222, 2024104815, 2227730452, 2361852424, 2428436474, 2756734187, 3204031479, 3329325298]))]
set_option linter.unusedSectionVars false
variable [PC]
def ctx : Ctx := mkCtx els tis ents modes cuts tabs PC.pm
noncomputable abbrev PP : Program := Tryd.prog
abbrev LI := List Go.Item × Env ctx × Hp ctx
theorem good3 : CodGood ctx 3 ent3.c := ⟨fun _ => rfl, fun cs h0 => by obtain ⟨n0, ls0, rfl, h1⟩ := fit_int h0; obtain rfl := fit_nil h1; rfl, fun _ => rfl, rfl, fun h k hi hk n => by cases hk; rfl⟩
theorem good4 : CodGood ctx 4 ent4.c := ⟨fun _ => rfl, fun cs h0 => by obtain ⟨n0, ls0, rfl, h1⟩ := fit_bool h0; obtain rfl := fit_nil h1; rfl, fun _ => rfl, rfl, fun h k hi hk n => by cases hi⟩
theorem good5 : CodGood ctx 5 ent5.c := ⟨fun _ => rfl, fun cs h0 => by obtain ⟨n0, ls0, rfl, h1⟩ := fit_int h0; obtain rfl := fit_nil h1; rfl, fun _ => rfl, rfl, fun h k hi hk n => by cases hk; rfl⟩
theorem good9 : CodGood ctx 9 ent9.c := ⟨fun _ => rfl, fun cs h0 => by obtain ⟨n0, ls0, rfl, h1⟩ := fit_str h0; obtain rfl := fit_nil h1; rfl, fun _ => rfl, rfl, fun h k hi hk n => by cases hi⟩
theorem good22 : CodGood ctx 22 ent22.c := ⟨fun _ => rfl, fun cs h0 => by obtain ⟨n0, ls0, rfl, h1⟩ := fit_sl h0; obtain rfl := fit_nil h1; rfl, fun _ => rfl, rfl, fun h k hi hk n => by cases hi⟩
theorem good27 : CodGood ctx 27 ent27.c := ⟨fun _ => rfl, fun cs h0 => by obtain ⟨n0, ls0, rfl, h1⟩ := fit_int h0; obtain ⟨n1, ls1, rfl, h2⟩ := fit_int h1; obtain ⟨n2, ls2, rfl, h3⟩ := fit_bool h2; obtain ⟨n3, ls3, rfl, h4⟩ := fit_bool h3; obtain ⟨n4, ls4, rfl, h5⟩ := fit_bool h4; obtain ⟨n5, ls5, rfl, h6⟩ := fit_bool h5; obtain ⟨n6, ls6, rfl, h7⟩ := fit_str h6; obtain ⟨n7, ls7, rfl, h8⟩ := fit_int h7; obtain rfl := fit_nil h8; rfl, fun _ => rfl, rfl, fun h k hi hk n => by cases hi⟩
theorem good43 : CodGood ctx 43 ent43.c := ⟨fun _ => rfl, fun cs h0 => by obtain ⟨n0, ls0, rfl, h1⟩ := fit_sl h0; obtain rfl := fit_nil h1; rfl, fun _ => rfl, rfl, fun h k hi hk n => by cases hi⟩
theorem good45 : CodGood ctx 45 ent45.c := ⟨fun _ => rfl, fun cs h0 => by obtain ⟨n0, ls0, rfl, h1⟩ := fit_str h0; obtain ⟨n1, ls1, rfl, h2⟩ := fit_int h1; obtain ⟨n2, ls2, rfl, h3⟩ := fit_sl h2; obtain ⟨n3, ls3, rfl, h4⟩ := fit_int h3; obtain ⟨n4, ls4, rfl, h5⟩ := fit_str h4; obtain ⟨n5, ls5, rfl, h6⟩ := fit_int h5; obtain rfl := fit_nil h6; rfl, fun _ => rfl, rfl, fun h k hi hk n => by cases hi⟩
theorem good47 : CodGood ctx 47 ent47.c := ⟨fun _ => rfl, fun cs h0 => by obtain ⟨n0, ls0, rfl, h1⟩ := fit_int h0; obtain ⟨n1, ls1, rfl, h2⟩ := fit_str h1; obtain ⟨n2, ls2, rfl, h3⟩ := fit_int h2; obtain ⟨n3, ls3, rfl, h4⟩ := fit_int h3; obtain ⟨n4, ls4, rfl, h5⟩ := fit_int h4; obtain ⟨n5, ls5, rfl, h6⟩ := fit_bool h5; obtain ⟨n6, ls6, rfl, h7⟩ := fit_bool h6; obtain ⟨n7, ls7, rfl, h8⟩ := fit_bool h7; obtain ⟨n8, ls8, rfl, h9⟩ := fit_bool h8; obtain ⟨n9, ls9, rfl, h10⟩ := fit_str h9; obtain ⟨n10, ls10, rfl, h11⟩ := fit_int h10; obtain rfl := fit_nil h11; rfl, fun _ => rfl, rfl, fun h k hi hk n => by cases hi⟩
theorem good55 : CodGood ctx 55 ent55.c := ⟨fun _ => rfl, fun cs h0 => by obtain ⟨n0, ls0, rfl, h1⟩ := fit_sl h0; obtain rfl := fit_nil h1; rfl, fun _ => rfl, rfl, fun h k hi hk n => by cases hi⟩
theorem good59 : CodGood ctx 59 ent59.c := ⟨fun _ => rfl, fun cs h0 => by obtain ⟨n0, ls0, rfl, h1⟩ := fit_sl h0; obtain rfl := fit_nil h1; rfl, fun _ => rfl, rfl, fun h k hi hk n => by cases hi⟩
theorem good70 : CodGood ctx 70 ent70.c := ⟨fun _ => rfl, fun cs h0 => by obtain ⟨n0, ls0, rfl, h1⟩ := fit_bool h0; obtain rfl := fit_nil h1; rfl, fun _ => rfl, rfl, fun h k hi hk n => by cases hi⟩
theorem good99 : CodGood ctx 99 ent99.c := ⟨fun _ => rfl, fun cs h0 => by obtain ⟨n0, ls0, rfl, h1⟩ := fit_sl h0; obtain rfl := fit_nil h1; rfl, fun _ => rfl, rfl, fun h k hi hk n => by cases hi⟩
theorem good112 : CodGood ctx 112 ent112.c := codBools_good (C := ctx) (e := 112) (n := 3) (f := fun x => x) (g := fun x => x) (fun _ => rfl) (by kernel_rfl)
theorem good114 : CodGood ctx 114 ent114.c := ⟨fun _ => rfl, fun cs h0 => by obtain ⟨n0, ls0, rfl, h1⟩ := fit_int h0; obtain rfl := fit_nil h1; rfl, fun _ => rfl, rfl, fun h k hi hk n => by cases hk; rfl⟩
theorem good115 : CodGood ctx 115 ent115.c := codBools_good (C := ctx) (e := 115) (n := 8) (f := fun x => x) (g := fun x => x) (fun _ => rfl) (by kernel_rfl)
theorem good122 : CodGood ctx 122 ent122.c := ⟨fun _ => rfl, fun cs h0 => by obtain ⟨n0, ls0, rfl, h1⟩ := fit_str h0; obtain ⟨n1, ls1, rfl, h2⟩ := fit_str h1; obtain ⟨n2, ls2, rfl, h3⟩ := fit_int h2; obtain rfl := fit_nil h3; rfl, fun _ => rfl, rfl, fun h k hi hk n => by cases hi⟩
theorem good127 : CodGood ctx 127 ent127.c := ⟨fun _ => rfl, fun cs h0 => by obtain ⟨n0, ls0, rfl, h1⟩ := fit_bool h0; obtain rfl := fit_nil h1; rfl, fun _ => rfl, rfl, fun h k hi hk n => by cases hi⟩
theorem good128 : CodGood ctx 128 ent128.c := ⟨fun _ => rfl, fun cs h0 => by obtain ⟨n0, ls0, rfl, h1⟩ := fit_int h0; obtain rfl := fit_nil h1; rfl, fun _ => rfl, rfl, fun h k hi hk n => by cases hk; rfl⟩
theorem good143 : CodGood ctx 143 ent143.c := ⟨fun _ => rfl, fun cs h0 => by obtain ⟨n0, ls0, rfl, h1⟩ := fit_sl h0; obtain rfl := fit_nil h1; rfl, fun _ => rfl, rfl, fun h k hi hk n => by cases hi⟩
theorem good158 : CodGood ctx 158 ent158.c := codBools_good (C := ctx) (e := 158) (n := 64) (f := fun x => x) (g := fun x => x) (fun _ => rfl) (by kernel_rfl)
theorem good163 : CodGood ctx 163 ent163.c := ⟨fun _ => rfl, fun cs h0 => by obtain ⟨n0, ls0, rfl, h1⟩ := fit_sl h0; obtain rfl := fit_nil h1; rfl, fun _ => rfl, rfl, fun h k hi hk n => by cases hi⟩
theorem ctxOk : CtxOk ctx Tryd.prog := mkCtx_ok (by kernel_rfl) (fun x hx => by
  simp only [ents, List.mem_cons, List.not_mem_nil, or_false] at hx
  rcases hx with rfl | rfl | rfl | rfl | rfl | rfl | rfl | rfl | rfl | rfl | rfl | rfl | rfl | rfl | rfl | rfl | rfl | rfl | rfl | rfl | rfl | rfl
  · exact good3
  · exact good4
  · exact good5
  · exact good9
  · exact good22
  · exact good27
  · exact good43
  · exact good45
  · exact good47
  · exact good55
  · exact good59
  · exact good70
  · exact good99
  · exact good112
  · exact good114
  · exact good115
  · exact good122
  · exact good127
  · exact good128
  · exact good143
  · exact good158
  · exact good163)
def cv0 : Cv (List (U (ElOf els))) Unit := (cIso (cCons (uOne cCsl) cNil) (fun p => p.1) (fun s => (s, ())) (fun _ => rfl))
def cv1 : Cv (List (U (ElOf els))) Bool := (cIso (cCons (uOne cBool) cNil) (fun p => p.1) (fun s => (s, ())) (fun _ => rfl))
def cSL01CurF : Cv (List (L (ElOf els))) SL01Cur := cIso (cCons cCsl (cCons (cInt .i64) (cCons (cInt .i64) cNil))) (fun p => ⟨p.1, p.2.1, p.2.2.1⟩) (fun s => (s.fB, s.fI, s.fH, ())) (fun _ => rfl)
def cv2 : Cv (List (U (ElOf els))) SL01Cur := (cIso (cCons (uAgg (cPre cPtr0 cSL01CurF)) cNil) (fun p => p.1) (fun s => (s, ())) (fun _ => rfl))
def cv3 : Cv (List (U (ElOf els))) SL01Cur := (cIso (cCons (uAgg cSL01CurF) cNil) (fun p => p.1) (fun s => (s, ())) (fun _ => rfl))
def cv4 : Cv (List (U (ElOf els))) (Int × SL01Cur) := (cIso (cCons (uOne (cInt .i64)) (cCons (uAgg cSL01CurF) cNil)) (fun p => (p.1, p.2.1)) (fun s => (s.1, s.2, ())) (fun _ => rfl))
def cv5 : Cv (List (U (ElOf els))) (SL01Cur × Int) := (cIso (cCons (uAgg cSL01CurF) (cCons (uOne (cInt .i64)) cNil)) (fun p => (p.1, p.2.1)) (fun s => (s.1, s.2, ())) (fun _ => rfl))
def cv6 : Cv (List (U (ElOf els))) (Bool × SL01Cur) := (cIso (cCons (uOne cBool) (cCons (uAgg cSL01CurF) cNil)) (fun p => (p.1, p.2.1)) (fun s => (s.1, s.2, ())) (fun _ => rfl))
def cv7 : Cv (List (U (ElOf els))) (SL01Cur × (List Int)) := (cIso (cCons (uAgg cSL01CurF) (cCons (uOne (cRsl 3)) cNil)) (fun p => (p.1, p.2.1)) (fun s => (s.1, s.2, ())) (fun _ => rfl))
def cv8 : Cv (List (U (ElOf els))) (Int × Int) := (cIso (cCons (uOne (cInt .i64)) (cCons (uOne (cInt .u8)) cNil)) (fun p => (p.1, p.2.1)) (fun s => (s.1, s.2, ())) (fun _ => rfl))
def cv9 : Cv (List (U (ElOf els))) ByteArray := (cIso (cCons (uOne cStr) cNil) (fun p => p.1) (fun s => (s, ())) (fun _ => rfl))
def cv10 : Cv (List (U (ElOf els))) (ByteArray × SL01Cur) := (cIso (cCons (uOne cStr) (cCons (uAgg cSL01CurF) cNil)) (fun p => (p.1, p.2.1)) (fun s => (s.1, s.2, ())) (fun _ => rfl))
def cv11 : Cv (List (U (ElOf els))) (Int × ByteArray) := (cIso (cCons (uOne (cInt .i64)) (cCons (uOne cStr) cNil)) (fun p => (p.1, p.2.1)) (fun s => (s.1, s.2, ())) (fun _ => rfl))
def cv12 : Cv (List (U (ElOf els))) Unit := cNil
def cv13 : Cv (List (U (ElOf els))) (List Int) := (cIso (cCons (uArr 114) cNil) (fun p => p.1) (fun s => (s, ())) (fun _ => rfl))
def cv14 : Cv (List (U (ElOf els))) Int := (cIso (cCons (uOne (cInt .i64)) cNil) (fun p => p.1) (fun s => (s, ())) (fun _ => rfl))
def cv15 : Cv (List (U (ElOf els))) Int := (cIso (cCons (uOne (cInt .u32)) cNil) (fun p => p.1) (fun s => (s, ())) (fun _ => rfl))
def cv16 : Cv (List (U (ElOf els))) (Int × Int) := (cIso (cCons (uOne (cInt .u32)) (cCons (uOne (cInt .i64)) cNil)) (fun p => (p.1, p.2.1)) (fun s => (s.1, s.2, ())) (fun _ => rfl))
def cv17 : Cv (List (U (ElOf els))) ((List Int) × ByteArray) := (cIso (cCons (uArr 114) (cCons (uOne cStr) cNil)) (fun p => (p.1, p.2.1)) (fun s => (s.1, s.2, ())) (fun _ => rfl))
def cSThing : Cv (List (L (ElOf els))) SThing := cIso (cCons (cInt .i64) (cCons (cInt .i64) (cCons cBool (cCons cBool (cCons cBool (cCons cBool (cCons cStr (cCons (cInt .i64) cNil)))))))) (fun p => ⟨p.1, p.2.1, p.2.2.1, p.2.2.2.1, p.2.2.2.2.1, p.2.2.2.2.2.1, p.2.2.2.2.2.2.1, p.2.2.2.2.2.2.2.1⟩) (fun s => (s.fId, s.fKind, s.fHidden, s.fFixed, s.fSigns, s.fWraps, s.fValue, s.fNext, ())) (fun _ => rfl)
def cv18 : Cv (List (U (ElOf els))) (SThing × Bool) := (cIso (cCons (uAgg cSThing) (cCons (uOne cBool) cNil)) (fun p => (p.1, p.2.1)) (fun s => (s.1, s.2, ())) (fun _ => rfl))
def cv19 : Cv (List (U (ElOf els))) (List Int) := (cIso (cCons (uOne (cFsl 114)) cNil) (fun p => p.1) (fun s => (s, ())) (fun _ => rfl))
def cv20 : Cv (List (U (ElOf els))) (List Int) := (cIso (cCons (uOne (cRsl 114)) cNil) (fun p => p.1) (fun s => (s, ())) (fun _ => rfl))
def cSHasher : Cv (List (L (ElOf els))) SHasher := cIso (cCons cStr (cCons cStr (cCons (cInt .i64) cNil))) (fun p => ⟨p.1, p.2.1, p.2.2.1⟩) (fun s => (s.fState, s.fRest, s.fCount, ())) (fun _ => rfl)
def cv21 : Cv (List (U (ElOf els))) SHasher := (cIso (cCons (uAgg cSHasher) cNil) (fun p => p.1) (fun s => (s, ())) (fun _ => rfl))
def cv22 : Cv (List (U (ElOf els))) (Int × Int × Int) := (cIso (cCons (uOne (cInt .i64)) (cCons (uOne (cInt .i64)) (cCons (uOne (cInt .i64)) cNil))) (fun p => (p.1, p.2.1, p.2.2.1)) (fun s => (s.1, s.2.1, s.2.2, ())) (fun _ => rfl))
def cv23 : Cv (List (U (ElOf els))) (ByteArray × Int) := (cIso (cCons (uOne cStr) (cCons (uOne (cInt .i64)) cNil)) (fun p => (p.1, p.2.1)) (fun s => (s.1, s.2, ())) (fun _ => rfl))
def cv24 : Cv (List (U (ElOf els))) (Int × Int × Int) := (cIso (cCons (uOne (cInt .u32)) (cCons (uOne (cInt .u32)) (cCons (uOne (cInt .u32)) cNil))) (fun p => (p.1, p.2.1, p.2.2.1)) (fun s => (s.1, s.2.1, s.2.2, ())) (fun _ => rfl))
def cv25 : Cv (List (U (ElOf els))) (Int × Int × Int × Int × Bool) := (cIso (cCons (uOne (cInt .u32)) (cCons (uOne (cInt .u32)) (cCons (uOne (cInt .u32)) (cCons (uOne (cInt .u32)) (cCons (uOne cBool) cNil))))) (fun p => (p.1, p.2.1, p.2.2.1, p.2.2.2.1, p.2.2.2.2.1)) (fun s => (s.1, s.2.1, s.2.2.1, s.2.2.2.1, s.2.2.2.2, ())) (fun _ => rfl))
def cv26 : Cv (List (U (ElOf els))) ((List Int) × (List Int) × ByteArray) := (cIso (cCons (uOne (cRsl 114)) (cCons (uOne (cRsl 114)) (cCons (uOne cStr) cNil))) (fun p => (p.1, p.2.1, p.2.2.1)) (fun s => (s.1, s.2.1, s.2.2, ())) (fun _ => rfl))
def cv27 : Cv (List (U (ElOf els))) (SHasher × ByteArray) := (cIso (cCons (uAgg cSHasher) (cCons (uOne cStr) cNil)) (fun p => (p.1, p.2.1)) (fun s => (s.1, s.2, ())) (fun _ => rfl))
def cv28 : Cv (List (U (ElOf els))) (SL01Cur × (List ByteArray)) := (cIso (cCons (uAgg cSL01CurF) (cCons (uOne (cRsl 9)) cNil)) (fun p => (p.1, p.2.1)) (fun s => (s.1, s.2, ())) (fun _ => rfl))
def cv29 : Cv (List (U (ElOf els))) (SThing × SL01Cur) := (cIso (cCons (uAgg cSThing) (cCons (uAgg cSL01CurF) cNil)) (fun p => (p.1, p.2.1)) (fun s => (s.1, s.2, ())) (fun _ => rfl))
def cv30 : Cv (List (U (ElOf els))) SThing := (cIso (cCons (uAgg cSThing) cNil) (fun p => p.1) (fun s => (s, ())) (fun _ => rfl))
def cv31 : Cv (List (U (ElOf els))) (SThing × Int) := (cIso (cCons (uAgg cSThing) (cCons (uOne (cInt .i64)) cNil)) (fun p => (p.1, p.2.1)) (fun s => (s.1, s.2, ())) (fun _ => rfl))
def cv32 : Cv (List (U (ElOf els))) (ByteArray × Int × ByteArray) := (cIso (cCons (uOne cStr) (cCons (uOne (cInt .i64)) (cCons (uOne cStr) cNil))) (fun p => (p.1, p.2.1, p.2.2.1)) (fun s => (s.1, s.2.1, s.2.2, ())) (fun _ => rfl))
def cv33 : Cv (List (U (ElOf els))) (ByteArray × Bool) := (cIso (cCons (uOne cStr) (cCons (uOne cBool) cNil)) (fun p => (p.1, p.2.1)) (fun s => (s.1, s.2, ())) (fun _ => rfl))
def cv34 : Cv (List (U (ElOf els))) (ByteArray × Int) := (cIso (cCons (uOne cStr) (cCons (uOne (cInt .u8)) cNil)) (fun p => (p.1, p.2.1)) (fun s => (s.1, s.2, ())) (fun _ => rfl))
def cv35 : Cv (List (U (ElOf els))) (ByteArray × ByteArray) := (cIso (cCons (uOne cStr) (cCons (uOne cStr) cNil)) (fun p => (p.1, p.2.1)) (fun s => (s.1, s.2, ())) (fun _ => rfl))
def cv36 : Cv (List (U (ElOf els))) (ByteArray × Int × Int) := (cIso (cCons (uOne cStr) (cCons (uOne (cInt .i64)) (cCons (uOne (cInt .i64)) cNil))) (fun p => (p.1, p.2.1, p.2.2.1)) (fun s => (s.1, s.2.1, s.2.2, ())) (fun _ => rfl))
def cv37 : Cv (List (U (ElOf els))) (SL01Cur × ByteArray) := (cIso (cCons (uAgg cSL01CurF) (cCons (uOne cStr) cNil)) (fun p => (p.1, p.2.1)) (fun s => (s.1, s.2, ())) (fun _ => rfl))
def cv38 : Cv (List (U (ElOf els))) (Int × Int × Bool) := (cIso (cCons (uOne (cInt .i64)) (cCons (uOne (cInt .i64)) (cCons (uOne cBool) cNil))) (fun p => (p.1, p.2.1, p.2.2.1)) (fun s => (s.1, s.2.1, s.2.2, ())) (fun _ => rfl))
def cv39 : Cv (List (U (ElOf els))) (ByteArray × Int × Bool) := (cIso (cCons (uOne cStr) (cCons (uOne (cInt .i64)) (cCons (uOne cBool) cNil))) (fun p => (p.1, p.2.1, p.2.2.1)) (fun s => (s.1, s.2.1, s.2.2, ())) (fun _ => rfl))
def cSBookF : Cv (List (L (ElOf els))) SBook := cIso (cCons cStr (cCons (cInt .i64) (cCons (cFsl 27) (cCons (cInt .i64) (cCons cStr (cCons (cInt .i64) cNil)))))) (fun p => ⟨p.1, p.2.1, p.2.2.1, p.2.2.2.1, p.2.2.2.2.1, p.2.2.2.2.2.1⟩) (fun s => (s.fWord, s.fTries, s.fThings, s.fLast, s.fChain, s.fCount, ())) (fun _ => rfl)
def cv40 : Cv (List (U (ElOf els))) SBook := (cIso (cCons (uAgg cSBookF) cNil) (fun p => p.1) (fun s => (s, ())) (fun _ => rfl))
def cSBook : Cv (List (L (ElOf els))) SBook := cIso (cCons cStr (cCons (cInt .i64) (cCons (cRsl 27) (cCons (cInt .i64) (cCons cStr (cCons (cInt .i64) cNil)))))) (fun p => ⟨p.1, p.2.1, p.2.2.1, p.2.2.2.1, p.2.2.2.2.1, p.2.2.2.2.2.1⟩) (fun s => (s.fWord, s.fTries, s.fThings, s.fLast, s.fChain, s.fCount, ())) (fun _ => rfl)
def cSRec : Cv (List (L (ElOf els))) SRec := cIso (cCons (cInt .i64) (cCons cStr (cCons (cInt .i64) (cCons (cInt .i64) (cCons (cInt .i64) (cCons cBool (cCons cBool (cCons cBool (cCons cBool (cCons cStr (cCons (cInt .i64) cNil))))))))))) (fun p => ⟨p.1, p.2.1, p.2.2.1, ⟨p.2.2.2.1, p.2.2.2.2.1, p.2.2.2.2.2.1, p.2.2.2.2.2.2.1, p.2.2.2.2.2.2.2.1, p.2.2.2.2.2.2.2.2.1, p.2.2.2.2.2.2.2.2.2.1, p.2.2.2.2.2.2.2.2.2.2.1⟩⟩) (fun s => (s.fKind, s.fText, s.fNum, s.fThing.fId, s.fThing.fKind, s.fThing.fHidden, s.fThing.fFixed, s.fThing.fSigns, s.fThing.fWraps, s.fThing.fValue, s.fThing.fNext, ())) (fun _ => rfl)
def cv41 : Cv (List (U (ElOf els))) (SL01Cur × SBook) := (cIso (cCons (uAgg cSL01CurF) (cCons (uAgg cSBook) cNil)) (fun p => (p.1, p.2.1)) (fun s => (s.1, s.2, ())) (fun _ => rfl))
def cv42 : Cv (List (U (ElOf els))) (SRec × SL01Cur) := (cIso (cCons (uAgg cSRec) (cCons (uAgg cSL01CurF) cNil)) (fun p => (p.1, p.2.1)) (fun s => (s.1, s.2, ())) (fun _ => rfl))
def cv43 : Cv (List (U (ElOf els))) (Bool × Int) := (cIso (cCons (uOne cBool) (cCons (uOne (cInt .i64)) cNil)) (fun p => (p.1, p.2.1)) (fun s => (s.1, s.2, ())) (fun _ => rfl))
def cv44 : Cv (List (U (ElOf els))) SRec := (cIso (cCons (uAgg cSRec) cNil) (fun p => p.1) (fun s => (s, ())) (fun _ => rfl))
def cv45 : Cv (List (U (ElOf els))) SBook := (cIso (cCons (uAgg cSBook) cNil) (fun p => p.1) (fun s => (s, ())) (fun _ => rfl))
def cv46 : Cv (List (U (ElOf els))) (SBook × Int) := (cIso (cCons (uAgg cSBook) (cCons (uOne (cInt .i64)) cNil)) (fun p => (p.1, p.2.1)) (fun s => (s.1, s.2, ())) (fun _ => rfl))
def cv47 : Cv (List (U (ElOf els))) (SThing × SThing) := (cIso (cCons (uAgg cSThing) (cCons (uAgg cSThing) cNil)) (fun p => (p.1, p.2.1)) (fun s => (s.1, s.2, ())) (fun _ => rfl))
def cv48 : Cv (List (U (ElOf els))) ((List SThing) × SThing) := (cIso (cCons (uOne (cRsl 27)) (cCons (uAgg cSThing) cNil)) (fun p => (p.1, p.2.1)) (fun s => (s.1, s.2, ())) (fun _ => rfl))
def cv49 : Cv (List (U (ElOf els))) (List SThing) := (cIso (cCons (uOne (cFsl 27)) cNil) (fun p => p.1) (fun s => (s, ())) (fun _ => rfl))
def cv50 : Cv (List (U (ElOf els))) (SBook × SRec) := (cIso (cCons (uAgg cSBook) (cCons (uAgg cSRec) cNil)) (fun p => (p.1, p.2.1)) (fun s => (s.1, s.2, ())) (fun _ => rfl))
def cv51 : Cv (List (U (ElOf els))) (SBook × Bool) := (cIso (cCons (uAgg cSBookF) (cCons (uOne cBool) cNil)) (fun p => (p.1, p.2.1)) (fun s => (s.1, s.2, ())) (fun _ => rfl))
def cv52 : Cv (List (U (ElOf els))) ((List SRec) × SBook × SL01Cur) := (cIso (cCons (uOne (cFsl 47)) (cCons (uAgg cSBookF) (cCons (uAgg cSL01CurF) cNil))) (fun p => (p.1, p.2.1, p.2.2.1)) (fun s => (s.1, s.2.1, s.2.2, ())) (fun _ => rfl))
def cv53 : Cv (List (U (ElOf els))) (SBook × SL01Cur) := (cIso (cCons (uAgg cSBookF) (cCons (uAgg cSL01CurF) cNil)) (fun p => (p.1, p.2.1)) (fun s => (s.1, s.2, ())) (fun _ => rfl))
def cv54 : Cv (List (U (ElOf els))) (SBook × SRec) := (cIso (cCons (uAgg cSBookF) (cCons (uAgg cSRec) cNil)) (fun p => (p.1, p.2.1)) (fun s => (s.1, s.2, ())) (fun _ => rfl))
def cv55 : Cv (List (U (ElOf els))) (SBook × SThing) := (cIso (cCons (uAgg cSBookF) (cCons (uAgg cSThing) cNil)) (fun p => (p.1, p.2.1)) (fun s => (s.1, s.2, ())) (fun _ => rfl))
def cv56 : Cv (List (U (ElOf els))) (Bool × SBook) := (cIso (cCons (uOne cBool) (cCons (uAgg cSBookF) cNil)) (fun p => (p.1, p.2.1)) (fun s => (s.1, s.2, ())) (fun _ => rfl))
def cv57 : Cv (List (U (ElOf els))) (SBook × SBook) := (cIso (cCons (uAgg cSBook) (cCons (uAgg cSBook) cNil)) (fun p => (p.1, p.2.1)) (fun s => (s.1, s.2, ())) (fun _ => rfl))
def cv58 : Cv (List (U (ElOf els))) (List SRec) := (cIso (cCons (uOne (cFsl 47)) cNil) (fun p => p.1) (fun s => (s, ())) (fun _ => rfl))
def cv59 : Cv (List (U (ElOf els))) (SBook × (List SRec)) := (cIso (cCons (uAgg cSBook) (cCons (uOne (cRsl 47)) cNil)) (fun p => (p.1, p.2.1)) (fun s => (s.1, s.2, ())) (fun _ => rfl))
def cv60 : Cv (List (U (ElOf els))) (List Int) := (cIso (cCons (uOne (cFsl 3)) cNil) (fun p => p.1) (fun s => (s, ())) (fun _ => rfl))
def cv61 : Cv (List (U (ElOf els))) (SBook × (List SRec)) := (cIso (cCons (uAgg cSBookF) (cCons (uOne (cFsl 47)) cNil)) (fun p => (p.1, p.2.1)) (fun s => (s.1, s.2, ())) (fun _ => rfl))
end Go.Proofs.YtjfkbidckphneaaDoor.G
