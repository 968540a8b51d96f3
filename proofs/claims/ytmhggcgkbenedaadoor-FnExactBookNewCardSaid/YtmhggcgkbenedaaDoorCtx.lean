/- The seat's tables: its types, what an element of each is, and what its functions do with what they are given. -/
import Derived.Test.YtmhggcgkbenedaaDoorSnd38
import Derived.Test.YtmhggcgkbenedaaDoorArr
import Derived.Test.YtmhggcgkbenedaaDoorProg
import Derived.KernelRfl
namespace Go.Proofs.YtmhggcgkbenedaaDoor.G
open Go Go.Ev
structure SThing where
  fId : Int
  fKind : Int
  fHidden : Bool
  fFixed : Bool
  fSigns : Bool
  fWraps : Bool
  fValue : ByteArray
  fNext : Int
structure SBook where
  fWord : ByteArray
  fTries : Int
  fThings : (List SThing)
  fLast : Int
  fChain : ByteArray
  fCount : Int
structure SHasher where
  fState : ByteArray
  fRest : ByteArray
  fCount : Int
def els : List (Nat × TyE) := [(3, ⟨Int, 0⟩), (4, ⟨Bool, false⟩), (5, ⟨Int, 0⟩), (9, ⟨ByteArray, ⟨#[]⟩⟩), (23, ⟨SThing, ⟨0, 0, false, false, false, false, ⟨#[]⟩, 0⟩⟩), (31, ⟨(List SThing), []⟩), (33, ⟨SBook, ⟨⟨#[]⟩, 0, [], 0, ⟨#[]⟩, 0⟩⟩), (49, ⟨SHasher, ⟨⟨#[]⟩, ⟨#[]⟩, 0⟩⟩), (52, ⟨Int, 0⟩), (53, ⟨Bools 8, boolsZ 8⟩), (59, ⟨(List Int), []⟩), (62, ⟨(List Int), []⟩), (72, ⟨Bools 64, boolsZ 64⟩), (75, ⟨Int, 0⟩)]
def tis : List (Nat × TI) := [(3, ⟨1, 8, .int .i64⟩), (4, ⟨1, 1, .bool⟩), (5, ⟨1, 1, .int .u8⟩), (9, ⟨1, 16, .str⟩), (23, ⟨8, 48, .st [(3, 0), (3, 1), (4, 2), (4, 3), (4, 4), (4, 5), (9, 6), (3, 7)]⟩), (31, ⟨1, 24, .sl 23⟩), (33, ⟨6, 80, .st [(9, 0), (3, 1), (31, 2), (3, 3), (9, 4), (3, 5)]⟩), (49, ⟨3, 40, .st [(9, 0), (9, 1), (3, 2)]⟩), (52, ⟨1, 4, .int .u32⟩), (53, ⟨8, 32, .arr 8 52⟩), (59, ⟨1, 24, .sl 5⟩), (62, ⟨1, 24, .sl 52⟩), (72, ⟨64, 256, .arr 64 52⟩), (75, ⟨1, 8, .int .u64⟩)]
def ent3 : Ent (ElOf els) := ⟨3, { sh := [.int .i64], enc := fun (x : Int) => [.int .i64 x], dec := fun cs => (cs.getD 0 .junk).toInt, z := (0 : Int), int? := some ⟨rfl⟩ }⟩
def ent4 : Ent (ElOf els) := ⟨4, { sh := [.bool], enc := fun (x : Bool) => [.bool x], dec := fun cs => (cs.getD 0 .junk).toBool, z := false, int? := none }⟩
def ent5 : Ent (ElOf els) := ⟨5, { sh := [.int .u8], enc := fun (x : Int) => [.int .u8 x], dec := fun cs => (cs.getD 0 .junk).toInt, z := (0 : Int), int? := some ⟨rfl⟩ }⟩
def ent9 : Ent (ElOf els) := ⟨9, { sh := [.str], enc := fun (x : ByteArray) => [.str x], dec := fun cs => (cs.getD 0 .junk).toStr, z := (⟨#[]⟩ : ByteArray), int? := none }⟩
def ent23 : Ent (ElOf els) := ⟨23, { sh := [.int .i64, .int .i64, .bool, .bool, .bool, .bool, .str, .int .i64], enc := fun (x : SThing) => [.int .i64 x.fId, .int .i64 x.fKind, .bool x.fHidden, .bool x.fFixed, .bool x.fSigns, .bool x.fWraps, .str x.fValue, .int .i64 x.fNext], dec := fun cs => ⟨(cs.getD 0 .junk).toInt, (cs.getD 1 .junk).toInt, (cs.getD 2 .junk).toBool, (cs.getD 3 .junk).toBool, (cs.getD 4 .junk).toBool, (cs.getD 5 .junk).toBool, (cs.getD 6 .junk).toStr, (cs.getD 7 .junk).toInt⟩, z := (⟨0, 0, false, false, false, false, ⟨#[]⟩, 0⟩ : SThing), int? := none }⟩
def ent31 : Ent (ElOf els) := ⟨31, { sh := [.sl 23], enc := fun (x : (List SThing)) => [.rsl 23 x], dec := fun cs => (L.toSl 23 (cs.getD 0 .junk)), z := [], int? := none }⟩
def ent33 : Ent (ElOf els) := ⟨33, { sh := [.str, .int .i64, .sl 23, .int .i64, .str, .int .i64], enc := fun (x : SBook) => [.str x.fWord, .int .i64 x.fTries, .rsl 23 x.fThings, .int .i64 x.fLast, .str x.fChain, .int .i64 x.fCount], dec := fun cs => ⟨(cs.getD 0 .junk).toStr, (cs.getD 1 .junk).toInt, (L.toSl 23 (cs.getD 2 .junk)), (cs.getD 3 .junk).toInt, (cs.getD 4 .junk).toStr, (cs.getD 5 .junk).toInt⟩, z := (⟨⟨#[]⟩, 0, [], 0, ⟨#[]⟩, 0⟩ : SBook), int? := none }⟩
def ent49 : Ent (ElOf els) := ⟨49, { sh := [.str, .str, .int .i64], enc := fun (x : SHasher) => [.str x.fState, .str x.fRest, .int .i64 x.fCount], dec := fun cs => ⟨(cs.getD 0 .junk).toStr, (cs.getD 1 .junk).toStr, (cs.getD 2 .junk).toInt⟩, z := (⟨⟨#[]⟩, ⟨#[]⟩, 0⟩ : SHasher), int? := none }⟩
def ent52 : Ent (ElOf els) := ⟨52, { sh := [.int .u32], enc := fun (x : Int) => [.int .u32 x], dec := fun cs => (cs.getD 0 .junk).toInt, z := (0 : Int), int? := some ⟨rfl⟩ }⟩
def ent53 : Ent (ElOf els) := ⟨53, codBools 8 (fun x => x) (fun x => x)⟩
def ent59 : Ent (ElOf els) := ⟨59, { sh := [.sl 5], enc := fun (x : (List Int)) => [.rsl 5 x], dec := fun cs => (L.toSl 5 (cs.getD 0 .junk)), z := [], int? := none }⟩
def ent62 : Ent (ElOf els) := ⟨62, { sh := [.sl 52], enc := fun (x : (List Int)) => [.rsl 52 x], dec := fun cs => (L.toSl 52 (cs.getD 0 .junk)), z := [], int? := none }⟩
def ent72 : Ent (ElOf els) := ⟨72, codBools 64 (fun x => x) (fun x => x)⟩
def ent75 : Ent (ElOf els) := ⟨75, { sh := [.int .u64], enc := fun (x : Int) => [.int .u64 x], dec := fun cs => (cs.getD 0 .junk).toInt, z := (0 : Int), int? := some ⟨rfl⟩ }⟩
def ents : List (Ent (ElOf els)) := [ent3, ent4, ent5, ent9, ent23, ent31, ent33, ent49, ent52, ent53, ent59, ent62, ent72, ent75]
def modes : List (Nat × List Mode') := [(31, [.io, .rd]), (17, [.io, .rd])]
def cuts : List (Nat × List (Nat × (List Nat × List Nat × List (Nat × Nat) × List (Nat × Nat × Nat)))) := [(54, [(3, ([0, 3, 4], [], [(0, 52), (3, 5)], []))]),
  (51, [(3, ([0, 3, 4], [], [(3, 52)], []))]),
  (53, [(3, ([0, 1, 7, 8], [], [(0, 52), (1, 52), (7, 52)], [])), (8, ([0, 1, 7, 9, 10], [], [(0, 52), (1, 52), (7, 52), (9, 52)], [])), (16, ([0, 1, 7, 9, 10, 13, 15, 16], [], [(0, 52), (1, 52), (7, 52), (9, 52)], [])), (23, ([0, 9, 17, 18], [], [(0, 52), (9, 52), (17, 52)], []))]),
  (34, [(7, ([1, 2, 4, 5, 6, 7, 8], [128, 256], [(5, 52), (6, 52)], []))]),
  (33, [(5, ([1, 3], [64], [(3, 5)], [])), (9, ([1, 3, 4, 5], [64], [(3, 5)], [])), (13, ([1, 3, 4, 5, 6, 7], [64], [(3, 5)], [])), (20, ([3, 8, 9, 10], [], [(3, 5), (8, 52), (9, 52)], []))]),
  (63, [(3, ([0, 2, 3, 11], [128, 192], [], [])), (6, ([0, 2, 3, 4, 11, 14], [128, 192], [], [])), (12, ([2, 3, 6], [128, 192], [], []))]),
  (56, [(4, ([2, 4, 5, 6, 7, 8, 9, 10, 11, 12, 13, 37], [128, 256, 320], [], [])), (13, ([2, 4, 17, 109], [128, 256, 1088], [], []))]),
  (36, [(1, ([1, 2, 4], [128, 256], [], []))]),
  (39, [(3, ([3, 6, 7], [], [], []))]),
  (42, [(2, ([0, 3], [], [(3, 5)], []))]),
  (59, [(5, ([0, 1, 5, 6], [], [(5, 5)], []))]),
  (21, [(5, ([0, 1, 2, 8, 9], [], [(8, 5)], []))]),
  (22, [(3, ([1, 5, 6], [], [(5, 5)], []))]),
  (48, [(2, ([0, 3], [], [(3, 5)], []))]),
  (60, [(3, ([1, 5, 10, 11], [], [(5, 5)], []))]),
  (24, [(6, ([0, 2, 8, 10, 11], [], [], []))]),
  (25, [(3, ([1, 5, 10, 11], [], [(5, 5)], []))]),
  (28, [(3, ([0, 1, 5, 6], [], [(5, 5)], []))]),
  (30, [(4, ([0, 1, 5], [], [(0, 23), (1, 23)], []))]),
  (49, [(4, ([0, 3], [], [], []))]),
  (31, [(2, ([0, 1, 5], [1], [(0, 23)], [])), (6, ([0, 1, 5], [1], [(0, 23)], [])), (8, ([0, 1, 5], [1], [(0, 23)], [])), (10, ([0, 1, 5], [1], [(0, 23)], [])), (12, ([0, 1, 5], [1], [(0, 23)], [])), (14, ([0, 1, 5], [1], [(0, 23)], [])), (16, ([0, 1, 5], [1], [(0, 23)], [])), (18, ([0, 1, 5], [1], [(0, 23)], []))]),
  (32, [(2, ([0, 1, 5], [], [(0, 23)], []))])]
def tabs : List (Nat × (Nat × List Int)) := [(0, (72, [1116352408, 1899447441, 3049323471, 3921009573, 961987163, 1508970993, 2453635748, 2870763221, 3624381080, 310598401, 607225278, 1426881987, 1925078388, 2162078206, 2614888103, 3248222580, 3835390401, 4022224774, 264347078, 604807628, 770255983, 1249150122, 1555081692, 1996064986, 2554220882, 2821834349, 2952996808, 3210313671, 3336571891, 3584528711, 113926993, 338241895, 666307205, 773529912, 1294757372, 1396182291, 1695183700, 1986661051, 2177026350, 2456956037, 2730485921, 2820302411, 3259730800, 3345764771, 3516065817, 3600352804, 4094571909, 275423344, 430227734, 506948616, 659060556, 883997877, 958139571, 1322822218, 1537002063, 1747873779, 1955562222, 2024104815, 2227730452, 2361852424, 2428436474, 2756734187, 3204031479, 3329325298]))]
def ctx : Ctx := mkCtx els tis ents modes cuts tabs
noncomputable abbrev PP : Program := Tryd.prog
abbrev LI := List Go.Item × Env ctx × Hp ctx
theorem good3 : CodGood ctx 3 ent3.c := ⟨fun _ => rfl, fun cs h0 => by obtain ⟨n0, ls0, rfl, h1⟩ := fit_int h0; obtain rfl := fit_nil h1; rfl, fun _ => rfl, rfl, fun h k hi hk n => by cases hk; rfl⟩
theorem good4 : CodGood ctx 4 ent4.c := ⟨fun _ => rfl, fun cs h0 => by obtain ⟨n0, ls0, rfl, h1⟩ := fit_bool h0; obtain rfl := fit_nil h1; rfl, fun _ => rfl, rfl, fun h k hi hk n => by cases hi⟩
theorem good5 : CodGood ctx 5 ent5.c := ⟨fun _ => rfl, fun cs h0 => by obtain ⟨n0, ls0, rfl, h1⟩ := fit_int h0; obtain rfl := fit_nil h1; rfl, fun _ => rfl, rfl, fun h k hi hk n => by cases hk; rfl⟩
theorem good9 : CodGood ctx 9 ent9.c := ⟨fun _ => rfl, fun cs h0 => by obtain ⟨n0, ls0, rfl, h1⟩ := fit_str h0; obtain rfl := fit_nil h1; rfl, fun _ => rfl, rfl, fun h k hi hk n => by cases hi⟩
theorem good23 : CodGood ctx 23 ent23.c := ⟨fun _ => rfl, fun cs h0 => by obtain ⟨n0, ls0, rfl, h1⟩ := fit_int h0; obtain ⟨n1, ls1, rfl, h2⟩ := fit_int h1; obtain ⟨n2, ls2, rfl, h3⟩ := fit_bool h2; obtain ⟨n3, ls3, rfl, h4⟩ := fit_bool h3; obtain ⟨n4, ls4, rfl, h5⟩ := fit_bool h4; obtain ⟨n5, ls5, rfl, h6⟩ := fit_bool h5; obtain ⟨n6, ls6, rfl, h7⟩ := fit_str h6; obtain ⟨n7, ls7, rfl, h8⟩ := fit_int h7; obtain rfl := fit_nil h8; rfl, fun _ => rfl, rfl, fun h k hi hk n => by cases hi⟩
theorem good31 : CodGood ctx 31 ent31.c := ⟨fun _ => rfl, fun cs h0 => by obtain ⟨n0, ls0, rfl, h1⟩ := fit_sl h0; obtain rfl := fit_nil h1; rfl, fun _ => rfl, rfl, fun h k hi hk n => by cases hi⟩
theorem good33 : CodGood ctx 33 ent33.c := ⟨fun _ => rfl, fun cs h0 => by obtain ⟨n0, ls0, rfl, h1⟩ := fit_str h0; obtain ⟨n1, ls1, rfl, h2⟩ := fit_int h1; obtain ⟨n2, ls2, rfl, h3⟩ := fit_sl h2; obtain ⟨n3, ls3, rfl, h4⟩ := fit_int h3; obtain ⟨n4, ls4, rfl, h5⟩ := fit_str h4; obtain ⟨n5, ls5, rfl, h6⟩ := fit_int h5; obtain rfl := fit_nil h6; rfl, fun _ => rfl, rfl, fun h k hi hk n => by cases hi⟩
theorem good49 : CodGood ctx 49 ent49.c := ⟨fun _ => rfl, fun cs h0 => by obtain ⟨n0, ls0, rfl, h1⟩ := fit_str h0; obtain ⟨n1, ls1, rfl, h2⟩ := fit_str h1; obtain ⟨n2, ls2, rfl, h3⟩ := fit_int h2; obtain rfl := fit_nil h3; rfl, fun _ => rfl, rfl, fun h k hi hk n => by cases hi⟩
theorem good52 : CodGood ctx 52 ent52.c := ⟨fun _ => rfl, fun cs h0 => by obtain ⟨n0, ls0, rfl, h1⟩ := fit_int h0; obtain rfl := fit_nil h1; rfl, fun _ => rfl, rfl, fun h k hi hk n => by cases hk; rfl⟩
theorem good53 : CodGood ctx 53 ent53.c := codBools_good (C := ctx) (e := 53) (n := 8) (f := fun x => x) (g := fun x => x) (fun _ => rfl) (by kernel_rfl)
theorem good59 : CodGood ctx 59 ent59.c := ⟨fun _ => rfl, fun cs h0 => by obtain ⟨n0, ls0, rfl, h1⟩ := fit_sl h0; obtain rfl := fit_nil h1; rfl, fun _ => rfl, rfl, fun h k hi hk n => by cases hi⟩
theorem good62 : CodGood ctx 62 ent62.c := ⟨fun _ => rfl, fun cs h0 => by obtain ⟨n0, ls0, rfl, h1⟩ := fit_sl h0; obtain rfl := fit_nil h1; rfl, fun _ => rfl, rfl, fun h k hi hk n => by cases hi⟩
theorem good72 : CodGood ctx 72 ent72.c := codBools_good (C := ctx) (e := 72) (n := 64) (f := fun x => x) (g := fun x => x) (fun _ => rfl) (by kernel_rfl)
theorem good75 : CodGood ctx 75 ent75.c := ⟨fun _ => rfl, fun cs h0 => by obtain ⟨n0, ls0, rfl, h1⟩ := fit_int h0; obtain rfl := fit_nil h1; rfl, fun _ => rfl, rfl, fun h k hi hk n => by cases hk; rfl⟩
theorem ctxOk : CtxOk ctx Tryd.prog := mkCtx_ok (by kernel_rfl) (fun x hx => by
  simp only [ents, List.mem_cons, List.not_mem_nil, or_false] at hx
  rcases hx with rfl | rfl | rfl | rfl | rfl | rfl | rfl | rfl | rfl | rfl | rfl | rfl | rfl | rfl
  · exact good3
  · exact good4
  · exact good5
  · exact good9
  · exact good23
  · exact good31
  · exact good33
  · exact good49
  · exact good52
  · exact good53
  · exact good59
  · exact good62
  · exact good72
  · exact good75)
def cv0 : Cv (List (U (ElOf els))) Unit := cNil
def cv1 : Cv (List (U (ElOf els))) (List Int) := (cIso (cCons (uOne (cFsl 52)) cNil) (fun p => p.1) (fun s => (s, ())) (fun _ => rfl))
def cv2 : Cv (List (U (ElOf els))) (List Int) := (cIso (cCons (uOne (cRsl 52)) cNil) (fun p => p.1) (fun s => (s, ())) (fun _ => rfl))
def cv3 : Cv (List (U (ElOf els))) ByteArray := (cIso (cCons (uOne cStr) cNil) (fun p => p.1) (fun s => (s, ())) (fun _ => rfl))
def cSHasher : Cv (List (L (ElOf els))) SHasher := cIso (cCons cStr (cCons cStr (cCons (cInt .i64) cNil))) (fun p => ⟨p.1, p.2.1, p.2.2.1⟩) (fun s => (s.fState, s.fRest, s.fCount, ())) (fun _ => rfl)
def cv4 : Cv (List (U (ElOf els))) SHasher := (cIso (cCons (uAgg cSHasher) cNil) (fun p => p.1) (fun s => (s, ())) (fun _ => rfl))
def cv5 : Cv (List (U (ElOf els))) (Int × Int × Int) := (cIso (cCons (uOne (cInt .i64)) (cCons (uOne (cInt .i64)) (cCons (uOne (cInt .i64)) cNil))) (fun p => (p.1, p.2.1, p.2.2.1)) (fun s => (s.1, s.2.1, s.2.2, ())) (fun _ => rfl))
def cv6 : Cv (List (U (ElOf els))) Bool := (cIso (cCons (uOne cBool) cNil) (fun p => p.1) (fun s => (s, ())) (fun _ => rfl))
def cv7 : Cv (List (U (ElOf els))) (ByteArray × Int) := (cIso (cCons (uOne cStr) (cCons (uOne (cInt .i64)) cNil)) (fun p => (p.1, p.2.1)) (fun s => (s.1, s.2, ())) (fun _ => rfl))
def cv8 : Cv (List (U (ElOf els))) Int := (cIso (cCons (uOne (cInt .u32)) cNil) (fun p => p.1) (fun s => (s, ())) (fun _ => rfl))
def cv9 : Cv (List (U (ElOf els))) (Int × Int × Int) := (cIso (cCons (uOne (cInt .u32)) (cCons (uOne (cInt .u32)) (cCons (uOne (cInt .u32)) cNil))) (fun p => (p.1, p.2.1, p.2.2.1)) (fun s => (s.1, s.2.1, s.2.2, ())) (fun _ => rfl))
def cv10 : Cv (List (U (ElOf els))) (Int × Int × Int × Int × Bool) := (cIso (cCons (uOne (cInt .u32)) (cCons (uOne (cInt .u32)) (cCons (uOne (cInt .u32)) (cCons (uOne (cInt .u32)) (cCons (uOne cBool) cNil))))) (fun p => (p.1, p.2.1, p.2.2.1, p.2.2.2.1, p.2.2.2.2.1)) (fun s => (s.1, s.2.1, s.2.2.1, s.2.2.2.1, s.2.2.2.2, ())) (fun _ => rfl))
def cv11 : Cv (List (U (ElOf els))) ((List Int) × (List Int) × ByteArray) := (cIso (cCons (uOne (cRsl 52)) (cCons (uOne (cRsl 52)) (cCons (uOne cStr) cNil))) (fun p => (p.1, p.2.1, p.2.2.1)) (fun s => (s.1, s.2.1, s.2.2, ())) (fun _ => rfl))
def cv12 : Cv (List (U (ElOf els))) (SHasher × ByteArray) := (cIso (cCons (uAgg cSHasher) (cCons (uOne cStr) cNil)) (fun p => (p.1, p.2.1)) (fun s => (s.1, s.2, ())) (fun _ => rfl))
def cSThing : Cv (List (L (ElOf els))) SThing := cIso (cCons (cInt .i64) (cCons (cInt .i64) (cCons cBool (cCons cBool (cCons cBool (cCons cBool (cCons cStr (cCons (cInt .i64) cNil)))))))) (fun p => ⟨p.1, p.2.1, p.2.2.1, p.2.2.2.1, p.2.2.2.2.1, p.2.2.2.2.2.1, p.2.2.2.2.2.2.1, p.2.2.2.2.2.2.2.1⟩) (fun s => (s.fId, s.fKind, s.fHidden, s.fFixed, s.fSigns, s.fWraps, s.fValue, s.fNext, ())) (fun _ => rfl)
def cv13 : Cv (List (U (ElOf els))) (Int × ByteArray) := (cIso (cCons (uOne (cInt .i64)) (cCons (uOne cStr) cNil)) (fun p => (p.1, p.2.1)) (fun s => (s.1, s.2, ())) (fun _ => rfl))
def cv14 : Cv (List (U (ElOf els))) (SThing × Bool) := (cIso (cCons (uAgg cSThing) (cCons (uOne cBool) cNil)) (fun p => (p.1, p.2.1)) (fun s => (s.1, s.2, ())) (fun _ => rfl))
def cv15 : Cv (List (U (ElOf els))) (List Int) := (cIso (cCons (uArr 52) cNil) (fun p => p.1) (fun s => (s, ())) (fun _ => rfl))
def cv16 : Cv (List (U (ElOf els))) Int := (cIso (cCons (uOne (cInt .i64)) cNil) (fun p => p.1) (fun s => (s, ())) (fun _ => rfl))
def cv17 : Cv (List (U (ElOf els))) (Int × Int) := (cIso (cCons (uOne (cInt .u32)) (cCons (uOne (cInt .i64)) cNil)) (fun p => (p.1, p.2.1)) (fun s => (s.1, s.2, ())) (fun _ => rfl))
def cv18 : Cv (List (U (ElOf els))) ((List Int) × ByteArray) := (cIso (cCons (uArr 52) (cCons (uOne cStr) cNil)) (fun p => (p.1, p.2.1)) (fun s => (s.1, s.2, ())) (fun _ => rfl))
def cv19 : Cv (List (U (ElOf els))) (SThing × SThing) := (cIso (cCons (uAgg cSThing) (cCons (uAgg cSThing) cNil)) (fun p => (p.1, p.2.1)) (fun s => (s.1, s.2, ())) (fun _ => rfl))
def cv20 : Cv (List (U (ElOf els))) (ByteArray × Int) := (cIso (cCons (uOne cStr) (cCons (uOne (cInt .u8)) cNil)) (fun p => (p.1, p.2.1)) (fun s => (s.1, s.2, ())) (fun _ => rfl))
def cv21 : Cv (List (U (ElOf els))) (ByteArray × ByteArray) := (cIso (cCons (uOne cStr) (cCons (uOne cStr) cNil)) (fun p => (p.1, p.2.1)) (fun s => (s.1, s.2, ())) (fun _ => rfl))
def cv22 : Cv (List (U (ElOf els))) (ByteArray × Int × Int) := (cIso (cCons (uOne cStr) (cCons (uOne (cInt .i64)) (cCons (uOne (cInt .i64)) cNil))) (fun p => (p.1, p.2.1, p.2.2.1)) (fun s => (s.1, s.2.1, s.2.2, ())) (fun _ => rfl))
def cv23 : Cv (List (U (ElOf els))) (ByteArray × Bool) := (cIso (cCons (uOne cStr) (cCons (uOne cBool) cNil)) (fun p => (p.1, p.2.1)) (fun s => (s.1, s.2, ())) (fun _ => rfl))
def cv24 : Cv (List (U (ElOf els))) (ByteArray × Int × ByteArray) := (cIso (cCons (uOne cStr) (cCons (uOne (cInt .i64)) (cCons (uOne cStr) cNil))) (fun p => (p.1, p.2.1, p.2.2.1)) (fun s => (s.1, s.2.1, s.2.2, ())) (fun _ => rfl))
def cv25 : Cv (List (U (ElOf els))) (Int × Int) := (cIso (cCons (uOne (cInt .i64)) (cCons (uOne (cInt .u8)) cNil)) (fun p => (p.1, p.2.1)) (fun s => (s.1, s.2, ())) (fun _ => rfl))
def cSBookF : Cv (List (L (ElOf els))) SBook := cIso (cCons cStr (cCons (cInt .i64) (cCons (cFsl 23) (cCons (cInt .i64) (cCons cStr (cCons (cInt .i64) cNil)))))) (fun p => ⟨p.1, p.2.1, p.2.2.1, p.2.2.2.1, p.2.2.2.2.1, p.2.2.2.2.2.1⟩) (fun s => (s.fWord, s.fTries, s.fThings, s.fLast, s.fChain, s.fCount, ())) (fun _ => rfl)
def cv26 : Cv (List (U (ElOf els))) SBook := (cIso (cCons (uAgg cSBookF) cNil) (fun p => p.1) (fun s => (s, ())) (fun _ => rfl))
def cv27 : Cv (List (U (ElOf els))) ((List SThing) × (List SThing)) := (cIso (cCons (uOne (cRsl 23)) (cCons (uOne (cRsl 23)) cNil)) (fun p => (p.1, p.2.1)) (fun s => (s.1, s.2, ())) (fun _ => rfl))
def cSBook : Cv (List (L (ElOf els))) SBook := cIso (cCons cStr (cCons (cInt .i64) (cCons (cRsl 23) (cCons (cInt .i64) (cCons cStr (cCons (cInt .i64) cNil)))))) (fun p => ⟨p.1, p.2.1, p.2.2.1, p.2.2.2.1, p.2.2.2.2.1, p.2.2.2.2.2.1⟩) (fun s => (s.fWord, s.fTries, s.fThings, s.fLast, s.fChain, s.fCount, ())) (fun _ => rfl)
def cv28 : Cv (List (U (ElOf els))) (SBook × SBook) := (cIso (cCons (uAgg cSBook) (cCons (uAgg cSBook) cNil)) (fun p => (p.1, p.2.1)) (fun s => (s.1, s.2, ())) (fun _ => rfl))
def cv29 : Cv (List (U (ElOf els))) ((List SThing) × Int) := (cIso (cCons (uOne (cFsl 23)) (cCons (uOne (cInt .i64)) cNil)) (fun p => (p.1, p.2.1)) (fun s => (s.1, s.2, ())) (fun _ => rfl))
def cv30 : Cv (List (U (ElOf els))) (Int × (List SThing)) := (cIso (cCons (uOne (cInt .i64)) (cCons (uAgg (cIso (cCons (cFsl 23) cNil) (fun p => p.1) (fun s => (s, ())) (fun _ => rfl))) cNil)) (fun p => (p.1, p.2.1)) (fun s => (s.1, s.2, ())) (fun _ => rfl))
def cv31 : Cv (List (U (ElOf els))) (SBook × Int) := (cIso (cCons (uAgg cSBookF) (cCons (uOne (cInt .i64)) cNil)) (fun p => (p.1, p.2.1)) (fun s => (s.1, s.2, ())) (fun _ => rfl))
def cv32 : Cv (List (U (ElOf els))) (Int × (List SThing)) := (cIso (cCons (uOne (cInt .i64)) (cCons (uAgg (cIso (cCons cJunk (cCons cJunk (cCons (cFsl 23) (cCons cJunk (cCons cJunk (cCons cJunk cNil)))))) (fun p => p.2.2.1) (fun s => ((), (), s, (), (), (), ())) (fun _ => rfl))) cNil)) (fun p => (p.1, p.2.1)) (fun s => (s.1, s.2, ())) (fun _ => rfl))
def cv33 : Cv (List (U (ElOf els))) ((List SThing) × Int) := (cIso (cCons (uOne (cRsl 23)) (cCons (uOne (cInt .i64)) cNil)) (fun p => (p.1, p.2.1)) (fun s => (s.1, s.2, ())) (fun _ => rfl))
def cv34 : Cv (List (U (ElOf els))) (SBook × Int) := (cIso (cCons (uAgg cSBook) (cCons (uOne (cInt .i64)) cNil)) (fun p => (p.1, p.2.1)) (fun s => (s.1, s.2, ())) (fun _ => rfl))
end Go.Proofs.YtmhggcgkbenedaaDoor.G
